/- Same, Few, profile, asks, same. -/
import Derived.Test.YtknpddiffellgaaPlanI
namespace Go.Proofs.Ytknpddiffellgaa
open Go.RowKit
set_option maxRecDepth 20000
set_option linter.unusedVariables false
def SameTo (x y : St) : Prop := x.at_ = y.at_ ∧ x.row = y.row ∧ x.ok = y.ok ∧ x.nodes.length = y.nodes.length
theorem same_eq {x y : St} (h : SameTo x y) (hn : ∀ (j : Nat) (p q : Int), j < x.nodes.length → x.nodes[j]? = some p → y.nodes[j]? = some q → p = q) : x = y := by
  obtain ⟨xa, xr, xn, xo⟩ := x
  obtain ⟨ya, yr, yn, yo⟩ := y
  obtain ⟨h1, h2, h3, h4⟩ := h
  simp only at h1 h2 h3 h4 hn
  subst h1 h2 h3
  congr 1
  refine List.ext_getElem? fun j => ?_
  by_cases hj : j < xn.length
  · obtain ⟨p, hp⟩ := getE hj
    obtain ⟨q, hq⟩ := getE (l := yn) (i := j) (by omega)
    rw [hp, hq, hn j p q hj hp hq]
  · rw [List.getElem?_eq_none (by omega), List.getElem?_eq_none (by omega)]
set_option maxHeartbeats 1000000 in
theorem Same_S (Qa Qb : Assn) (ua ub : SV) (x y : St) (ha : RdS Qa ua x.nodes.length 1 (ints x.nodes)) (hb : RdS Qb ub y.nodes.length 1 (ints y.nodes)) :
    Spec Try.prog 16 [.agg (stC ua x).toArray, .agg (stC ub y).toArray] [Qa, Qb] fun Γ v Θ => v = .bool (decide (x = y)) ∧ Θ = Qa :: Qb :: Γ := by
  refine Spec.of_body Try.func16 rfl Try.ntmps16 rfl ?_
  intro w0 Γ
  show S _ w0 [(0, .agg (stC ua x).toArray), (1, .agg (stC ub y).toArray)] (Qa :: Qb :: Γ) _
  refine S.rCap ha fun hna hca hma => ?_
  refine S.rCap hb fun hnb hcb hmb => ?_
  refine S.seq fun K1 hK1 => ?_
  refine S.region rfl ?_
  refine S.op (S.box (cs := [_, _, _, _]) rfl rfl rfl ?_)
  intro b2
  refine S.op (S.box (cs := [_, _, _, _]) rfl rfl rfl ?_)
  intro b3
  refine S.op (S.q (q_assign rfl) rfl rfl ?_)
  first | with_reducible refine S.nilK ?_ | refine S.nil ?_
  refine hK1 _ _ ?_
  refine S.seq fun K2 hK2 => ?_
  refine S.seq fun K3 hK3 => ?_
  refine S.cut (fun ρ' Γ' => ∃ c : Bool, (c = true → x ≠ y) ∧ (c = false → SameTo x y) ∧ ρ' = [(2, .pointer (some ⟨b2, 0, none⟩)), (3, .pointer (some ⟨b3, 0, none⟩)), (33, .bool c)] ∧ Γ' = blk b2 27 (stC ua x).toArray :: blk b3 27 (stC ub y).toArray :: Qa :: Qb :: Γ) ?_ ?_
  · refine S.regionG ?_
    refine S.g_op rfl (S.q (q_field Try.fo27_0 rfl) rfl rfl ?_)
    refine S.g_op rfl (S.q (q_load Try.at3 rfl rfl) rfl rfl ?_)
    refine S.g_op rfl (S.q (q_field Try.fo27_0 rfl) rfl rfl ?_)
    refine S.g_op rfl (S.q (q_load Try.at3 rfl rfl) rfl rfl ?_)
    refine S.g_op rfl (S.q (q_ne rfl rfl) rfl rfl ?_)
    refine S.g_op rfl (S.q (q_move rfl) rfl rfl ?_)
    by_cases hg1_5 : x.at_ ≠ y.at_
    · refine S.g_no rfl rfl rfl (decide_eq_true hg1_5) rfl rfl ?_
      refine S.g_no rfl rfl rfl (decide_eq_true hg1_5) rfl rfl ?_
      refine S.g_no rfl rfl rfl (decide_eq_true hg1_5) rfl rfl ?_
      refine S.g_no rfl rfl rfl (decide_eq_true hg1_5) rfl rfl ?_
      refine S.g_no rfl rfl rfl (decide_eq_true hg1_5) rfl rfl ?_
      refine S.g_op rfl (S.q (q_pickT rfl (decide_eq_true hg1_5) rfl) rfl rfl ?_)
      refine S.g_op rfl (S.q (q_move rfl) rfl rfl ?_)
      refine S.g_no rfl rfl rfl (rfl) rfl rfl ?_
      refine S.g_no rfl rfl rfl (rfl) rfl rfl ?_
      refine S.g_no rfl rfl rfl (rfl) rfl rfl ?_
      refine S.g_no rfl rfl rfl (rfl) rfl rfl ?_
      refine S.g_no rfl rfl rfl (rfl) rfl rfl ?_
      refine S.g_op rfl (S.q (q_pickT rfl (rfl) rfl) rfl rfl ?_)
      refine S.g_op rfl (S.q (q_move rfl) rfl rfl ?_)
      refine S.g_no rfl rfl rfl (rfl) rfl rfl ?_
      refine S.g_no rfl rfl rfl (rfl) rfl rfl ?_
      refine S.g_no rfl rfl rfl (rfl) rfl rfl ?_
      refine S.g_no rfl rfl rfl (rfl) rfl rfl ?_
      refine S.g_no rfl rfl rfl (rfl) rfl rfl ?_
      refine S.g_no rfl rfl rfl (rfl) rfl rfl ?_
      refine S.g_no rfl rfl rfl (rfl) rfl rfl ?_
      refine S.g_op rfl (S.q (q_pickT rfl (rfl) rfl) rfl rfl ?_)
      first | with_reducible refine S.g_nilK ?_ | refine S.g_nil ?_
      with_reducible repeat (first | refine S.then_n ?_ | refine S.then_x ?_ | refine S.then_r ?_ | refine S.inBlock_n ?_ | refine S.inBlock_r ?_ | refine S.inBlock_x rfl ?_ | refine S.noGoto_r ?_ | refine S.noGoto_n ?_ | refine S.noGoto_x ?_)
      first
      | exact S.meet ⟨_, fun _ e => (by subst e; exact absurd rfl hg1_5), fun h => (by cases h), rfl, rfl⟩ ⟨rfl, rfl, rfl, trivial⟩ Sub.ent
      | exact S.meet ⟨_, fun _ e => (by subst e; exact absurd rfl hg1_12), fun h => (by cases h), rfl, rfl⟩ ⟨rfl, rfl, rfl, trivial⟩ Sub.ent
      | exact S.meet ⟨true, fun _ e => (by subst e; simp at hg1_19), fun h => (by cases h), rfl, rfl⟩ ⟨rfl, rfl, rfl, trivial⟩ Sub.ent
      | exact S.meet ⟨_, fun h e => (by subst e; have := of_decide_eq_true h; omega), fun h => ⟨Decidable.not_not.1 hg1_5, Decidable.not_not.1 hg1_12, (by simpa using hg1_19), (by have := of_decide_eq_false h; omega)⟩, rfl, rfl⟩ ⟨rfl, rfl, rfl, trivial⟩ Sub.ent
    · refine S.g_yes rfl rfl rfl (decide_eq_false hg1_5) (S.q (q_field Try.fo27_1 rfl) rfl rfl ?_)
      refine S.g_yes rfl rfl rfl (decide_eq_false hg1_5) (S.q (q_load Try.at3 rfl rfl) rfl rfl ?_)
      refine S.g_yes rfl rfl rfl (decide_eq_false hg1_5) (S.q (q_field Try.fo27_1 rfl) rfl rfl ?_)
      refine S.g_yes rfl rfl rfl (decide_eq_false hg1_5) (S.q (q_load Try.at3 rfl rfl) rfl rfl ?_)
      refine S.g_yes rfl rfl rfl (decide_eq_false hg1_5) (S.q (q_ne rfl rfl) rfl rfl ?_)
      refine S.g_op rfl (S.q (q_pickF rfl (decide_eq_false hg1_5) rfl) rfl rfl ?_)
      refine S.g_op rfl (S.q (q_move rfl) rfl rfl ?_)
      by_cases hg1_12 : x.row ≠ y.row
      · refine S.g_no rfl rfl rfl (decide_eq_true hg1_12) rfl rfl ?_
        refine S.g_no rfl rfl rfl (decide_eq_true hg1_12) rfl rfl ?_
        refine S.g_no rfl rfl rfl (decide_eq_true hg1_12) rfl rfl ?_
        refine S.g_no rfl rfl rfl (decide_eq_true hg1_12) rfl rfl ?_
        refine S.g_no rfl rfl rfl (decide_eq_true hg1_12) rfl rfl ?_
        refine S.g_op rfl (S.q (q_pickT rfl (decide_eq_true hg1_12) rfl) rfl rfl ?_)
        refine S.g_op rfl (S.q (q_move rfl) rfl rfl ?_)
        refine S.g_no rfl rfl rfl (rfl) rfl rfl ?_
        refine S.g_no rfl rfl rfl (rfl) rfl rfl ?_
        refine S.g_no rfl rfl rfl (rfl) rfl rfl ?_
        refine S.g_no rfl rfl rfl (rfl) rfl rfl ?_
        refine S.g_no rfl rfl rfl (rfl) rfl rfl ?_
        refine S.g_no rfl rfl rfl (rfl) rfl rfl ?_
        refine S.g_no rfl rfl rfl (rfl) rfl rfl ?_
        refine S.g_op rfl (S.q (q_pickT rfl (rfl) rfl) rfl rfl ?_)
        first | with_reducible refine S.g_nilK ?_ | refine S.g_nil ?_
        with_reducible repeat (first | refine S.then_n ?_ | refine S.then_x ?_ | refine S.then_r ?_ | refine S.inBlock_n ?_ | refine S.inBlock_r ?_ | refine S.inBlock_x rfl ?_ | refine S.noGoto_r ?_ | refine S.noGoto_n ?_ | refine S.noGoto_x ?_)
        first
        | exact S.meet ⟨_, fun _ e => (by subst e; exact absurd rfl hg1_5), fun h => (by cases h), rfl, rfl⟩ ⟨rfl, rfl, rfl, trivial⟩ Sub.ent
        | exact S.meet ⟨_, fun _ e => (by subst e; exact absurd rfl hg1_12), fun h => (by cases h), rfl, rfl⟩ ⟨rfl, rfl, rfl, trivial⟩ Sub.ent
        | exact S.meet ⟨true, fun _ e => (by subst e; simp at hg1_19), fun h => (by cases h), rfl, rfl⟩ ⟨rfl, rfl, rfl, trivial⟩ Sub.ent
        | exact S.meet ⟨_, fun h e => (by subst e; have := of_decide_eq_true h; omega), fun h => ⟨Decidable.not_not.1 hg1_5, Decidable.not_not.1 hg1_12, (by simpa using hg1_19), (by have := of_decide_eq_false h; omega)⟩, rfl, rfl⟩ ⟨rfl, rfl, rfl, trivial⟩ Sub.ent
      · refine S.g_yes rfl rfl rfl (decide_eq_false hg1_12) (S.q (q_field Try.fo27_3 rfl) rfl rfl ?_)
        refine S.g_yes rfl rfl rfl (decide_eq_false hg1_12) (S.q (q_load Try.at4 rfl rfl) rfl rfl ?_)
        refine S.g_yes rfl rfl rfl (decide_eq_false hg1_12) (S.q (q_field Try.fo27_3 rfl) rfl rfl ?_)
        refine S.g_yes rfl rfl rfl (decide_eq_false hg1_12) (S.q (q_load Try.at4 rfl rfl) rfl rfl ?_)
        refine S.g_yes rfl rfl rfl (decide_eq_false hg1_12) (S.q (q_neB Try.underlying4 rfl rfl) rfl rfl ?_)
        refine S.g_op rfl (S.q (q_pickF rfl (decide_eq_false hg1_12) rfl) rfl rfl ?_)
        refine S.g_op rfl (S.q (q_move rfl) rfl rfl ?_)
        rcases Bool.eq_false_or_eq_true ((x.ok != y.ok)) with hg1_19 | hg1_19
        · refine S.g_no rfl rfl rfl (hg1_19) rfl rfl ?_
          refine S.g_no rfl rfl rfl (hg1_19) rfl rfl ?_
          refine S.g_no rfl rfl rfl (hg1_19) rfl rfl ?_
          refine S.g_no rfl rfl rfl (hg1_19) rfl rfl ?_
          refine S.g_no rfl rfl rfl (hg1_19) rfl rfl ?_
          refine S.g_no rfl rfl rfl (hg1_19) rfl rfl ?_
          refine S.g_no rfl rfl rfl (hg1_19) rfl rfl ?_
          refine S.g_op rfl (S.q (q_pickT rfl (hg1_19) rfl) rfl rfl ?_)
          first | with_reducible refine S.g_nilK ?_ | refine S.g_nil ?_
          with_reducible repeat (first | refine S.then_n ?_ | refine S.then_x ?_ | refine S.then_r ?_ | refine S.inBlock_n ?_ | refine S.inBlock_r ?_ | refine S.inBlock_x rfl ?_ | refine S.noGoto_r ?_ | refine S.noGoto_n ?_ | refine S.noGoto_x ?_)
          first
          | exact S.meet ⟨_, fun _ e => (by subst e; exact absurd rfl hg1_5), fun h => (by cases h), rfl, rfl⟩ ⟨rfl, rfl, rfl, trivial⟩ Sub.ent
          | exact S.meet ⟨_, fun _ e => (by subst e; exact absurd rfl hg1_12), fun h => (by cases h), rfl, rfl⟩ ⟨rfl, rfl, rfl, trivial⟩ Sub.ent
          | exact S.meet ⟨true, fun _ e => (by subst e; simp at hg1_19), fun h => (by cases h), rfl, rfl⟩ ⟨rfl, rfl, rfl, trivial⟩ Sub.ent
          | exact S.meet ⟨_, fun h e => (by subst e; have := of_decide_eq_true h; omega), fun h => ⟨Decidable.not_not.1 hg1_5, Decidable.not_not.1 hg1_12, (by simpa using hg1_19), (by have := of_decide_eq_false h; omega)⟩, rfl, rfl⟩ ⟨rfl, rfl, rfl, trivial⟩ Sub.ent
        · refine S.g_yes rfl rfl rfl (hg1_19) (S.q (q_field Try.fo27_2 rfl) rfl rfl ?_)
          refine S.g_yes rfl rfl rfl (hg1_19) (S.q (q_load Try.at25 rfl rfl) rfl rfl ?_)
          refine S.g_yes rfl rfl rfl (hg1_19) (S.q (q_len Try.underlying25 rfl) rfl rfl ?_)
          refine S.g_yes rfl rfl rfl (hg1_19) (S.q (q_field Try.fo27_2 rfl) rfl rfl ?_)
          refine S.g_yes rfl rfl rfl (hg1_19) (S.q (q_load Try.at25 rfl rfl) rfl rfl ?_)
          refine S.g_yes rfl rfl rfl (hg1_19) (S.q (q_len Try.underlying25 rfl) rfl rfl ?_)
          refine S.g_yes rfl rfl rfl (hg1_19) (S.q (q_ne rfl rfl) rfl rfl ?_)
          refine S.g_op rfl (S.q (q_pickF rfl (hg1_19) rfl) rfl rfl ?_)
          first | with_reducible refine S.g_nilK ?_ | refine S.g_nil ?_
          with_reducible repeat (first | refine S.then_n ?_ | refine S.then_x ?_ | refine S.then_r ?_ | refine S.inBlock_n ?_ | refine S.inBlock_r ?_ | refine S.inBlock_x rfl ?_ | refine S.noGoto_r ?_ | refine S.noGoto_n ?_ | refine S.noGoto_x ?_)
          first
          | exact S.meet ⟨_, fun _ e => (by subst e; exact absurd rfl hg1_5), fun h => (by cases h), rfl, rfl⟩ ⟨rfl, rfl, rfl, trivial⟩ Sub.ent
          | exact S.meet ⟨_, fun _ e => (by subst e; exact absurd rfl hg1_12), fun h => (by cases h), rfl, rfl⟩ ⟨rfl, rfl, rfl, trivial⟩ Sub.ent
          | exact S.meet ⟨true, fun _ e => (by subst e; simp at hg1_19), fun h => (by cases h), rfl, rfl⟩ ⟨rfl, rfl, rfl, trivial⟩ Sub.ent
          | exact S.meet ⟨_, fun h e => (by subst e; have := of_decide_eq_true h; omega), fun h => ⟨Decidable.not_not.1 hg1_5, Decidable.not_not.1 hg1_12, (by simpa using hg1_19), (by have := of_decide_eq_false h; omega)⟩, rfl, rfl⟩ ⟨rfl, rfl, rfl, trivial⟩ Sub.ent
  · rintro ρ' Γ' ⟨c, hc1, hc2, rfl, rfl⟩
    refine hK3 _ _ ?_
    refine S.cond rfl (fun h1 => ?_) (fun h1 => ?_)
    · refine S.seq fun K4 hK4 => ?_
      refine S.region rfl ?_
      refine S.op (S.q (q_assign rfl) rfl rfl ?_)
      first | with_reducible refine S.nilK ?_ | refine S.nil ?_
      refine hK4 _ _ ?_
      refine S.ret ?_
      with_reducible repeat (first | refine S.then_n ?_ | refine S.then_x ?_ | refine S.then_r ?_ | refine S.inBlock_n ?_ | refine S.inBlock_r ?_ | refine S.inBlock_x rfl ?_ | refine S.noGoto_r ?_ | refine S.noGoto_n ?_ | refine S.noGoto_x ?_)
      exact S.fin (rs := [_]) (vs := [_]) Try.results16 (⟨rfl, trivial⟩)  (⟨by simp only [resV]; rw [decide_eq_false (hc1 h1)], rfl⟩) Sub.ent
    · have hto := hc2 h1
      have hlen : x.nodes.length = y.nodes.length := hto.2.2.2
      refine S.skip ?_
      with_reducible repeat (first | refine S.then_n ?_ | refine S.then_x ?_ | refine S.then_r ?_ | refine S.inBlock_n ?_ | refine S.inBlock_r ?_ | refine S.inBlock_x rfl ?_ | refine S.noGoto_r ?_ | refine S.noGoto_n ?_ | refine S.noGoto_x ?_)
      refine hK2 _ _ ?_
      refine S.seq fun K5 hK5 => ?_
      refine S.seq fun K6 hK6 => ?_
      refine S.region rfl ?_
      refine S.op (S.q (q_field Try.fo27_2 rfl) rfl rfl ?_)
      refine S.op (S.q (q_load Try.at25 rfl rfl) rfl rfl ?_)
      refine S.op (S.q (q_len Try.underlying25 rfl) rfl rfl ?_)
      refine S.op (S.q (q_move rfl) rfl rfl ?_)
      first | with_reducible refine S.nilK ?_ | refine S.nil ?_
      refine hK6 _ _ ?_
      refine S.block ?_
      refine S.loop (fun m ρ' Γ' => ∃ i : Nat, m + i = x.nodes.length ∧ (∀ (j : Nat) (p q : Int), j < i → x.nodes[j]? = some p → y.nodes[j]? = some q → p = q) ∧ ρ' = [(2, .pointer (some ⟨b2, 0, none⟩)), (3, .pointer (some ⟨b3, 0, none⟩)), (36, .int .i64 ua.n), (37, .int .i64 i)] ∧ Γ' = blk b2 27 (stC ua x).toArray :: blk b3 27 (stC ub y).toArray :: Qa :: Qb :: Γ) (m := _) (ρ0 := _) (Γ0 := _) (⟨0, rfl, fun j p q hj => absurd hj (Nat.not_lt_zero _), rfl, rfl⟩) (by repeat (first | exact trivial | refine ⟨rfl, ?_⟩)) Sub.ent ?_
      rintro m ρ' Γ' ⟨i, hmi, hno, rfl, rfl⟩
      refine S.seq fun K7 hK7 => ?_
      refine S.region rfl ?_
      refine S.op (S.q (q_lt rfl rfl) rfl rfl ?_)
      first | with_reducible refine S.nilK ?_ | refine S.nil ?_
      refine hK7 _ _ ?_
      refine S.seq fun K8 hK8 => ?_
      refine S.condD rfl (fun h2 => ?_) (fun h2 => ?_)
      · obtain ⟨p, hp⟩ := getE (l := x.nodes) (i := i) (by omega)
        obtain ⟨q, hq⟩ := getE (l := y.nodes) (i := i) (by omega)
        refine S.rSome ha (by omega) fun ba oa hba => ?_
        refine S.rSome hb (by omega) fun bb ob hbb => ?_
        refine S.skip ?_
        with_reducible repeat (first | refine S.then_n ?_ | refine S.then_x ?_ | refine S.then_r ?_ | refine S.inBlock_n ?_ | refine S.inBlock_r ?_ | refine S.inBlock_x rfl ?_ | refine S.noGoto_r ?_ | refine S.noGoto_n ?_ | refine S.noGoto_x ?_)
        refine hK8 _ _ ?_
        refine S.seq fun K9 hK9 => ?_
        refine S.block ?_
        refine S.seq fun K10 hK10 => ?_
        refine S.region rfl ?_
        refine S.op (S.q (q_move rfl) rfl rfl ?_)
        refine S.op (S.q (q_assign rfl) rfl rfl ?_)
        first | with_reducible refine S.nilK ?_ | refine S.nil ?_
        refine hK10 _ _ ?_
        refine S.seq fun K11 hK11 => ?_
        refine S.draw ([Qa, Qb, blk b2 27 (stC ua x).toArray, blk b3 27 (stC ub y).toArray]) [] Try.mixed ?_
        refine S.dr_take 0 [] rfl (by kernel_rfl) rfl rfl rfl (q_field Try.fo27_2 rfl) Sub.ent ?_
        refine S.dr_take 1 [] rfl (by kernel_rfl) rfl rfl rfl (q_load Try.at25 rfl rfl) Sub.ent ?_
        refine S.dr_take 2 [] rfl (by kernel_rfl) rfl rfl rfl (q_move rfl) Sub.ent ?_
        refine S.dr_take 3 [] rfl (by kernel_rfl) rfl rfl rfl (q_indexO (i) Try.el25 rfl hba rfl rfl (by omega)) Sub.ent ?_
        refine S.dr_take 4 [] rfl (by kernel_rfl) rfl rfl rfl (q_loadR ha i Try.at3 rfl hba (by omega) (by omega) (ints_get hp)) Sub.ent ?_
        refine S.dr_take 5 [] rfl (by kernel_rfl) rfl rfl rfl (q_field Try.fo27_2 rfl) Sub.ent ?_
        refine S.dr_take 6 [] rfl (by kernel_rfl) rfl rfl rfl (q_load Try.at25 rfl rfl) Sub.ent ?_
        refine S.dr_take 7 [] rfl (by kernel_rfl) rfl rfl rfl (q_move rfl) Sub.ent ?_
        refine S.dr_take 8 [] rfl (by kernel_rfl) rfl rfl rfl (q_indexO (i) Try.el25 rfl hbb rfl rfl (by omega)) Sub.ent ?_
        refine S.dr_take 9 [] rfl (by kernel_rfl) rfl rfl rfl (q_loadR hb i Try.at3 rfl hbb (by omega) (by omega) (ints_get hq)) Sub.ent ?_
        refine S.dr_take 10 [] rfl (by kernel_rfl) rfl rfl rfl (q_ne rfl rfl) Sub.ent ?_
        first | with_reducible refine S.dr_doneK (by kernel_rfl) ?_ | refine S.dr_done (by kernel_rfl) ?_
        refine hK11 _ _ ?_
        refine S.condD rfl (fun h3 => ?_) (fun h3 => ?_)
        · refine S.seq fun K12 hK12 => ?_
          refine S.region rfl ?_
          refine S.op (S.q (q_assign rfl) rfl rfl ?_)
          first | with_reducible refine S.nilK ?_ | refine S.nil ?_
          refine hK12 _ _ ?_
          refine S.ret ?_
          with_reducible repeat (first | refine S.then_n ?_ | refine S.then_x ?_ | refine S.then_r ?_ | refine S.inBlock_n ?_ | refine S.inBlock_r ?_ | refine S.inBlock_x rfl ?_ | refine S.noGoto_r ?_ | refine S.noGoto_n ?_ | refine S.noGoto_x ?_)
          exact S.fin (rs := [_]) (vs := [_]) Try.results16 (⟨rfl, trivial⟩)  (⟨by simp only [resV]; rw [decide_eq_false (fun e => by subst e; rw [hp] at hq; cases hq; exact absurd rfl (by assumption))], rfl⟩) Sub.ent
        · have hpq : p = q := Decidable.not_not.1 h3
          have hno' : ∀ (j : Nat) (p q : Int), j < i + 1 → x.nodes[j]? = some p → y.nodes[j]? = some q → p = q := fun j p' q' hj hy1 hy2 => by
            by_cases e : j = i
            · subst e
              rw [hp] at hy1
              rw [hq] at hy2
              cases hy1
              cases hy2
              exact hpq
            · exact hno j p' q' (by omega) hy1 hy2
          refine S.skip ?_
          with_reducible repeat (first | refine S.then_n ?_ | refine S.then_x ?_ | refine S.then_r ?_ | refine S.inBlock_n ?_ | refine S.inBlock_r ?_ | refine S.inBlock_x rfl ?_ | refine S.noGoto_r ?_ | refine S.noGoto_n ?_ | refine S.noGoto_x ?_)
          with_reducible repeat (first | refine S.then_n ?_ | refine S.then_x ?_ | refine S.then_r ?_ | refine S.inBlock_n ?_ | refine S.inBlock_r ?_ | refine S.inBlock_x rfl ?_ | refine S.noGoto_r ?_ | refine S.noGoto_n ?_ | refine S.noGoto_x ?_)
          refine hK9 _ _ ?_
          refine S.region rfl ?_
          refine S.op (S.q (q_add rfl rfl (inI64 (by omega) (by omega))) rfl rfl ?_)
          refine S.op (S.q (q_move rfl) rfl rfl ?_)
          first | with_reducible refine S.nilK ?_ | refine S.nil ?_
          with_reducible repeat (first | refine S.then_n ?_ | refine S.then_x ?_ | refine S.then_r ?_ | refine S.inBlock_n ?_ | refine S.inBlock_r ?_ | refine S.inBlock_x rfl ?_ | refine S.noGoto_r ?_ | refine S.noGoto_n ?_ | refine S.noGoto_x ?_)
          exact S.next (m - 1) (⟨i + 1, by omega, hno', rfl, rfl⟩) (by omega) (by repeat (first | exact trivial | refine ⟨rfl, ?_⟩)) Sub.ent
      · refine S.exit ?_
        with_reducible repeat (first | refine S.then_n ?_ | refine S.then_x ?_ | refine S.then_r ?_ | refine S.inBlock_n ?_ | refine S.inBlock_r ?_ | refine S.inBlock_x rfl ?_ | refine S.noGoto_r ?_ | refine S.noGoto_n ?_ | refine S.noGoto_x ?_)
        with_reducible refine S.inBlock_s ?_
        with_reducible repeat (first | refine S.then_n ?_ | refine S.then_x ?_ | refine S.then_r ?_ | refine S.inBlock_n ?_ | refine S.inBlock_r ?_ | refine S.inBlock_x rfl ?_ | refine S.noGoto_r ?_ | refine S.noGoto_n ?_ | refine S.noGoto_x ?_)
        refine hK5 _ _ ?_
        refine S.seq fun K13 hK13 => ?_
        refine S.region rfl ?_
        refine S.op (S.q (q_assign rfl) rfl rfl ?_)
        first | with_reducible refine S.nilK ?_ | refine S.nil ?_
        refine hK13 _ _ ?_
        refine S.ret ?_
        with_reducible repeat (first | refine S.then_n ?_ | refine S.then_x ?_ | refine S.then_r ?_ | refine S.inBlock_n ?_ | refine S.inBlock_r ?_ | refine S.inBlock_x rfl ?_ | refine S.noGoto_r ?_ | refine S.noGoto_n ?_ | refine S.noGoto_x ?_)
        exact S.fin (rs := [_]) (vs := [_]) Try.results16 (⟨rfl, trivial⟩)  (⟨by simp only [resV]; rw [decide_eq_true (same_eq hto fun j p q hj => hno j p q (by omega))], rfl⟩) Sub.ent
theorem take_min20 {α : Type} (l : List α) : l.take (min l.length 20) = l.take 20 := by
  by_cases h : l.length ≤ 20
  · rw [Nat.min_eq_left h, List.take_of_length_le (Nat.le_refl _), List.take_of_length_le h]
  · rw [Nat.min_eq_right (by omega)]
theorem take_flat {l : List Ak} {i : Nat} {a : Ak} (h : l[i]? = some a) : (l.take i).flatMap akC ++ akC a = (l.take (i + 1)).flatMap akC := by
  rw [List.take_add_one, h, List.flatMap_append]
  rfl
theorem rdTakeI {R : Assn} {s : SV} {l : List Int} (h : RdS R s l.length 1 (ints l)) {k : Nat} (hk : k ≤ l.length) : RdS R ⟨s.a, k, s.c⟩ k 1 (ints (l.take k)) := fun Γ w hs => by
  have h1 := h Γ w hs
  have hn := (slAt_cap h1).1
  rw [ints_flat, ← hn] at h1
  rw [ints_flat]
  exact own_takeG (enc := fun x : Int => [Value.int .i64 x]) (i := k) (fun _ => rfl) (Nat.lt_succ_self 0) h1 (by omega)
theorem rdTakeA {R : Assn} {s : SV} {al : List Ak} (h : RdS R s al.length 2 (al.flatMap akC)) {k : Nat} (hk : k ≤ al.length) : RdS R ⟨s.a, k, s.c⟩ (al.take k).length 2 ((al.take k).flatMap akC) := fun Γ w hs => by
  have h1 := h Γ w hs
  have hn := (slAt_cap h1).1
  rw [← hn] at h1
  rw [List.length_take, Nat.min_eq_left hk]
  exact own_takeG (i := k) akC_len (Nat.lt_succ_of_lt (Nat.lt_succ_self 0)) h1 (by omega)
theorem few_succ {P : List RW} {i : Nat} {r : RW} (h : P[i]? = some r) : fewR ((dat P).take (i + 1)) = fewR ((dat P).take i) ++ if i < 10 then [r.d.take 20] else [] := by
  unfold fewR
  rw [List.take_take, List.take_take]
  by_cases hi : i < 10
  · rw [if_pos hi, Nat.min_eq_right (by omega), Nat.min_eq_right (by omega), List.take_add_one, List.getElem?_map, h]
    simp
  · rw [if_neg hi, Nat.min_eq_left (by omega), Nat.min_eq_left (by omega), List.append_nil]
theorem few_len (D : List (List Int)) : (fewR D).length ≤ 10 := by unfold fewR; simp; omega
theorem few_sml (D : List (List Int)) : Sml (fewR D) := ⟨by have := few_len D; omega, fun r hr => by
  obtain ⟨q, _, rfl⟩ := List.mem_map.1 hr
  rw [List.length_take]
  omega⟩
theorem take20 {R : Assn} {s : SV} {l : List Int} (h : RdS R s l.length 1 (ints l)) {Γ Δ : List Assn} [p : Pick R Γ Δ] {w : World} (hs : Sat w Γ) : SlAt w (.slice s.a (min l.length 20) s.c) (min l.length 20) 1 (ints (l.take 20)) := by
  have := (rdTakeI h (k := min l.length 20) (by omega)).at_ hs
  rwa [take_min20] at this
set_option maxHeartbeats 1000000 in
theorem Few_S (R : Assn) (s0 : SV) (P : List RW) (hR : RdP R s0 P) : Spec Try.prog 13 [s0.v] [R] fun Γ v Θ => ∃ (s : SV) (rs : List RW), v = s.v ∧ dat rs = fewR (dat P) ∧ Θ = prof s rs :: R :: Γ := by
  refine Spec.of_body Try.func13 rfl Try.ntmps13 rfl ?_
  intro w0 Γ
  show S _ w0 [(0, s0.v)] (R :: Γ) _
  refine S.rCap hR.top fun hn hnc hnm => ?_
  refine S.seq fun K1 hK1 => ?_
  refine S.region rfl ?_
  refine S.op (S.q (q_assign rfl) rfl rfl ?_)
  first | with_reducible refine S.nilK ?_ | refine S.nil ?_
  refine hK1 _ _ ?_
  refine S.seq fun K2 hK2 => ?_
  refine S.region rfl ?_
  refine S.ent (show Ent _ (own SV.nil 25 1 (([] : List RW).flatMap rwC) :: _) from Ent.ownNil 25 1) ?_
  refine S.ent (Ent.allsNil rwB _) ?_
  refine S.op (S.q (q_assign rfl) rfl rfl ?_)
  first | with_reducible refine S.nilK ?_ | refine S.nil ?_
  refine hK2 _ _ ?_
  refine S.seq fun K3 hK3 => ?_
  refine S.seq fun K4 hK4 => ?_
  refine S.region rfl ?_
  refine S.op (S.q (q_move rfl) rfl rfl ?_)
  refine S.op (S.q (q_len Try.underlying22 rfl) rfl rfl ?_)
  refine S.op (S.q (q_move rfl) rfl rfl ?_)
  first | with_reducible refine S.nilK ?_ | refine S.nil ?_
  refine hK4 _ _ ?_
  refine S.block ?_
  refine S.loop (fun m ρ' Γ' => ∃ (i : Nat) (ov : SV) (rs : List RW), m + i = P.length ∧ dat rs = fewR ((dat P).take i) ∧ ρ' = [(3, ov.v), (6, s0.v), (7, .int .i64 s0.n), (8, .int .i64 i)] ∧ Γ' = own ov 25 1 (rs.flatMap rwC) :: alls rs rwB :: R :: Γ) (m := _) (ρ0 := _) (Γ0 := _) (⟨0, SV.nil, [], rfl, rfl, rfl, rfl⟩) (by repeat (first | exact trivial | refine ⟨rfl, ?_⟩)) Sub.ent ?_
  rintro m ρ' Γ' ⟨i, ov, rs, hmi, hd, rfl, rfl⟩
  have hrl : rs.length ≤ 10 := by have := congrArg List.length hd; rw [List.length_map] at this; have := few_len ((dat P).take i); omega
  refine S.ownLen ov fun hol _ _ => ?_
  rw [flat_length rwC_len] at hol
  refine S.seq fun K5 hK5 => ?_
  refine S.region rfl ?_
  refine S.op (S.q (q_lt rfl rfl) rfl rfl ?_)
  first | with_reducible refine S.nilK ?_ | refine S.nil ?_
  refine hK5 _ _ ?_
  refine S.seq fun K6 hK6 => ?_
  refine S.condD rfl (fun h1 => ?_) (fun h1 => ?_)
  · obtain ⟨r, hr⟩ := getE (l := P) (i := i) (by omega)
    have hstep := few_succ hr
    refine S.rSome hR.top (by omega) fun b off hb => ?_
    refine S.rCap (hR.row hr) fun hrn hrc hrm => ?_
    refine S.skip ?_
    with_reducible repeat (first | refine S.then_n ?_ | refine S.then_x ?_ | refine S.then_r ?_ | refine S.inBlock_n ?_ | refine S.inBlock_r ?_ | refine S.inBlock_x rfl ?_ | refine S.noGoto_r ?_ | refine S.noGoto_n ?_ | refine S.noGoto_x ?_)
    refine hK6 _ _ ?_
    refine S.seq fun K7 hK7 => ?_
    refine S.cut (fun ρ' Γ' => ∃ (ov9 : SV) (rs9 : List RW), dat rs9 = fewR ((dat P).take (i + 1)) ∧ ρ' = [(3, ov9.v), (6, s0.v), (7, .int .i64 s0.n), (8, .int .i64 i)] ∧ Γ' = own ov9 25 1 (rs9.flatMap rwC) :: alls rs9 rwB :: R :: Γ) ?_ ?_
    · refine S.block ?_
      refine S.seq fun K8 hK8 => ?_
      refine S.region rfl ?_
      refine S.op (S.q (q_move rfl) rfl rfl ?_)
      refine S.op (S.q (q_indexO (i) Try.el22 rfl hb rfl rfl (by omega)) rfl rfl ?_)
      refine S.op (S.q (q_loadR hR.top (i * 1) Try.at25 rfl hb (by omega) rfl (flat_get (enc := rwC) (sz := 1) (k := 0) rwC_len hr rfl)) rfl rfl ?_)
      refine S.op (S.q (q_assign rfl) rfl rfl ?_)
      refine S.op (S.q (q_assign rfl) rfl rfl ?_)
      first | with_reducible refine S.nilK ?_ | refine S.nil ?_
      refine hK8 _ _ ?_
      refine S.seq fun K9 hK9 => ?_
      refine S.region rfl ?_
      refine S.op (S.q (q_move rfl) rfl rfl ?_)
      refine S.op (S.q (q_lt rfl rfl) rfl rfl ?_)
      first | with_reducible refine S.nilK ?_ | refine S.nil ?_
      refine hK9 _ _ ?_
      refine S.condD rfl (fun h2 => ?_) (fun h2 => ?_)
      · rw [if_pos (by omega)] at hstep
        refine S.region rfl ?_
        refine S.op (S.q (q_move rfl) rfl rfl ?_)
        refine S.op (S.buildSlice0 Try.underlying25 Try.inf3 rfl ?_)
        intro b16 hb16
        refine S.op (S.q (q_move rfl) rfl rfl ?_)
        refine S.op (S.q (q_move rfl) rfl rfl ?_)
        refine S.op (S.q (q_len Try.underlying25 rfl) rfl rfl ?_)
        refine S.op (S.q (q_min (((min r.d.length 20 : Nat) : Int)) rfl rfl (by omega)) rfl rfl ?_)
        refine S.op (S.q (q_sliceTo (min r.d.length 20) Try.el25 rfl rfl rfl (by omega)) rfl rfl ?_)
        refine S.op (S.appendOw (s := b16) (min r.d.length 20) (ints (r.d.take 20)) Try.underlying25 Try.inf3 rfl rfl rfl (fun w hs => take20 (hR.row hr) hs) (ints_one _) (⟨by omega, by omega⟩) rfl ?_)
        intro nv hnv
        rw [List.nil_append]
        refine S.op (S.buildSlice (pvs := [(_, _)]) [_] Try.underlying22 Try.inf25 rfl rfl ⟨⟨rfl, rfl⟩, trivial⟩ rfl rfl ?_)
        intro b23
        refine S.op (S.appendOw (s := ov) (1) ([nv.v]) Try.underlying22 Try.inf25 rfl rfl rfl (blk_slAt (b := b23) rfl (by unfold maxLen; omega)) (by first | rfl | exact allOne_bcells _) (⟨by omega, by omega⟩) rfl ?_)
        intro ov2 hov2
        rw [show rs.flatMap rwC ++ [nv.v] = (rs ++ [RW.mk nv (r.d.take 20)]).flatMap rwC by simp]
        refine S.conv2 (own nv 3 1 (ints (r.d.take 20))) (alls rs rwB) (Ent.allsSnoc rwB rs ⟨nv, r.d.take 20⟩ _) ?_
        refine S.op (S.q (q_assign rfl) rfl rfl ?_)
        first | with_reducible refine S.nilK ?_ | refine S.nil ?_
        with_reducible repeat (first | refine S.then_n ?_ | refine S.then_x ?_ | refine S.then_r ?_ | refine S.inBlock_n ?_ | refine S.inBlock_r ?_ | refine S.inBlock_x rfl ?_ | refine S.noGoto_r ?_ | refine S.noGoto_n ?_ | refine S.noGoto_x ?_)
        with_reducible repeat (first | refine S.then_n ?_ | refine S.then_x ?_ | refine S.then_r ?_ | refine S.inBlock_n ?_ | refine S.inBlock_r ?_ | refine S.inBlock_x rfl ?_ | refine S.noGoto_r ?_ | refine S.noGoto_n ?_ | refine S.noGoto_x ?_)
        first | exact S.meet ⟨ov2, rs ++ [RW.mk nv (r.d.take 20)], by rw [hstep, ← hd]; simp, rfl, rfl⟩ ⟨rfl, rfl, rfl, rfl, trivial⟩ Sub.ent | exact S.meet ⟨ov, rs, by rw [hstep, hd], rfl, rfl⟩ ⟨rfl, rfl, rfl, rfl, trivial⟩ Sub.ent
      · rw [if_neg (by omega), List.append_nil] at hstep
        refine S.skip ?_
        with_reducible repeat (first | refine S.then_n ?_ | refine S.then_x ?_ | refine S.then_r ?_ | refine S.inBlock_n ?_ | refine S.inBlock_r ?_ | refine S.inBlock_x rfl ?_ | refine S.noGoto_r ?_ | refine S.noGoto_n ?_ | refine S.noGoto_x ?_)
        with_reducible repeat (first | refine S.then_n ?_ | refine S.then_x ?_ | refine S.then_r ?_ | refine S.inBlock_n ?_ | refine S.inBlock_r ?_ | refine S.inBlock_x rfl ?_ | refine S.noGoto_r ?_ | refine S.noGoto_n ?_ | refine S.noGoto_x ?_)
        with_reducible repeat (first | refine S.then_n ?_ | refine S.then_x ?_ | refine S.then_r ?_ | refine S.inBlock_n ?_ | refine S.inBlock_r ?_ | refine S.inBlock_x rfl ?_ | refine S.noGoto_r ?_ | refine S.noGoto_n ?_ | refine S.noGoto_x ?_)
        first | exact S.meet ⟨ov2, rs ++ [RW.mk nv (r.d.take 20)], by rw [hstep, ← hd]; simp, rfl, rfl⟩ ⟨rfl, rfl, rfl, rfl, trivial⟩ Sub.ent | exact S.meet ⟨ov, rs, by rw [hstep, hd], rfl, rfl⟩ ⟨rfl, rfl, rfl, rfl, trivial⟩ Sub.ent
    · rintro ρ' Γ' ⟨ov9, rs9, hd9, rfl, rfl⟩
      refine hK7 _ _ ?_
      refine S.region rfl ?_
      refine S.op (S.q (q_add rfl rfl (inI64 (by omega) (by omega))) rfl rfl ?_)
      refine S.op (S.q (q_move rfl) rfl rfl ?_)
      first | with_reducible refine S.nilK ?_ | refine S.nil ?_
      with_reducible repeat (first | refine S.then_n ?_ | refine S.then_x ?_ | refine S.then_r ?_ | refine S.inBlock_n ?_ | refine S.inBlock_r ?_ | refine S.inBlock_x rfl ?_ | refine S.noGoto_r ?_ | refine S.noGoto_n ?_ | refine S.noGoto_x ?_)
      exact S.next (m - 1) (⟨i + 1, ov9, rs9, by omega, hd9, rfl, rfl⟩) (by omega) (by repeat (first | exact trivial | refine ⟨rfl, ?_⟩)) Sub.ent
  · rw [List.take_of_length_le (by rw [List.length_map]; omega)] at hd
    refine S.conv2 (own ov 25 1 (rs.flatMap rwC)) (alls rs rwB) (Ent.prof ov rs _) ?_
    refine S.exit ?_
    with_reducible repeat (first | refine S.then_n ?_ | refine S.then_x ?_ | refine S.then_r ?_ | refine S.inBlock_n ?_ | refine S.inBlock_r ?_ | refine S.inBlock_x rfl ?_ | refine S.noGoto_r ?_ | refine S.noGoto_n ?_ | refine S.noGoto_x ?_)
    with_reducible refine S.inBlock_s ?_
    with_reducible repeat (first | refine S.then_n ?_ | refine S.then_x ?_ | refine S.then_r ?_ | refine S.inBlock_n ?_ | refine S.inBlock_r ?_ | refine S.inBlock_x rfl ?_ | refine S.noGoto_r ?_ | refine S.noGoto_n ?_ | refine S.noGoto_x ?_)
    refine hK3 _ _ ?_
    refine S.seq fun K10 hK10 => ?_
    refine S.region rfl ?_
    refine S.op (S.q (q_move rfl) rfl rfl ?_)
    refine S.op (S.q (q_assign rfl) rfl rfl ?_)
    first | with_reducible refine S.nilK ?_ | refine S.nil ?_
    refine hK10 _ _ ?_
    refine S.ret ?_
    with_reducible repeat (first | refine S.then_n ?_ | refine S.then_x ?_ | refine S.then_r ?_ | refine S.inBlock_n ?_ | refine S.inBlock_r ?_ | refine S.inBlock_x rfl ?_ | refine S.noGoto_r ?_ | refine S.noGoto_n ?_ | refine S.noGoto_x ?_)
    exact S.fin (rs := [_]) (vs := [_]) Try.results13 (⟨rfl, trivial⟩)  (⟨ov, rs, rfl, hd, rfl⟩) Sub.ent
theorem profile_S (R : Assn) (s0 : SV) (P : List RW) (hR : RdP R s0 P) : Spec Try.prog 12 [s0.v] [R] fun Γ v Θ => ∃ (s : SV) (rs : List RW), v = s.v ∧ dat rs = fewR (dat P) ∧ Θ = prof s rs :: R :: Γ := by
  refine Spec.of_body Try.func12 rfl Try.ntmps12 rfl ?_
  intro w0 Γ
  show S _ w0 [(0, s0.v)] (R :: Γ) _
  refine S.seq fun K1 hK1 => ?_
  refine S.region rfl ?_
  refine S.op (S.q (q_assign rfl) rfl rfl ?_)
  first | with_reducible refine S.nilK ?_ | refine S.nil ?_
  refine hK1 _ _ ?_
  refine S.seq fun K2 hK2 => ?_
  refine S.region rfl ?_
  refine S.op (S.q (q_move rfl) rfl rfl ?_)
  refine S.op (S.call Try.en13 (vs := [_]) ⟨rfl, trivial⟩ (Few_S R s0 P hR) rfl ?_)
  rintro v Θ ⟨s, rs, rfl, hd, rfl⟩
  refine S.op (S.q (q_assign rfl) rfl rfl ?_)
  first | with_reducible refine S.nilK ?_ | refine S.nil ?_
  refine hK2 _ _ ?_
  refine S.ret ?_
  with_reducible repeat (first | refine S.then_n ?_ | refine S.then_x ?_ | refine S.then_r ?_ | refine S.inBlock_n ?_ | refine S.inBlock_r ?_ | refine S.inBlock_x rfl ?_ | refine S.noGoto_r ?_ | refine S.noGoto_n ?_ | refine S.noGoto_x ?_)
  exact S.fin (rs := [_]) (vs := [_]) Try.results12 (⟨rfl, trivial⟩)  (⟨s, rs, rfl, hd, rfl⟩) Sub.ent
set_option maxHeartbeats 1000000 in
theorem asks_S (R : Assn) (l : SV) (al : List Ak) (hR : RdS R l al.length 2 (al.flatMap akC)) : Spec Try.prog 20 [l.v] [R] fun Γ v Θ => ∃ (u : SV), v = .tuple #[u.v, .slice l.a (al.take 20).length l.c] ∧ Θ = own u 34 2 ((al.take 20).flatMap akC) :: R :: Γ := by
  refine Spec.of_body Try.func20 rfl Try.ntmps20 rfl ?_
  intro w0 Γ
  show S _ w0 [(0, l.v)] (R :: Γ) _
  refine S.rCap hR fun hn hnc hnm => ?_
  have hT := rdTakeA hR (k := min al.length 20) (by omega)
  rw [take_min20] at hT
  have hTl : (al.take 20).length = min al.length 20 := by rw [List.length_take]; omega
  refine S.seq fun K1 hK1 => ?_
  refine S.region rfl ?_
  refine S.op (S.q (q_assign rfl) rfl rfl ?_)
  refine S.op (S.q (q_assign rfl) rfl rfl ?_)
  first | with_reducible refine S.nilK ?_ | refine S.nil ?_
  refine hK1 _ _ ?_
  refine S.seq fun K2 hK2 => ?_
  refine S.region rfl ?_
  refine S.op (S.q (q_move rfl) rfl rfl ?_)
  refine S.op (S.q (q_move rfl) rfl rfl ?_)
  refine S.op (S.q (q_len Try.underlying41 rfl) rfl rfl ?_)
  refine S.op (S.q (q_min (((min al.length 20 : Nat) : Int)) rfl rfl (by omega)) rfl rfl ?_)
  refine S.op (S.q (q_sliceTo (min al.length 20) Try.el41 rfl rfl rfl (by omega)) rfl rfl ?_)
  refine S.op (S.q (q_assign rfl) rfl rfl ?_)
  first | with_reducible refine S.nilK ?_ | refine S.nil ?_
  refine hK2 _ _ ?_
  refine S.seq fun K3 hK3 => ?_
  refine S.region rfl ?_
  refine S.ent (show Ent _ (own SV.nil 34 2 (((al.take 20).take 0).flatMap akC) :: _) from Ent.ownNil 34 2) ?_
  refine S.op (S.q (q_assign rfl) rfl rfl ?_)
  first | with_reducible refine S.nilK ?_ | refine S.nil ?_
  refine hK3 _ _ ?_
  refine S.seq fun K4 hK4 => ?_
  refine S.seq fun K5 hK5 => ?_
  refine S.region rfl ?_
  refine S.op (S.q (q_move rfl) rfl rfl ?_)
  refine S.op (S.q (q_len Try.underlying41 rfl) rfl rfl ?_)
  refine S.op (S.q (q_move rfl) rfl rfl ?_)
  first | with_reducible refine S.nilK ?_ | refine S.nil ?_
  refine hK5 _ _ ?_
  refine S.block ?_
  refine S.loop (fun m ρ' Γ' => ∃ (i : Nat) (u : SV), m + i = (al.take 20).length ∧ ρ' = [(0, .slice l.a (min al.length 20) l.c), (4, u.v), (12, .slice l.a (min al.length 20) l.c), (13, .int .i64 (min al.length 20 : Nat)), (14, .int .i64 i)] ∧ Γ' = own u 34 2 (((al.take 20).take i).flatMap akC) :: R :: Γ) (m := _) (ρ0 := _) (Γ0 := _) (⟨0, SV.nil, rfl, rfl, rfl⟩) (by repeat (first | exact trivial | refine ⟨rfl, ?_⟩)) Sub.ent ?_
  rintro m ρ' Γ' ⟨i, u, hmi, rfl, rfl⟩
  refine S.ownLen u fun hul _ _ => ?_
  rw [flat_length akC_len, List.length_take] at hul
  refine S.seq fun K6 hK6 => ?_
  refine S.region rfl ?_
  refine S.op (S.q (q_lt rfl rfl) rfl rfl ?_)
  first | with_reducible refine S.nilK ?_ | refine S.nil ?_
  refine hK6 _ _ ?_
  refine S.seq fun K7 hK7 => ?_
  refine S.condD rfl (fun h1 => ?_) (fun h1 => ?_)
  · obtain ⟨a, ha⟩ := getE (l := al.take 20) (i := i) (by omega)
    refine S.rSome hT (by omega) fun b off hb => ?_
    refine S.skip ?_
    with_reducible repeat (first | refine S.then_n ?_ | refine S.then_x ?_ | refine S.then_r ?_ | refine S.inBlock_n ?_ | refine S.inBlock_r ?_ | refine S.inBlock_x rfl ?_ | refine S.noGoto_r ?_ | refine S.noGoto_n ?_ | refine S.noGoto_x ?_)
    refine hK7 _ _ ?_
    refine S.seq fun K8 hK8 => ?_
    refine S.block ?_
    refine S.seq fun K9 hK9 => ?_
    refine S.region rfl ?_
    refine S.op (S.q (q_indexO (i) Try.el41 rfl hb rfl rfl (by omega)) rfl rfl ?_)
    refine S.op (S.q (q_loadRS hT (i * 2) (akC a) Try.ag24 rfl hb (by omega) rfl rfl (flat_seg (enc := akC) (sz := 2) akC_len ha)) rfl rfl ?_)
    refine S.op (S.alloc Try.z24 rfl ?_)
    intro b6
    refine S.op (S.storeS (cs' := [_, _]) Try.ag24 rfl rfl rfl rfl rfl rfl ?_)
    first | with_reducible refine S.nilK ?_ | refine S.nil ?_
    refine hK9 _ _ ?_
    refine S.region rfl ?_
    refine S.op (S.q (q_move rfl) rfl rfl ?_)
    refine S.op (S.q (q_loadS [_, _] Try.ag24 rfl rfl ⟨rfl, rfl, trivial⟩) rfl rfl ?_)
    refine S.op (S.buildSlice (pvs := [(_, _)]) [_, _] Try.underlying42 Try.inf34 rfl rfl ⟨⟨rfl, rfl⟩, trivial⟩ rfl rfl ?_)
    intro b20
    refine S.op (S.appendOw (s := u) (1) (akC a) Try.underlying42 Try.inf34 rfl rfl rfl (blk_slAt (b := b20) rfl (by unfold maxLen; omega)) (by first | rfl | exact allOne_bcells _) (⟨by omega, by omega⟩) rfl ?_)
    intro u2 hu2
    rw [show ((al.take 20).take i).flatMap akC ++ akC a = ((al.take 20).take (i + 1)).flatMap akC from take_flat ha]
    refine S.op (S.q (q_assign rfl) rfl rfl ?_)
    first | with_reducible refine S.nilK ?_ | refine S.nil ?_
    with_reducible repeat (first | refine S.then_n ?_ | refine S.then_x ?_ | refine S.then_r ?_ | refine S.inBlock_n ?_ | refine S.inBlock_r ?_ | refine S.inBlock_x rfl ?_ | refine S.noGoto_r ?_ | refine S.noGoto_n ?_ | refine S.noGoto_x ?_)
    refine hK8 _ _ ?_
    refine S.region rfl ?_
    refine S.op (S.q (q_add rfl rfl (inI64 (by omega) (by omega))) rfl rfl ?_)
    refine S.op (S.q (q_move rfl) rfl rfl ?_)
    first | with_reducible refine S.nilK ?_ | refine S.nil ?_
    with_reducible repeat (first | refine S.then_n ?_ | refine S.then_x ?_ | refine S.then_r ?_ | refine S.inBlock_n ?_ | refine S.inBlock_r ?_ | refine S.inBlock_x rfl ?_ | refine S.noGoto_r ?_ | refine S.noGoto_n ?_ | refine S.noGoto_x ?_)
    exact S.next (m - 1) (⟨i + 1, u2, by omega, rfl, rfl⟩) (by omega) (by repeat (first | exact trivial | refine ⟨rfl, ?_⟩)) Sub.ent
  · rw [show (al.take 20).take i = al.take 20 from List.take_of_length_le (by omega)]
    refine S.exit ?_
    with_reducible repeat (first | refine S.then_n ?_ | refine S.then_x ?_ | refine S.then_r ?_ | refine S.inBlock_n ?_ | refine S.inBlock_r ?_ | refine S.inBlock_x rfl ?_ | refine S.noGoto_r ?_ | refine S.noGoto_n ?_ | refine S.noGoto_x ?_)
    with_reducible refine S.inBlock_s ?_
    with_reducible repeat (first | refine S.then_n ?_ | refine S.then_x ?_ | refine S.then_r ?_ | refine S.inBlock_n ?_ | refine S.inBlock_r ?_ | refine S.inBlock_x rfl ?_ | refine S.noGoto_r ?_ | refine S.noGoto_n ?_ | refine S.noGoto_x ?_)
    refine hK4 _ _ ?_
    refine S.seq fun K10 hK10 => ?_
    refine S.region rfl ?_
    refine S.op (S.q (q_move rfl) rfl rfl ?_)
    refine S.op (S.q (q_move rfl) rfl rfl ?_)
    refine S.op (S.q (q_assign rfl) rfl rfl ?_)
    refine S.op (S.q (q_assign rfl) rfl rfl ?_)
    first | with_reducible refine S.nilK ?_ | refine S.nil ?_
    refine hK10 _ _ ?_
    refine S.ret ?_
    with_reducible repeat (first | refine S.then_n ?_ | refine S.then_x ?_ | refine S.then_r ?_ | refine S.inBlock_n ?_ | refine S.inBlock_r ?_ | refine S.inBlock_x rfl ?_ | refine S.noGoto_r ?_ | refine S.noGoto_n ?_ | refine S.noGoto_x ?_)
    exact S.fin (rs := [_, _]) (vs := [_, _]) Try.results20 (⟨rfl, rfl, trivial⟩)  (⟨u, by rw [hTl]; rfl, rfl⟩) Sub.ent
set_option maxHeartbeats 1000000 in
theorem same_S (R1 R2 : Assn) (s1 s2 : SV) (p q : List RW) (hA1 : RdP R1 s1 p) (hA2 : RdP R2 s2 q) (hp : Sml (dat p)) (hq : Sml (dat q)) : Spec Try.prog 17 [s1.v, s2.v] [R1, R2] fun Γ v Θ => v = .bool (decide (dat p = dat q)) ∧ Θ = R1 :: R2 :: Γ := by
  refine Spec.of_body Try.func17 rfl Try.ntmps17 rfl ?_
  intro w0 Γ
  show S _ w0 [(0, s1.v), (1, s2.v)] (R1 :: R2 :: Γ) _
  refine S.rCap hA1.top fun hn1 _ _ => ?_
  refine S.rCap hA2.top fun hn2 _ _ => ?_
  refine S.seq fun K1 hK1 => ?_
  refine S.region rfl ?_
  refine S.op (S.q (q_assign rfl) rfl rfl ?_)
  first | with_reducible refine S.nilK ?_ | refine S.nil ?_
  refine hK1 _ _ ?_
  refine S.seq fun K2 hK2 => ?_
  refine S.seq fun K3 hK3 => ?_
  refine S.region rfl ?_
  refine S.op (S.q (q_move rfl) rfl rfl ?_)
  refine S.op (S.q (q_len Try.underlying29 rfl) rfl rfl ?_)
  refine S.op (S.q (q_move rfl) rfl rfl ?_)
  refine S.op (S.q (q_len Try.underlying22 rfl) rfl rfl ?_)
  refine S.op (S.q (q_ne rfl rfl) rfl rfl ?_)
  first | with_reducible refine S.nilK ?_ | refine S.nil ?_
  refine hK3 _ _ ?_
  refine S.condD rfl (fun h1 => ?_) (fun h1 => ?_)
  · refine S.seq fun K4 hK4 => ?_
    refine S.region rfl ?_
    refine S.op (S.q (q_assign rfl) rfl rfl ?_)
    first | with_reducible refine S.nilK ?_ | refine S.nil ?_
    refine hK4 _ _ ?_
    refine S.ret ?_
    with_reducible repeat (first | refine S.then_n ?_ | refine S.then_x ?_ | refine S.then_r ?_ | refine S.inBlock_n ?_ | refine S.inBlock_r ?_ | refine S.inBlock_x rfl ?_ | refine S.noGoto_r ?_ | refine S.noGoto_n ?_ | refine S.noGoto_x ?_)
    exact S.fin (rs := [_]) (vs := [_]) Try.results17 (⟨rfl, trivial⟩)  (⟨by simp only [resV]; rw [decide_eq_false (fun e => by have := congrArg List.length e; rw [List.length_map, List.length_map] at this; omega)], rfl⟩) Sub.ent
  · have hlen : p.length = q.length := by omega
    refine S.skip ?_
    with_reducible repeat (first | refine S.then_n ?_ | refine S.then_x ?_ | refine S.then_r ?_ | refine S.inBlock_n ?_ | refine S.inBlock_r ?_ | refine S.inBlock_x rfl ?_ | refine S.noGoto_r ?_ | refine S.noGoto_n ?_ | refine S.noGoto_x ?_)
    refine hK2 _ _ ?_
    refine S.seq fun K5 hK5 => ?_
    refine S.seq fun K6 hK6 => ?_
    refine S.region rfl ?_
    refine S.op (S.q (q_move rfl) rfl rfl ?_)
    refine S.op (S.q (q_len Try.underlying29 rfl) rfl rfl ?_)
    refine S.op (S.q (q_move rfl) rfl rfl ?_)
    first | with_reducible refine S.nilK ?_ | refine S.nil ?_
    refine hK6 _ _ ?_
    refine S.block ?_
    refine S.loop (fun m ρ' Γ' => ∃ i : Nat, m + i = p.length ∧ (∀ (j : Nat) (x y : RW), j < i → p[j]? = some x → q[j]? = some y → x.d = y.d) ∧ ρ' = [(0, s1.v), (1, s2.v), (13, .int .i64 s1.n), (14, .int .i64 i)] ∧ Γ' = R1 :: R2 :: Γ) (m := _) (ρ0 := _) (Γ0 := _) (⟨0, rfl, fun j x y hj => absurd hj (Nat.not_lt_zero _), rfl, rfl⟩) (by repeat (first | exact trivial | refine ⟨rfl, ?_⟩)) Sub.ent ?_
    rintro m ρ' Γ' ⟨i, hmi, hno, rfl, rfl⟩
    refine S.seq fun K7 hK7 => ?_
    refine S.region rfl ?_
    refine S.op (S.q (q_lt rfl rfl) rfl rfl ?_)
    first | with_reducible refine S.nilK ?_ | refine S.nil ?_
    refine hK7 _ _ ?_
    refine S.seq fun K8 hK8 => ?_
    refine S.condD rfl (fun h2 => ?_) (fun h2 => ?_)
    · obtain ⟨x, hx⟩ := getE (l := p) (i := i) (by omega)
      obtain ⟨y, hy⟩ := getE (l := q) (i := i) (by omega)
      have hxl := hp.each x (List.mem_of_getElem? hx)
      have hyl := hq.each y (List.mem_of_getElem? hy)
      refine S.rSome hA1.top (by omega) fun b1 o1 hb1 => ?_
      refine S.rSome hA2.top (by omega) fun b2 o2 hb2 => ?_
      refine S.rCap (hA1.row hx) fun hxn _ _ => ?_
      refine S.rCap (hA2.row hy) fun hyn _ _ => ?_
      have hdx : (dat p)[i]? = some x.d := by rw [List.getElem?_map, hx]; rfl
      have hdy : (dat q)[i]? = some y.d := by rw [List.getElem?_map, hy]; rfl
      refine S.skip ?_
      with_reducible repeat (first | refine S.then_n ?_ | refine S.then_x ?_ | refine S.then_r ?_ | refine S.inBlock_n ?_ | refine S.inBlock_r ?_ | refine S.inBlock_x rfl ?_ | refine S.noGoto_r ?_ | refine S.noGoto_n ?_ | refine S.noGoto_x ?_)
      refine hK8 _ _ ?_
      refine S.seq fun K9 hK9 => ?_
      refine S.block ?_
      refine S.seq fun K10 hK10 => ?_
      refine S.region rfl ?_
      refine S.op (S.q (q_move rfl) rfl rfl ?_)
      refine S.op (S.q (q_assign rfl) rfl rfl ?_)
      first | with_reducible refine S.nilK ?_ | refine S.nil ?_
      refine hK10 _ _ ?_
      refine S.seq fun K11 hK11 => ?_
      refine S.seq fun K12 hK12 => ?_
      refine S.draw ([R1, R2]) [] Try.mixed ?_
      refine S.dr_take 0 [] rfl (by kernel_rfl) rfl rfl rfl (q_move rfl) Sub.ent ?_
      refine S.dr_take 1 [] rfl (by kernel_rfl) rfl rfl rfl (q_move rfl) Sub.ent ?_
      refine S.dr_take 2 [] rfl (by kernel_rfl) rfl rfl rfl (q_indexO (i) Try.el29 rfl hb1 rfl rfl (by omega)) Sub.ent ?_
      refine S.dr_take 3 [] rfl (by kernel_rfl) rfl rfl rfl (q_loadR hA1.top (i * 1) Try.at25 rfl hb1 (by omega) rfl (flat_get (enc := rwC) (sz := 1) (k := 0) rwC_len hx rfl)) Sub.ent ?_
      refine S.dr_take 4 [] rfl (by kernel_rfl) rfl rfl rfl (q_len Try.underlying25 rfl) Sub.ent ?_
      refine S.dr_take 5 [] rfl (by kernel_rfl) rfl rfl rfl (q_move rfl) Sub.ent ?_
      refine S.dr_take 6 [] rfl (by kernel_rfl) rfl rfl rfl (q_move rfl) Sub.ent ?_
      refine S.dr_take 7 [] rfl (by kernel_rfl) rfl rfl rfl (q_indexO (i) Try.el22 rfl hb2 rfl rfl (by omega)) Sub.ent ?_
      refine S.dr_take 8 [] rfl (by kernel_rfl) rfl rfl rfl (q_loadR hA2.top (i * 1) Try.at25 rfl hb2 (by omega) rfl (flat_get (enc := rwC) (sz := 1) (k := 0) rwC_len hy rfl)) Sub.ent ?_
      refine S.dr_take 9 [] rfl (by kernel_rfl) rfl rfl rfl (q_len Try.underlying25 rfl) Sub.ent ?_
      refine S.dr_take 10 [] rfl (by kernel_rfl) rfl rfl rfl (q_ne rfl rfl) Sub.ent ?_
      first | with_reducible refine S.dr_doneK (by kernel_rfl) ?_ | refine S.dr_done (by kernel_rfl) ?_
      refine hK12 _ _ ?_
      refine S.condD rfl (fun h3 => ?_) (fun h3 => ?_)
      · refine S.seq fun K13 hK13 => ?_
        refine S.region rfl ?_
        refine S.op (S.q (q_assign rfl) rfl rfl ?_)
        first | with_reducible refine S.nilK ?_ | refine S.nil ?_
        refine hK13 _ _ ?_
        refine S.ret ?_
        with_reducible repeat (first | refine S.then_n ?_ | refine S.then_x ?_ | refine S.then_r ?_ | refine S.inBlock_n ?_ | refine S.inBlock_r ?_ | refine S.inBlock_x rfl ?_ | refine S.noGoto_r ?_ | refine S.noGoto_n ?_ | refine S.noGoto_x ?_)
        exact S.fin (rs := [_]) (vs := [_]) Try.results17 (⟨rfl, trivial⟩)  (⟨by simp only [resV]; rw [decide_eq_false (fun e => by rw [e, hdy] at hdx; have := congrArg List.length (Option.some.inj hdx); omega)], rfl⟩) Sub.ent
      · have hll : x.d.length = y.d.length := by omega
        refine S.skip ?_
        with_reducible repeat (first | refine S.then_n ?_ | refine S.then_x ?_ | refine S.then_r ?_ | refine S.inBlock_n ?_ | refine S.inBlock_r ?_ | refine S.inBlock_x rfl ?_ | refine S.noGoto_r ?_ | refine S.noGoto_n ?_ | refine S.noGoto_x ?_)
        refine hK11 _ _ ?_
        refine S.seq fun K14 hK14 => ?_
        refine S.region rfl ?_
        refine S.op (S.q (q_move rfl) rfl rfl ?_)
        refine S.op (S.q (q_move rfl) rfl rfl ?_)
        refine S.op (S.q (q_indexO (i) Try.el29 rfl hb1 rfl rfl (by omega)) rfl rfl ?_)
        refine S.op (S.q (q_loadR hA1.top (i * 1) Try.at25 rfl hb1 (by omega) rfl (flat_get (enc := rwC) (sz := 1) (k := 0) rwC_len hx rfl)) rfl rfl ?_)
        refine S.op (S.q (q_len Try.underlying25 rfl) rfl rfl ?_)
        refine S.op (S.q (q_move rfl) rfl rfl ?_)
        first | with_reducible refine S.nilK ?_ | refine S.nil ?_
        refine hK14 _ _ ?_
        refine S.block ?_
        refine S.loop (fun m2 ρ' Γ' => ∃ k : Nat, m2 + k = x.d.length ∧ (∀ (j : Nat) (a b : Int), j < k → x.d[j]? = some a → y.d[j]? = some b → a = b) ∧ ρ' = [(0, s1.v), (1, s2.v), (5, .int .i64 i), (13, .int .i64 s1.n), (14, .int .i64 i), (32, .int .i64 x.v.n), (33, .int .i64 k)] ∧ Γ' = R1 :: R2 :: Γ) (m := _) (ρ0 := _) (Γ0 := _) (⟨0, rfl, fun j a b hj => absurd hj (Nat.not_lt_zero _), rfl, rfl⟩) (by repeat (first | exact trivial | refine ⟨rfl, ?_⟩)) Sub.ent ?_
        rintro m2 ρ' Γ' ⟨k, hmk, hnk, rfl, rfl⟩
        refine S.seq fun K15 hK15 => ?_
        refine S.region rfl ?_
        refine S.op (S.q (q_lt rfl rfl) rfl rfl ?_)
        first | with_reducible refine S.nilK ?_ | refine S.nil ?_
        refine hK15 _ _ ?_
        refine S.seq fun K16 hK16 => ?_
        refine S.condD rfl (fun h4 => ?_) (fun h4 => ?_)
        · obtain ⟨a, ha⟩ := getE (l := x.d) (i := k) (by omega)
          obtain ⟨b, hb⟩ := getE (l := y.d) (i := k) (by omega)
          refine S.rSome (hA1.row hx) (by omega) fun b3 o3 hb3 => ?_
          refine S.rSome (hA2.row hy) (by omega) fun b4 o4 hb4 => ?_
          refine S.skip ?_
          with_reducible repeat (first | refine S.then_n ?_ | refine S.then_x ?_ | refine S.then_r ?_ | refine S.inBlock_n ?_ | refine S.inBlock_r ?_ | refine S.inBlock_x rfl ?_ | refine S.noGoto_r ?_ | refine S.noGoto_n ?_ | refine S.noGoto_x ?_)
          refine hK16 _ _ ?_
          refine S.seq fun K17 hK17 => ?_
          refine S.block ?_
          refine S.seq fun K18 hK18 => ?_
          refine S.region rfl ?_
          refine S.op (S.q (q_move rfl) rfl rfl ?_)
          refine S.op (S.q (q_assign rfl) rfl rfl ?_)
          first | with_reducible refine S.nilK ?_ | refine S.nil ?_
          refine hK18 _ _ ?_
          refine S.seq fun K19 hK19 => ?_
          refine S.draw ([R1, R2]) [] Try.mixed ?_
          refine S.dr_take 0 [] rfl (by kernel_rfl) rfl rfl rfl (q_move rfl) Sub.ent ?_
          refine S.dr_take 1 [] rfl (by kernel_rfl) rfl rfl rfl (q_move rfl) Sub.ent ?_
          refine S.dr_take 2 [] rfl (by kernel_rfl) rfl rfl rfl (q_indexO (i) Try.el29 rfl hb1 rfl rfl (by omega)) Sub.ent ?_
          refine S.dr_take 3 [] rfl (by kernel_rfl) rfl rfl rfl (q_loadR hA1.top (i * 1) Try.at25 rfl hb1 (by omega) rfl (flat_get (enc := rwC) (sz := 1) (k := 0) rwC_len hx rfl)) Sub.ent ?_
          refine S.dr_take 4 [] rfl (by kernel_rfl) rfl rfl rfl (q_move rfl) Sub.ent ?_
          refine S.dr_take 5 [] rfl (by kernel_rfl) rfl rfl rfl (q_indexO (k) Try.el25 rfl hb3 rfl rfl (by omega)) Sub.ent ?_
          refine S.dr_take 6 [] rfl (by kernel_rfl) rfl rfl rfl (q_loadR (hA1.row hx) k Try.at3 rfl hb3 (by omega) (by omega) (ints_get ha)) Sub.ent ?_
          refine S.dr_take 7 [] rfl (by kernel_rfl) rfl rfl rfl (q_move rfl) Sub.ent ?_
          refine S.dr_take 8 [] rfl (by kernel_rfl) rfl rfl rfl (q_move rfl) Sub.ent ?_
          refine S.dr_take 9 [] rfl (by kernel_rfl) rfl rfl rfl (q_indexO (i) Try.el22 rfl hb2 rfl rfl (by omega)) Sub.ent ?_
          refine S.dr_take 10 [] rfl (by kernel_rfl) rfl rfl rfl (q_loadR hA2.top (i * 1) Try.at25 rfl hb2 (by omega) rfl (flat_get (enc := rwC) (sz := 1) (k := 0) rwC_len hy rfl)) Sub.ent ?_
          refine S.dr_take 11 [] rfl (by kernel_rfl) rfl rfl rfl (q_move rfl) Sub.ent ?_
          refine S.dr_take 12 [] rfl (by kernel_rfl) rfl rfl rfl (q_indexO (k) Try.el25 rfl hb4 rfl rfl (by omega)) Sub.ent ?_
          refine S.dr_take 13 [] rfl (by kernel_rfl) rfl rfl rfl (q_loadR (hA2.row hy) k Try.at3 rfl hb4 (by omega) (by omega) (ints_get hb)) Sub.ent ?_
          refine S.dr_take 14 [] rfl (by kernel_rfl) rfl rfl rfl (q_ne rfl rfl) Sub.ent ?_
          first | with_reducible refine S.dr_doneK (by kernel_rfl) ?_ | refine S.dr_done (by kernel_rfl) ?_
          refine hK19 _ _ ?_
          refine S.condD rfl (fun h5 => ?_) (fun h5 => ?_)
          · refine S.seq fun K20 hK20 => ?_
            refine S.region rfl ?_
            refine S.op (S.q (q_assign rfl) rfl rfl ?_)
            first | with_reducible refine S.nilK ?_ | refine S.nil ?_
            refine hK20 _ _ ?_
            refine S.ret ?_
            with_reducible repeat (first | refine S.then_n ?_ | refine S.then_x ?_ | refine S.then_r ?_ | refine S.inBlock_n ?_ | refine S.inBlock_r ?_ | refine S.inBlock_x rfl ?_ | refine S.noGoto_r ?_ | refine S.noGoto_n ?_ | refine S.noGoto_x ?_)
            exact S.fin (rs := [_]) (vs := [_]) Try.results17 (⟨rfl, trivial⟩)  (⟨by simp only [resV]; rw [decide_eq_false (fun e => by rw [e, hdy] at hdx; rw [← Option.some.inj hdx, hb] at ha; cases ha; exact absurd rfl (by assumption))], rfl⟩) Sub.ent
          · have hab : a = b := Decidable.not_not.1 h5
            have hnk' : ∀ (j : Nat) (a b : Int), j < k + 1 → x.d[j]? = some a → y.d[j]? = some b → a = b := fun j a' b' hj hy1 hy2 => by
              by_cases e : j = k
              · subst e
                rw [ha] at hy1
                rw [hb] at hy2
                cases hy1
                cases hy2
                exact hab
              · exact hnk j a' b' (by omega) hy1 hy2
            refine S.skip ?_
            with_reducible repeat (first | refine S.then_n ?_ | refine S.then_x ?_ | refine S.then_r ?_ | refine S.inBlock_n ?_ | refine S.inBlock_r ?_ | refine S.inBlock_x rfl ?_ | refine S.noGoto_r ?_ | refine S.noGoto_n ?_ | refine S.noGoto_x ?_)
            with_reducible repeat (first | refine S.then_n ?_ | refine S.then_x ?_ | refine S.then_r ?_ | refine S.inBlock_n ?_ | refine S.inBlock_r ?_ | refine S.inBlock_x rfl ?_ | refine S.noGoto_r ?_ | refine S.noGoto_n ?_ | refine S.noGoto_x ?_)
            refine hK17 _ _ ?_
            refine S.region rfl ?_
            refine S.op (S.q (q_add rfl rfl (inI64 (by omega) (by omega))) rfl rfl ?_)
            refine S.op (S.q (q_move rfl) rfl rfl ?_)
            first | with_reducible refine S.nilK ?_ | refine S.nil ?_
            with_reducible repeat (first | refine S.then_n ?_ | refine S.then_x ?_ | refine S.then_r ?_ | refine S.inBlock_n ?_ | refine S.inBlock_r ?_ | refine S.inBlock_x rfl ?_ | refine S.noGoto_r ?_ | refine S.noGoto_n ?_ | refine S.noGoto_x ?_)
            exact S.next (m2 - 1) (⟨k + 1, by omega, hnk', rfl, rfl⟩) (by omega) (by repeat (first | exact trivial | refine ⟨rfl, ?_⟩)) Sub.ent
        · have hxy : x.d = y.d := by
            refine List.ext_getElem? fun j => ?_
            by_cases hj : j < x.d.length
            · obtain ⟨a, ha⟩ := getE hj
              obtain ⟨b, hb⟩ := getE (l := y.d) (i := j) (by omega)
              rw [ha, hb, hnk j a b (by omega) ha hb]
            · rw [List.getElem?_eq_none (by omega), List.getElem?_eq_none (by omega)]
          have hno' : ∀ (j : Nat) (x y : RW), j < i + 1 → p[j]? = some x → q[j]? = some y → x.d = y.d := fun j x' y' hj hy1 hy2 => by
            by_cases e : j = i
            · subst e
              rw [hx] at hy1
              rw [hy] at hy2
              cases hy1
              cases hy2
              exact hxy
            · exact hno j x' y' (by omega) hy1 hy2
          refine S.exit ?_
          with_reducible repeat (first | refine S.then_n ?_ | refine S.then_x ?_ | refine S.then_r ?_ | refine S.inBlock_n ?_ | refine S.inBlock_r ?_ | refine S.inBlock_x rfl ?_ | refine S.noGoto_r ?_ | refine S.noGoto_n ?_ | refine S.noGoto_x ?_)
          with_reducible refine S.inBlock_s ?_
          with_reducible repeat (first | refine S.then_n ?_ | refine S.then_x ?_ | refine S.then_r ?_ | refine S.inBlock_n ?_ | refine S.inBlock_r ?_ | refine S.inBlock_x rfl ?_ | refine S.noGoto_r ?_ | refine S.noGoto_n ?_ | refine S.noGoto_x ?_)
          with_reducible repeat (first | refine S.then_n ?_ | refine S.then_x ?_ | refine S.then_r ?_ | refine S.inBlock_n ?_ | refine S.inBlock_r ?_ | refine S.inBlock_x rfl ?_ | refine S.noGoto_r ?_ | refine S.noGoto_n ?_ | refine S.noGoto_x ?_)
          refine hK9 _ _ ?_
          refine S.region rfl ?_
          refine S.op (S.q (q_add rfl rfl (inI64 (by omega) (by omega))) rfl rfl ?_)
          refine S.op (S.q (q_move rfl) rfl rfl ?_)
          first | with_reducible refine S.nilK ?_ | refine S.nil ?_
          with_reducible repeat (first | refine S.then_n ?_ | refine S.then_x ?_ | refine S.then_r ?_ | refine S.inBlock_n ?_ | refine S.inBlock_r ?_ | refine S.inBlock_x rfl ?_ | refine S.noGoto_r ?_ | refine S.noGoto_n ?_ | refine S.noGoto_x ?_)
          exact S.next (m - 1) (⟨i + 1, by omega, hno', rfl, rfl⟩) (by omega) (by repeat (first | exact trivial | refine ⟨rfl, ?_⟩)) Sub.ent
    · have hall : dat p = dat q := by
        refine List.ext_getElem? fun j => ?_
        rw [List.getElem?_map, List.getElem?_map]
        by_cases hj : j < p.length
        · obtain ⟨x, hx⟩ := getE hj
          obtain ⟨y, hy⟩ := getE (l := q) (i := j) (by omega)
          rw [hx, hy]
          exact congrArg some (hno j x y (by omega) hx hy)
        · rw [List.getElem?_eq_none (by omega), List.getElem?_eq_none (by omega)]
      refine S.exit ?_
      with_reducible repeat (first | refine S.then_n ?_ | refine S.then_x ?_ | refine S.then_r ?_ | refine S.inBlock_n ?_ | refine S.inBlock_r ?_ | refine S.inBlock_x rfl ?_ | refine S.noGoto_r ?_ | refine S.noGoto_n ?_ | refine S.noGoto_x ?_)
      with_reducible refine S.inBlock_s ?_
      with_reducible repeat (first | refine S.then_n ?_ | refine S.then_x ?_ | refine S.then_r ?_ | refine S.inBlock_n ?_ | refine S.inBlock_r ?_ | refine S.inBlock_x rfl ?_ | refine S.noGoto_r ?_ | refine S.noGoto_n ?_ | refine S.noGoto_x ?_)
      refine hK5 _ _ ?_
      refine S.seq fun K21 hK21 => ?_
      refine S.region rfl ?_
      refine S.op (S.q (q_assign rfl) rfl rfl ?_)
      first | with_reducible refine S.nilK ?_ | refine S.nil ?_
      refine hK21 _ _ ?_
      refine S.ret ?_
      with_reducible repeat (first | refine S.then_n ?_ | refine S.then_x ?_ | refine S.then_r ?_ | refine S.inBlock_n ?_ | refine S.inBlock_r ?_ | refine S.inBlock_x rfl ?_ | refine S.noGoto_r ?_ | refine S.noGoto_n ?_ | refine S.noGoto_x ?_)
      exact S.fin (rs := [_]) (vs := [_]) Try.results17 (⟨rfl, trivial⟩)  (⟨by simp only [resV]; rw [decide_eq_true hall], rfl⟩) Sub.ent
end Go.Proofs.Ytknpddiffellgaa
