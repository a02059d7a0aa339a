/- The matrix: Jobs: all its jobs' numbers, rising. -/
import Derived.Test.YtegjmmocnffpiaaDoorMJ5
/- slices.Sort at whole numbers of 32 bits: the partitions, what is nearly in order, the whole. -/
namespace Go.Proofs.YtegjmmocnffpiaaDoor
open Go.RowKit
open Go.Sort
set_option maxRecDepth 20000
section
variable {e : Array Int} {a b i j : Nat}
theorem scanSorted_stop (h : ¬ (i < b ∧ ltInt e[i]! e[i - 1]! = false)) : scanSorted ltInt e b i = i := by
  rw [scanSorted, if_neg]
  simpa using h
theorem scanSorted_step (h : i < b) (h2 : ltInt e[i]! e[i - 1]! = false) : scanSorted ltInt e b i = scanSorted ltInt e b (i + 1) := by
  conv => lhs; rw [scanSorted, if_pos (by rw [h2, decide_eq_true h]; rfl)]
theorem shiftDown_stop (h : ¬ (1 ≤ j ∧ ltInt e[j]! e[j - 1]! = true)) : shiftDown ltInt j e = e := by
  cases j with
  | zero => rfl
  | succ j =>
    rw [shiftDown, if_pos]
    simp only [Nat.add_sub_cancel] at h
    cases hl : ltInt e[j + 1]! e[j]! with
    | false => rfl
    | true => exact absurd ⟨by omega, hl⟩ h
theorem shiftDown_step (h : 1 ≤ j) (h2 : ltInt e[j]! e[j - 1]! = true) : shiftDown ltInt j e = shiftDown ltInt (j - 1) (swp e j (j - 1)) := by
  cases j with
  | zero => omega
  | succ j =>
    simp only [Nat.add_sub_cancel] at h2 ⊢
    rw [shiftDown, if_neg (by rw [h2]; simp)]
theorem shiftUp_stop (h : ¬ (j < b ∧ ltInt e[j]! e[j - 1]! = true)) : shiftUp ltInt b j e = e := by
  rw [shiftUp]
  by_cases h1 : j < b
  · rw [if_pos h1, if_pos]
    cases hl : ltInt e[j]! e[j - 1]! with
    | false => rfl
    | true => exact absurd ⟨h1, hl⟩ h
  · rw [if_neg h1]
theorem shiftUp_step (h : j < b) (h2 : ltInt e[j]! e[j - 1]! = true) : shiftUp ltInt b j e = shiftUp ltInt b (j + 1) (swp e j (j - 1)) := by
  conv => lhs; rw [shiftUp, if_pos h, if_neg (by rw [h2]; simp)]
theorem scanUp_stop {p : Int → Bool} (h : ¬ (i ≤ j ∧ p e[i]! = true)) : scanUp p e j i = i := by
  rw [scanUp, if_neg]
  simpa using h
theorem scanUp_step {p : Int → Bool} (h : i ≤ j) (h2 : p e[i]! = true) : scanUp p e j i = scanUp p e j (i + 1) := by
  conv => lhs; rw [scanUp, if_pos (by rw [h2, decide_eq_true h]; rfl)]
theorem scanDown_stop {p : Int → Bool} (h : ¬ (i ≤ j ∧ p e[j]! = true)) : scanDown p e i j = j := by
  cases j with
  | zero => rfl
  | succ j =>
    rw [scanDown, if_neg]
    simpa using h
theorem scanDown_step {p : Int → Bool} (h1 : 1 ≤ j) (h : i ≤ j) (h2 : p e[j]! = true) : scanDown p e i j = scanDown p e i (j - 1) := by
  cases j with
  | zero => omega
  | succ j =>
    simp only [Nat.add_sub_cancel]
    rw [scanDown, if_pos (by rw [h2, decide_eq_true h]; rfl)]
theorem scan_facts {p q : Int → Bool} (hq : ∀ x, q x = !p x) (h1 : 1 ≤ i) (hij : i ≤ j + 1) : i ≤ scanUp p e j i ∧ scanUp p e j i ≤ j + 1 ∧ scanDown q e (scanUp p e j i) j ≤ j ∧ scanUp p e j i ≤ scanDown q e (scanUp p e j i) j + 1 ∧ (¬ scanUp p e j i > scanDown q e (scanUp p e j i) j → scanUp p e j i < scanDown q e (scanUp p e j i) j) := by
  obtain ⟨a1, a2, a3, a4, _, _, a7⟩ := round_facts p q hq e (i - 1) (j + 1) i j (by omega) hij (fun t h1 h2 => by omega) (fun t h1 h2 => by omega)
  exact ⟨a1, a2, a3, a4, fun h => (a7 h).2.2⟩
end
theorem partialIns_S (s : SV) (d : Array Int) (a b : Nat) (hab : a < b) (hb : b ≤ d.size) (hsz : d.size ≤ 65535) (hsn : s.n = d.size) : Spec Tryd.prog 126 [s.v, .int .i64 (a : Int), .int .i64 (b : Int)] [own s 68 1 (uA d)] fun Γ v Θ => v = .bool (partialInsertionSort ltInt d a b).2 ∧ Θ = own s 68 1 (uA (partialInsertionSort ltInt d a b).1) :: Γ := by
  refine Spec.of_body Tryd.func126 rfl Tryd.ntmps126 rfl ?_
  intro w0 Γ
  show S _ w0 [(0, s.v), (1, .int .i64 (a : Int)), (2, .int .i64 (b : Int))] (own s 68 1 (uA d) :: Γ) _
  refine S.ownSome s (by omega) fun sb so hsa _ _ _ => ?_
  refine S.seq fun K1 hK1 => ?_
  refine S.region rfl ?_
  refine S.op (S.q (q_assign rfl) rfl rfl ?_)
  first | with_reducible refine S.nilK ?_ | refine S.nil ?_
  refine hK1 _ _ ?_
  refine S.seq fun K2 hK2 => ?_
  refine S.region rfl ?_
  refine S.op (S.q (q_move rfl) rfl rfl ?_)
  refine S.op (S.q (q_add rfl rfl (inI64 (by omega) (by omega))) rfl rfl ?_)
  refine S.op (S.q (q_assign rfl) rfl rfl ?_)
  first | with_reducible refine S.nilK ?_ | refine S.nil ?_
  refine hK2 _ _ ?_
  refine S.seq fun K3 hK3 => ?_
  refine S.seq fun K4 hK4 => ?_
  refine S.region rfl ?_
  refine S.op (S.q (q_assign rfl) rfl rfl ?_)
  first | with_reducible refine S.nilK ?_ | refine S.nil ?_
  refine hK4 _ _ ?_
  refine S.block ?_
  refine S.loop (fun q ρ' Γ' => ∃ (k i : Nat) (e : Array Int), q = 5 - k ∧ k ≤ 5 ∧ a < i ∧ i ≤ b ∧ e.size = d.size ∧ partialIns ltInt a b (5 - k) i e = partialInsertionSort ltInt d a b ∧ ρ' = [(0, s.v), (1, .int .i64 (a : Int)), (2, .int .i64 (b : Int)), (7, .int .i64 (i : Int)), (8, .int .i64 (k : Int))] ∧ Γ' = own s 68 1 (uA e) :: Γ) (m := _) (ρ0 := _) (Γ0 := _) (⟨0, a + 1, d, rfl, by omega, by omega, by omega, rfl, rfl, rfl, rfl⟩) (by repeat (first | exact trivial | refine ⟨rfl, ?_⟩)) Sub.ent ?_
  rintro q ρ' Γ' ⟨k, i, e, hq, hk, hai, hib, hes, hps, rfl, rfl⟩
  refine S.seq fun K5 hK5 => ?_
  refine S.seq fun K6 hK6 => ?_
  refine S.region rfl ?_
  refine S.op (S.q (q_move rfl) rfl rfl ?_)
  refine S.op (S.q (q_lt rfl rfl) rfl rfl ?_)
  first | with_reducible refine S.nilK ?_ | refine S.nil ?_
  refine hK6 _ _ ?_
  refine S.condD rfl (fun h1 => ?_) (fun h1 => ?_)
  · refine S.skip ?_
    with_reducible repeat (first | refine S.then_n ?_ | refine S.then_x ?_ | refine S.then_r ?_ | refine S.inBlock_n ?_ | refine S.inBlock_r ?_ | refine S.inBlock_x rfl ?_ | refine S.noGoto_r ?_ | refine S.noGoto_n ?_ | refine S.noGoto_x ?_)
    refine hK5 _ _ ?_
    refine S.seq fun K7 hK7 => ?_
    refine S.cut (fun ρ' Γ' => ∃ (i2 : Nat) (g : Array Int), a < i2 ∧ i2 ≤ b ∧ g.size = d.size ∧ partialIns ltInt a b (5 - (k + 1)) i2 g = partialInsertionSort ltInt d a b ∧ ρ' = [(0, s.v), (1, .int .i64 (a : Int)), (2, .int .i64 (b : Int)), (7, .int .i64 (i2 : Int)), (8, .int .i64 (k : Int))] ∧ Γ' = own s 68 1 (uA g) :: Γ) ?_ ?_
    · refine S.block ?_
      refine S.seq fun K8 hK8 => ?_
      refine S.cut (fun ρ' Γ' => ∃ i2 : Nat, i2 = scanSorted ltInt e b i ∧ a < i2 ∧ i2 ≤ b ∧ ρ' = [(0, s.v), (1, .int .i64 (a : Int)), (2, .int .i64 (b : Int)), (7, .int .i64 (i2 : Int)), (8, .int .i64 (k : Int))] ∧ Γ' = own s 68 1 (uA e) :: Γ) ?_ ?_
      · refine S.block ?_
        refine S.loop (fun q2 ρ' Γ' => ∃ i' : Nat, q2 = b - i' ∧ a < i' ∧ i' ≤ b ∧ scanSorted ltInt e b i' = scanSorted ltInt e b i ∧ ρ' = [(0, s.v), (1, .int .i64 (a : Int)), (2, .int .i64 (b : Int)), (7, .int .i64 (i' : Int)), (8, .int .i64 (k : Int))] ∧ Γ' = own s 68 1 (uA e) :: Γ) (m := _) (ρ0 := _) (Γ0 := _) (⟨i, rfl, by omega, by omega, rfl, rfl, rfl⟩) (by repeat (first | exact trivial | refine ⟨rfl, ?_⟩)) Sub.ent ?_
        rintro q2 ρ' Γ' ⟨i', hq2, hai', hib', hsc, rfl, rfl⟩
        refine S.seq fun K9 hK9 => ?_
        refine S.seq fun K10 hK10 => ?_
        refine S.draw ([own s 68 1 (uA e)]) [] Tryd.mixed ?_
        refine S.dr_take 0 [] rfl (by kernel_rfl) rfl rfl rfl (q_move rfl) Sub.ent ?_
        refine S.dr_take 1 [] rfl (by kernel_rfl) rfl rfl rfl (q_move rfl) Sub.ent ?_
        refine S.dr_take 2 [] rfl (by kernel_rfl) rfl rfl rfl (q_lt rfl rfl) Sub.ent ?_
        refine S.dr_take 3 [] rfl (by kernel_rfl) rfl rfl rfl (q_move rfl) Sub.ent ?_
        by_cases hg5_3 : (i' : Int) < b
        · refine S.dr_takeY 4 [] rfl (by kernel_rfl) rfl rfl rfl (decide_eq_true hg5_3) rfl rfl (q_move rfl) Sub.ent ?_
          refine S.dr_takeY 5 [] rfl (by kernel_rfl) rfl rfl rfl (decide_eq_true hg5_3) rfl rfl (q_move rfl) Sub.ent ?_
          refine S.dr_takeY 6 [] rfl (by kernel_rfl) rfl rfl rfl (decide_eq_true hg5_3) rfl rfl (q_indexO (i') Tryd.el31 rfl hsa rfl rfl (by omega)) Sub.ent ?_
          refine S.dr_takeY 7 [] rfl (by kernel_rfl) rfl rfl rfl (decide_eq_true hg5_3) rfl rfl (q_loadOw (s) (i') Tryd.at68 rfl hsa (by first | rfl | exact Nat.add_assoc _ _ _ | omega) (uA_get (by omega))) Sub.ent ?_
          refine S.dr_takeY 8 [] rfl (by kernel_rfl) rfl rfl rfl (decide_eq_true hg5_3) rfl rfl (q_move rfl) Sub.ent ?_
          refine S.dr_takeY 9 [] rfl (by kernel_rfl) rfl rfl rfl (decide_eq_true hg5_3) rfl rfl (q_move rfl) Sub.ent ?_
          refine S.dr_takeY 10 [] rfl (by kernel_rfl) rfl rfl rfl (decide_eq_true hg5_3) rfl rfl (q_sub rfl rfl (inI64 (by omega) (by omega))) Sub.ent ?_
          refine S.dr_takeY 11 [] rfl (by kernel_rfl) rfl rfl rfl (decide_eq_true hg5_3) rfl rfl (q_indexO (i' - 1) Tryd.el31 rfl hsa rfl (by omega) (by omega)) Sub.ent ?_
          refine S.dr_takeY 12 [] rfl (by kernel_rfl) rfl rfl rfl (decide_eq_true hg5_3) rfl rfl (q_loadOw (s) (i' - 1) Tryd.at68 rfl hsa (by first | rfl | exact Nat.add_assoc _ _ _ | omega) (uA_get (by omega))) Sub.ent ?_
          refine S.dr_1Y (i := 13) (by kernel_rfl) rfl rfl rfl rfl (decide_eq_true hg5_3) ?_
          refine  (S.call Tryd.en127 (vs := [_, _]) ⟨rfl, rfl, trivial⟩ (Less_S (e[i']!) (e[i' - 1]!)) rfl ?_)
          rintro v Θ ⟨rfl, rfl⟩
          refine S.dr_k rfl Sub.ent ?_
          refine S.dr_takeY 14 [] rfl (by kernel_rfl) rfl rfl rfl (decide_eq_true hg5_3) rfl rfl (q_not rfl) Sub.ent ?_
          refine S.dr_take 15 [] rfl (by kernel_rfl) rfl rfl rfl (q_pickT rfl (decide_eq_true hg5_3) rfl) Sub.ent ?_
          first | with_reducible refine S.dr_doneK (by kernel_rfl) ?_ | refine S.dr_done (by kernel_rfl) ?_
          refine hK10 _ _ ?_
          refine S.cond rfl (fun h2 => ?_) (fun h2 => ?_)
          · have hst2 : scanSorted ltInt e b i' = scanSorted ltInt e b (i' + 1) := scanSorted_step (by omega) (by simpa using h2)
            refine S.skip ?_
            with_reducible repeat (first | refine S.then_n ?_ | refine S.then_x ?_ | refine S.then_r ?_ | refine S.inBlock_n ?_ | refine S.inBlock_r ?_ | refine S.inBlock_x rfl ?_ | refine S.noGoto_r ?_ | refine S.noGoto_n ?_ | refine S.noGoto_x ?_)
            refine hK9 _ _ ?_
            refine S.block ?_
            refine S.region rfl ?_
            refine S.op (S.q (q_move rfl) rfl rfl ?_)
            refine S.op (S.q (q_add rfl rfl (inI64 (by omega) (by omega))) rfl rfl ?_)
            refine S.op (S.q (q_assign rfl) rfl rfl ?_)
            first | with_reducible refine S.nilK ?_ | refine S.nil ?_
            with_reducible repeat (first | refine S.then_n ?_ | refine S.then_x ?_ | refine S.then_r ?_ | refine S.inBlock_n ?_ | refine S.inBlock_r ?_ | refine S.inBlock_x rfl ?_ | refine S.noGoto_r ?_ | refine S.noGoto_n ?_ | refine S.noGoto_x ?_)
            with_reducible repeat (first | refine S.then_n ?_ | refine S.then_x ?_ | refine S.then_r ?_ | refine S.inBlock_n ?_ | refine S.inBlock_r ?_ | refine S.inBlock_x rfl ?_ | refine S.noGoto_r ?_ | refine S.noGoto_n ?_ | refine S.noGoto_x ?_)
            exact S.next (q2 - 1) (⟨i' + 1, by omega, by omega, by omega, hst2.symm.trans hsc, rfl, rfl⟩) (by omega) (by repeat (first | exact trivial | refine ⟨rfl, ?_⟩)) Sub.ent
          · have hst : scanSorted ltInt e b i' = i' := scanSorted_stop (fun h => by rw [h.2] at h2; cases h2)
            refine S.exit ?_
            with_reducible repeat (first | refine S.then_n ?_ | refine S.then_x ?_ | refine S.then_r ?_ | refine S.inBlock_n ?_ | refine S.inBlock_r ?_ | refine S.inBlock_x rfl ?_ | refine S.noGoto_r ?_ | refine S.noGoto_n ?_ | refine S.noGoto_x ?_)
            with_reducible refine S.inBlock_s ?_
            with_reducible repeat (first | refine S.then_n ?_ | refine S.then_x ?_ | refine S.then_r ?_ | refine S.inBlock_n ?_ | refine S.inBlock_r ?_ | refine S.inBlock_x rfl ?_ | refine S.noGoto_r ?_ | refine S.noGoto_n ?_ | refine S.noGoto_x ?_)
            with_reducible repeat (first | refine S.then_n ?_ | refine S.then_x ?_ | refine S.then_r ?_ | refine S.inBlock_n ?_ | refine S.inBlock_r ?_ | refine S.inBlock_x rfl ?_ | refine S.noGoto_r ?_ | refine S.noGoto_n ?_ | refine S.noGoto_x ?_)
            exact S.meet ⟨i', hst.symm.trans hsc, by omega, by omega, rfl, rfl⟩ ⟨rfl, rfl, rfl, rfl, rfl, trivial⟩ Sub.ent
        · have hst : scanSorted ltInt e b i' = i' := scanSorted_stop (fun h => hg5_3 (by omega))
          refine S.dr_takeN 4 [] rfl (by kernel_rfl) rfl rfl rfl (decide_eq_false hg5_3) rfl rfl Sub.ent ?_
          refine S.dr_takeN 5 [] rfl (by kernel_rfl) rfl rfl rfl (decide_eq_false hg5_3) rfl rfl Sub.ent ?_
          refine S.dr_takeN 6 [] rfl (by kernel_rfl) rfl rfl rfl (decide_eq_false hg5_3) rfl rfl Sub.ent ?_
          refine S.dr_takeN 7 [] rfl (by kernel_rfl) rfl rfl rfl (decide_eq_false hg5_3) rfl rfl Sub.ent ?_
          refine S.dr_takeN 8 [] rfl (by kernel_rfl) rfl rfl rfl (decide_eq_false hg5_3) rfl rfl Sub.ent ?_
          refine S.dr_takeN 9 [] rfl (by kernel_rfl) rfl rfl rfl (decide_eq_false hg5_3) rfl rfl Sub.ent ?_
          refine S.dr_takeN 10 [] rfl (by kernel_rfl) rfl rfl rfl (decide_eq_false hg5_3) rfl rfl Sub.ent ?_
          refine S.dr_takeN 11 [] rfl (by kernel_rfl) rfl rfl rfl (decide_eq_false hg5_3) rfl rfl Sub.ent ?_
          refine S.dr_takeN 12 [] rfl (by kernel_rfl) rfl rfl rfl (decide_eq_false hg5_3) rfl rfl Sub.ent ?_
          refine S.dr_takeN 13 [] rfl (by kernel_rfl) rfl rfl rfl (decide_eq_false hg5_3) rfl rfl Sub.ent ?_
          refine S.dr_takeN 14 [] rfl (by kernel_rfl) rfl rfl rfl (decide_eq_false hg5_3) rfl rfl Sub.ent ?_
          refine S.dr_take 15 [] rfl (by kernel_rfl) rfl rfl rfl (q_pickF rfl (decide_eq_false hg5_3) rfl) Sub.ent ?_
          first | with_reducible refine S.dr_doneK (by kernel_rfl) ?_ | refine S.dr_done (by kernel_rfl) ?_
          refine hK10 _ _ ?_
          refine S.condF rfl ?_
          refine S.exit ?_
          with_reducible repeat (first | refine S.then_n ?_ | refine S.then_x ?_ | refine S.then_r ?_ | refine S.inBlock_n ?_ | refine S.inBlock_r ?_ | refine S.inBlock_x rfl ?_ | refine S.noGoto_r ?_ | refine S.noGoto_n ?_ | refine S.noGoto_x ?_)
          with_reducible refine S.inBlock_s ?_
          with_reducible repeat (first | refine S.then_n ?_ | refine S.then_x ?_ | refine S.then_r ?_ | refine S.inBlock_n ?_ | refine S.inBlock_r ?_ | refine S.inBlock_x rfl ?_ | refine S.noGoto_r ?_ | refine S.noGoto_n ?_ | refine S.noGoto_x ?_)
          with_reducible repeat (first | refine S.then_n ?_ | refine S.then_x ?_ | refine S.then_r ?_ | refine S.inBlock_n ?_ | refine S.inBlock_r ?_ | refine S.inBlock_x rfl ?_ | refine S.noGoto_r ?_ | refine S.noGoto_n ?_ | refine S.noGoto_x ?_)
          exact S.meet ⟨i', hst.symm.trans hsc, by omega, by omega, rfl, rfl⟩ ⟨rfl, rfl, rfl, rfl, rfl, trivial⟩ Sub.ent
      · rintro ρ' Γ' ⟨i2, hi2, hai2, hib2, rfl, rfl⟩
        have hps2 : (if i2 = b then (e, true) else if b - a < 50 then (e, false) else partialIns ltInt a b (5 - (k + 1)) i2 (fixUp ltInt b i2 (fixDown ltInt a i2 (swp e i2 (i2 - 1))))) = partialInsertionSort ltInt d a b := by rw [← hps, show 5 - k = (5 - (k + 1)) + 1 by omega, partialIns_succ, ← hi2]
        refine hK8 _ _ ?_
        refine S.seq fun K11 hK11 => ?_
        refine S.seq fun K12 hK12 => ?_
        refine S.region rfl ?_
        refine S.op (S.q (q_move rfl) rfl rfl ?_)
        refine S.op (S.q (q_move rfl) rfl rfl ?_)
        refine S.op (S.q (q_eq rfl rfl) rfl rfl ?_)
        first | with_reducible refine S.nilK ?_ | refine S.nil ?_
        refine hK12 _ _ ?_
        refine S.condD rfl (fun h3 => ?_) (fun h3 => ?_)
        · rw [if_pos (by omega)] at hps2
          refine S.seq fun K13 hK13 => ?_
          refine S.region rfl ?_
          refine S.op (S.q (q_assign rfl) rfl rfl ?_)
          first | with_reducible refine S.nilK ?_ | refine S.nil ?_
          refine hK13 _ _ ?_
          refine S.ret ?_
          with_reducible repeat (first | refine S.then_n ?_ | refine S.then_x ?_ | refine S.then_r ?_ | refine S.inBlock_n ?_ | refine S.inBlock_r ?_ | refine S.inBlock_x rfl ?_ | refine S.noGoto_r ?_ | refine S.noGoto_n ?_ | refine S.noGoto_x ?_)
          exact S.fin (rs := [_]) (vs := [_]) Tryd.results126 (⟨rfl, trivial⟩)  (⟨by rw [← hps2]; first | done | rfl, by rw [← hps2]⟩) Sub.ent
        · refine S.skip ?_
          with_reducible repeat (first | refine S.then_n ?_ | refine S.then_x ?_ | refine S.then_r ?_ | refine S.inBlock_n ?_ | refine S.inBlock_r ?_ | refine S.inBlock_x rfl ?_ | refine S.noGoto_r ?_ | refine S.noGoto_n ?_ | refine S.noGoto_x ?_)
          refine hK11 _ _ ?_
          refine S.seq fun K14 hK14 => ?_
          refine S.seq fun K15 hK15 => ?_
          refine S.region rfl ?_
          refine S.op (S.q (q_move rfl) rfl rfl ?_)
          refine S.op (S.q (q_move rfl) rfl rfl ?_)
          refine S.op (S.q (q_sub rfl rfl (inI64 (by omega) (by omega))) rfl rfl ?_)
          refine S.op (S.q (q_lt rfl rfl) rfl rfl ?_)
          first | with_reducible refine S.nilK ?_ | refine S.nil ?_
          refine hK15 _ _ ?_
          refine S.condD rfl (fun h4 => ?_) (fun h4 => ?_)
          · rw [if_neg (by omega), if_pos (by omega)] at hps2
            refine S.seq fun K16 hK16 => ?_
            refine S.region rfl ?_
            refine S.op (S.q (q_assign rfl) rfl rfl ?_)
            first | with_reducible refine S.nilK ?_ | refine S.nil ?_
            refine hK16 _ _ ?_
            refine S.ret ?_
            with_reducible repeat (first | refine S.then_n ?_ | refine S.then_x ?_ | refine S.then_r ?_ | refine S.inBlock_n ?_ | refine S.inBlock_r ?_ | refine S.inBlock_x rfl ?_ | refine S.noGoto_r ?_ | refine S.noGoto_n ?_ | refine S.noGoto_x ?_)
            exact S.fin (rs := [_]) (vs := [_]) Tryd.results126 (⟨rfl, trivial⟩)  (⟨by rw [← hps2]; first | done | rfl, by rw [← hps2]⟩) Sub.ent
          · rw [if_neg (by omega), if_neg (by omega)] at hps2
            refine S.skip ?_
            with_reducible repeat (first | refine S.then_n ?_ | refine S.then_x ?_ | refine S.then_r ?_ | refine S.inBlock_n ?_ | refine S.inBlock_r ?_ | refine S.inBlock_x rfl ?_ | refine S.noGoto_r ?_ | refine S.noGoto_n ?_ | refine S.noGoto_x ?_)
            refine hK14 _ _ ?_
            refine S.seq fun K17 hK17 => ?_
            refine S.draw ([own s 68 1 (uA e)]) [15] Tryd.mixed ?_
            refine S.dr_take 0 [14, 15, 16, 17] rfl (by kernel_rfl) rfl rfl rfl (q_move rfl) Sub.ent ?_
            refine S.dr_take 1 [14, 15, 16, 17] rfl (by kernel_rfl) rfl rfl rfl (q_move rfl) Sub.ent ?_
            refine S.dr_takeP 2 rfl (by kernel_rfl) rfl rfl rfl (q_move rfl) Sub.ent ?_
            refine S.dr_takeP 3 rfl (by kernel_rfl) rfl rfl rfl (q_move rfl) Sub.ent ?_
            refine S.dr_takeP 4 rfl (by kernel_rfl) rfl rfl rfl (q_sub rfl rfl (inI64 (by omega) (by omega))) Sub.ent ?_
            refine S.dr_take 5 [8, 9, 14, 15, 16, 17] rfl (by kernel_rfl) rfl rfl rfl (q_move rfl) Sub.ent ?_
            refine S.dr_take 6 [7, 8, 9, 14, 15, 16, 17] rfl (by kernel_rfl) rfl rfl rfl (q_move rfl) Sub.ent ?_
            refine S.dr_take 7 [8, 9, 14, 15, 16, 17] rfl (by kernel_rfl) rfl rfl rfl (q_sub rfl rfl (inI64 (by omega) (by omega))) Sub.ent ?_
            refine S.dr_take 8 [9, 14, 15, 16, 17] rfl (by kernel_rfl) rfl rfl rfl (q_indexO (i2 - 1) Tryd.el31 rfl hsa rfl (by omega) (by omega)) Sub.ent ?_
            refine S.dr_take 9 [14, 15, 16, 17] rfl (by kernel_rfl) rfl rfl rfl (q_loadOw (s) (i2 - 1) Tryd.at68 rfl hsa (by first | rfl | exact Nat.add_assoc _ _ _ | omega) (uA_get (by omega))) Sub.ent ?_
            refine S.dr_take 10 [12, 13, 14, 15, 16, 17] rfl (by kernel_rfl) rfl rfl rfl (q_move rfl) Sub.ent ?_
            refine S.dr_take 11 [12, 13, 14, 15, 16, 17] rfl (by kernel_rfl) rfl rfl rfl (q_move rfl) Sub.ent ?_
            refine S.dr_take 12 [13, 14, 15, 16, 17] rfl (by kernel_rfl) rfl rfl rfl (q_indexO (i2) Tryd.el31 rfl hsa rfl rfl (by omega)) Sub.ent ?_
            refine S.dr_take 13 [14, 15, 16, 17] rfl (by kernel_rfl) rfl rfl rfl (q_loadOw (s) (i2) Tryd.at68 rfl hsa (by first | rfl | exact Nat.add_assoc _ _ _ | omega) (uA_get (by omega))) Sub.ent ?_
            refine S.dr_take 14 [15, 16, 17] rfl (by kernel_rfl) rfl rfl rfl (q_indexO (i2) Tryd.el31 rfl hsa rfl rfl (by omega)) Sub.ent ?_
            refine S.dr_1 (i := 15) (by kernel_rfl) rfl rfl ?_
            refine  (S.storeOw (s) (i2) Tryd.at68 rfl rfl rfl hsa (by first | rfl | exact Nat.add_assoc _ _ _ | omega) (by rw [uA_len]; omega) (uA_set _ _ _) ?_)
            refine S.dr_late ([]) [] rfl ?_
            refine S.dr_take 16 [] rfl (by kernel_rfl) rfl rfl rfl (q_indexO (i2 - 1) Tryd.el31 rfl hsa rfl (by omega) (by omega)) Sub.ent ?_
            refine S.dr_1 (i := 17) (by kernel_rfl) rfl rfl ?_
            refine  (S.storeOw (s) (i2 - 1) Tryd.at68 rfl rfl rfl hsa (by first | rfl | exact Nat.add_assoc _ _ _ | omega) (by rw [uA_len, Array.size_setIfInBounds]; omega) (show _ = uA (Go.Sort.swp e (i2) (i2 - 1)) from uA_set _ _ _) ?_)
            refine S.dr_k rfl Sub.ent ?_
            first | with_reducible refine S.dr_doneK (by kernel_rfl) ?_ | refine S.dr_done (by kernel_rfl) ?_
            refine hK17 _ _ ?_
            refine S.seq fun K18 hK18 => ?_
            refine S.seq fun K19 hK19 => ?_
            refine S.region rfl ?_
            refine S.op (S.q (q_move rfl) rfl rfl ?_)
            refine S.op (S.q (q_move rfl) rfl rfl ?_)
            refine S.op (S.q (q_sub rfl rfl (inI64 (by omega) (by omega))) rfl rfl ?_)
            refine S.op (S.q (q_ge rfl rfl) rfl rfl ?_)
            first | with_reducible refine S.nilK ?_ | refine S.nil ?_
            refine hK19 _ _ ?_
            refine S.cut (fun ρ' Γ' => ∃ f : Array Int, f.size = d.size ∧ f = fixDown ltInt a i2 (swp e i2 (i2 - 1)) ∧ ρ' = [(0, s.v), (1, .int .i64 (a : Int)), (2, .int .i64 (b : Int)), (7, .int .i64 (i2 : Int)), (8, .int .i64 (k : Int))] ∧ Γ' = own s 68 1 (uA f) :: Γ) ?_ ?_
            · refine S.condD rfl (fun h5 => ?_) (fun h5 => ?_)
              · have hfd : fixDown ltInt a i2 (swp e i2 (i2 - 1)) = shiftDown ltInt (i2 - 1) (swp e i2 (i2 - 1)) := if_pos (by omega)
                refine S.seq fun K20 hK20 => ?_
                refine S.region rfl ?_
                refine S.op (S.q (q_move rfl) rfl rfl ?_)
                refine S.op (S.q (q_sub rfl rfl (inI64 (by omega) (by omega))) rfl rfl ?_)
                refine S.op (S.q (q_assign rfl) rfl rfl ?_)
                first | with_reducible refine S.nilK ?_ | refine S.nil ?_
                refine hK20 _ _ ?_
                refine S.block ?_
                refine S.loop (fun q3 ρ' Γ' => ∃ (j : Nat) (z : Int) (f : Array Int), q3 = j ∧ z = j ∧ j < i2 ∧ f.size = d.size ∧ shiftDown ltInt j f = shiftDown ltInt (i2 - 1) (swp e i2 (i2 - 1)) ∧ ρ' = [(0, s.v), (1, .int .i64 (a : Int)), (2, .int .i64 (b : Int)), (7, .int .i64 (i2 : Int)), (8, .int .i64 (k : Int)), (9, .int .i64 z)] ∧ Γ' = own s 68 1 (uA f) :: Γ) (m := _) (ρ0 := _) (Γ0 := _) (⟨i2 - 1, (i2 : Int) - 1, swp e i2 (i2 - 1), rfl, by omega, by omega, by rw [swpZ, hes], rfl, rfl, rfl⟩) (by repeat (first | exact trivial | refine ⟨rfl, ?_⟩)) Sub.ent ?_
                rintro q3 ρ' Γ' ⟨j, z, f, hq3, hz, hji, hfs, hsd, rfl, rfl⟩
                refine S.seq fun K21 hK21 => ?_
                refine S.seq fun K22 hK22 => ?_
                refine S.region rfl ?_
                refine S.op (S.q (q_move rfl) rfl rfl ?_)
                refine S.op (S.q (q_ge rfl rfl) rfl rfl ?_)
                first | with_reducible refine S.nilK ?_ | refine S.nil ?_
                refine hK22 _ _ ?_
                refine S.condD rfl (fun h6 => ?_) (fun h6 => ?_)
                · refine S.skip ?_
                  with_reducible repeat (first | refine S.then_n ?_ | refine S.then_x ?_ | refine S.then_r ?_ | refine S.inBlock_n ?_ | refine S.inBlock_r ?_ | refine S.inBlock_x rfl ?_ | refine S.noGoto_r ?_ | refine S.noGoto_n ?_ | refine S.noGoto_x ?_)
                  refine hK21 _ _ ?_
                  refine S.seq fun K23 hK23 => ?_
                  refine S.block ?_
                  refine S.seq fun K24 hK24 => ?_
                  refine S.seq fun K25 hK25 => ?_
                  refine S.draw ([own s 68 1 (uA f)]) [] Tryd.mixed ?_
                  refine S.dr_take 0 [] rfl (by kernel_rfl) rfl rfl rfl (q_move rfl) Sub.ent ?_
                  refine S.dr_take 1 [] rfl (by kernel_rfl) rfl rfl rfl (q_move rfl) Sub.ent ?_
                  refine S.dr_take 2 [] rfl (by kernel_rfl) rfl rfl rfl (q_indexO (j) Tryd.el31 rfl hsa rfl hz (by omega)) Sub.ent ?_
                  refine S.dr_take 3 [] rfl (by kernel_rfl) rfl rfl rfl (q_loadOw (s) (j) Tryd.at68 rfl hsa (by first | rfl | exact Nat.add_assoc _ _ _ | omega) (uA_get (by omega))) Sub.ent ?_
                  refine S.dr_take 4 [] rfl (by kernel_rfl) rfl rfl rfl (q_move rfl) Sub.ent ?_
                  refine S.dr_take 5 [] rfl (by kernel_rfl) rfl rfl rfl (q_move rfl) Sub.ent ?_
                  refine S.dr_take 6 [] rfl (by kernel_rfl) rfl rfl rfl (q_sub rfl rfl (inI64 (by omega) (by omega))) Sub.ent ?_
                  refine S.dr_take 7 [] rfl (by kernel_rfl) rfl rfl rfl (q_indexO (j - 1) Tryd.el31 rfl hsa rfl (by omega) (by omega)) Sub.ent ?_
                  refine S.dr_take 8 [] rfl (by kernel_rfl) rfl rfl rfl (q_loadOw (s) (j - 1) Tryd.at68 rfl hsa (by first | rfl | exact Nat.add_assoc _ _ _ | omega) (uA_get (by omega))) Sub.ent ?_
                  refine S.dr_1 (i := 9) (by kernel_rfl) rfl rfl ?_
                  refine  (S.call Tryd.en127 (vs := [_, _]) ⟨rfl, rfl, trivial⟩ (Less_S (f[j]!) (f[j - 1]!)) rfl ?_)
                  rintro v Θ ⟨rfl, rfl⟩
                  refine S.dr_k rfl Sub.ent ?_
                  refine S.dr_take 10 [] rfl (by kernel_rfl) rfl rfl rfl (q_not rfl) Sub.ent ?_
                  first | with_reducible refine S.dr_doneK (by kernel_rfl) ?_ | refine S.dr_done (by kernel_rfl) ?_
                  refine hK25 _ _ ?_
                  refine S.cond rfl (fun h7 => ?_) (fun h7 => ?_)
                  · have hst : shiftDown ltInt j f = f := shiftDown_stop (fun h => by rw [h.2] at h7; cases h7)
                    refine S.exit ?_
                    with_reducible repeat (first | refine S.then_n ?_ | refine S.then_x ?_ | refine S.then_r ?_ | refine S.inBlock_n ?_ | refine S.inBlock_r ?_ | refine S.inBlock_x rfl ?_ | refine S.noGoto_r ?_ | refine S.noGoto_n ?_ | refine S.noGoto_x ?_)
                    with_reducible refine S.inBlock_s ?_
                    with_reducible repeat (first | refine S.then_n ?_ | refine S.then_x ?_ | refine S.then_r ?_ | refine S.inBlock_n ?_ | refine S.inBlock_r ?_ | refine S.inBlock_x rfl ?_ | refine S.noGoto_r ?_ | refine S.noGoto_n ?_ | refine S.noGoto_x ?_)
                    with_reducible repeat (first | refine S.then_n ?_ | refine S.then_x ?_ | refine S.then_r ?_ | refine S.inBlock_n ?_ | refine S.inBlock_r ?_ | refine S.inBlock_x rfl ?_ | refine S.noGoto_r ?_ | refine S.noGoto_n ?_ | refine S.noGoto_x ?_)
                    first | exact S.meet ⟨f, hfs, (hst.symm.trans hsd).trans hfd.symm, rfl, rfl⟩ ⟨rfl, rfl, rfl, rfl, rfl, trivial⟩ Sub.ent | exact S.meet ⟨swp e i2 (i2 - 1), by rw [swpZ, hes], hfd.symm, rfl, rfl⟩ ⟨rfl, rfl, rfl, rfl, rfl, trivial⟩ Sub.ent
                  · have hst2 : shiftDown ltInt j f = shiftDown ltInt (j - 1) (swp f j (j - 1)) := shiftDown_step (by omega) (by simpa using h7)
                    refine S.skip ?_
                    with_reducible repeat (first | refine S.then_n ?_ | refine S.then_x ?_ | refine S.then_r ?_ | refine S.inBlock_n ?_ | refine S.inBlock_r ?_ | refine S.inBlock_x rfl ?_ | refine S.noGoto_r ?_ | refine S.noGoto_n ?_ | refine S.noGoto_x ?_)
                    refine hK24 _ _ ?_
                    refine S.draw ([own s 68 1 (uA f)]) [15] Tryd.mixed ?_
                    refine S.dr_take 0 [14, 15, 16, 17] rfl (by kernel_rfl) rfl rfl rfl (q_move rfl) Sub.ent ?_
                    refine S.dr_take 1 [14, 15, 16, 17] rfl (by kernel_rfl) rfl rfl rfl (q_move rfl) Sub.ent ?_
                    refine S.dr_takeP 2 rfl (by kernel_rfl) rfl rfl rfl (q_move rfl) Sub.ent ?_
                    refine S.dr_takeP 3 rfl (by kernel_rfl) rfl rfl rfl (q_move rfl) Sub.ent ?_
                    refine S.dr_takeP 4 rfl (by kernel_rfl) rfl rfl rfl (q_sub rfl rfl (inI64 (by omega) (by omega))) Sub.ent ?_
                    refine S.dr_take 5 [8, 9, 14, 15, 16, 17] rfl (by kernel_rfl) rfl rfl rfl (q_move rfl) Sub.ent ?_
                    refine S.dr_take 6 [7, 8, 9, 14, 15, 16, 17] rfl (by kernel_rfl) rfl rfl rfl (q_move rfl) Sub.ent ?_
                    refine S.dr_take 7 [8, 9, 14, 15, 16, 17] rfl (by kernel_rfl) rfl rfl rfl (q_sub rfl rfl (inI64 (by omega) (by omega))) Sub.ent ?_
                    refine S.dr_take 8 [9, 14, 15, 16, 17] rfl (by kernel_rfl) rfl rfl rfl (q_indexO (j - 1) Tryd.el31 rfl hsa rfl (by omega) (by omega)) Sub.ent ?_
                    refine S.dr_take 9 [14, 15, 16, 17] rfl (by kernel_rfl) rfl rfl rfl (q_loadOw (s) (j - 1) Tryd.at68 rfl hsa (by first | rfl | exact Nat.add_assoc _ _ _ | omega) (uA_get (by omega))) Sub.ent ?_
                    refine S.dr_take 10 [12, 13, 14, 15, 16, 17] rfl (by kernel_rfl) rfl rfl rfl (q_move rfl) Sub.ent ?_
                    refine S.dr_take 11 [12, 13, 14, 15, 16, 17] rfl (by kernel_rfl) rfl rfl rfl (q_move rfl) Sub.ent ?_
                    refine S.dr_take 12 [13, 14, 15, 16, 17] rfl (by kernel_rfl) rfl rfl rfl (q_indexO (j) Tryd.el31 rfl hsa rfl hz (by omega)) Sub.ent ?_
                    refine S.dr_take 13 [14, 15, 16, 17] rfl (by kernel_rfl) rfl rfl rfl (q_loadOw (s) (j) Tryd.at68 rfl hsa (by first | rfl | exact Nat.add_assoc _ _ _ | omega) (uA_get (by omega))) Sub.ent ?_
                    refine S.dr_take 14 [15, 16, 17] rfl (by kernel_rfl) rfl rfl rfl (q_indexO (j) Tryd.el31 rfl hsa rfl hz (by omega)) Sub.ent ?_
                    refine S.dr_1 (i := 15) (by kernel_rfl) rfl rfl ?_
                    refine  (S.storeOw (s) (j) Tryd.at68 rfl rfl rfl hsa (by first | rfl | exact Nat.add_assoc _ _ _ | omega) (by rw [uA_len]; omega) (uA_set _ _ _) ?_)
                    refine S.dr_late ([]) [] rfl ?_
                    refine S.dr_take 16 [] rfl (by kernel_rfl) rfl rfl rfl (q_indexO (j - 1) Tryd.el31 rfl hsa rfl (by omega) (by omega)) Sub.ent ?_
                    refine S.dr_1 (i := 17) (by kernel_rfl) rfl rfl ?_
                    refine  (S.storeOw (s) (j - 1) Tryd.at68 rfl rfl rfl hsa (by first | rfl | exact Nat.add_assoc _ _ _ | omega) (by rw [uA_len, Array.size_setIfInBounds]; omega) (show _ = uA (Go.Sort.swp f (j) (j - 1)) from uA_set _ _ _) ?_)
                    refine S.dr_k rfl Sub.ent ?_
                    first | with_reducible refine S.dr_doneK (by kernel_rfl) ?_ | refine S.dr_done (by kernel_rfl) ?_
                    with_reducible repeat (first | refine S.then_n ?_ | refine S.then_x ?_ | refine S.then_r ?_ | refine S.inBlock_n ?_ | refine S.inBlock_r ?_ | refine S.inBlock_x rfl ?_ | refine S.noGoto_r ?_ | refine S.noGoto_n ?_ | refine S.noGoto_x ?_)
                    refine hK23 _ _ ?_
                    refine S.region rfl ?_
                    refine S.op (S.q (q_move rfl) rfl rfl ?_)
                    refine S.op (S.q (q_sub rfl rfl (inI64 (by omega) (by omega))) rfl rfl ?_)
                    refine S.op (S.q (q_assign rfl) rfl rfl ?_)
                    first | with_reducible refine S.nilK ?_ | refine S.nil ?_
                    with_reducible repeat (first | refine S.then_n ?_ | refine S.then_x ?_ | refine S.then_r ?_ | refine S.inBlock_n ?_ | refine S.inBlock_r ?_ | refine S.inBlock_x rfl ?_ | refine S.noGoto_r ?_ | refine S.noGoto_n ?_ | refine S.noGoto_x ?_)
                    exact S.next (j - 1) (⟨j - 1, z - 1, swp f j (j - 1), rfl, by omega, by omega, by rw [swpZ, hfs], hst2.symm.trans hsd, rfl, rfl⟩) (by omega) (by repeat (first | exact trivial | refine ⟨rfl, ?_⟩)) Sub.ent
                · have hst : shiftDown ltInt j f = f := shiftDown_stop (fun h => by omega)
                  refine S.exit ?_
                  with_reducible repeat (first | refine S.then_n ?_ | refine S.then_x ?_ | refine S.then_r ?_ | refine S.inBlock_n ?_ | refine S.inBlock_r ?_ | refine S.inBlock_x rfl ?_ | refine S.noGoto_r ?_ | refine S.noGoto_n ?_ | refine S.noGoto_x ?_)
                  with_reducible refine S.inBlock_s ?_
                  with_reducible repeat (first | refine S.then_n ?_ | refine S.then_x ?_ | refine S.then_r ?_ | refine S.inBlock_n ?_ | refine S.inBlock_r ?_ | refine S.inBlock_x rfl ?_ | refine S.noGoto_r ?_ | refine S.noGoto_n ?_ | refine S.noGoto_x ?_)
                  with_reducible repeat (first | refine S.then_n ?_ | refine S.then_x ?_ | refine S.then_r ?_ | refine S.inBlock_n ?_ | refine S.inBlock_r ?_ | refine S.inBlock_x rfl ?_ | refine S.noGoto_r ?_ | refine S.noGoto_n ?_ | refine S.noGoto_x ?_)
                  first | exact S.meet ⟨f, hfs, (hst.symm.trans hsd).trans hfd.symm, rfl, rfl⟩ ⟨rfl, rfl, rfl, rfl, rfl, trivial⟩ Sub.ent | exact S.meet ⟨swp e i2 (i2 - 1), by rw [swpZ, hes], hfd.symm, rfl, rfl⟩ ⟨rfl, rfl, rfl, rfl, rfl, trivial⟩ Sub.ent
              · have hfd : fixDown ltInt a i2 (swp e i2 (i2 - 1)) = swp e i2 (i2 - 1) := if_neg (by omega)
                refine S.skip ?_
                with_reducible repeat (first | refine S.then_n ?_ | refine S.then_x ?_ | refine S.then_r ?_ | refine S.inBlock_n ?_ | refine S.inBlock_r ?_ | refine S.inBlock_x rfl ?_ | refine S.noGoto_r ?_ | refine S.noGoto_n ?_ | refine S.noGoto_x ?_)
                with_reducible repeat (first | refine S.then_n ?_ | refine S.then_x ?_ | refine S.then_r ?_ | refine S.inBlock_n ?_ | refine S.inBlock_r ?_ | refine S.inBlock_x rfl ?_ | refine S.noGoto_r ?_ | refine S.noGoto_n ?_ | refine S.noGoto_x ?_)
                first | exact S.meet ⟨f, hfs, (hst.symm.trans hsd).trans hfd.symm, rfl, rfl⟩ ⟨rfl, rfl, rfl, rfl, rfl, trivial⟩ Sub.ent | exact S.meet ⟨swp e i2 (i2 - 1), by rw [swpZ, hes], hfd.symm, rfl, rfl⟩ ⟨rfl, rfl, rfl, rfl, rfl, trivial⟩ Sub.ent
            · rintro ρ' Γ' ⟨f, hfs, hff, rfl, rfl⟩
              rw [← hff] at hps2
              refine hK18 _ _ ?_
              refine S.seq fun K26 hK26 => ?_
              refine S.region rfl ?_
              refine S.op (S.q (q_move rfl) rfl rfl ?_)
              refine S.op (S.q (q_move rfl) rfl rfl ?_)
              refine S.op (S.q (q_sub rfl rfl (inI64 (by omega) (by omega))) rfl rfl ?_)
              refine S.op (S.q (q_ge rfl rfl) rfl rfl ?_)
              first | with_reducible refine S.nilK ?_ | refine S.nil ?_
              refine hK26 _ _ ?_
              refine S.condD rfl (fun h8 => ?_) (fun h8 => ?_)
              · have hfu : fixUp ltInt b i2 f = shiftUp ltInt b (i2 + 1) f := if_pos (by omega)
                refine S.seq fun K27 hK27 => ?_
                refine S.region rfl ?_
                refine S.op (S.q (q_move rfl) rfl rfl ?_)
                refine S.op (S.q (q_add rfl rfl (inI64 (by omega) (by omega))) rfl rfl ?_)
                refine S.op (S.q (q_assign rfl) rfl rfl ?_)
                first | with_reducible refine S.nilK ?_ | refine S.nil ?_
                refine hK27 _ _ ?_
                refine S.block ?_
                refine S.loop (fun q4 ρ' Γ' => ∃ (j : Nat) (g : Array Int), q4 = b - j ∧ i2 < j ∧ j ≤ b ∧ g.size = d.size ∧ shiftUp ltInt b j g = shiftUp ltInt b (i2 + 1) f ∧ ρ' = [(0, s.v), (1, .int .i64 (a : Int)), (2, .int .i64 (b : Int)), (7, .int .i64 (i2 : Int)), (8, .int .i64 (k : Int)), (10, .int .i64 (j : Int))] ∧ Γ' = own s 68 1 (uA g) :: Γ) (m := _) (ρ0 := _) (Γ0 := _) (⟨i2 + 1, f, rfl, by omega, by omega, hfs, rfl, rfl, rfl⟩) (by repeat (first | exact trivial | refine ⟨rfl, ?_⟩)) Sub.ent ?_
                rintro q4 ρ' Γ' ⟨j, g, hq4, hij, hjb, hgs, hsu, rfl, rfl⟩
                refine S.seq fun K28 hK28 => ?_
                refine S.seq fun K29 hK29 => ?_
                refine S.region rfl ?_
                refine S.op (S.q (q_move rfl) rfl rfl ?_)
                refine S.op (S.q (q_move rfl) rfl rfl ?_)
                refine S.op (S.q (q_lt rfl rfl) rfl rfl ?_)
                first | with_reducible refine S.nilK ?_ | refine S.nil ?_
                refine hK29 _ _ ?_
                refine S.condD rfl (fun h9 => ?_) (fun h9 => ?_)
                · refine S.skip ?_
                  with_reducible repeat (first | refine S.then_n ?_ | refine S.then_x ?_ | refine S.then_r ?_ | refine S.inBlock_n ?_ | refine S.inBlock_r ?_ | refine S.inBlock_x rfl ?_ | refine S.noGoto_r ?_ | refine S.noGoto_n ?_ | refine S.noGoto_x ?_)
                  refine hK28 _ _ ?_
                  refine S.seq fun K30 hK30 => ?_
                  refine S.block ?_
                  refine S.seq fun K31 hK31 => ?_
                  refine S.seq fun K32 hK32 => ?_
                  refine S.draw ([own s 68 1 (uA g)]) [] Tryd.mixed ?_
                  refine S.dr_take 0 [] rfl (by kernel_rfl) rfl rfl rfl (q_move rfl) Sub.ent ?_
                  refine S.dr_take 1 [] rfl (by kernel_rfl) rfl rfl rfl (q_move rfl) Sub.ent ?_
                  refine S.dr_take 2 [] rfl (by kernel_rfl) rfl rfl rfl (q_indexO (j) Tryd.el31 rfl hsa rfl rfl (by omega)) Sub.ent ?_
                  refine S.dr_take 3 [] rfl (by kernel_rfl) rfl rfl rfl (q_loadOw (s) (j) Tryd.at68 rfl hsa (by first | rfl | exact Nat.add_assoc _ _ _ | omega) (uA_get (by omega))) Sub.ent ?_
                  refine S.dr_take 4 [] rfl (by kernel_rfl) rfl rfl rfl (q_move rfl) Sub.ent ?_
                  refine S.dr_take 5 [] rfl (by kernel_rfl) rfl rfl rfl (q_move rfl) Sub.ent ?_
                  refine S.dr_take 6 [] rfl (by kernel_rfl) rfl rfl rfl (q_sub rfl rfl (inI64 (by omega) (by omega))) Sub.ent ?_
                  refine S.dr_take 7 [] rfl (by kernel_rfl) rfl rfl rfl (q_indexO (j - 1) Tryd.el31 rfl hsa rfl (by omega) (by omega)) Sub.ent ?_
                  refine S.dr_take 8 [] rfl (by kernel_rfl) rfl rfl rfl (q_loadOw (s) (j - 1) Tryd.at68 rfl hsa (by first | rfl | exact Nat.add_assoc _ _ _ | omega) (uA_get (by omega))) Sub.ent ?_
                  refine S.dr_1 (i := 9) (by kernel_rfl) rfl rfl ?_
                  refine  (S.call Tryd.en127 (vs := [_, _]) ⟨rfl, rfl, trivial⟩ (Less_S (g[j]!) (g[j - 1]!)) rfl ?_)
                  rintro v Θ ⟨rfl, rfl⟩
                  refine S.dr_k rfl Sub.ent ?_
                  refine S.dr_take 10 [] rfl (by kernel_rfl) rfl rfl rfl (q_not rfl) Sub.ent ?_
                  first | with_reducible refine S.dr_doneK (by kernel_rfl) ?_ | refine S.dr_done (by kernel_rfl) ?_
                  refine hK32 _ _ ?_
                  refine S.cond rfl (fun h10 => ?_) (fun h10 => ?_)
                  · have hst : shiftUp ltInt b j g = g := shiftUp_stop (fun h => by rw [h.2] at h10; cases h10)
                    refine S.exit ?_
                    with_reducible repeat (first | refine S.then_n ?_ | refine S.then_x ?_ | refine S.then_r ?_ | refine S.inBlock_n ?_ | refine S.inBlock_r ?_ | refine S.inBlock_x rfl ?_ | refine S.noGoto_r ?_ | refine S.noGoto_n ?_ | refine S.noGoto_x ?_)
                    with_reducible refine S.inBlock_s ?_
                    with_reducible repeat (first | refine S.then_n ?_ | refine S.then_x ?_ | refine S.then_r ?_ | refine S.inBlock_n ?_ | refine S.inBlock_r ?_ | refine S.inBlock_x rfl ?_ | refine S.noGoto_r ?_ | refine S.noGoto_n ?_ | refine S.noGoto_x ?_)
                    with_reducible repeat (first | refine S.then_n ?_ | refine S.then_x ?_ | refine S.then_r ?_ | refine S.inBlock_n ?_ | refine S.inBlock_r ?_ | refine S.inBlock_x rfl ?_ | refine S.noGoto_r ?_ | refine S.noGoto_n ?_ | refine S.noGoto_x ?_)
                    with_reducible repeat (first | refine S.then_n ?_ | refine S.then_x ?_ | refine S.then_r ?_ | refine S.inBlock_n ?_ | refine S.inBlock_r ?_ | refine S.inBlock_x rfl ?_ | refine S.noGoto_r ?_ | refine S.noGoto_n ?_ | refine S.noGoto_x ?_)
                    first | exact S.meet ⟨i2, g, by omega, by omega, hgs, by rw [← (hst.symm.trans hsu).trans hfu.symm] at hps2; exact hps2, rfl, rfl⟩ ⟨rfl, rfl, rfl, rfl, rfl, trivial⟩ Sub.ent | exact S.meet ⟨i2, f, by omega, by omega, hfs, hps2, rfl, rfl⟩ ⟨rfl, rfl, rfl, rfl, rfl, trivial⟩ Sub.ent
                  · have hst2 : shiftUp ltInt b j g = shiftUp ltInt b (j + 1) (swp g j (j - 1)) := shiftUp_step (by omega) (by simpa using h10)
                    refine S.skip ?_
                    with_reducible repeat (first | refine S.then_n ?_ | refine S.then_x ?_ | refine S.then_r ?_ | refine S.inBlock_n ?_ | refine S.inBlock_r ?_ | refine S.inBlock_x rfl ?_ | refine S.noGoto_r ?_ | refine S.noGoto_n ?_ | refine S.noGoto_x ?_)
                    refine hK31 _ _ ?_
                    refine S.draw ([own s 68 1 (uA g)]) [15] Tryd.mixed ?_
                    refine S.dr_take 0 [14, 15, 16, 17] rfl (by kernel_rfl) rfl rfl rfl (q_move rfl) Sub.ent ?_
                    refine S.dr_take 1 [14, 15, 16, 17] rfl (by kernel_rfl) rfl rfl rfl (q_move rfl) Sub.ent ?_
                    refine S.dr_takeP 2 rfl (by kernel_rfl) rfl rfl rfl (q_move rfl) Sub.ent ?_
                    refine S.dr_takeP 3 rfl (by kernel_rfl) rfl rfl rfl (q_move rfl) Sub.ent ?_
                    refine S.dr_takeP 4 rfl (by kernel_rfl) rfl rfl rfl (q_sub rfl rfl (inI64 (by omega) (by omega))) Sub.ent ?_
                    refine S.dr_take 5 [8, 9, 14, 15, 16, 17] rfl (by kernel_rfl) rfl rfl rfl (q_move rfl) Sub.ent ?_
                    refine S.dr_take 6 [7, 8, 9, 14, 15, 16, 17] rfl (by kernel_rfl) rfl rfl rfl (q_move rfl) Sub.ent ?_
                    refine S.dr_take 7 [8, 9, 14, 15, 16, 17] rfl (by kernel_rfl) rfl rfl rfl (q_sub rfl rfl (inI64 (by omega) (by omega))) Sub.ent ?_
                    refine S.dr_take 8 [9, 14, 15, 16, 17] rfl (by kernel_rfl) rfl rfl rfl (q_indexO (j - 1) Tryd.el31 rfl hsa rfl (by omega) (by omega)) Sub.ent ?_
                    refine S.dr_take 9 [14, 15, 16, 17] rfl (by kernel_rfl) rfl rfl rfl (q_loadOw (s) (j - 1) Tryd.at68 rfl hsa (by first | rfl | exact Nat.add_assoc _ _ _ | omega) (uA_get (by omega))) Sub.ent ?_
                    refine S.dr_take 10 [12, 13, 14, 15, 16, 17] rfl (by kernel_rfl) rfl rfl rfl (q_move rfl) Sub.ent ?_
                    refine S.dr_take 11 [12, 13, 14, 15, 16, 17] rfl (by kernel_rfl) rfl rfl rfl (q_move rfl) Sub.ent ?_
                    refine S.dr_take 12 [13, 14, 15, 16, 17] rfl (by kernel_rfl) rfl rfl rfl (q_indexO (j) Tryd.el31 rfl hsa rfl rfl (by omega)) Sub.ent ?_
                    refine S.dr_take 13 [14, 15, 16, 17] rfl (by kernel_rfl) rfl rfl rfl (q_loadOw (s) (j) Tryd.at68 rfl hsa (by first | rfl | exact Nat.add_assoc _ _ _ | omega) (uA_get (by omega))) Sub.ent ?_
                    refine S.dr_take 14 [15, 16, 17] rfl (by kernel_rfl) rfl rfl rfl (q_indexO (j) Tryd.el31 rfl hsa rfl rfl (by omega)) Sub.ent ?_
                    refine S.dr_1 (i := 15) (by kernel_rfl) rfl rfl ?_
                    refine  (S.storeOw (s) (j) Tryd.at68 rfl rfl rfl hsa (by first | rfl | exact Nat.add_assoc _ _ _ | omega) (by rw [uA_len]; omega) (uA_set _ _ _) ?_)
                    refine S.dr_late ([]) [] rfl ?_
                    refine S.dr_take 16 [] rfl (by kernel_rfl) rfl rfl rfl (q_indexO (j - 1) Tryd.el31 rfl hsa rfl (by omega) (by omega)) Sub.ent ?_
                    refine S.dr_1 (i := 17) (by kernel_rfl) rfl rfl ?_
                    refine  (S.storeOw (s) (j - 1) Tryd.at68 rfl rfl rfl hsa (by first | rfl | exact Nat.add_assoc _ _ _ | omega) (by rw [uA_len, Array.size_setIfInBounds]; omega) (show _ = uA (Go.Sort.swp g (j) (j - 1)) from uA_set _ _ _) ?_)
                    refine S.dr_k rfl Sub.ent ?_
                    first | with_reducible refine S.dr_doneK (by kernel_rfl) ?_ | refine S.dr_done (by kernel_rfl) ?_
                    with_reducible repeat (first | refine S.then_n ?_ | refine S.then_x ?_ | refine S.then_r ?_ | refine S.inBlock_n ?_ | refine S.inBlock_r ?_ | refine S.inBlock_x rfl ?_ | refine S.noGoto_r ?_ | refine S.noGoto_n ?_ | refine S.noGoto_x ?_)
                    refine hK30 _ _ ?_
                    refine S.region rfl ?_
                    refine S.op (S.q (q_move rfl) rfl rfl ?_)
                    refine S.op (S.q (q_add rfl rfl (inI64 (by omega) (by omega))) rfl rfl ?_)
                    refine S.op (S.q (q_assign rfl) rfl rfl ?_)
                    first | with_reducible refine S.nilK ?_ | refine S.nil ?_
                    with_reducible repeat (first | refine S.then_n ?_ | refine S.then_x ?_ | refine S.then_r ?_ | refine S.inBlock_n ?_ | refine S.inBlock_r ?_ | refine S.inBlock_x rfl ?_ | refine S.noGoto_r ?_ | refine S.noGoto_n ?_ | refine S.noGoto_x ?_)
                    exact S.next (q4 - 1) (⟨j + 1, swp g j (j - 1), by omega, by omega, by omega, by rw [swpZ, hgs], hst2.symm.trans hsu, rfl, rfl⟩) (by omega) (by repeat (first | exact trivial | refine ⟨rfl, ?_⟩)) Sub.ent
                · have hst : shiftUp ltInt b j g = g := shiftUp_stop (fun h => by omega)
                  refine S.exit ?_
                  with_reducible repeat (first | refine S.then_n ?_ | refine S.then_x ?_ | refine S.then_r ?_ | refine S.inBlock_n ?_ | refine S.inBlock_r ?_ | refine S.inBlock_x rfl ?_ | refine S.noGoto_r ?_ | refine S.noGoto_n ?_ | refine S.noGoto_x ?_)
                  with_reducible refine S.inBlock_s ?_
                  with_reducible repeat (first | refine S.then_n ?_ | refine S.then_x ?_ | refine S.then_r ?_ | refine S.inBlock_n ?_ | refine S.inBlock_r ?_ | refine S.inBlock_x rfl ?_ | refine S.noGoto_r ?_ | refine S.noGoto_n ?_ | refine S.noGoto_x ?_)
                  with_reducible repeat (first | refine S.then_n ?_ | refine S.then_x ?_ | refine S.then_r ?_ | refine S.inBlock_n ?_ | refine S.inBlock_r ?_ | refine S.inBlock_x rfl ?_ | refine S.noGoto_r ?_ | refine S.noGoto_n ?_ | refine S.noGoto_x ?_)
                  with_reducible repeat (first | refine S.then_n ?_ | refine S.then_x ?_ | refine S.then_r ?_ | refine S.inBlock_n ?_ | refine S.inBlock_r ?_ | refine S.inBlock_x rfl ?_ | refine S.noGoto_r ?_ | refine S.noGoto_n ?_ | refine S.noGoto_x ?_)
                  first | exact S.meet ⟨i2, g, by omega, by omega, hgs, by rw [← (hst.symm.trans hsu).trans hfu.symm] at hps2; exact hps2, rfl, rfl⟩ ⟨rfl, rfl, rfl, rfl, rfl, trivial⟩ Sub.ent | exact S.meet ⟨i2, f, by omega, by omega, hfs, hps2, rfl, rfl⟩ ⟨rfl, rfl, rfl, rfl, rfl, trivial⟩ Sub.ent
              · have hfu : fixUp ltInt b i2 f = f := if_neg (by omega)
                rw [hfu] at hps2
                refine S.skip ?_
                with_reducible repeat (first | refine S.then_n ?_ | refine S.then_x ?_ | refine S.then_r ?_ | refine S.inBlock_n ?_ | refine S.inBlock_r ?_ | refine S.inBlock_x rfl ?_ | refine S.noGoto_r ?_ | refine S.noGoto_n ?_ | refine S.noGoto_x ?_)
                with_reducible repeat (first | refine S.then_n ?_ | refine S.then_x ?_ | refine S.then_r ?_ | refine S.inBlock_n ?_ | refine S.inBlock_r ?_ | refine S.inBlock_x rfl ?_ | refine S.noGoto_r ?_ | refine S.noGoto_n ?_ | refine S.noGoto_x ?_)
                with_reducible repeat (first | refine S.then_n ?_ | refine S.then_x ?_ | refine S.then_r ?_ | refine S.inBlock_n ?_ | refine S.inBlock_r ?_ | refine S.inBlock_x rfl ?_ | refine S.noGoto_r ?_ | refine S.noGoto_n ?_ | refine S.noGoto_x ?_)
                first | exact S.meet ⟨i2, g, by omega, by omega, hgs, by rw [← (hst.symm.trans hsu).trans hfu.symm] at hps2; exact hps2, rfl, rfl⟩ ⟨rfl, rfl, rfl, rfl, rfl, trivial⟩ Sub.ent | exact S.meet ⟨i2, f, by omega, by omega, hfs, hps2, rfl, rfl⟩ ⟨rfl, rfl, rfl, rfl, rfl, trivial⟩ Sub.ent
    · rintro ρ' Γ' ⟨i2, g, hai2, hib2, hgs, hps3, rfl, rfl⟩
      refine hK7 _ _ ?_
      refine S.region rfl ?_
      refine S.op (S.q (q_move rfl) rfl rfl ?_)
      refine S.op (S.q (q_add rfl rfl (inI64 (by omega) (by omega))) rfl rfl ?_)
      refine S.op (S.q (q_assign rfl) rfl rfl ?_)
      first | with_reducible refine S.nilK ?_ | refine S.nil ?_
      with_reducible repeat (first | refine S.then_n ?_ | refine S.then_x ?_ | refine S.then_r ?_ | refine S.inBlock_n ?_ | refine S.inBlock_r ?_ | refine S.inBlock_x rfl ?_ | refine S.noGoto_r ?_ | refine S.noGoto_n ?_ | refine S.noGoto_x ?_)
      exact S.next (q - 1) (⟨k + 1, i2, g, by omega, by omega, by omega, by omega, hgs, hps3, rfl, rfl⟩) (by omega) (by repeat (first | exact trivial | refine ⟨rfl, ?_⟩)) Sub.ent
  · rw [show 5 - k = 0 by omega] at hps
    have hps : (e, false) = partialInsertionSort ltInt d a b := hps
    refine S.exit ?_
    with_reducible repeat (first | refine S.then_n ?_ | refine S.then_x ?_ | refine S.then_r ?_ | refine S.inBlock_n ?_ | refine S.inBlock_r ?_ | refine S.inBlock_x rfl ?_ | refine S.noGoto_r ?_ | refine S.noGoto_n ?_ | refine S.noGoto_x ?_)
    with_reducible refine S.inBlock_s ?_
    with_reducible repeat (first | refine S.then_n ?_ | refine S.then_x ?_ | refine S.then_r ?_ | refine S.inBlock_n ?_ | refine S.inBlock_r ?_ | refine S.inBlock_x rfl ?_ | refine S.noGoto_r ?_ | refine S.noGoto_n ?_ | refine S.noGoto_x ?_)
    refine hK3 _ _ ?_
    refine S.seq fun K33 hK33 => ?_
    refine S.region rfl ?_
    refine S.op (S.q (q_assign rfl) rfl rfl ?_)
    first | with_reducible refine S.nilK ?_ | refine S.nil ?_
    refine hK33 _ _ ?_
    refine S.ret ?_
    with_reducible repeat (first | refine S.then_n ?_ | refine S.then_x ?_ | refine S.then_r ?_ | refine S.inBlock_n ?_ | refine S.inBlock_r ?_ | refine S.inBlock_x rfl ?_ | refine S.noGoto_r ?_ | refine S.noGoto_n ?_ | refine S.noGoto_x ?_)
    exact S.fin (rs := [_]) (vs := [_]) Tryd.results126 (⟨rfl, trivial⟩)  (⟨by rw [← hps]; first | done | rfl, by rw [← hps]⟩) Sub.ent
theorem partition_S (s : SV) (d : Array Int) (a b pv : Nat) (hap : a ≤ pv) (hpb : pv < b) (hb : b ≤ d.size) (hsz : d.size ≤ 65535) (hsn : s.n = d.size) : Spec Tryd.prog 129 [s.v, .int .i64 (a : Int), .int .i64 (b : Int), .int .i64 (pv : Int)] [own s 68 1 (uA d)] fun Γ v Θ => v = .tuple #[.int .i64 ((partition ltInt d a b pv).1 : Nat), .bool (partition ltInt d a b pv).2.1] ∧ Θ = own s 68 1 (uA (partition ltInt d a b pv).2.2) :: Γ := by
  refine Spec.of_body Tryd.func129 rfl Tryd.ntmps129 rfl ?_
  intro w0 Γ
  show S _ w0 [(0, s.v), (1, .int .i64 (a : Int)), (2, .int .i64 (b : Int)), (3, .int .i64 (pv : Int))] (own s 68 1 (uA d) :: Γ) _
  refine S.ownSome s (by omega) fun sb so hsa _ _ _ => ?_
  obtain ⟨e, he⟩ : ∃ e, e = swp d a pv := ⟨_, rfl⟩
  have hes : e.size = d.size := by rw [he, swpZ]
  obtain ⟨p, hp⟩ : ∃ p : Array Int → Int → Bool, p = fun f x => ltInt x f[a]! := ⟨_, rfl⟩
  obtain ⟨q, hq⟩ : ∃ q : Array Int → Int → Bool, q = fun f x => !ltInt x f[a]! := ⟨_, rfl⟩
  have hpq : ∀ f x, q f x = !p f x := fun f x => by rw [hp, hq]
  have hpv : ∀ f x, ltInt x f[a]! = true → p f x = true := fun f x h => by rw [hp]; exact h
  have hpn : ∀ f x, p f x = true → ltInt x f[a]! = true := fun f x h => by rw [hp] at h; exact h
  have hqv : ∀ f x, (!ltInt x f[a]!) = true → q f x = true := fun f x h => by rw [hq]; exact h
  have hqn : ∀ f x, q f x = true → (!ltInt x f[a]!) = true := fun f x h => by rw [hq] at h; exact h
  have hpt : partition ltInt d a b pv = if scanUp (p e) e (b - 1) (a + 1) > scanDown (q e) e (scanUp (p e) e (b - 1) (a + 1)) (b - 1) then (scanDown (q e) e (scanUp (p e) e (b - 1) (a + 1)) (b - 1), true, swp e (scanDown (q e) e (scanUp (p e) e (b - 1) (a + 1)) (b - 1)) a) else
      ((partLoop ltInt a (scanUp (p e) e (b - 1) (a + 1) + 1) (scanDown (q e) e (scanUp (p e) e (b - 1) (a + 1)) (b - 1) - 1) (swp e (scanUp (p e) e (b - 1) (a + 1)) (scanDown (q e) e (scanUp (p e) e (b - 1) (a + 1)) (b - 1)))).1, false,
        swp (partLoop ltInt a (scanUp (p e) e (b - 1) (a + 1) + 1) (scanDown (q e) e (scanUp (p e) e (b - 1) (a + 1)) (b - 1) - 1) (swp e (scanUp (p e) e (b - 1) (a + 1)) (scanDown (q e) e (scanUp (p e) e (b - 1) (a + 1)) (b - 1)))).2 (partLoop ltInt a (scanUp (p e) e (b - 1) (a + 1) + 1) (scanDown (q e) e (scanUp (p e) e (b - 1) (a + 1)) (b - 1) - 1) (swp e (scanUp (p e) e (b - 1) (a + 1)) (scanDown (q e) e (scanUp (p e) e (b - 1) (a + 1)) (b - 1)))).1 a) := by
    rw [hp, hq, he]
    rfl
  have hpl : ∀ i j f, partLoop ltInt a i j f = if scanUp (p f) f j i > scanDown (q f) f (scanUp (p f) f j i) j then (scanDown (q f) f (scanUp (p f) f j i) j, f) else partLoop ltInt a (scanUp (p f) f j i + 1) (scanDown (q f) f (scanUp (p f) f j i) j - 1) (swp f (scanUp (p f) f j i) (scanDown (q f) f (scanUp (p f) f j i) j)) := fun i j f => by
    rw [hp, hq]
    exact partLoop_eq ltInt a i j f
  clear hp hq
  refine S.seq fun K1 hK1 => ?_
  refine S.region rfl ?_
  refine S.op (S.q (q_assign rfl) rfl rfl ?_)
  refine S.op (S.q (q_assign rfl) rfl rfl ?_)
  first | with_reducible refine S.nilK ?_ | refine S.nil ?_
  refine hK1 _ _ ?_
  refine S.seq fun K2 hK2 => ?_
  refine S.draw ([own s 68 1 (uA d)]) [13] Tryd.mixed ?_
  refine S.dr_take 0 [12, 13, 14, 15] rfl (by kernel_rfl) rfl rfl rfl (q_move rfl) Sub.ent ?_
  refine S.dr_take 1 [12, 13, 14, 15] rfl (by kernel_rfl) rfl rfl rfl (q_move rfl) Sub.ent ?_
  refine S.dr_takeP 2 rfl (by kernel_rfl) rfl rfl rfl (q_move rfl) Sub.ent ?_
  refine S.dr_takeP 3 rfl (by kernel_rfl) rfl rfl rfl (q_move rfl) Sub.ent ?_
  refine S.dr_take 4 [6, 7, 12, 13, 14, 15] rfl (by kernel_rfl) rfl rfl rfl (q_move rfl) Sub.ent ?_
  refine S.dr_take 5 [6, 7, 12, 13, 14, 15] rfl (by kernel_rfl) rfl rfl rfl (q_move rfl) Sub.ent ?_
  refine S.dr_take 6 [7, 12, 13, 14, 15] rfl (by kernel_rfl) rfl rfl rfl (q_indexO (pv) Tryd.el31 rfl hsa rfl rfl (by omega)) Sub.ent ?_
  refine S.dr_take 7 [12, 13, 14, 15] rfl (by kernel_rfl) rfl rfl rfl (q_loadOw (s) (pv) Tryd.at68 rfl hsa (by first | rfl | exact Nat.add_assoc _ _ _ | omega) (uA_get (by omega))) Sub.ent ?_
  refine S.dr_take 8 [10, 11, 12, 13, 14, 15] rfl (by kernel_rfl) rfl rfl rfl (q_move rfl) Sub.ent ?_
  refine S.dr_take 9 [10, 11, 12, 13, 14, 15] rfl (by kernel_rfl) rfl rfl rfl (q_move rfl) Sub.ent ?_
  refine S.dr_take 10 [11, 12, 13, 14, 15] rfl (by kernel_rfl) rfl rfl rfl (q_indexO (a) Tryd.el31 rfl hsa rfl rfl (by omega)) Sub.ent ?_
  refine S.dr_take 11 [12, 13, 14, 15] rfl (by kernel_rfl) rfl rfl rfl (q_loadOw (s) (a) Tryd.at68 rfl hsa (by first | rfl | exact Nat.add_assoc _ _ _ | omega) (uA_get (by omega))) Sub.ent ?_
  refine S.dr_take 12 [13, 14, 15] rfl (by kernel_rfl) rfl rfl rfl (q_indexO (a) Tryd.el31 rfl hsa rfl rfl (by omega)) Sub.ent ?_
  refine S.dr_1 (i := 13) (by kernel_rfl) rfl rfl ?_
  refine  (S.storeOw (s) (a) Tryd.at68 rfl rfl rfl hsa (by first | rfl | exact Nat.add_assoc _ _ _ | omega) (by rw [uA_len]; omega) (uA_set _ _ _) ?_)
  refine S.dr_late ([]) [] rfl ?_
  refine S.dr_take 14 [] rfl (by kernel_rfl) rfl rfl rfl (q_indexO (pv) Tryd.el31 rfl hsa rfl rfl (by omega)) Sub.ent ?_
  refine S.dr_1 (i := 15) (by kernel_rfl) rfl rfl ?_
  refine  (S.storeOw (s) (pv) Tryd.at68 rfl rfl rfl hsa (by first | rfl | exact Nat.add_assoc _ _ _ | omega) (by rw [uA_len, Array.size_setIfInBounds]; omega) (show _ = uA (Go.Sort.swp d (a) (pv)) from uA_set _ _ _) ?_)
  refine S.dr_k rfl Sub.ent ?_
  first | with_reducible refine S.dr_doneK (by kernel_rfl) ?_ | refine S.dr_done (by kernel_rfl) ?_
  refine hK2 _ _ ?_
  refine S.seq fun K3 hK3 => ?_
  refine S.region rfl ?_
  rw [← he]
  refine S.op (S.q (q_move rfl) rfl rfl ?_)
  refine S.op (S.q (q_add rfl rfl (inI64 (by omega) (by omega))) rfl rfl ?_)
  refine S.op (S.q (q_move rfl) rfl rfl ?_)
  refine S.op (S.q (q_sub rfl rfl (inI64 (by omega) (by omega))) rfl rfl ?_)
  refine S.op (S.q (q_assign rfl) rfl rfl ?_)
  refine S.op (S.q (q_assign rfl) rfl rfl ?_)
  first | with_reducible refine S.nilK ?_ | refine S.nil ?_
  refine hK3 _ _ ?_
  refine S.seq fun K4 hK4 => ?_
  refine S.cut (fun ρ' Γ' => ∃ i1 : Nat, i1 = scanUp (p e) e (b - 1) (a + 1) ∧ a < i1 ∧ i1 ≤ b ∧ ρ' = [(0, s.v), (1, .int .i64 (a : Int)), (10, .int .i64 (i1 : Int)), (11, .int .i64 ((b : Int) - 1))] ∧ Γ' = own s 68 1 (uA e) :: Γ) ?_ ?_
  · refine S.block ?_
    refine S.loop (fun r ρ' Γ' => ∃ i' : Nat, r = b - i' ∧ a < i' ∧ i' ≤ b ∧ scanUp (p e) e (b - 1) i' = scanUp (p e) e (b - 1) (a + 1) ∧ ρ' = [(0, s.v), (1, .int .i64 (a : Int)), (10, .int .i64 (i' : Int)), (11, .int .i64 ((b : Int) - 1))] ∧ Γ' = own s 68 1 (uA e) :: Γ) (m := _) (ρ0 := _) (Γ0 := _) (⟨a + 1, rfl, by omega, by omega, rfl, rfl, rfl⟩) (by repeat (first | exact trivial | refine ⟨rfl, ?_⟩)) Sub.ent ?_
    rintro r ρ' Γ' ⟨i', hr, hai, hib, hsc, rfl, rfl⟩
    refine S.seq fun K5 hK5 => ?_
    refine S.seq fun K6 hK6 => ?_
    refine S.draw ([own s 68 1 (uA e)]) [] Tryd.mixed ?_
    refine S.dr_take 0 [] rfl (by kernel_rfl) rfl rfl rfl (q_move rfl) Sub.ent ?_
    refine S.dr_take 1 [] rfl (by kernel_rfl) rfl rfl rfl (q_move rfl) Sub.ent ?_
    refine S.dr_take 2 [] rfl (by kernel_rfl) rfl rfl rfl (q_le rfl rfl) Sub.ent ?_
    refine S.dr_take 3 [] rfl (by kernel_rfl) rfl rfl rfl (q_move rfl) Sub.ent ?_
    by_cases hg3_3 : (i' : Int) ≤ (b : Int) - 1
    · refine S.dr_takeY 4 [] rfl (by kernel_rfl) rfl rfl rfl (decide_eq_true hg3_3) rfl rfl (q_move rfl) Sub.ent ?_
      refine S.dr_takeY 5 [] rfl (by kernel_rfl) rfl rfl rfl (decide_eq_true hg3_3) rfl rfl (q_move rfl) Sub.ent ?_
      refine S.dr_takeY 6 [] rfl (by kernel_rfl) rfl rfl rfl (decide_eq_true hg3_3) rfl rfl (q_indexO (i') Tryd.el31 rfl hsa rfl rfl (by omega)) Sub.ent ?_
      refine S.dr_takeY 7 [] rfl (by kernel_rfl) rfl rfl rfl (decide_eq_true hg3_3) rfl rfl (q_loadOw (s) (i') Tryd.at68 rfl hsa (by first | rfl | exact Nat.add_assoc _ _ _ | omega) (uA_get (by omega))) Sub.ent ?_
      refine S.dr_takeY 8 [] rfl (by kernel_rfl) rfl rfl rfl (decide_eq_true hg3_3) rfl rfl (q_move rfl) Sub.ent ?_
      refine S.dr_takeY 9 [] rfl (by kernel_rfl) rfl rfl rfl (decide_eq_true hg3_3) rfl rfl (q_move rfl) Sub.ent ?_
      refine S.dr_takeY 10 [] rfl (by kernel_rfl) rfl rfl rfl (decide_eq_true hg3_3) rfl rfl (q_indexO (a) Tryd.el31 rfl hsa rfl rfl (by omega)) Sub.ent ?_
      refine S.dr_takeY 11 [] rfl (by kernel_rfl) rfl rfl rfl (decide_eq_true hg3_3) rfl rfl (q_loadOw (s) (a) Tryd.at68 rfl hsa (by first | rfl | exact Nat.add_assoc _ _ _ | omega) (uA_get (by omega))) Sub.ent ?_
      refine S.dr_1Y (i := 12) (by kernel_rfl) rfl rfl rfl rfl (decide_eq_true hg3_3) ?_
      refine  (S.call Tryd.en127 (vs := [_, _]) ⟨rfl, rfl, trivial⟩ (Less_S (e[i']!) (e[a]!)) rfl ?_)
      rintro v Θ ⟨rfl, rfl⟩
      refine S.dr_k rfl Sub.ent ?_
      refine S.dr_take 13 [] rfl (by kernel_rfl) rfl rfl rfl (q_pickT rfl (decide_eq_true hg3_3) rfl) Sub.ent ?_
      first | with_reducible refine S.dr_doneK (by kernel_rfl) ?_ | refine S.dr_done (by kernel_rfl) ?_
      refine hK6 _ _ ?_
      refine S.cond rfl (fun h1 => ?_) (fun h1 => ?_)
      · have hst2 : scanUp (p e) e (b - 1) i' = scanUp (p e) e (b - 1) (i' + 1) := scanUp_step (by omega) (hpv _ _ h1)
        refine S.skip ?_
        with_reducible repeat (first | refine S.then_n ?_ | refine S.then_x ?_ | refine S.then_r ?_ | refine S.inBlock_n ?_ | refine S.inBlock_r ?_ | refine S.inBlock_x rfl ?_ | refine S.noGoto_r ?_ | refine S.noGoto_n ?_ | refine S.noGoto_x ?_)
        refine hK5 _ _ ?_
        refine S.block ?_
        refine S.region rfl ?_
        refine S.op (S.q (q_move rfl) rfl rfl ?_)
        refine S.op (S.q (q_add rfl rfl (inI64 (by omega) (by omega))) rfl rfl ?_)
        refine S.op (S.q (q_assign rfl) rfl rfl ?_)
        first | with_reducible refine S.nilK ?_ | refine S.nil ?_
        with_reducible repeat (first | refine S.then_n ?_ | refine S.then_x ?_ | refine S.then_r ?_ | refine S.inBlock_n ?_ | refine S.inBlock_r ?_ | refine S.inBlock_x rfl ?_ | refine S.noGoto_r ?_ | refine S.noGoto_n ?_ | refine S.noGoto_x ?_)
        with_reducible repeat (first | refine S.then_n ?_ | refine S.then_x ?_ | refine S.then_r ?_ | refine S.inBlock_n ?_ | refine S.inBlock_r ?_ | refine S.inBlock_x rfl ?_ | refine S.noGoto_r ?_ | refine S.noGoto_n ?_ | refine S.noGoto_x ?_)
        exact S.next (r - 1) (⟨i' + 1, by omega, by omega, by omega, hst2.symm.trans hsc, rfl, rfl⟩) (by omega) (by repeat (first | exact trivial | refine ⟨rfl, ?_⟩)) Sub.ent
      · have hst : scanUp (p e) e (b - 1) i' = i' := scanUp_stop (fun h => by rw [hpn _ _ h.2] at h1; cases h1)
        refine S.exit ?_
        with_reducible repeat (first | refine S.then_n ?_ | refine S.then_x ?_ | refine S.then_r ?_ | refine S.inBlock_n ?_ | refine S.inBlock_r ?_ | refine S.inBlock_x rfl ?_ | refine S.noGoto_r ?_ | refine S.noGoto_n ?_ | refine S.noGoto_x ?_)
        with_reducible refine S.inBlock_s ?_
        with_reducible repeat (first | refine S.then_n ?_ | refine S.then_x ?_ | refine S.then_r ?_ | refine S.inBlock_n ?_ | refine S.inBlock_r ?_ | refine S.inBlock_x rfl ?_ | refine S.noGoto_r ?_ | refine S.noGoto_n ?_ | refine S.noGoto_x ?_)
        with_reducible repeat (first | refine S.then_n ?_ | refine S.then_x ?_ | refine S.then_r ?_ | refine S.inBlock_n ?_ | refine S.inBlock_r ?_ | refine S.inBlock_x rfl ?_ | refine S.noGoto_r ?_ | refine S.noGoto_n ?_ | refine S.noGoto_x ?_)
        exact S.meet ⟨i', hst.symm.trans hsc, by omega, by omega, rfl, rfl⟩ ⟨rfl, rfl, rfl, rfl, trivial⟩ Sub.ent
    · have hst : scanUp (p e) e (b - 1) i' = i' := scanUp_stop (fun h => hg3_3 (by omega))
      refine S.dr_takeN 4 [] rfl (by kernel_rfl) rfl rfl rfl (decide_eq_false hg3_3) rfl rfl Sub.ent ?_
      refine S.dr_takeN 5 [] rfl (by kernel_rfl) rfl rfl rfl (decide_eq_false hg3_3) rfl rfl Sub.ent ?_
      refine S.dr_takeN 6 [] rfl (by kernel_rfl) rfl rfl rfl (decide_eq_false hg3_3) rfl rfl Sub.ent ?_
      refine S.dr_takeN 7 [] rfl (by kernel_rfl) rfl rfl rfl (decide_eq_false hg3_3) rfl rfl Sub.ent ?_
      refine S.dr_takeN 8 [] rfl (by kernel_rfl) rfl rfl rfl (decide_eq_false hg3_3) rfl rfl Sub.ent ?_
      refine S.dr_takeN 9 [] rfl (by kernel_rfl) rfl rfl rfl (decide_eq_false hg3_3) rfl rfl Sub.ent ?_
      refine S.dr_takeN 10 [] rfl (by kernel_rfl) rfl rfl rfl (decide_eq_false hg3_3) rfl rfl Sub.ent ?_
      refine S.dr_takeN 11 [] rfl (by kernel_rfl) rfl rfl rfl (decide_eq_false hg3_3) rfl rfl Sub.ent ?_
      refine S.dr_takeN 12 [] rfl (by kernel_rfl) rfl rfl rfl (decide_eq_false hg3_3) rfl rfl Sub.ent ?_
      refine S.dr_take 13 [] rfl (by kernel_rfl) rfl rfl rfl (q_pickF rfl (decide_eq_false hg3_3) rfl) Sub.ent ?_
      first | with_reducible refine S.dr_doneK (by kernel_rfl) ?_ | refine S.dr_done (by kernel_rfl) ?_
      refine hK6 _ _ ?_
      refine S.condF rfl ?_
      refine S.exit ?_
      with_reducible repeat (first | refine S.then_n ?_ | refine S.then_x ?_ | refine S.then_r ?_ | refine S.inBlock_n ?_ | refine S.inBlock_r ?_ | refine S.inBlock_x rfl ?_ | refine S.noGoto_r ?_ | refine S.noGoto_n ?_ | refine S.noGoto_x ?_)
      with_reducible refine S.inBlock_s ?_
      with_reducible repeat (first | refine S.then_n ?_ | refine S.then_x ?_ | refine S.then_r ?_ | refine S.inBlock_n ?_ | refine S.inBlock_r ?_ | refine S.inBlock_x rfl ?_ | refine S.noGoto_r ?_ | refine S.noGoto_n ?_ | refine S.noGoto_x ?_)
      with_reducible repeat (first | refine S.then_n ?_ | refine S.then_x ?_ | refine S.then_r ?_ | refine S.inBlock_n ?_ | refine S.inBlock_r ?_ | refine S.inBlock_x rfl ?_ | refine S.noGoto_r ?_ | refine S.noGoto_n ?_ | refine S.noGoto_x ?_)
      exact S.meet ⟨i', hst.symm.trans hsc, by omega, by omega, rfl, rfl⟩ ⟨rfl, rfl, rfl, rfl, trivial⟩ Sub.ent
  · rintro ρ' Γ' ⟨i1, hi1, hai1, hib1, rfl, rfl⟩
    refine hK4 _ _ ?_
    refine S.seq fun K7 hK7 => ?_
    refine S.cut (fun ρ' Γ' => ∃ (j1 : Nat) (z1 : Int), z1 = j1 ∧ j1 = scanDown (q e) e i1 (b - 1) ∧ ρ' = [(0, s.v), (1, .int .i64 (a : Int)), (10, .int .i64 (i1 : Int)), (11, .int .i64 z1)] ∧ Γ' = own s 68 1 (uA e) :: Γ) ?_ ?_
    · refine S.block ?_
      refine S.loop (fun r ρ' Γ' => ∃ (j' : Nat) (z : Int), r = j' ∧ z = j' ∧ j' < b ∧ scanDown (q e) e i1 j' = scanDown (q e) e i1 (b - 1) ∧ ρ' = [(0, s.v), (1, .int .i64 (a : Int)), (10, .int .i64 (i1 : Int)), (11, .int .i64 z)] ∧ Γ' = own s 68 1 (uA e) :: Γ) (m := _) (ρ0 := _) (Γ0 := _) (⟨b - 1, (b : Int) - 1, rfl, by omega, by omega, rfl, rfl, rfl⟩) (by repeat (first | exact trivial | refine ⟨rfl, ?_⟩)) Sub.ent ?_
      rintro r ρ' Γ' ⟨j', z, hr, hz, hjb, hsc, rfl, rfl⟩
      refine S.seq fun K8 hK8 => ?_
      refine S.seq fun K9 hK9 => ?_
      refine S.draw ([own s 68 1 (uA e)]) [] Tryd.mixed ?_
      refine S.dr_take 0 [] rfl (by kernel_rfl) rfl rfl rfl (q_move rfl) Sub.ent ?_
      refine S.dr_take 1 [] rfl (by kernel_rfl) rfl rfl rfl (q_move rfl) Sub.ent ?_
      refine S.dr_take 2 [] rfl (by kernel_rfl) rfl rfl rfl (q_le rfl rfl) Sub.ent ?_
      refine S.dr_take 3 [] rfl (by kernel_rfl) rfl rfl rfl (q_move rfl) Sub.ent ?_
      by_cases hg5_3 : (i1 : Int) ≤ z
      · refine S.dr_takeY 4 [] rfl (by kernel_rfl) rfl rfl rfl (decide_eq_true hg5_3) rfl rfl (q_move rfl) Sub.ent ?_
        refine S.dr_takeY 5 [] rfl (by kernel_rfl) rfl rfl rfl (decide_eq_true hg5_3) rfl rfl (q_move rfl) Sub.ent ?_
        refine S.dr_takeY 6 [] rfl (by kernel_rfl) rfl rfl rfl (decide_eq_true hg5_3) rfl rfl (q_indexO (j') Tryd.el31 rfl hsa rfl hz (by omega)) Sub.ent ?_
        refine S.dr_takeY 7 [] rfl (by kernel_rfl) rfl rfl rfl (decide_eq_true hg5_3) rfl rfl (q_loadOw (s) (j') Tryd.at68 rfl hsa (by first | rfl | exact Nat.add_assoc _ _ _ | omega) (uA_get (by omega))) Sub.ent ?_
        refine S.dr_takeY 8 [] rfl (by kernel_rfl) rfl rfl rfl (decide_eq_true hg5_3) rfl rfl (q_move rfl) Sub.ent ?_
        refine S.dr_takeY 9 [] rfl (by kernel_rfl) rfl rfl rfl (decide_eq_true hg5_3) rfl rfl (q_move rfl) Sub.ent ?_
        refine S.dr_takeY 10 [] rfl (by kernel_rfl) rfl rfl rfl (decide_eq_true hg5_3) rfl rfl (q_indexO (a) Tryd.el31 rfl hsa rfl rfl (by omega)) Sub.ent ?_
        refine S.dr_takeY 11 [] rfl (by kernel_rfl) rfl rfl rfl (decide_eq_true hg5_3) rfl rfl (q_loadOw (s) (a) Tryd.at68 rfl hsa (by first | rfl | exact Nat.add_assoc _ _ _ | omega) (uA_get (by omega))) Sub.ent ?_
        refine S.dr_1Y (i := 12) (by kernel_rfl) rfl rfl rfl rfl (decide_eq_true hg5_3) ?_
        refine  (S.call Tryd.en127 (vs := [_, _]) ⟨rfl, rfl, trivial⟩ (Less_S (e[j']!) (e[a]!)) rfl ?_)
        rintro v Θ ⟨rfl, rfl⟩
        refine S.dr_k rfl Sub.ent ?_
        refine S.dr_takeY 13 [] rfl (by kernel_rfl) rfl rfl rfl (decide_eq_true hg5_3) rfl rfl (q_not rfl) Sub.ent ?_
        refine S.dr_take 14 [] rfl (by kernel_rfl) rfl rfl rfl (q_pickT rfl (decide_eq_true hg5_3) rfl) Sub.ent ?_
        first | with_reducible refine S.dr_doneK (by kernel_rfl) ?_ | refine S.dr_done (by kernel_rfl) ?_
        refine hK9 _ _ ?_
        refine S.cond rfl (fun h2 => ?_) (fun h2 => ?_)
        · have hst2 : scanDown (q e) e i1 j' = scanDown (q e) e i1 (j' - 1) := scanDown_step (by omega) (by omega) (hqv _ _ h2)
          refine S.skip ?_
          with_reducible repeat (first | refine S.then_n ?_ | refine S.then_x ?_ | refine S.then_r ?_ | refine S.inBlock_n ?_ | refine S.inBlock_r ?_ | refine S.inBlock_x rfl ?_ | refine S.noGoto_r ?_ | refine S.noGoto_n ?_ | refine S.noGoto_x ?_)
          refine hK8 _ _ ?_
          refine S.block ?_
          refine S.region rfl ?_
          refine S.op (S.q (q_move rfl) rfl rfl ?_)
          refine S.op (S.q (q_sub rfl rfl (inI64 (by omega) (by omega))) rfl rfl ?_)
          refine S.op (S.q (q_assign rfl) rfl rfl ?_)
          first | with_reducible refine S.nilK ?_ | refine S.nil ?_
          with_reducible repeat (first | refine S.then_n ?_ | refine S.then_x ?_ | refine S.then_r ?_ | refine S.inBlock_n ?_ | refine S.inBlock_r ?_ | refine S.inBlock_x rfl ?_ | refine S.noGoto_r ?_ | refine S.noGoto_n ?_ | refine S.noGoto_x ?_)
          with_reducible repeat (first | refine S.then_n ?_ | refine S.then_x ?_ | refine S.then_r ?_ | refine S.inBlock_n ?_ | refine S.inBlock_r ?_ | refine S.inBlock_x rfl ?_ | refine S.noGoto_r ?_ | refine S.noGoto_n ?_ | refine S.noGoto_x ?_)
          exact S.next (j' - 1) (⟨j' - 1, z - 1, rfl, by omega, by omega, hst2.symm.trans hsc, rfl, rfl⟩) (by omega) (by repeat (first | exact trivial | refine ⟨rfl, ?_⟩)) Sub.ent
        · have hst : scanDown (q e) e i1 j' = j' := scanDown_stop (fun h => by rw [hqn _ _ h.2] at h2; cases h2)
          refine S.exit ?_
          with_reducible repeat (first | refine S.then_n ?_ | refine S.then_x ?_ | refine S.then_r ?_ | refine S.inBlock_n ?_ | refine S.inBlock_r ?_ | refine S.inBlock_x rfl ?_ | refine S.noGoto_r ?_ | refine S.noGoto_n ?_ | refine S.noGoto_x ?_)
          with_reducible refine S.inBlock_s ?_
          with_reducible repeat (first | refine S.then_n ?_ | refine S.then_x ?_ | refine S.then_r ?_ | refine S.inBlock_n ?_ | refine S.inBlock_r ?_ | refine S.inBlock_x rfl ?_ | refine S.noGoto_r ?_ | refine S.noGoto_n ?_ | refine S.noGoto_x ?_)
          with_reducible repeat (first | refine S.then_n ?_ | refine S.then_x ?_ | refine S.then_r ?_ | refine S.inBlock_n ?_ | refine S.inBlock_r ?_ | refine S.inBlock_x rfl ?_ | refine S.noGoto_r ?_ | refine S.noGoto_n ?_ | refine S.noGoto_x ?_)
          exact S.meet ⟨j', z, hz, hst.symm.trans hsc, rfl, rfl⟩ ⟨rfl, rfl, rfl, rfl, trivial⟩ Sub.ent
      · have hst : scanDown (q e) e i1 j' = j' := scanDown_stop (fun h => hg5_3 (by omega))
        refine S.dr_takeN 4 [] rfl (by kernel_rfl) rfl rfl rfl (decide_eq_false hg5_3) rfl rfl Sub.ent ?_
        refine S.dr_takeN 5 [] rfl (by kernel_rfl) rfl rfl rfl (decide_eq_false hg5_3) rfl rfl Sub.ent ?_
        refine S.dr_takeN 6 [] rfl (by kernel_rfl) rfl rfl rfl (decide_eq_false hg5_3) rfl rfl Sub.ent ?_
        refine S.dr_takeN 7 [] rfl (by kernel_rfl) rfl rfl rfl (decide_eq_false hg5_3) rfl rfl Sub.ent ?_
        refine S.dr_takeN 8 [] rfl (by kernel_rfl) rfl rfl rfl (decide_eq_false hg5_3) rfl rfl Sub.ent ?_
        refine S.dr_takeN 9 [] rfl (by kernel_rfl) rfl rfl rfl (decide_eq_false hg5_3) rfl rfl Sub.ent ?_
        refine S.dr_takeN 10 [] rfl (by kernel_rfl) rfl rfl rfl (decide_eq_false hg5_3) rfl rfl Sub.ent ?_
        refine S.dr_takeN 11 [] rfl (by kernel_rfl) rfl rfl rfl (decide_eq_false hg5_3) rfl rfl Sub.ent ?_
        refine S.dr_takeN 12 [] rfl (by kernel_rfl) rfl rfl rfl (decide_eq_false hg5_3) rfl rfl Sub.ent ?_
        refine S.dr_takeN 13 [] rfl (by kernel_rfl) rfl rfl rfl (decide_eq_false hg5_3) rfl rfl Sub.ent ?_
        refine S.dr_take 14 [] rfl (by kernel_rfl) rfl rfl rfl (q_pickF rfl (decide_eq_false hg5_3) rfl) Sub.ent ?_
        first | with_reducible refine S.dr_doneK (by kernel_rfl) ?_ | refine S.dr_done (by kernel_rfl) ?_
        refine hK9 _ _ ?_
        refine S.condF rfl ?_
        refine S.exit ?_
        with_reducible repeat (first | refine S.then_n ?_ | refine S.then_x ?_ | refine S.then_r ?_ | refine S.inBlock_n ?_ | refine S.inBlock_r ?_ | refine S.inBlock_x rfl ?_ | refine S.noGoto_r ?_ | refine S.noGoto_n ?_ | refine S.noGoto_x ?_)
        with_reducible refine S.inBlock_s ?_
        with_reducible repeat (first | refine S.then_n ?_ | refine S.then_x ?_ | refine S.then_r ?_ | refine S.inBlock_n ?_ | refine S.inBlock_r ?_ | refine S.inBlock_x rfl ?_ | refine S.noGoto_r ?_ | refine S.noGoto_n ?_ | refine S.noGoto_x ?_)
        with_reducible repeat (first | refine S.then_n ?_ | refine S.then_x ?_ | refine S.then_r ?_ | refine S.inBlock_n ?_ | refine S.inBlock_r ?_ | refine S.inBlock_x rfl ?_ | refine S.noGoto_r ?_ | refine S.noGoto_n ?_ | refine S.noGoto_x ?_)
        exact S.meet ⟨j', z, hz, hst.symm.trans hsc, rfl, rfl⟩ ⟨rfl, rfl, rfl, rfl, trivial⟩ Sub.ent
    · rintro ρ' Γ' ⟨j1, z1, rfl, hj1, rfl, rfl⟩
      obtain ⟨f1, f2, f3, f4, f5⟩ := scan_facts (p := p e) (q := q e) (e := e) (i := a + 1) (j := b - 1) (hpq e) (by omega) (by omega)
      rw [← hi1, ← hj1] at f5 f4
      rw [← hi1] at f1 f2
      rw [← hi1, ← hj1] at f3
      rw [← hi1, ← hj1] at hpt
      refine hK7 _ _ ?_
      refine S.seq fun K10 hK10 => ?_
      refine S.seq fun K11 hK11 => ?_
      refine S.region rfl ?_
      refine S.op (S.q (q_move rfl) rfl rfl ?_)
      refine S.op (S.q (q_move rfl) rfl rfl ?_)
      refine S.op (S.q (q_gt rfl rfl) rfl rfl ?_)
      first | with_reducible refine S.nilK ?_ | refine S.nil ?_
      refine hK11 _ _ ?_
      refine S.condD rfl (fun h3 => ?_) (fun h3 => ?_)
      · rw [if_pos (by omega)] at hpt
        refine S.seq fun K12 hK12 => ?_
        refine S.draw ([own s 68 1 (uA e)]) [13] Tryd.mixed ?_
        refine S.dr_take 0 [12, 13, 14, 15] rfl (by kernel_rfl) rfl rfl rfl (q_move rfl) Sub.ent ?_
        refine S.dr_take 1 [12, 13, 14, 15] rfl (by kernel_rfl) rfl rfl rfl (q_move rfl) Sub.ent ?_
        refine S.dr_takeP 2 rfl (by kernel_rfl) rfl rfl rfl (q_move rfl) Sub.ent ?_
        refine S.dr_takeP 3 rfl (by kernel_rfl) rfl rfl rfl (q_move rfl) Sub.ent ?_
        refine S.dr_take 4 [6, 7, 12, 13, 14, 15] rfl (by kernel_rfl) rfl rfl rfl (q_move rfl) Sub.ent ?_
        refine S.dr_take 5 [6, 7, 12, 13, 14, 15] rfl (by kernel_rfl) rfl rfl rfl (q_move rfl) Sub.ent ?_
        refine S.dr_take 6 [7, 12, 13, 14, 15] rfl (by kernel_rfl) rfl rfl rfl (q_indexO (a) Tryd.el31 rfl hsa rfl rfl (by omega)) Sub.ent ?_
        refine S.dr_take 7 [12, 13, 14, 15] rfl (by kernel_rfl) rfl rfl rfl (q_loadOw (s) (a) Tryd.at68 rfl hsa (by first | rfl | exact Nat.add_assoc _ _ _ | omega) (uA_get (by omega))) Sub.ent ?_
        refine S.dr_take 8 [10, 11, 12, 13, 14, 15] rfl (by kernel_rfl) rfl rfl rfl (q_move rfl) Sub.ent ?_
        refine S.dr_take 9 [10, 11, 12, 13, 14, 15] rfl (by kernel_rfl) rfl rfl rfl (q_move rfl) Sub.ent ?_
        refine S.dr_take 10 [11, 12, 13, 14, 15] rfl (by kernel_rfl) rfl rfl rfl (q_indexO (j1) Tryd.el31 rfl hsa rfl rfl (by omega)) Sub.ent ?_
        refine S.dr_take 11 [12, 13, 14, 15] rfl (by kernel_rfl) rfl rfl rfl (q_loadOw (s) (j1) Tryd.at68 rfl hsa (by first | rfl | exact Nat.add_assoc _ _ _ | omega) (uA_get (by omega))) Sub.ent ?_
        refine S.dr_take 12 [13, 14, 15] rfl (by kernel_rfl) rfl rfl rfl (q_indexO (j1) Tryd.el31 rfl hsa rfl rfl (by omega)) Sub.ent ?_
        refine S.dr_1 (i := 13) (by kernel_rfl) rfl rfl ?_
        refine  (S.storeOw (s) (j1) Tryd.at68 rfl rfl rfl hsa (by first | rfl | exact Nat.add_assoc _ _ _ | omega) (by rw [uA_len]; omega) (uA_set _ _ _) ?_)
        refine S.dr_late ([]) [] rfl ?_
        refine S.dr_take 14 [] rfl (by kernel_rfl) rfl rfl rfl (q_indexO (a) Tryd.el31 rfl hsa rfl rfl (by omega)) Sub.ent ?_
        refine S.dr_1 (i := 15) (by kernel_rfl) rfl rfl ?_
        refine  (S.storeOw (s) (a) Tryd.at68 rfl rfl rfl hsa (by first | rfl | exact Nat.add_assoc _ _ _ | omega) (by rw [uA_len, Array.size_setIfInBounds]; omega) (show _ = uA (Go.Sort.swp e (j1) (a)) from uA_set _ _ _) ?_)
        refine S.dr_k rfl Sub.ent ?_
        first | with_reducible refine S.dr_doneK (by kernel_rfl) ?_ | refine S.dr_done (by kernel_rfl) ?_
        refine hK12 _ _ ?_
        refine S.seq fun K13 hK13 => ?_
        refine S.region rfl ?_
        refine S.op (S.q (q_move rfl) rfl rfl ?_)
        refine S.op (S.q (q_assign rfl) rfl rfl ?_)
        refine S.op (S.q (q_assign rfl) rfl rfl ?_)
        first | with_reducible refine S.nilK ?_ | refine S.nil ?_
        refine hK13 _ _ ?_
        refine S.ret ?_
        with_reducible repeat (first | refine S.then_n ?_ | refine S.then_x ?_ | refine S.then_r ?_ | refine S.inBlock_n ?_ | refine S.inBlock_r ?_ | refine S.inBlock_x rfl ?_ | refine S.noGoto_r ?_ | refine S.noGoto_n ?_ | refine S.noGoto_x ?_)
        exact S.fin (rs := [_, _]) (vs := [_, _]) Tryd.results129 (⟨rfl, rfl, trivial⟩)  (⟨by rw [hpt]; first | done | rfl, by rw [hpt]⟩) Sub.ent
      · rw [if_neg (by omega)] at hpt
        have f6 := f5 (by omega)
        refine S.skip ?_
        with_reducible repeat (first | refine S.then_n ?_ | refine S.then_x ?_ | refine S.then_r ?_ | refine S.inBlock_n ?_ | refine S.inBlock_r ?_ | refine S.inBlock_x rfl ?_ | refine S.noGoto_r ?_ | refine S.noGoto_n ?_ | refine S.noGoto_x ?_)
        refine hK10 _ _ ?_
        refine S.seq fun K14 hK14 => ?_
        refine S.draw ([own s 68 1 (uA e)]) [13] Tryd.mixed ?_
        refine S.dr_take 0 [12, 13, 14, 15] rfl (by kernel_rfl) rfl rfl rfl (q_move rfl) Sub.ent ?_
        refine S.dr_take 1 [12, 13, 14, 15] rfl (by kernel_rfl) rfl rfl rfl (q_move rfl) Sub.ent ?_
        refine S.dr_takeP 2 rfl (by kernel_rfl) rfl rfl rfl (q_move rfl) Sub.ent ?_
        refine S.dr_takeP 3 rfl (by kernel_rfl) rfl rfl rfl (q_move rfl) Sub.ent ?_
        refine S.dr_take 4 [6, 7, 12, 13, 14, 15] rfl (by kernel_rfl) rfl rfl rfl (q_move rfl) Sub.ent ?_
        refine S.dr_take 5 [6, 7, 12, 13, 14, 15] rfl (by kernel_rfl) rfl rfl rfl (q_move rfl) Sub.ent ?_
        refine S.dr_take 6 [7, 12, 13, 14, 15] rfl (by kernel_rfl) rfl rfl rfl (q_indexO (j1) Tryd.el31 rfl hsa rfl rfl (by omega)) Sub.ent ?_
        refine S.dr_take 7 [12, 13, 14, 15] rfl (by kernel_rfl) rfl rfl rfl (q_loadOw (s) (j1) Tryd.at68 rfl hsa (by first | rfl | exact Nat.add_assoc _ _ _ | omega) (uA_get (by omega))) Sub.ent ?_
        refine S.dr_take 8 [10, 11, 12, 13, 14, 15] rfl (by kernel_rfl) rfl rfl rfl (q_move rfl) Sub.ent ?_
        refine S.dr_take 9 [10, 11, 12, 13, 14, 15] rfl (by kernel_rfl) rfl rfl rfl (q_move rfl) Sub.ent ?_
        refine S.dr_take 10 [11, 12, 13, 14, 15] rfl (by kernel_rfl) rfl rfl rfl (q_indexO (i1) Tryd.el31 rfl hsa rfl rfl (by omega)) Sub.ent ?_
        refine S.dr_take 11 [12, 13, 14, 15] rfl (by kernel_rfl) rfl rfl rfl (q_loadOw (s) (i1) Tryd.at68 rfl hsa (by first | rfl | exact Nat.add_assoc _ _ _ | omega) (uA_get (by omega))) Sub.ent ?_
        refine S.dr_take 12 [13, 14, 15] rfl (by kernel_rfl) rfl rfl rfl (q_indexO (i1) Tryd.el31 rfl hsa rfl rfl (by omega)) Sub.ent ?_
        refine S.dr_1 (i := 13) (by kernel_rfl) rfl rfl ?_
        refine  (S.storeOw (s) (i1) Tryd.at68 rfl rfl rfl hsa (by first | rfl | exact Nat.add_assoc _ _ _ | omega) (by rw [uA_len]; omega) (uA_set _ _ _) ?_)
        refine S.dr_late ([]) [] rfl ?_
        refine S.dr_take 14 [] rfl (by kernel_rfl) rfl rfl rfl (q_indexO (j1) Tryd.el31 rfl hsa rfl rfl (by omega)) Sub.ent ?_
        refine S.dr_1 (i := 15) (by kernel_rfl) rfl rfl ?_
        refine  (S.storeOw (s) (j1) Tryd.at68 rfl rfl rfl hsa (by first | rfl | exact Nat.add_assoc _ _ _ | omega) (by rw [uA_len, Array.size_setIfInBounds]; omega) (show _ = uA (Go.Sort.swp e (i1) (j1)) from uA_set _ _ _) ?_)
        refine S.dr_k rfl Sub.ent ?_
        first | with_reducible refine S.dr_doneK (by kernel_rfl) ?_ | refine S.dr_done (by kernel_rfl) ?_
        refine hK14 _ _ ?_
        refine S.seq fun K15 hK15 => ?_
        refine S.region rfl ?_
        refine S.op (S.q (q_move rfl) rfl rfl ?_)
        refine S.op (S.q (q_add rfl rfl (inI64 (by omega) (by omega))) rfl rfl ?_)
        refine S.op (S.q (q_assign rfl) rfl rfl ?_)
        first | with_reducible refine S.nilK ?_ | refine S.nil ?_
        refine hK15 _ _ ?_
        refine S.seq fun K16 hK16 => ?_
        refine S.region rfl ?_
        obtain ⟨L, hL⟩ : ∃ L, L = partLoop ltInt a (i1 + 1) (j1 - 1) (swp e i1 j1) := ⟨_, rfl⟩
        rw [← hL] at hpt
        refine S.op (S.q (q_move rfl) rfl rfl ?_)
        refine S.op (S.q (q_sub rfl rfl (inI64 (by omega) (by omega))) rfl rfl ?_)
        refine S.op (S.q (q_assign rfl) rfl rfl ?_)
        first | with_reducible refine S.nilK ?_ | refine S.nil ?_
        refine hK16 _ _ ?_
        refine S.seq fun K17 hK17 => ?_
        refine S.block ?_
        refine S.loop (fun r ρ' Γ' => ∃ (i j : Nat) (z : Int) (f : Array Int), r = j + 1 - i ∧ z = j ∧ a < i ∧ i ≤ j + 1 ∧ j < b ∧ f.size = d.size ∧ partLoop ltInt a i j f = L ∧ ρ' = [(0, s.v), (1, .int .i64 (a : Int)), (10, .int .i64 (i : Int)), (11, .int .i64 z)] ∧ Γ' = own s 68 1 (uA f) :: Γ) (m := _) (ρ0 := _) (Γ0 := _) (⟨i1 + 1, j1 - 1, (j1 : Int) - 1, swp e i1 j1, rfl, by omega, by omega, by omega, by omega, by rw [swpZ, hes], hL.symm, rfl, rfl⟩) (by repeat (first | exact trivial | refine ⟨rfl, ?_⟩)) Sub.ent ?_
        rintro r3 ρ' Γ' ⟨i, j, z, f, hr3, hz, hai, hij, hjb, hfs, hlp, rfl, rfl⟩
        obtain ⟨k1, k2, k3, k4, k5⟩ := scan_facts (p := p f) (q := q f) (e := f) (i := i) (j := j) (hpq f) (by omega) (by omega)
        rw [hpl] at hlp
        refine S.block ?_
        refine S.seq fun K18 hK18 => ?_
        refine S.cut (fun ρ' Γ' => ∃ i2 : Nat, i2 = scanUp (p f) f j i ∧ ρ' = [(0, s.v), (1, .int .i64 (a : Int)), (10, .int .i64 (i2 : Int)), (11, .int .i64 z)] ∧ Γ' = own s 68 1 (uA f) :: Γ) ?_ ?_
        · refine S.block ?_
          refine S.loop (fun r ρ' Γ' => ∃ i' : Nat, r = j + 1 - i' ∧ i ≤ i' ∧ i' ≤ j + 1 ∧ scanUp (p f) f j i' = scanUp (p f) f j i ∧ ρ' = [(0, s.v), (1, .int .i64 (a : Int)), (10, .int .i64 (i' : Int)), (11, .int .i64 z)] ∧ Γ' = own s 68 1 (uA f) :: Γ) (m := _) (ρ0 := _) (Γ0 := _) (⟨i, rfl, by omega, by omega, rfl, rfl, rfl⟩) (by repeat (first | exact trivial | refine ⟨rfl, ?_⟩)) Sub.ent ?_
          rintro r ρ' Γ' ⟨i', hr, hii, hij', hsc, rfl, rfl⟩
          refine S.seq fun K19 hK19 => ?_
          refine S.seq fun K20 hK20 => ?_
          refine S.draw ([own s 68 1 (uA f)]) [] Tryd.mixed ?_
          refine S.dr_take 0 [] rfl (by kernel_rfl) rfl rfl rfl (q_move rfl) Sub.ent ?_
          refine S.dr_take 1 [] rfl (by kernel_rfl) rfl rfl rfl (q_move rfl) Sub.ent ?_
          refine S.dr_take 2 [] rfl (by kernel_rfl) rfl rfl rfl (q_le rfl rfl) Sub.ent ?_
          refine S.dr_take 3 [] rfl (by kernel_rfl) rfl rfl rfl (q_move rfl) Sub.ent ?_
          by_cases hg13_3 : (i' : Int) ≤ z
          · refine S.dr_takeY 4 [] rfl (by kernel_rfl) rfl rfl rfl (decide_eq_true hg13_3) rfl rfl (q_move rfl) Sub.ent ?_
            refine S.dr_takeY 5 [] rfl (by kernel_rfl) rfl rfl rfl (decide_eq_true hg13_3) rfl rfl (q_move rfl) Sub.ent ?_
            refine S.dr_takeY 6 [] rfl (by kernel_rfl) rfl rfl rfl (decide_eq_true hg13_3) rfl rfl (q_indexO (i') Tryd.el31 rfl hsa rfl rfl (by omega)) Sub.ent ?_
            refine S.dr_takeY 7 [] rfl (by kernel_rfl) rfl rfl rfl (decide_eq_true hg13_3) rfl rfl (q_loadOw (s) (i') Tryd.at68 rfl hsa (by first | rfl | exact Nat.add_assoc _ _ _ | omega) (uA_get (by omega))) Sub.ent ?_
            refine S.dr_takeY 8 [] rfl (by kernel_rfl) rfl rfl rfl (decide_eq_true hg13_3) rfl rfl (q_move rfl) Sub.ent ?_
            refine S.dr_takeY 9 [] rfl (by kernel_rfl) rfl rfl rfl (decide_eq_true hg13_3) rfl rfl (q_move rfl) Sub.ent ?_
            refine S.dr_takeY 10 [] rfl (by kernel_rfl) rfl rfl rfl (decide_eq_true hg13_3) rfl rfl (q_indexO (a) Tryd.el31 rfl hsa rfl rfl (by omega)) Sub.ent ?_
            refine S.dr_takeY 11 [] rfl (by kernel_rfl) rfl rfl rfl (decide_eq_true hg13_3) rfl rfl (q_loadOw (s) (a) Tryd.at68 rfl hsa (by first | rfl | exact Nat.add_assoc _ _ _ | omega) (uA_get (by omega))) Sub.ent ?_
            refine S.dr_1Y (i := 12) (by kernel_rfl) rfl rfl rfl rfl (decide_eq_true hg13_3) ?_
            refine  (S.call Tryd.en127 (vs := [_, _]) ⟨rfl, rfl, trivial⟩ (Less_S (f[i']!) (f[a]!)) rfl ?_)
            rintro v Θ ⟨rfl, rfl⟩
            refine S.dr_k rfl Sub.ent ?_
            refine S.dr_take 13 [] rfl (by kernel_rfl) rfl rfl rfl (q_pickT rfl (decide_eq_true hg13_3) rfl) Sub.ent ?_
            first | with_reducible refine S.dr_doneK (by kernel_rfl) ?_ | refine S.dr_done (by kernel_rfl) ?_
            refine hK20 _ _ ?_
            refine S.cond rfl (fun h4 => ?_) (fun h4 => ?_)
            · have hst2 : scanUp (p f) f j i' = scanUp (p f) f j (i' + 1) := scanUp_step (by omega) (hpv _ _ h4)
              refine S.skip ?_
              with_reducible repeat (first | refine S.then_n ?_ | refine S.then_x ?_ | refine S.then_r ?_ | refine S.inBlock_n ?_ | refine S.inBlock_r ?_ | refine S.inBlock_x rfl ?_ | refine S.noGoto_r ?_ | refine S.noGoto_n ?_ | refine S.noGoto_x ?_)
              refine hK19 _ _ ?_
              refine S.block ?_
              refine S.region rfl ?_
              refine S.op (S.q (q_move rfl) rfl rfl ?_)
              refine S.op (S.q (q_add rfl rfl (inI64 (by omega) (by omega))) rfl rfl ?_)
              refine S.op (S.q (q_assign rfl) rfl rfl ?_)
              first | with_reducible refine S.nilK ?_ | refine S.nil ?_
              with_reducible repeat (first | refine S.then_n ?_ | refine S.then_x ?_ | refine S.then_r ?_ | refine S.inBlock_n ?_ | refine S.inBlock_r ?_ | refine S.inBlock_x rfl ?_ | refine S.noGoto_r ?_ | refine S.noGoto_n ?_ | refine S.noGoto_x ?_)
              with_reducible repeat (first | refine S.then_n ?_ | refine S.then_x ?_ | refine S.then_r ?_ | refine S.inBlock_n ?_ | refine S.inBlock_r ?_ | refine S.inBlock_x rfl ?_ | refine S.noGoto_r ?_ | refine S.noGoto_n ?_ | refine S.noGoto_x ?_)
              exact S.next (r - 1) (⟨i' + 1, by omega, by omega, by omega, hst2.symm.trans hsc, rfl, rfl⟩) (by omega) (by repeat (first | exact trivial | refine ⟨rfl, ?_⟩)) Sub.ent
            · have hst : scanUp (p f) f j i' = i' := scanUp_stop (fun h => by rw [hpn _ _ h.2] at h4; cases h4)
              refine S.exit ?_
              with_reducible repeat (first | refine S.then_n ?_ | refine S.then_x ?_ | refine S.then_r ?_ | refine S.inBlock_n ?_ | refine S.inBlock_r ?_ | refine S.inBlock_x rfl ?_ | refine S.noGoto_r ?_ | refine S.noGoto_n ?_ | refine S.noGoto_x ?_)
              with_reducible refine S.inBlock_s ?_
              with_reducible repeat (first | refine S.then_n ?_ | refine S.then_x ?_ | refine S.then_r ?_ | refine S.inBlock_n ?_ | refine S.inBlock_r ?_ | refine S.inBlock_x rfl ?_ | refine S.noGoto_r ?_ | refine S.noGoto_n ?_ | refine S.noGoto_x ?_)
              with_reducible repeat (first | refine S.then_n ?_ | refine S.then_x ?_ | refine S.then_r ?_ | refine S.inBlock_n ?_ | refine S.inBlock_r ?_ | refine S.inBlock_x rfl ?_ | refine S.noGoto_r ?_ | refine S.noGoto_n ?_ | refine S.noGoto_x ?_)
              exact S.meet ⟨i', hst.symm.trans hsc, rfl, rfl⟩ ⟨rfl, rfl, rfl, rfl, trivial⟩ Sub.ent
          · have hst : scanUp (p f) f j i' = i' := scanUp_stop (fun h => hg13_3 (by omega))
            refine S.dr_takeN 4 [] rfl (by kernel_rfl) rfl rfl rfl (decide_eq_false hg13_3) rfl rfl Sub.ent ?_
            refine S.dr_takeN 5 [] rfl (by kernel_rfl) rfl rfl rfl (decide_eq_false hg13_3) rfl rfl Sub.ent ?_
            refine S.dr_takeN 6 [] rfl (by kernel_rfl) rfl rfl rfl (decide_eq_false hg13_3) rfl rfl Sub.ent ?_
            refine S.dr_takeN 7 [] rfl (by kernel_rfl) rfl rfl rfl (decide_eq_false hg13_3) rfl rfl Sub.ent ?_
            refine S.dr_takeN 8 [] rfl (by kernel_rfl) rfl rfl rfl (decide_eq_false hg13_3) rfl rfl Sub.ent ?_
            refine S.dr_takeN 9 [] rfl (by kernel_rfl) rfl rfl rfl (decide_eq_false hg13_3) rfl rfl Sub.ent ?_
            refine S.dr_takeN 10 [] rfl (by kernel_rfl) rfl rfl rfl (decide_eq_false hg13_3) rfl rfl Sub.ent ?_
            refine S.dr_takeN 11 [] rfl (by kernel_rfl) rfl rfl rfl (decide_eq_false hg13_3) rfl rfl Sub.ent ?_
            refine S.dr_takeN 12 [] rfl (by kernel_rfl) rfl rfl rfl (decide_eq_false hg13_3) rfl rfl Sub.ent ?_
            refine S.dr_take 13 [] rfl (by kernel_rfl) rfl rfl rfl (q_pickF rfl (decide_eq_false hg13_3) rfl) Sub.ent ?_
            first | with_reducible refine S.dr_doneK (by kernel_rfl) ?_ | refine S.dr_done (by kernel_rfl) ?_
            refine hK20 _ _ ?_
            refine S.condF rfl ?_
            refine S.exit ?_
            with_reducible repeat (first | refine S.then_n ?_ | refine S.then_x ?_ | refine S.then_r ?_ | refine S.inBlock_n ?_ | refine S.inBlock_r ?_ | refine S.inBlock_x rfl ?_ | refine S.noGoto_r ?_ | refine S.noGoto_n ?_ | refine S.noGoto_x ?_)
            with_reducible refine S.inBlock_s ?_
            with_reducible repeat (first | refine S.then_n ?_ | refine S.then_x ?_ | refine S.then_r ?_ | refine S.inBlock_n ?_ | refine S.inBlock_r ?_ | refine S.inBlock_x rfl ?_ | refine S.noGoto_r ?_ | refine S.noGoto_n ?_ | refine S.noGoto_x ?_)
            with_reducible repeat (first | refine S.then_n ?_ | refine S.then_x ?_ | refine S.then_r ?_ | refine S.inBlock_n ?_ | refine S.inBlock_r ?_ | refine S.inBlock_x rfl ?_ | refine S.noGoto_r ?_ | refine S.noGoto_n ?_ | refine S.noGoto_x ?_)
            exact S.meet ⟨i', hst.symm.trans hsc, rfl, rfl⟩ ⟨rfl, rfl, rfl, rfl, trivial⟩ Sub.ent
        · rintro ρ' Γ' ⟨i2, hi2, rfl, rfl⟩
          rw [← hi2] at k1 k2 k3 k4 k5 hlp
          refine hK18 _ _ ?_
          refine S.seq fun K21 hK21 => ?_
          refine S.cut (fun ρ' Γ' => ∃ (j2 : Nat) (z2 : Int), z2 = j2 ∧ j2 = scanDown (q f) f i2 j ∧ ρ' = [(0, s.v), (1, .int .i64 (a : Int)), (10, .int .i64 (i2 : Int)), (11, .int .i64 z2)] ∧ Γ' = own s 68 1 (uA f) :: Γ) ?_ ?_
          · refine S.block ?_
            refine S.loop (fun r ρ' Γ' => ∃ (j' : Nat) (z' : Int), r = j' ∧ z' = j' ∧ j' ≤ j ∧ scanDown (q f) f i2 j' = scanDown (q f) f i2 j ∧ ρ' = [(0, s.v), (1, .int .i64 (a : Int)), (10, .int .i64 (i2 : Int)), (11, .int .i64 z')] ∧ Γ' = own s 68 1 (uA f) :: Γ) (m := _) (ρ0 := _) (Γ0 := _) (⟨j, z, rfl, hz, by omega, rfl, rfl, rfl⟩) (by repeat (first | exact trivial | refine ⟨rfl, ?_⟩)) Sub.ent ?_
            rintro r ρ' Γ' ⟨j', z', hr, hz', hjj, hsc, rfl, rfl⟩
            refine S.seq fun K22 hK22 => ?_
            refine S.seq fun K23 hK23 => ?_
            refine S.draw ([own s 68 1 (uA f)]) [] Tryd.mixed ?_
            refine S.dr_take 0 [] rfl (by kernel_rfl) rfl rfl rfl (q_move rfl) Sub.ent ?_
            refine S.dr_take 1 [] rfl (by kernel_rfl) rfl rfl rfl (q_move rfl) Sub.ent ?_
            refine S.dr_take 2 [] rfl (by kernel_rfl) rfl rfl rfl (q_le rfl rfl) Sub.ent ?_
            refine S.dr_take 3 [] rfl (by kernel_rfl) rfl rfl rfl (q_move rfl) Sub.ent ?_
            by_cases hg15_3 : (i2 : Int) ≤ z'
            · refine S.dr_takeY 4 [] rfl (by kernel_rfl) rfl rfl rfl (decide_eq_true hg15_3) rfl rfl (q_move rfl) Sub.ent ?_
              refine S.dr_takeY 5 [] rfl (by kernel_rfl) rfl rfl rfl (decide_eq_true hg15_3) rfl rfl (q_move rfl) Sub.ent ?_
              refine S.dr_takeY 6 [] rfl (by kernel_rfl) rfl rfl rfl (decide_eq_true hg15_3) rfl rfl (q_indexO (j') Tryd.el31 rfl hsa rfl hz' (by omega)) Sub.ent ?_
              refine S.dr_takeY 7 [] rfl (by kernel_rfl) rfl rfl rfl (decide_eq_true hg15_3) rfl rfl (q_loadOw (s) (j') Tryd.at68 rfl hsa (by first | rfl | exact Nat.add_assoc _ _ _ | omega) (uA_get (by omega))) Sub.ent ?_
              refine S.dr_takeY 8 [] rfl (by kernel_rfl) rfl rfl rfl (decide_eq_true hg15_3) rfl rfl (q_move rfl) Sub.ent ?_
              refine S.dr_takeY 9 [] rfl (by kernel_rfl) rfl rfl rfl (decide_eq_true hg15_3) rfl rfl (q_move rfl) Sub.ent ?_
              refine S.dr_takeY 10 [] rfl (by kernel_rfl) rfl rfl rfl (decide_eq_true hg15_3) rfl rfl (q_indexO (a) Tryd.el31 rfl hsa rfl rfl (by omega)) Sub.ent ?_
              refine S.dr_takeY 11 [] rfl (by kernel_rfl) rfl rfl rfl (decide_eq_true hg15_3) rfl rfl (q_loadOw (s) (a) Tryd.at68 rfl hsa (by first | rfl | exact Nat.add_assoc _ _ _ | omega) (uA_get (by omega))) Sub.ent ?_
              refine S.dr_1Y (i := 12) (by kernel_rfl) rfl rfl rfl rfl (decide_eq_true hg15_3) ?_
              refine  (S.call Tryd.en127 (vs := [_, _]) ⟨rfl, rfl, trivial⟩ (Less_S (f[j']!) (f[a]!)) rfl ?_)
              rintro v Θ ⟨rfl, rfl⟩
              refine S.dr_k rfl Sub.ent ?_
              refine S.dr_takeY 13 [] rfl (by kernel_rfl) rfl rfl rfl (decide_eq_true hg15_3) rfl rfl (q_not rfl) Sub.ent ?_
              refine S.dr_take 14 [] rfl (by kernel_rfl) rfl rfl rfl (q_pickT rfl (decide_eq_true hg15_3) rfl) Sub.ent ?_
              first | with_reducible refine S.dr_doneK (by kernel_rfl) ?_ | refine S.dr_done (by kernel_rfl) ?_
              refine hK23 _ _ ?_
              refine S.cond rfl (fun h5 => ?_) (fun h5 => ?_)
              · have hst2 : scanDown (q f) f i2 j' = scanDown (q f) f i2 (j' - 1) := scanDown_step (by omega) (by omega) (hqv _ _ h5)
                refine S.skip ?_
                with_reducible repeat (first | refine S.then_n ?_ | refine S.then_x ?_ | refine S.then_r ?_ | refine S.inBlock_n ?_ | refine S.inBlock_r ?_ | refine S.inBlock_x rfl ?_ | refine S.noGoto_r ?_ | refine S.noGoto_n ?_ | refine S.noGoto_x ?_)
                refine hK22 _ _ ?_
                refine S.block ?_
                refine S.region rfl ?_
                refine S.op (S.q (q_move rfl) rfl rfl ?_)
                refine S.op (S.q (q_sub rfl rfl (inI64 (by omega) (by omega))) rfl rfl ?_)
                refine S.op (S.q (q_assign rfl) rfl rfl ?_)
                first | with_reducible refine S.nilK ?_ | refine S.nil ?_
                with_reducible repeat (first | refine S.then_n ?_ | refine S.then_x ?_ | refine S.then_r ?_ | refine S.inBlock_n ?_ | refine S.inBlock_r ?_ | refine S.inBlock_x rfl ?_ | refine S.noGoto_r ?_ | refine S.noGoto_n ?_ | refine S.noGoto_x ?_)
                with_reducible repeat (first | refine S.then_n ?_ | refine S.then_x ?_ | refine S.then_r ?_ | refine S.inBlock_n ?_ | refine S.inBlock_r ?_ | refine S.inBlock_x rfl ?_ | refine S.noGoto_r ?_ | refine S.noGoto_n ?_ | refine S.noGoto_x ?_)
                exact S.next (j' - 1) (⟨j' - 1, z' - 1, rfl, by omega, by omega, hst2.symm.trans hsc, rfl, rfl⟩) (by omega) (by repeat (first | exact trivial | refine ⟨rfl, ?_⟩)) Sub.ent
              · have hst : scanDown (q f) f i2 j' = j' := scanDown_stop (fun h => by rw [hqn _ _ h.2] at h5; cases h5)
                refine S.exit ?_
                with_reducible repeat (first | refine S.then_n ?_ | refine S.then_x ?_ | refine S.then_r ?_ | refine S.inBlock_n ?_ | refine S.inBlock_r ?_ | refine S.inBlock_x rfl ?_ | refine S.noGoto_r ?_ | refine S.noGoto_n ?_ | refine S.noGoto_x ?_)
                with_reducible refine S.inBlock_s ?_
                with_reducible repeat (first | refine S.then_n ?_ | refine S.then_x ?_ | refine S.then_r ?_ | refine S.inBlock_n ?_ | refine S.inBlock_r ?_ | refine S.inBlock_x rfl ?_ | refine S.noGoto_r ?_ | refine S.noGoto_n ?_ | refine S.noGoto_x ?_)
                with_reducible repeat (first | refine S.then_n ?_ | refine S.then_x ?_ | refine S.then_r ?_ | refine S.inBlock_n ?_ | refine S.inBlock_r ?_ | refine S.inBlock_x rfl ?_ | refine S.noGoto_r ?_ | refine S.noGoto_n ?_ | refine S.noGoto_x ?_)
                exact S.meet ⟨j', z', hz', hst.symm.trans hsc, rfl, rfl⟩ ⟨rfl, rfl, rfl, rfl, trivial⟩ Sub.ent
            · have hst : scanDown (q f) f i2 j' = j' := scanDown_stop (fun h => hg15_3 (by omega))
              refine S.dr_takeN 4 [] rfl (by kernel_rfl) rfl rfl rfl (decide_eq_false hg15_3) rfl rfl Sub.ent ?_
              refine S.dr_takeN 5 [] rfl (by kernel_rfl) rfl rfl rfl (decide_eq_false hg15_3) rfl rfl Sub.ent ?_
              refine S.dr_takeN 6 [] rfl (by kernel_rfl) rfl rfl rfl (decide_eq_false hg15_3) rfl rfl Sub.ent ?_
              refine S.dr_takeN 7 [] rfl (by kernel_rfl) rfl rfl rfl (decide_eq_false hg15_3) rfl rfl Sub.ent ?_
              refine S.dr_takeN 8 [] rfl (by kernel_rfl) rfl rfl rfl (decide_eq_false hg15_3) rfl rfl Sub.ent ?_
              refine S.dr_takeN 9 [] rfl (by kernel_rfl) rfl rfl rfl (decide_eq_false hg15_3) rfl rfl Sub.ent ?_
              refine S.dr_takeN 10 [] rfl (by kernel_rfl) rfl rfl rfl (decide_eq_false hg15_3) rfl rfl Sub.ent ?_
              refine S.dr_takeN 11 [] rfl (by kernel_rfl) rfl rfl rfl (decide_eq_false hg15_3) rfl rfl Sub.ent ?_
              refine S.dr_takeN 12 [] rfl (by kernel_rfl) rfl rfl rfl (decide_eq_false hg15_3) rfl rfl Sub.ent ?_
              refine S.dr_takeN 13 [] rfl (by kernel_rfl) rfl rfl rfl (decide_eq_false hg15_3) rfl rfl Sub.ent ?_
              refine S.dr_take 14 [] rfl (by kernel_rfl) rfl rfl rfl (q_pickF rfl (decide_eq_false hg15_3) rfl) Sub.ent ?_
              first | with_reducible refine S.dr_doneK (by kernel_rfl) ?_ | refine S.dr_done (by kernel_rfl) ?_
              refine hK23 _ _ ?_
              refine S.condF rfl ?_
              refine S.exit ?_
              with_reducible repeat (first | refine S.then_n ?_ | refine S.then_x ?_ | refine S.then_r ?_ | refine S.inBlock_n ?_ | refine S.inBlock_r ?_ | refine S.inBlock_x rfl ?_ | refine S.noGoto_r ?_ | refine S.noGoto_n ?_ | refine S.noGoto_x ?_)
              with_reducible refine S.inBlock_s ?_
              with_reducible repeat (first | refine S.then_n ?_ | refine S.then_x ?_ | refine S.then_r ?_ | refine S.inBlock_n ?_ | refine S.inBlock_r ?_ | refine S.inBlock_x rfl ?_ | refine S.noGoto_r ?_ | refine S.noGoto_n ?_ | refine S.noGoto_x ?_)
              with_reducible repeat (first | refine S.then_n ?_ | refine S.then_x ?_ | refine S.then_r ?_ | refine S.inBlock_n ?_ | refine S.inBlock_r ?_ | refine S.inBlock_x rfl ?_ | refine S.noGoto_r ?_ | refine S.noGoto_n ?_ | refine S.noGoto_x ?_)
              exact S.meet ⟨j', z', hz', hst.symm.trans hsc, rfl, rfl⟩ ⟨rfl, rfl, rfl, rfl, trivial⟩ Sub.ent
          · rintro ρ' Γ' ⟨j2, z2, rfl, hj2, rfl, rfl⟩
            rw [← hj2] at k3 k4 k5 hlp
            refine hK21 _ _ ?_
            refine S.seq fun K24 hK24 => ?_
            refine S.seq fun K25 hK25 => ?_
            refine S.region rfl ?_
            refine S.op (S.q (q_move rfl) rfl rfl ?_)
            refine S.op (S.q (q_move rfl) rfl rfl ?_)
            refine S.op (S.q (q_gt rfl rfl) rfl rfl ?_)
            first | with_reducible refine S.nilK ?_ | refine S.nil ?_
            refine hK25 _ _ ?_
            refine S.condD rfl (fun h6 => ?_) (fun h6 => ?_)
            · rw [if_pos (by omega)] at hlp
              rw [← hlp] at hpt
              refine S.exit ?_
              with_reducible repeat (first | refine S.then_n ?_ | refine S.then_x ?_ | refine S.then_r ?_ | refine S.inBlock_n ?_ | refine S.inBlock_r ?_ | refine S.inBlock_x rfl ?_ | refine S.noGoto_r ?_ | refine S.noGoto_n ?_ | refine S.noGoto_x ?_)
              with_reducible refine S.inBlock_s ?_
              with_reducible repeat (first | refine S.then_n ?_ | refine S.then_x ?_ | refine S.then_r ?_ | refine S.inBlock_n ?_ | refine S.inBlock_r ?_ | refine S.inBlock_x rfl ?_ | refine S.noGoto_r ?_ | refine S.noGoto_n ?_ | refine S.noGoto_x ?_)
              refine hK17 _ _ ?_
              refine S.seq fun K26 hK26 => ?_
              refine S.draw ([own s 68 1 (uA f)]) [13] Tryd.mixed ?_
              refine S.dr_take 0 [12, 13, 14, 15] rfl (by kernel_rfl) rfl rfl rfl (q_move rfl) Sub.ent ?_
              refine S.dr_take 1 [12, 13, 14, 15] rfl (by kernel_rfl) rfl rfl rfl (q_move rfl) Sub.ent ?_
              refine S.dr_takeP 2 rfl (by kernel_rfl) rfl rfl rfl (q_move rfl) Sub.ent ?_
              refine S.dr_takeP 3 rfl (by kernel_rfl) rfl rfl rfl (q_move rfl) Sub.ent ?_
              refine S.dr_take 4 [6, 7, 12, 13, 14, 15] rfl (by kernel_rfl) rfl rfl rfl (q_move rfl) Sub.ent ?_
              refine S.dr_take 5 [6, 7, 12, 13, 14, 15] rfl (by kernel_rfl) rfl rfl rfl (q_move rfl) Sub.ent ?_
              refine S.dr_take 6 [7, 12, 13, 14, 15] rfl (by kernel_rfl) rfl rfl rfl (q_indexO (a) Tryd.el31 rfl hsa rfl rfl (by omega)) Sub.ent ?_
              refine S.dr_take 7 [12, 13, 14, 15] rfl (by kernel_rfl) rfl rfl rfl (q_loadOw (s) (a) Tryd.at68 rfl hsa (by first | rfl | exact Nat.add_assoc _ _ _ | omega) (uA_get (by omega))) Sub.ent ?_
              refine S.dr_take 8 [10, 11, 12, 13, 14, 15] rfl (by kernel_rfl) rfl rfl rfl (q_move rfl) Sub.ent ?_
              refine S.dr_take 9 [10, 11, 12, 13, 14, 15] rfl (by kernel_rfl) rfl rfl rfl (q_move rfl) Sub.ent ?_
              refine S.dr_take 10 [11, 12, 13, 14, 15] rfl (by kernel_rfl) rfl rfl rfl (q_indexO (j2) Tryd.el31 rfl hsa rfl rfl (by omega)) Sub.ent ?_
              refine S.dr_take 11 [12, 13, 14, 15] rfl (by kernel_rfl) rfl rfl rfl (q_loadOw (s) (j2) Tryd.at68 rfl hsa (by first | rfl | exact Nat.add_assoc _ _ _ | omega) (uA_get (by omega))) Sub.ent ?_
              refine S.dr_take 12 [13, 14, 15] rfl (by kernel_rfl) rfl rfl rfl (q_indexO (j2) Tryd.el31 rfl hsa rfl rfl (by omega)) Sub.ent ?_
              refine S.dr_1 (i := 13) (by kernel_rfl) rfl rfl ?_
              refine  (S.storeOw (s) (j2) Tryd.at68 rfl rfl rfl hsa (by first | rfl | exact Nat.add_assoc _ _ _ | omega) (by rw [uA_len]; omega) (uA_set _ _ _) ?_)
              refine S.dr_late ([]) [] rfl ?_
              refine S.dr_take 14 [] rfl (by kernel_rfl) rfl rfl rfl (q_indexO (a) Tryd.el31 rfl hsa rfl rfl (by omega)) Sub.ent ?_
              refine S.dr_1 (i := 15) (by kernel_rfl) rfl rfl ?_
              refine  (S.storeOw (s) (a) Tryd.at68 rfl rfl rfl hsa (by first | rfl | exact Nat.add_assoc _ _ _ | omega) (by rw [uA_len, Array.size_setIfInBounds]; omega) (show _ = uA (Go.Sort.swp f (j2) (a)) from uA_set _ _ _) ?_)
              refine S.dr_k rfl Sub.ent ?_
              first | with_reducible refine S.dr_doneK (by kernel_rfl) ?_ | refine S.dr_done (by kernel_rfl) ?_
              refine hK26 _ _ ?_
              refine S.seq fun K27 hK27 => ?_
              refine S.region rfl ?_
              refine S.op (S.q (q_move rfl) rfl rfl ?_)
              refine S.op (S.q (q_assign rfl) rfl rfl ?_)
              refine S.op (S.q (q_assign rfl) rfl rfl ?_)
              first | with_reducible refine S.nilK ?_ | refine S.nil ?_
              refine hK27 _ _ ?_
              refine S.ret ?_
              with_reducible repeat (first | refine S.then_n ?_ | refine S.then_x ?_ | refine S.then_r ?_ | refine S.inBlock_n ?_ | refine S.inBlock_r ?_ | refine S.inBlock_x rfl ?_ | refine S.noGoto_r ?_ | refine S.noGoto_n ?_ | refine S.noGoto_x ?_)
              exact S.fin (rs := [_, _]) (vs := [_, _]) Tryd.results129 (⟨rfl, rfl, trivial⟩)  (⟨by rw [hpt]; first | done | rfl, by rw [hpt]⟩) Sub.ent
            · rw [if_neg (by omega)] at hlp
              have k6 := k5 (by omega)
              refine S.skip ?_
              with_reducible repeat (first | refine S.then_n ?_ | refine S.then_x ?_ | refine S.then_r ?_ | refine S.inBlock_n ?_ | refine S.inBlock_r ?_ | refine S.inBlock_x rfl ?_ | refine S.noGoto_r ?_ | refine S.noGoto_n ?_ | refine S.noGoto_x ?_)
              refine hK24 _ _ ?_
              refine S.seq fun K28 hK28 => ?_
              refine S.draw ([own s 68 1 (uA f)]) [13] Tryd.mixed ?_
              refine S.dr_take 0 [12, 13, 14, 15] rfl (by kernel_rfl) rfl rfl rfl (q_move rfl) Sub.ent ?_
              refine S.dr_take 1 [12, 13, 14, 15] rfl (by kernel_rfl) rfl rfl rfl (q_move rfl) Sub.ent ?_
              refine S.dr_takeP 2 rfl (by kernel_rfl) rfl rfl rfl (q_move rfl) Sub.ent ?_
              refine S.dr_takeP 3 rfl (by kernel_rfl) rfl rfl rfl (q_move rfl) Sub.ent ?_
              refine S.dr_take 4 [6, 7, 12, 13, 14, 15] rfl (by kernel_rfl) rfl rfl rfl (q_move rfl) Sub.ent ?_
              refine S.dr_take 5 [6, 7, 12, 13, 14, 15] rfl (by kernel_rfl) rfl rfl rfl (q_move rfl) Sub.ent ?_
              refine S.dr_take 6 [7, 12, 13, 14, 15] rfl (by kernel_rfl) rfl rfl rfl (q_indexO (j2) Tryd.el31 rfl hsa rfl rfl (by omega)) Sub.ent ?_
              refine S.dr_take 7 [12, 13, 14, 15] rfl (by kernel_rfl) rfl rfl rfl (q_loadOw (s) (j2) Tryd.at68 rfl hsa (by first | rfl | exact Nat.add_assoc _ _ _ | omega) (uA_get (by omega))) Sub.ent ?_
              refine S.dr_take 8 [10, 11, 12, 13, 14, 15] rfl (by kernel_rfl) rfl rfl rfl (q_move rfl) Sub.ent ?_
              refine S.dr_take 9 [10, 11, 12, 13, 14, 15] rfl (by kernel_rfl) rfl rfl rfl (q_move rfl) Sub.ent ?_
              refine S.dr_take 10 [11, 12, 13, 14, 15] rfl (by kernel_rfl) rfl rfl rfl (q_indexO (i2) Tryd.el31 rfl hsa rfl rfl (by omega)) Sub.ent ?_
              refine S.dr_take 11 [12, 13, 14, 15] rfl (by kernel_rfl) rfl rfl rfl (q_loadOw (s) (i2) Tryd.at68 rfl hsa (by first | rfl | exact Nat.add_assoc _ _ _ | omega) (uA_get (by omega))) Sub.ent ?_
              refine S.dr_take 12 [13, 14, 15] rfl (by kernel_rfl) rfl rfl rfl (q_indexO (i2) Tryd.el31 rfl hsa rfl rfl (by omega)) Sub.ent ?_
              refine S.dr_1 (i := 13) (by kernel_rfl) rfl rfl ?_
              refine  (S.storeOw (s) (i2) Tryd.at68 rfl rfl rfl hsa (by first | rfl | exact Nat.add_assoc _ _ _ | omega) (by rw [uA_len]; omega) (uA_set _ _ _) ?_)
              refine S.dr_late ([]) [] rfl ?_
              refine S.dr_take 14 [] rfl (by kernel_rfl) rfl rfl rfl (q_indexO (j2) Tryd.el31 rfl hsa rfl rfl (by omega)) Sub.ent ?_
              refine S.dr_1 (i := 15) (by kernel_rfl) rfl rfl ?_
              refine  (S.storeOw (s) (j2) Tryd.at68 rfl rfl rfl hsa (by first | rfl | exact Nat.add_assoc _ _ _ | omega) (by rw [uA_len, Array.size_setIfInBounds]; omega) (show _ = uA (Go.Sort.swp f (i2) (j2)) from uA_set _ _ _) ?_)
              refine S.dr_k rfl Sub.ent ?_
              first | with_reducible refine S.dr_doneK (by kernel_rfl) ?_ | refine S.dr_done (by kernel_rfl) ?_
              refine hK28 _ _ ?_
              refine S.seq fun K29 hK29 => ?_
              refine S.region rfl ?_
              refine S.op (S.q (q_move rfl) rfl rfl ?_)
              refine S.op (S.q (q_add rfl rfl (inI64 (by omega) (by omega))) rfl rfl ?_)
              refine S.op (S.q (q_assign rfl) rfl rfl ?_)
              first | with_reducible refine S.nilK ?_ | refine S.nil ?_
              refine hK29 _ _ ?_
              refine S.region rfl ?_
              refine S.op (S.q (q_move rfl) rfl rfl ?_)
              refine S.op (S.q (q_sub rfl rfl (inI64 (by omega) (by omega))) rfl rfl ?_)
              refine S.op (S.q (q_assign rfl) rfl rfl ?_)
              first | with_reducible refine S.nilK ?_ | refine S.nil ?_
              with_reducible repeat (first | refine S.then_n ?_ | refine S.then_x ?_ | refine S.then_r ?_ | refine S.inBlock_n ?_ | refine S.inBlock_r ?_ | refine S.inBlock_x rfl ?_ | refine S.noGoto_r ?_ | refine S.noGoto_n ?_ | refine S.noGoto_x ?_)
              with_reducible repeat (first | refine S.then_n ?_ | refine S.then_x ?_ | refine S.then_r ?_ | refine S.inBlock_n ?_ | refine S.inBlock_r ?_ | refine S.inBlock_x rfl ?_ | refine S.noGoto_r ?_ | refine S.noGoto_n ?_ | refine S.noGoto_x ?_)
              exact S.next (j2 - 1 + 1 - (i2 + 1)) (⟨i2 + 1, j2 - 1, (j2 : Int) - 1, swp f i2 j2, rfl, by omega, by omega, by omega, by omega, by rw [swpZ, hfs], hlp, rfl, rfl⟩) (by omega) (by repeat (first | exact trivial | refine ⟨rfl, ?_⟩)) Sub.ent
theorem partitionEqual_S (s : SV) (d : Array Int) (a b pv : Nat) (hap : a ≤ pv) (hpb : pv < b) (hb : b ≤ d.size) (hsz : d.size ≤ 65535) (hsn : s.n = d.size) : Spec Tryd.prog 128 [s.v, .int .i64 (a : Int), .int .i64 (b : Int), .int .i64 (pv : Int)] [own s 68 1 (uA d)] fun Γ v Θ => v = .int .i64 ((partitionEqual ltInt d a b pv).1 : Nat) ∧ Θ = own s 68 1 (uA (partitionEqual ltInt d a b pv).2) :: Γ := by
  refine Spec.of_body Tryd.func128 rfl Tryd.ntmps128 rfl ?_
  intro w0 Γ
  show S _ w0 [(0, s.v), (1, .int .i64 (a : Int)), (2, .int .i64 (b : Int)), (3, .int .i64 (pv : Int))] (own s 68 1 (uA d) :: Γ) _
  refine S.ownSome s (by omega) fun sb so hsa _ _ _ => ?_
  obtain ⟨p, hp⟩ : ∃ p : Array Int → Int → Bool, p = fun f x => !ltInt f[a]! x := ⟨_, rfl⟩
  obtain ⟨q, hq⟩ : ∃ q : Array Int → Int → Bool, q = fun f x => ltInt f[a]! x := ⟨_, rfl⟩
  have hpq : ∀ f x, q f x = !p f x := fun f x => by rw [hp, hq]; simp
  have hpv : ∀ f x, (!ltInt f[a]! x) = true → p f x = true := fun f x h => by rw [hp]; exact h
  have hpn : ∀ f x, p f x = true → (!ltInt f[a]! x) = true := fun f x h => by rw [hp] at h; exact h
  have hqv : ∀ f x, ltInt f[a]! x = true → q f x = true := fun f x h => by rw [hq]; exact h
  have hqn : ∀ f x, q f x = true → ltInt f[a]! x = true := fun f x h => by rw [hq] at h; exact h
  have hpl : ∀ i j f, partEqLoop ltInt a i j f = if scanUp (p f) f j i > scanDown (q f) f (scanUp (p f) f j i) j then (scanUp (p f) f j i, f) else partEqLoop ltInt a (scanUp (p f) f j i + 1) (scanDown (q f) f (scanUp (p f) f j i) j - 1) (swp f (scanUp (p f) f j i) (scanDown (q f) f (scanUp (p f) f j i) j)) := fun i j f => by
    rw [hp, hq]
    exact partEqLoop_eq ltInt a i j f
  obtain ⟨L, hL⟩ : ∃ L, L = partitionEqual ltInt d a b pv := ⟨_, rfl⟩
  have hL2 : partEqLoop ltInt a (a + 1) (b - 1) (swp d a pv) = L := hL.symm
  rw [← hL]
  clear hp hq
  refine S.seq fun K1 hK1 => ?_
  refine S.region rfl ?_
  refine S.op (S.q (q_assign rfl) rfl rfl ?_)
  first | with_reducible refine S.nilK ?_ | refine S.nil ?_
  refine hK1 _ _ ?_
  refine S.seq fun K2 hK2 => ?_
  refine S.draw ([own s 68 1 (uA d)]) [13] Tryd.mixed ?_
  refine S.dr_take 0 [12, 13, 14, 15] rfl (by kernel_rfl) rfl rfl rfl (q_move rfl) Sub.ent ?_
  refine S.dr_take 1 [12, 13, 14, 15] rfl (by kernel_rfl) rfl rfl rfl (q_move rfl) Sub.ent ?_
  refine S.dr_takeP 2 rfl (by kernel_rfl) rfl rfl rfl (q_move rfl) Sub.ent ?_
  refine S.dr_takeP 3 rfl (by kernel_rfl) rfl rfl rfl (q_move rfl) Sub.ent ?_
  refine S.dr_take 4 [6, 7, 12, 13, 14, 15] rfl (by kernel_rfl) rfl rfl rfl (q_move rfl) Sub.ent ?_
  refine S.dr_take 5 [6, 7, 12, 13, 14, 15] rfl (by kernel_rfl) rfl rfl rfl (q_move rfl) Sub.ent ?_
  refine S.dr_take 6 [7, 12, 13, 14, 15] rfl (by kernel_rfl) rfl rfl rfl (q_indexO (pv) Tryd.el31 rfl hsa rfl rfl (by omega)) Sub.ent ?_
  refine S.dr_take 7 [12, 13, 14, 15] rfl (by kernel_rfl) rfl rfl rfl (q_loadOw (s) (pv) Tryd.at68 rfl hsa (by first | rfl | exact Nat.add_assoc _ _ _ | omega) (uA_get (by omega))) Sub.ent ?_
  refine S.dr_take 8 [10, 11, 12, 13, 14, 15] rfl (by kernel_rfl) rfl rfl rfl (q_move rfl) Sub.ent ?_
  refine S.dr_take 9 [10, 11, 12, 13, 14, 15] rfl (by kernel_rfl) rfl rfl rfl (q_move rfl) Sub.ent ?_
  refine S.dr_take 10 [11, 12, 13, 14, 15] rfl (by kernel_rfl) rfl rfl rfl (q_indexO (a) Tryd.el31 rfl hsa rfl rfl (by omega)) Sub.ent ?_
  refine S.dr_take 11 [12, 13, 14, 15] rfl (by kernel_rfl) rfl rfl rfl (q_loadOw (s) (a) Tryd.at68 rfl hsa (by first | rfl | exact Nat.add_assoc _ _ _ | omega) (uA_get (by omega))) Sub.ent ?_
  refine S.dr_take 12 [13, 14, 15] rfl (by kernel_rfl) rfl rfl rfl (q_indexO (a) Tryd.el31 rfl hsa rfl rfl (by omega)) Sub.ent ?_
  refine S.dr_1 (i := 13) (by kernel_rfl) rfl rfl ?_
  refine  (S.storeOw (s) (a) Tryd.at68 rfl rfl rfl hsa (by first | rfl | exact Nat.add_assoc _ _ _ | omega) (by rw [uA_len]; omega) (uA_set _ _ _) ?_)
  refine S.dr_late ([]) [] rfl ?_
  refine S.dr_take 14 [] rfl (by kernel_rfl) rfl rfl rfl (q_indexO (pv) Tryd.el31 rfl hsa rfl rfl (by omega)) Sub.ent ?_
  refine S.dr_1 (i := 15) (by kernel_rfl) rfl rfl ?_
  refine  (S.storeOw (s) (pv) Tryd.at68 rfl rfl rfl hsa (by first | rfl | exact Nat.add_assoc _ _ _ | omega) (by rw [uA_len, Array.size_setIfInBounds]; omega) (show _ = uA (Go.Sort.swp d (a) (pv)) from uA_set _ _ _) ?_)
  refine S.dr_k rfl Sub.ent ?_
  first | with_reducible refine S.dr_doneK (by kernel_rfl) ?_ | refine S.dr_done (by kernel_rfl) ?_
  refine hK2 _ _ ?_
  refine S.seq fun K3 hK3 => ?_
  refine S.region rfl ?_
  refine S.op (S.q (q_move rfl) rfl rfl ?_)
  refine S.op (S.q (q_add rfl rfl (inI64 (by omega) (by omega))) rfl rfl ?_)
  refine S.op (S.q (q_move rfl) rfl rfl ?_)
  refine S.op (S.q (q_sub rfl rfl (inI64 (by omega) (by omega))) rfl rfl ?_)
  refine S.op (S.q (q_assign rfl) rfl rfl ?_)
  refine S.op (S.q (q_assign rfl) rfl rfl ?_)
  first | with_reducible refine S.nilK ?_ | refine S.nil ?_
  refine hK3 _ _ ?_
  refine S.seq fun K4 hK4 => ?_
  refine S.block ?_
  refine S.loop (fun r ρ' Γ' => ∃ (i j : Nat) (z : Int) (f : Array Int), r = j + 1 - i ∧ z = j ∧ a < i ∧ i ≤ j + 1 ∧ j < b ∧ f.size = d.size ∧ partEqLoop ltInt a i j f = L ∧ ρ' = [(0, s.v), (1, .int .i64 (a : Int)), (9, .int .i64 (i : Int)), (10, .int .i64 z)] ∧ Γ' = own s 68 1 (uA f) :: Γ) (m := _) (ρ0 := _) (Γ0 := _) (⟨a + 1, b - 1, (b : Int) - 1, swp d a pv, rfl, by omega, by omega, by omega, by omega, by rw [swpZ], hL2, rfl, rfl⟩) (by repeat (first | exact trivial | refine ⟨rfl, ?_⟩)) Sub.ent ?_
  rintro r3 ρ' Γ' ⟨i, j, z, f, hr3, hz, hai, hij, hjb, hfs, hlp, rfl, rfl⟩
  obtain ⟨k1, k2, k3, k4, k5⟩ := scan_facts (p := p f) (q := q f) (e := f) (i := i) (j := j) (hpq f) (by omega) (by omega)
  rw [hpl] at hlp
  refine S.block ?_
  refine S.seq fun K5 hK5 => ?_
  refine S.cut (fun ρ' Γ' => ∃ i2 : Nat, i2 = scanUp (p f) f j i ∧ ρ' = [(0, s.v), (1, .int .i64 (a : Int)), (9, .int .i64 (i2 : Int)), (10, .int .i64 z)] ∧ Γ' = own s 68 1 (uA f) :: Γ) ?_ ?_
  · refine S.block ?_
    refine S.loop (fun r ρ' Γ' => ∃ i' : Nat, r = j + 1 - i' ∧ i ≤ i' ∧ i' ≤ j + 1 ∧ scanUp (p f) f j i' = scanUp (p f) f j i ∧ ρ' = [(0, s.v), (1, .int .i64 (a : Int)), (9, .int .i64 (i' : Int)), (10, .int .i64 z)] ∧ Γ' = own s 68 1 (uA f) :: Γ) (m := _) (ρ0 := _) (Γ0 := _) (⟨i, rfl, by omega, by omega, rfl, rfl, rfl⟩) (by repeat (first | exact trivial | refine ⟨rfl, ?_⟩)) Sub.ent ?_
    rintro r ρ' Γ' ⟨i', hr, hii, hij', hsc, rfl, rfl⟩
    refine S.seq fun K6 hK6 => ?_
    refine S.seq fun K7 hK7 => ?_
    refine S.draw ([own s 68 1 (uA f)]) [] Tryd.mixed ?_
    refine S.dr_take 0 [] rfl (by kernel_rfl) rfl rfl rfl (q_move rfl) Sub.ent ?_
    refine S.dr_take 1 [] rfl (by kernel_rfl) rfl rfl rfl (q_move rfl) Sub.ent ?_
    refine S.dr_take 2 [] rfl (by kernel_rfl) rfl rfl rfl (q_le rfl rfl) Sub.ent ?_
    refine S.dr_take 3 [] rfl (by kernel_rfl) rfl rfl rfl (q_move rfl) Sub.ent ?_
    by_cases hg3_3 : (i' : Int) ≤ z
    · refine S.dr_takeY 4 [] rfl (by kernel_rfl) rfl rfl rfl (decide_eq_true hg3_3) rfl rfl (q_move rfl) Sub.ent ?_
      refine S.dr_takeY 5 [] rfl (by kernel_rfl) rfl rfl rfl (decide_eq_true hg3_3) rfl rfl (q_move rfl) Sub.ent ?_
      refine S.dr_takeY 6 [] rfl (by kernel_rfl) rfl rfl rfl (decide_eq_true hg3_3) rfl rfl (q_indexO (a) Tryd.el31 rfl hsa rfl rfl (by omega)) Sub.ent ?_
      refine S.dr_takeY 7 [] rfl (by kernel_rfl) rfl rfl rfl (decide_eq_true hg3_3) rfl rfl (q_loadOw (s) (a) Tryd.at68 rfl hsa (by first | rfl | exact Nat.add_assoc _ _ _ | omega) (uA_get (by omega))) Sub.ent ?_
      refine S.dr_takeY 8 [] rfl (by kernel_rfl) rfl rfl rfl (decide_eq_true hg3_3) rfl rfl (q_move rfl) Sub.ent ?_
      refine S.dr_takeY 9 [] rfl (by kernel_rfl) rfl rfl rfl (decide_eq_true hg3_3) rfl rfl (q_move rfl) Sub.ent ?_
      refine S.dr_takeY 10 [] rfl (by kernel_rfl) rfl rfl rfl (decide_eq_true hg3_3) rfl rfl (q_indexO (i') Tryd.el31 rfl hsa rfl rfl (by omega)) Sub.ent ?_
      refine S.dr_takeY 11 [] rfl (by kernel_rfl) rfl rfl rfl (decide_eq_true hg3_3) rfl rfl (q_loadOw (s) (i') Tryd.at68 rfl hsa (by first | rfl | exact Nat.add_assoc _ _ _ | omega) (uA_get (by omega))) Sub.ent ?_
      refine S.dr_1Y (i := 12) (by kernel_rfl) rfl rfl rfl rfl (decide_eq_true hg3_3) ?_
      refine  (S.call Tryd.en127 (vs := [_, _]) ⟨rfl, rfl, trivial⟩ (Less_S (f[a]!) (f[i']!)) rfl ?_)
      rintro v Θ ⟨rfl, rfl⟩
      refine S.dr_k rfl Sub.ent ?_
      refine S.dr_takeY 13 [] rfl (by kernel_rfl) rfl rfl rfl (decide_eq_true hg3_3) rfl rfl (q_not rfl) Sub.ent ?_
      refine S.dr_take 14 [] rfl (by kernel_rfl) rfl rfl rfl (q_pickT rfl (decide_eq_true hg3_3) rfl) Sub.ent ?_
      first | with_reducible refine S.dr_doneK (by kernel_rfl) ?_ | refine S.dr_done (by kernel_rfl) ?_
      refine hK7 _ _ ?_
      refine S.cond rfl (fun h1 => ?_) (fun h1 => ?_)
      · have hst2 : scanUp (p f) f j i' = scanUp (p f) f j (i' + 1) := scanUp_step (by omega) (hpv _ _ h1)
        refine S.skip ?_
        with_reducible repeat (first | refine S.then_n ?_ | refine S.then_x ?_ | refine S.then_r ?_ | refine S.inBlock_n ?_ | refine S.inBlock_r ?_ | refine S.inBlock_x rfl ?_ | refine S.noGoto_r ?_ | refine S.noGoto_n ?_ | refine S.noGoto_x ?_)
        refine hK6 _ _ ?_
        refine S.block ?_
        refine S.region rfl ?_
        refine S.op (S.q (q_move rfl) rfl rfl ?_)
        refine S.op (S.q (q_add rfl rfl (inI64 (by omega) (by omega))) rfl rfl ?_)
        refine S.op (S.q (q_assign rfl) rfl rfl ?_)
        first | with_reducible refine S.nilK ?_ | refine S.nil ?_
        with_reducible repeat (first | refine S.then_n ?_ | refine S.then_x ?_ | refine S.then_r ?_ | refine S.inBlock_n ?_ | refine S.inBlock_r ?_ | refine S.inBlock_x rfl ?_ | refine S.noGoto_r ?_ | refine S.noGoto_n ?_ | refine S.noGoto_x ?_)
        with_reducible repeat (first | refine S.then_n ?_ | refine S.then_x ?_ | refine S.then_r ?_ | refine S.inBlock_n ?_ | refine S.inBlock_r ?_ | refine S.inBlock_x rfl ?_ | refine S.noGoto_r ?_ | refine S.noGoto_n ?_ | refine S.noGoto_x ?_)
        exact S.next (r - 1) (⟨i' + 1, by omega, by omega, by omega, hst2.symm.trans hsc, rfl, rfl⟩) (by omega) (by repeat (first | exact trivial | refine ⟨rfl, ?_⟩)) Sub.ent
      · have hst : scanUp (p f) f j i' = i' := scanUp_stop (fun h => by rw [hpn _ _ h.2] at h1; cases h1)
        refine S.exit ?_
        with_reducible repeat (first | refine S.then_n ?_ | refine S.then_x ?_ | refine S.then_r ?_ | refine S.inBlock_n ?_ | refine S.inBlock_r ?_ | refine S.inBlock_x rfl ?_ | refine S.noGoto_r ?_ | refine S.noGoto_n ?_ | refine S.noGoto_x ?_)
        with_reducible refine S.inBlock_s ?_
        with_reducible repeat (first | refine S.then_n ?_ | refine S.then_x ?_ | refine S.then_r ?_ | refine S.inBlock_n ?_ | refine S.inBlock_r ?_ | refine S.inBlock_x rfl ?_ | refine S.noGoto_r ?_ | refine S.noGoto_n ?_ | refine S.noGoto_x ?_)
        with_reducible repeat (first | refine S.then_n ?_ | refine S.then_x ?_ | refine S.then_r ?_ | refine S.inBlock_n ?_ | refine S.inBlock_r ?_ | refine S.inBlock_x rfl ?_ | refine S.noGoto_r ?_ | refine S.noGoto_n ?_ | refine S.noGoto_x ?_)
        exact S.meet ⟨i', hst.symm.trans hsc, rfl, rfl⟩ ⟨rfl, rfl, rfl, rfl, trivial⟩ Sub.ent
    · have hst : scanUp (p f) f j i' = i' := scanUp_stop (fun h => hg3_3 (by omega))
      refine S.dr_takeN 4 [] rfl (by kernel_rfl) rfl rfl rfl (decide_eq_false hg3_3) rfl rfl Sub.ent ?_
      refine S.dr_takeN 5 [] rfl (by kernel_rfl) rfl rfl rfl (decide_eq_false hg3_3) rfl rfl Sub.ent ?_
      refine S.dr_takeN 6 [] rfl (by kernel_rfl) rfl rfl rfl (decide_eq_false hg3_3) rfl rfl Sub.ent ?_
      refine S.dr_takeN 7 [] rfl (by kernel_rfl) rfl rfl rfl (decide_eq_false hg3_3) rfl rfl Sub.ent ?_
      refine S.dr_takeN 8 [] rfl (by kernel_rfl) rfl rfl rfl (decide_eq_false hg3_3) rfl rfl Sub.ent ?_
      refine S.dr_takeN 9 [] rfl (by kernel_rfl) rfl rfl rfl (decide_eq_false hg3_3) rfl rfl Sub.ent ?_
      refine S.dr_takeN 10 [] rfl (by kernel_rfl) rfl rfl rfl (decide_eq_false hg3_3) rfl rfl Sub.ent ?_
      refine S.dr_takeN 11 [] rfl (by kernel_rfl) rfl rfl rfl (decide_eq_false hg3_3) rfl rfl Sub.ent ?_
      refine S.dr_takeN 12 [] rfl (by kernel_rfl) rfl rfl rfl (decide_eq_false hg3_3) rfl rfl Sub.ent ?_
      refine S.dr_takeN 13 [] rfl (by kernel_rfl) rfl rfl rfl (decide_eq_false hg3_3) rfl rfl Sub.ent ?_
      refine S.dr_take 14 [] rfl (by kernel_rfl) rfl rfl rfl (q_pickF rfl (decide_eq_false hg3_3) rfl) Sub.ent ?_
      first | with_reducible refine S.dr_doneK (by kernel_rfl) ?_ | refine S.dr_done (by kernel_rfl) ?_
      refine hK7 _ _ ?_
      refine S.condF rfl ?_
      refine S.exit ?_
      with_reducible repeat (first | refine S.then_n ?_ | refine S.then_x ?_ | refine S.then_r ?_ | refine S.inBlock_n ?_ | refine S.inBlock_r ?_ | refine S.inBlock_x rfl ?_ | refine S.noGoto_r ?_ | refine S.noGoto_n ?_ | refine S.noGoto_x ?_)
      with_reducible refine S.inBlock_s ?_
      with_reducible repeat (first | refine S.then_n ?_ | refine S.then_x ?_ | refine S.then_r ?_ | refine S.inBlock_n ?_ | refine S.inBlock_r ?_ | refine S.inBlock_x rfl ?_ | refine S.noGoto_r ?_ | refine S.noGoto_n ?_ | refine S.noGoto_x ?_)
      with_reducible repeat (first | refine S.then_n ?_ | refine S.then_x ?_ | refine S.then_r ?_ | refine S.inBlock_n ?_ | refine S.inBlock_r ?_ | refine S.inBlock_x rfl ?_ | refine S.noGoto_r ?_ | refine S.noGoto_n ?_ | refine S.noGoto_x ?_)
      exact S.meet ⟨i', hst.symm.trans hsc, rfl, rfl⟩ ⟨rfl, rfl, rfl, rfl, trivial⟩ Sub.ent
  · rintro ρ' Γ' ⟨i2, hi2, rfl, rfl⟩
    rw [← hi2] at k1 k2 k3 k4 k5 hlp
    refine hK5 _ _ ?_
    refine S.seq fun K8 hK8 => ?_
    refine S.cut (fun ρ' Γ' => ∃ (j2 : Nat) (z2 : Int), z2 = j2 ∧ j2 = scanDown (q f) f i2 j ∧ ρ' = [(0, s.v), (1, .int .i64 (a : Int)), (9, .int .i64 (i2 : Int)), (10, .int .i64 z2)] ∧ Γ' = own s 68 1 (uA f) :: Γ) ?_ ?_
    · refine S.block ?_
      refine S.loop (fun r ρ' Γ' => ∃ (j' : Nat) (z' : Int), r = j' ∧ z' = j' ∧ j' ≤ j ∧ scanDown (q f) f i2 j' = scanDown (q f) f i2 j ∧ ρ' = [(0, s.v), (1, .int .i64 (a : Int)), (9, .int .i64 (i2 : Int)), (10, .int .i64 z')] ∧ Γ' = own s 68 1 (uA f) :: Γ) (m := _) (ρ0 := _) (Γ0 := _) (⟨j, z, rfl, hz, by omega, rfl, rfl, rfl⟩) (by repeat (first | exact trivial | refine ⟨rfl, ?_⟩)) Sub.ent ?_
      rintro r ρ' Γ' ⟨j', z', hr, hz', hjj, hsc, rfl, rfl⟩
      refine S.seq fun K9 hK9 => ?_
      refine S.seq fun K10 hK10 => ?_
      refine S.draw ([own s 68 1 (uA f)]) [] Tryd.mixed ?_
      refine S.dr_take 0 [] rfl (by kernel_rfl) rfl rfl rfl (q_move rfl) Sub.ent ?_
      refine S.dr_take 1 [] rfl (by kernel_rfl) rfl rfl rfl (q_move rfl) Sub.ent ?_
      refine S.dr_take 2 [] rfl (by kernel_rfl) rfl rfl rfl (q_le rfl rfl) Sub.ent ?_
      refine S.dr_take 3 [] rfl (by kernel_rfl) rfl rfl rfl (q_move rfl) Sub.ent ?_
      by_cases hg5_3 : (i2 : Int) ≤ z'
      · refine S.dr_takeY 4 [] rfl (by kernel_rfl) rfl rfl rfl (decide_eq_true hg5_3) rfl rfl (q_move rfl) Sub.ent ?_
        refine S.dr_takeY 5 [] rfl (by kernel_rfl) rfl rfl rfl (decide_eq_true hg5_3) rfl rfl (q_move rfl) Sub.ent ?_
        refine S.dr_takeY 6 [] rfl (by kernel_rfl) rfl rfl rfl (decide_eq_true hg5_3) rfl rfl (q_indexO (a) Tryd.el31 rfl hsa rfl rfl (by omega)) Sub.ent ?_
        refine S.dr_takeY 7 [] rfl (by kernel_rfl) rfl rfl rfl (decide_eq_true hg5_3) rfl rfl (q_loadOw (s) (a) Tryd.at68 rfl hsa (by first | rfl | exact Nat.add_assoc _ _ _ | omega) (uA_get (by omega))) Sub.ent ?_
        refine S.dr_takeY 8 [] rfl (by kernel_rfl) rfl rfl rfl (decide_eq_true hg5_3) rfl rfl (q_move rfl) Sub.ent ?_
        refine S.dr_takeY 9 [] rfl (by kernel_rfl) rfl rfl rfl (decide_eq_true hg5_3) rfl rfl (q_move rfl) Sub.ent ?_
        refine S.dr_takeY 10 [] rfl (by kernel_rfl) rfl rfl rfl (decide_eq_true hg5_3) rfl rfl (q_indexO (j') Tryd.el31 rfl hsa rfl hz' (by omega)) Sub.ent ?_
        refine S.dr_takeY 11 [] rfl (by kernel_rfl) rfl rfl rfl (decide_eq_true hg5_3) rfl rfl (q_loadOw (s) (j') Tryd.at68 rfl hsa (by first | rfl | exact Nat.add_assoc _ _ _ | omega) (uA_get (by omega))) Sub.ent ?_
        refine S.dr_1Y (i := 12) (by kernel_rfl) rfl rfl rfl rfl (decide_eq_true hg5_3) ?_
        refine  (S.call Tryd.en127 (vs := [_, _]) ⟨rfl, rfl, trivial⟩ (Less_S (f[a]!) (f[j']!)) rfl ?_)
        rintro v Θ ⟨rfl, rfl⟩
        refine S.dr_k rfl Sub.ent ?_
        refine S.dr_take 13 [] rfl (by kernel_rfl) rfl rfl rfl (q_pickT rfl (decide_eq_true hg5_3) rfl) Sub.ent ?_
        first | with_reducible refine S.dr_doneK (by kernel_rfl) ?_ | refine S.dr_done (by kernel_rfl) ?_
        refine hK10 _ _ ?_
        refine S.cond rfl (fun h2 => ?_) (fun h2 => ?_)
        · have hst2 : scanDown (q f) f i2 j' = scanDown (q f) f i2 (j' - 1) := scanDown_step (by omega) (by omega) (hqv _ _ h2)
          refine S.skip ?_
          with_reducible repeat (first | refine S.then_n ?_ | refine S.then_x ?_ | refine S.then_r ?_ | refine S.inBlock_n ?_ | refine S.inBlock_r ?_ | refine S.inBlock_x rfl ?_ | refine S.noGoto_r ?_ | refine S.noGoto_n ?_ | refine S.noGoto_x ?_)
          refine hK9 _ _ ?_
          refine S.block ?_
          refine S.region rfl ?_
          refine S.op (S.q (q_move rfl) rfl rfl ?_)
          refine S.op (S.q (q_sub rfl rfl (inI64 (by omega) (by omega))) rfl rfl ?_)
          refine S.op (S.q (q_assign rfl) rfl rfl ?_)
          first | with_reducible refine S.nilK ?_ | refine S.nil ?_
          with_reducible repeat (first | refine S.then_n ?_ | refine S.then_x ?_ | refine S.then_r ?_ | refine S.inBlock_n ?_ | refine S.inBlock_r ?_ | refine S.inBlock_x rfl ?_ | refine S.noGoto_r ?_ | refine S.noGoto_n ?_ | refine S.noGoto_x ?_)
          with_reducible repeat (first | refine S.then_n ?_ | refine S.then_x ?_ | refine S.then_r ?_ | refine S.inBlock_n ?_ | refine S.inBlock_r ?_ | refine S.inBlock_x rfl ?_ | refine S.noGoto_r ?_ | refine S.noGoto_n ?_ | refine S.noGoto_x ?_)
          exact S.next (j' - 1) (⟨j' - 1, z' - 1, rfl, by omega, by omega, hst2.symm.trans hsc, rfl, rfl⟩) (by omega) (by repeat (first | exact trivial | refine ⟨rfl, ?_⟩)) Sub.ent
        · have hst : scanDown (q f) f i2 j' = j' := scanDown_stop (fun h => by rw [hqn _ _ h.2] at h2; cases h2)
          refine S.exit ?_
          with_reducible repeat (first | refine S.then_n ?_ | refine S.then_x ?_ | refine S.then_r ?_ | refine S.inBlock_n ?_ | refine S.inBlock_r ?_ | refine S.inBlock_x rfl ?_ | refine S.noGoto_r ?_ | refine S.noGoto_n ?_ | refine S.noGoto_x ?_)
          with_reducible refine S.inBlock_s ?_
          with_reducible repeat (first | refine S.then_n ?_ | refine S.then_x ?_ | refine S.then_r ?_ | refine S.inBlock_n ?_ | refine S.inBlock_r ?_ | refine S.inBlock_x rfl ?_ | refine S.noGoto_r ?_ | refine S.noGoto_n ?_ | refine S.noGoto_x ?_)
          with_reducible repeat (first | refine S.then_n ?_ | refine S.then_x ?_ | refine S.then_r ?_ | refine S.inBlock_n ?_ | refine S.inBlock_r ?_ | refine S.inBlock_x rfl ?_ | refine S.noGoto_r ?_ | refine S.noGoto_n ?_ | refine S.noGoto_x ?_)
          exact S.meet ⟨j', z', hz', hst.symm.trans hsc, rfl, rfl⟩ ⟨rfl, rfl, rfl, rfl, trivial⟩ Sub.ent
      · have hst : scanDown (q f) f i2 j' = j' := scanDown_stop (fun h => hg5_3 (by omega))
        refine S.dr_takeN 4 [] rfl (by kernel_rfl) rfl rfl rfl (decide_eq_false hg5_3) rfl rfl Sub.ent ?_
        refine S.dr_takeN 5 [] rfl (by kernel_rfl) rfl rfl rfl (decide_eq_false hg5_3) rfl rfl Sub.ent ?_
        refine S.dr_takeN 6 [] rfl (by kernel_rfl) rfl rfl rfl (decide_eq_false hg5_3) rfl rfl Sub.ent ?_
        refine S.dr_takeN 7 [] rfl (by kernel_rfl) rfl rfl rfl (decide_eq_false hg5_3) rfl rfl Sub.ent ?_
        refine S.dr_takeN 8 [] rfl (by kernel_rfl) rfl rfl rfl (decide_eq_false hg5_3) rfl rfl Sub.ent ?_
        refine S.dr_takeN 9 [] rfl (by kernel_rfl) rfl rfl rfl (decide_eq_false hg5_3) rfl rfl Sub.ent ?_
        refine S.dr_takeN 10 [] rfl (by kernel_rfl) rfl rfl rfl (decide_eq_false hg5_3) rfl rfl Sub.ent ?_
        refine S.dr_takeN 11 [] rfl (by kernel_rfl) rfl rfl rfl (decide_eq_false hg5_3) rfl rfl Sub.ent ?_
        refine S.dr_takeN 12 [] rfl (by kernel_rfl) rfl rfl rfl (decide_eq_false hg5_3) rfl rfl Sub.ent ?_
        refine S.dr_take 13 [] rfl (by kernel_rfl) rfl rfl rfl (q_pickF rfl (decide_eq_false hg5_3) rfl) Sub.ent ?_
        first | with_reducible refine S.dr_doneK (by kernel_rfl) ?_ | refine S.dr_done (by kernel_rfl) ?_
        refine hK10 _ _ ?_
        refine S.condF rfl ?_
        refine S.exit ?_
        with_reducible repeat (first | refine S.then_n ?_ | refine S.then_x ?_ | refine S.then_r ?_ | refine S.inBlock_n ?_ | refine S.inBlock_r ?_ | refine S.inBlock_x rfl ?_ | refine S.noGoto_r ?_ | refine S.noGoto_n ?_ | refine S.noGoto_x ?_)
        with_reducible refine S.inBlock_s ?_
        with_reducible repeat (first | refine S.then_n ?_ | refine S.then_x ?_ | refine S.then_r ?_ | refine S.inBlock_n ?_ | refine S.inBlock_r ?_ | refine S.inBlock_x rfl ?_ | refine S.noGoto_r ?_ | refine S.noGoto_n ?_ | refine S.noGoto_x ?_)
        with_reducible repeat (first | refine S.then_n ?_ | refine S.then_x ?_ | refine S.then_r ?_ | refine S.inBlock_n ?_ | refine S.inBlock_r ?_ | refine S.inBlock_x rfl ?_ | refine S.noGoto_r ?_ | refine S.noGoto_n ?_ | refine S.noGoto_x ?_)
        exact S.meet ⟨j', z', hz', hst.symm.trans hsc, rfl, rfl⟩ ⟨rfl, rfl, rfl, rfl, trivial⟩ Sub.ent
    · rintro ρ' Γ' ⟨j2, z2, rfl, hj2, rfl, rfl⟩
      rw [← hj2] at k3 k4 k5 hlp
      refine hK8 _ _ ?_
      refine S.seq fun K11 hK11 => ?_
      refine S.seq fun K12 hK12 => ?_
      refine S.region rfl ?_
      refine S.op (S.q (q_move rfl) rfl rfl ?_)
      refine S.op (S.q (q_move rfl) rfl rfl ?_)
      refine S.op (S.q (q_gt rfl rfl) rfl rfl ?_)
      first | with_reducible refine S.nilK ?_ | refine S.nil ?_
      refine hK12 _ _ ?_
      refine S.condD rfl (fun h3 => ?_) (fun h3 => ?_)
      · rw [if_pos (by omega)] at hlp
        refine S.exit ?_
        with_reducible repeat (first | refine S.then_n ?_ | refine S.then_x ?_ | refine S.then_r ?_ | refine S.inBlock_n ?_ | refine S.inBlock_r ?_ | refine S.inBlock_x rfl ?_ | refine S.noGoto_r ?_ | refine S.noGoto_n ?_ | refine S.noGoto_x ?_)
        with_reducible refine S.inBlock_s ?_
        with_reducible repeat (first | refine S.then_n ?_ | refine S.then_x ?_ | refine S.then_r ?_ | refine S.inBlock_n ?_ | refine S.inBlock_r ?_ | refine S.inBlock_x rfl ?_ | refine S.noGoto_r ?_ | refine S.noGoto_n ?_ | refine S.noGoto_x ?_)
        refine hK4 _ _ ?_
        refine S.seq fun K13 hK13 => ?_
        refine S.region rfl ?_
        refine S.op (S.q (q_move rfl) rfl rfl ?_)
        refine S.op (S.q (q_assign rfl) rfl rfl ?_)
        first | with_reducible refine S.nilK ?_ | refine S.nil ?_
        refine hK13 _ _ ?_
        refine S.ret ?_
        with_reducible repeat (first | refine S.then_n ?_ | refine S.then_x ?_ | refine S.then_r ?_ | refine S.inBlock_n ?_ | refine S.inBlock_r ?_ | refine S.inBlock_x rfl ?_ | refine S.noGoto_r ?_ | refine S.noGoto_n ?_ | refine S.noGoto_x ?_)
        exact S.fin (rs := [_]) (vs := [_]) Tryd.results128 (⟨rfl, trivial⟩)  (⟨by rw [← hlp]; first | done | rfl, by rw [← hlp]⟩) Sub.ent
      · rw [if_neg (by omega)] at hlp
        have k6 := k5 (by omega)
        refine S.skip ?_
        with_reducible repeat (first | refine S.then_n ?_ | refine S.then_x ?_ | refine S.then_r ?_ | refine S.inBlock_n ?_ | refine S.inBlock_r ?_ | refine S.inBlock_x rfl ?_ | refine S.noGoto_r ?_ | refine S.noGoto_n ?_ | refine S.noGoto_x ?_)
        refine hK11 _ _ ?_
        refine S.seq fun K14 hK14 => ?_
        refine S.draw ([own s 68 1 (uA f)]) [13] Tryd.mixed ?_
        refine S.dr_take 0 [12, 13, 14, 15] rfl (by kernel_rfl) rfl rfl rfl (q_move rfl) Sub.ent ?_
        refine S.dr_take 1 [12, 13, 14, 15] rfl (by kernel_rfl) rfl rfl rfl (q_move rfl) Sub.ent ?_
        refine S.dr_takeP 2 rfl (by kernel_rfl) rfl rfl rfl (q_move rfl) Sub.ent ?_
        refine S.dr_takeP 3 rfl (by kernel_rfl) rfl rfl rfl (q_move rfl) Sub.ent ?_
        refine S.dr_take 4 [6, 7, 12, 13, 14, 15] rfl (by kernel_rfl) rfl rfl rfl (q_move rfl) Sub.ent ?_
        refine S.dr_take 5 [6, 7, 12, 13, 14, 15] rfl (by kernel_rfl) rfl rfl rfl (q_move rfl) Sub.ent ?_
        refine S.dr_take 6 [7, 12, 13, 14, 15] rfl (by kernel_rfl) rfl rfl rfl (q_indexO (j2) Tryd.el31 rfl hsa rfl rfl (by omega)) Sub.ent ?_
        refine S.dr_take 7 [12, 13, 14, 15] rfl (by kernel_rfl) rfl rfl rfl (q_loadOw (s) (j2) Tryd.at68 rfl hsa (by first | rfl | exact Nat.add_assoc _ _ _ | omega) (uA_get (by omega))) Sub.ent ?_
        refine S.dr_take 8 [10, 11, 12, 13, 14, 15] rfl (by kernel_rfl) rfl rfl rfl (q_move rfl) Sub.ent ?_
        refine S.dr_take 9 [10, 11, 12, 13, 14, 15] rfl (by kernel_rfl) rfl rfl rfl (q_move rfl) Sub.ent ?_
        refine S.dr_take 10 [11, 12, 13, 14, 15] rfl (by kernel_rfl) rfl rfl rfl (q_indexO (i2) Tryd.el31 rfl hsa rfl rfl (by omega)) Sub.ent ?_
        refine S.dr_take 11 [12, 13, 14, 15] rfl (by kernel_rfl) rfl rfl rfl (q_loadOw (s) (i2) Tryd.at68 rfl hsa (by first | rfl | exact Nat.add_assoc _ _ _ | omega) (uA_get (by omega))) Sub.ent ?_
        refine S.dr_take 12 [13, 14, 15] rfl (by kernel_rfl) rfl rfl rfl (q_indexO (i2) Tryd.el31 rfl hsa rfl rfl (by omega)) Sub.ent ?_
        refine S.dr_1 (i := 13) (by kernel_rfl) rfl rfl ?_
        refine  (S.storeOw (s) (i2) Tryd.at68 rfl rfl rfl hsa (by first | rfl | exact Nat.add_assoc _ _ _ | omega) (by rw [uA_len]; omega) (uA_set _ _ _) ?_)
        refine S.dr_late ([]) [] rfl ?_
        refine S.dr_take 14 [] rfl (by kernel_rfl) rfl rfl rfl (q_indexO (j2) Tryd.el31 rfl hsa rfl rfl (by omega)) Sub.ent ?_
        refine S.dr_1 (i := 15) (by kernel_rfl) rfl rfl ?_
        refine  (S.storeOw (s) (j2) Tryd.at68 rfl rfl rfl hsa (by first | rfl | exact Nat.add_assoc _ _ _ | omega) (by rw [uA_len, Array.size_setIfInBounds]; omega) (show _ = uA (Go.Sort.swp f (i2) (j2)) from uA_set _ _ _) ?_)
        refine S.dr_k rfl Sub.ent ?_
        first | with_reducible refine S.dr_doneK (by kernel_rfl) ?_ | refine S.dr_done (by kernel_rfl) ?_
        refine hK14 _ _ ?_
        refine S.seq fun K15 hK15 => ?_
        refine S.region rfl ?_
        refine S.op (S.q (q_move rfl) rfl rfl ?_)
        refine S.op (S.q (q_add rfl rfl (inI64 (by omega) (by omega))) rfl rfl ?_)
        refine S.op (S.q (q_assign rfl) rfl rfl ?_)
        first | with_reducible refine S.nilK ?_ | refine S.nil ?_
        refine hK15 _ _ ?_
        refine S.region rfl ?_
        refine S.op (S.q (q_move rfl) rfl rfl ?_)
        refine S.op (S.q (q_sub rfl rfl (inI64 (by omega) (by omega))) rfl rfl ?_)
        refine S.op (S.q (q_assign rfl) rfl rfl ?_)
        first | with_reducible refine S.nilK ?_ | refine S.nil ?_
        with_reducible repeat (first | refine S.then_n ?_ | refine S.then_x ?_ | refine S.then_r ?_ | refine S.inBlock_n ?_ | refine S.inBlock_r ?_ | refine S.inBlock_x rfl ?_ | refine S.noGoto_r ?_ | refine S.noGoto_n ?_ | refine S.noGoto_x ?_)
        with_reducible repeat (first | refine S.then_n ?_ | refine S.then_x ?_ | refine S.then_r ?_ | refine S.inBlock_n ?_ | refine S.inBlock_r ?_ | refine S.inBlock_x rfl ?_ | refine S.noGoto_r ?_ | refine S.noGoto_n ?_ | refine S.noGoto_x ?_)
        exact S.next (j2 - 1 + 1 - (i2 + 1)) (⟨i2 + 1, j2 - 1, (j2 : Int) - 1, swp f i2 j2, rfl, by omega, by omega, by omega, by omega, by rw [swpZ, hfs], hlp, rfl, rfl⟩) (by omega) (by repeat (first | exact trivial | refine ⟨rfl, ?_⟩)) Sub.ent
theorem pdq_S (s : SV) (N : Nat) (hsz : N ≤ 65535) (hsn : s.n = N) : ∀ (n a b : Nat) (d : Array Int) (l : Int), n = b - a → a ≤ b → b ≤ d.size → d.size = N → 0 ≤ l ∧ l ≤ 64 → Below ltInt a b d → Spec Tryd.prog 107 [s.v, .int .i64 (a : Int), .int .i64 (b : Int), .int .i64 l] [own s 68 1 (uA d)] fun Γ _ Θ => ∃ R, PermIn a b d R ∧ SortedIn ltInt a b R ∧ Θ = own s 68 1 (uA R) :: Γ := by
  intro n
  induction n using Nat.strongRecOn with
  | _ n ih =>
  intro a b d l hn hab hb hdN hl hBel
  refine Spec.of_body Tryd.func107 rfl Tryd.ntmps107 rfl ?_
  intro w0 Γ
  show S _ w0 [(0, s.v), (1, .int .i64 (a : Int)), (2, .int .i64 (b : Int)), (3, .int .i64 l)] (own s 68 1 (uA d) :: Γ) _
  refine S.seq fun K1 hK1 => ?_
  refine S.region rfl ?_
  refine S.op (S.q (q_assign rfl) rfl rfl ?_)
  first | with_reducible refine S.nilK ?_ | refine S.nil ?_
  refine hK1 _ _ ?_
  refine S.seq fun K2 hK2 => ?_
  refine S.region rfl ?_
  refine S.op (S.q (q_assign rfl) rfl rfl ?_)
  first | with_reducible refine S.nilK ?_ | refine S.nil ?_
  refine hK2 _ _ ?_
  refine S.block ?_
  refine S.loop (fun q ρ' Γ' => ∃ (a' b' : Nat) (l : Int) (wb wp : Bool) (e : Array Int), q = b' - a' ∧ a' ≤ b' ∧ a ≤ a' ∧ b' ≤ b ∧ (0 ≤ l ∧ l ≤ 64) ∧ e.size = d.size ∧ Below ltInt a' b' e ∧ (∀ R, PermIn a' b' e R → SortedIn ltInt a' b' R → PermIn a b d R ∧ SortedIn ltInt a b R) ∧ ρ' = [(0, s.v), (1, .int .i64 (a' : Int)), (2, .int .i64 (b' : Int)), (3, .int .i64 l), (8, .bool wb), (9, .bool wp)] ∧ Γ' = own s 68 1 (uA e) :: Γ) (m := _) (ρ0 := _) (Γ0 := _) (⟨a, b, l, true, true, d, rfl, hab, by omega, by omega, hl, rfl, hBel, fun R h1 h2 => ⟨h1, h2⟩, rfl, rfl⟩) (by repeat (first | exact trivial | refine ⟨rfl, ?_⟩)) Sub.ent ?_
  rintro q ρ' Γ' ⟨a', b', l, wb, wp, e, hq, hab', haa, hbb, hl, hes, hB, hG, rfl, rfl⟩
  refine S.block ?_
  refine S.seq fun K3 hK3 => ?_
  refine S.region rfl ?_
  refine S.op (S.q (q_move rfl) rfl rfl ?_)
  refine S.op (S.q (q_move rfl) rfl rfl ?_)
  refine S.op (S.q (q_sub rfl rfl (inI64 (by omega) (by omega))) rfl rfl ?_)
  refine S.op (S.q (q_assign rfl) rfl rfl ?_)
  first | with_reducible refine S.nilK ?_ | refine S.nil ?_
  refine hK3 _ _ ?_
  refine S.seq fun K4 hK4 => ?_
  refine S.seq fun K5 hK5 => ?_
  refine S.region rfl ?_
  refine S.op (S.q (q_move rfl) rfl rfl ?_)
  refine S.op (S.q (q_le rfl rfl) rfl rfl ?_)
  first | with_reducible refine S.nilK ?_ | refine S.nil ?_
  refine hK5 _ _ ?_
  refine S.condD rfl (fun h1 => ?_) (fun h1 => ?_)
  · obtain ⟨p1, p2⟩ := insertionSort_holds swo_ltInt e a' b' hab' (by omega)
    obtain ⟨p3, p4⟩ := hG _ p1 p2
    refine S.seq fun K6 hK6 => ?_
    refine S.region rfl ?_
    refine S.op (S.q (q_move rfl) rfl rfl ?_)
    refine S.op (S.q (q_move rfl) rfl rfl ?_)
    refine S.op (S.q (q_move rfl) rfl rfl ?_)
    refine S.op (S.call Tryd.en121 (vs := [_, _, _]) ⟨rfl, rfl, rfl, trivial⟩ (insSort_S s e a' b' hab' (by omega) (by omega) (by omega)) rfl ?_)
    rintro v Θ rfl
    first | with_reducible refine S.nilK ?_ | refine S.nil ?_
    refine hK6 _ _ ?_
    refine S.ret ?_
    with_reducible repeat (first | refine S.then_n ?_ | refine S.then_x ?_ | refine S.then_r ?_ | refine S.inBlock_n ?_ | refine S.inBlock_r ?_ | refine S.inBlock_x rfl ?_ | refine S.noGoto_r ?_ | refine S.noGoto_n ?_ | refine S.noGoto_x ?_)
    exact S.fin (rs := []) (vs := []) Tryd.results107 (trivial)  (⟨_, p3, p4, rfl⟩) Sub.ent
  · refine S.skip ?_
    with_reducible repeat (first | refine S.then_n ?_ | refine S.then_x ?_ | refine S.then_r ?_ | refine S.inBlock_n ?_ | refine S.inBlock_r ?_ | refine S.inBlock_x rfl ?_ | refine S.noGoto_r ?_ | refine S.noGoto_n ?_ | refine S.noGoto_x ?_)
    refine hK4 _ _ ?_
    refine S.seq fun K7 hK7 => ?_
    refine S.seq fun K8 hK8 => ?_
    refine S.region rfl ?_
    refine S.op (S.q (q_move rfl) rfl rfl ?_)
    refine S.op (S.q (q_eq rfl rfl) rfl rfl ?_)
    first | with_reducible refine S.nilK ?_ | refine S.nil ?_
    refine hK8 _ _ ?_
    refine S.condD rfl (fun h2 => ?_) (fun h2 => ?_)
    · obtain ⟨p1, p2⟩ := heapSort_holds swo_ltInt e a' b' hab' (by omega)
      obtain ⟨p3, p4⟩ := hG _ p1 p2
      refine S.seq fun K9 hK9 => ?_
      refine S.region rfl ?_
      refine S.op (S.q (q_move rfl) rfl rfl ?_)
      refine S.op (S.q (q_move rfl) rfl rfl ?_)
      refine S.op (S.q (q_move rfl) rfl rfl ?_)
      refine S.op (S.call Tryd.en122 (vs := [_, _, _]) ⟨rfl, rfl, rfl, trivial⟩ (heapSort_S s e a' b' (by omega) (by omega) (by omega) (by omega)) rfl ?_)
      rintro v Θ rfl
      first | with_reducible refine S.nilK ?_ | refine S.nil ?_
      refine hK9 _ _ ?_
      refine S.ret ?_
      with_reducible repeat (first | refine S.then_n ?_ | refine S.then_x ?_ | refine S.then_r ?_ | refine S.inBlock_n ?_ | refine S.inBlock_r ?_ | refine S.inBlock_x rfl ?_ | refine S.noGoto_r ?_ | refine S.noGoto_n ?_ | refine S.noGoto_x ?_)
      exact S.fin (rs := []) (vs := []) Tryd.results107 (trivial)  (⟨_, p3, p4, rfl⟩) Sub.ent
    · refine S.skip ?_
      with_reducible repeat (first | refine S.then_n ?_ | refine S.then_x ?_ | refine S.then_r ?_ | refine S.inBlock_n ?_ | refine S.inBlock_r ?_ | refine S.inBlock_x rfl ?_ | refine S.noGoto_r ?_ | refine S.noGoto_n ?_ | refine S.noGoto_x ?_)
      refine hK7 _ _ ?_
      refine S.seq fun K10 hK10 => ?_
      refine S.seq fun K11 hK11 => ?_
      refine S.region rfl ?_
      refine S.op (S.q (q_move rfl) rfl rfl ?_)
      refine S.op (S.q (q_not rfl) rfl rfl ?_)
      first | with_reducible refine S.nilK ?_ | refine S.nil ?_
      refine hK11 _ _ ?_
      refine S.cut (fun ρ' Γ' => ∃ (l2 : Int) (e1 : Array Int), (0 ≤ l2 ∧ l2 ≤ 64) ∧ PermIn a' b' e e1 ∧ ρ' = [(0, s.v), (1, .int .i64 (a' : Int)), (2, .int .i64 (b' : Int)), (3, .int .i64 l2), (8, .bool wb), (9, .bool wp), (10, .int .i64 ((b' : Int) - a'))] ∧ Γ' = own s 68 1 (uA e1) :: Γ) ?_ ?_
      · refine S.cond rfl (fun h3 => ?_) (fun h3 => ?_)
        · refine S.seq fun K12 hK12 => ?_
          refine S.region rfl ?_
          refine S.op (S.q (q_move rfl) rfl rfl ?_)
          refine S.op (S.q (q_move rfl) rfl rfl ?_)
          refine S.op (S.q (q_move rfl) rfl rfl ?_)
          refine S.op (S.call Tryd.en123 (vs := [_, _, _]) ⟨rfl, rfl, rfl, trivial⟩ (break_S s e a' b' (by omega) (by omega) (by omega) (by omega)) rfl ?_)
          rintro v Θ ⟨e1, hp1, rfl⟩
          first | with_reducible refine S.nilK ?_ | refine S.nil ?_
          refine hK12 _ _ ?_
          refine S.region rfl ?_
          refine S.op (S.q (q_move rfl) rfl rfl ?_)
          refine S.op (S.q (q_sub rfl rfl (inI64 (by omega) (by omega))) rfl rfl ?_)
          refine S.op (S.q (q_assign rfl) rfl rfl ?_)
          first | with_reducible refine S.nilK ?_ | refine S.nil ?_
          with_reducible repeat (first | refine S.then_n ?_ | refine S.then_x ?_ | refine S.then_r ?_ | refine S.inBlock_n ?_ | refine S.inBlock_r ?_ | refine S.inBlock_x rfl ?_ | refine S.noGoto_r ?_ | refine S.noGoto_n ?_ | refine S.noGoto_x ?_)
          first | exact S.meet ⟨l - 1, e1, by omega, hp1, rfl, rfl⟩ ⟨rfl, rfl, rfl, rfl, rfl, rfl, rfl, trivial⟩ Sub.ent | exact S.meet ⟨l, e, hl, permIn_refl _ _ _, rfl, rfl⟩ ⟨rfl, rfl, rfl, rfl, rfl, rfl, rfl, trivial⟩ Sub.ent
        · refine S.skip ?_
          with_reducible repeat (first | refine S.then_n ?_ | refine S.then_x ?_ | refine S.then_r ?_ | refine S.inBlock_n ?_ | refine S.inBlock_r ?_ | refine S.inBlock_x rfl ?_ | refine S.noGoto_r ?_ | refine S.noGoto_n ?_ | refine S.noGoto_x ?_)
          with_reducible repeat (first | refine S.then_n ?_ | refine S.then_x ?_ | refine S.then_r ?_ | refine S.inBlock_n ?_ | refine S.inBlock_r ?_ | refine S.inBlock_x rfl ?_ | refine S.noGoto_r ?_ | refine S.noGoto_n ?_ | refine S.noGoto_x ?_)
          first | exact S.meet ⟨l - 1, e1, by omega, hp1, rfl, rfl⟩ ⟨rfl, rfl, rfl, rfl, rfl, rfl, rfl, trivial⟩ Sub.ent | exact S.meet ⟨l, e, hl, permIn_refl _ _ _, rfl, rfl⟩ ⟨rfl, rfl, rfl, rfl, rfl, rfl, rfl, trivial⟩ Sub.ent
      · rintro ρ' Γ' ⟨l2, e1, hl2, hp1, rfl, rfl⟩
        have hz1 := hp1.1
        refine hK10 _ _ ?_
        refine S.seq fun K13 hK13 => ?_
        refine S.region rfl ?_
        refine S.op (S.q (q_move rfl) rfl rfl ?_)
        refine S.op (S.q (q_move rfl) rfl rfl ?_)
        refine S.op (S.q (q_move rfl) rfl rfl ?_)
        refine S.op (S.call Tryd.en124 (vs := [_, _, _]) ⟨rfl, rfl, rfl, trivial⟩ (choose_S s e1 a' b' (by omega) (by omega) (by omega) (by omega)) rfl ?_)
        rintro v Θ ⟨u, h, hu, rfl, rfl⟩
        refine S.op (S.q (q_move rfl) rfl rfl ?_)
        refine S.op (S.q (q_extract rfl rfl) rfl rfl ?_)
        refine S.op (S.q (q_extract rfl rfl) rfl rfl ?_)
        refine S.op (S.q (q_assign rfl) rfl rfl ?_)
        refine S.op (S.q (q_assign rfl) rfl rfl ?_)
        first | with_reducible refine S.nilK ?_ | refine S.nil ?_
        refine hK13 _ _ ?_
        refine S.seq fun K14 hK14 => ?_
        refine S.seq fun K15 hK15 => ?_
        refine S.region rfl ?_
        refine S.op (S.q (q_move rfl) rfl rfl ?_)
        refine S.op (S.q (q_eq rfl rfl) rfl rfl ?_)
        first | with_reducible refine S.nilK ?_ | refine S.nil ?_
        refine hK15 _ _ ?_
        refine S.cut (fun ρ' Γ' => ∃ (u2 : Nat) (zu h2 : Int) (e2 : Array Int), zu = u2 ∧ (a' ≤ u2 ∧ u2 < b') ∧ PermIn a' b' e e2 ∧ ρ' = [(0, s.v), (1, .int .i64 (a' : Int)), (2, .int .i64 (b' : Int)), (3, .int .i64 l2), (8, .bool wb), (9, .bool wp), (10, .int .i64 ((b' : Int) - a')), (11, .int .i64 zu), (12, .int .i64 h2)] ∧ Γ' = own s 68 1 (uA e2) :: Γ) ?_ ?_
        · refine S.condD rfl (fun h4 => ?_) (fun h4 => ?_)
          · refine S.seq fun K16 hK16 => ?_
            refine S.region rfl ?_
            refine S.op (S.q (q_move rfl) rfl rfl ?_)
            refine S.op (S.q (q_move rfl) rfl rfl ?_)
            refine S.op (S.q (q_move rfl) rfl rfl ?_)
            refine S.op (S.call Tryd.en125 (vs := [_, _, _]) ⟨rfl, rfl, rfl, trivial⟩ (reverse_S s e1 a' b' (by omega) (by omega) (by omega) (by omega)) rfl ?_)
            rintro v Θ ⟨e2, hp2, rfl⟩
            first | with_reducible refine S.nilK ?_ | refine S.nil ?_
            refine hK16 _ _ ?_
            refine S.seq fun K17 hK17 => ?_
            refine S.region rfl ?_
            refine S.op (S.q (q_move rfl) rfl rfl ?_)
            refine S.op (S.q (q_sub rfl rfl (inI64 (by omega) (by omega))) rfl rfl ?_)
            refine S.op (S.q (q_move rfl) rfl rfl ?_)
            refine S.op (S.q (q_move rfl) rfl rfl ?_)
            refine S.op (S.q (q_sub rfl rfl (inI64 (by omega) (by omega))) rfl rfl ?_)
            refine S.op (S.q (q_sub rfl rfl (inI64 (by omega) (by omega))) rfl rfl ?_)
            refine S.op (S.q (q_assign rfl) rfl rfl ?_)
            first | with_reducible refine S.nilK ?_ | refine S.nil ?_
            refine hK17 _ _ ?_
            refine S.region rfl ?_
            refine S.op (S.q (q_assign rfl) rfl rfl ?_)
            first | with_reducible refine S.nilK ?_ | refine S.nil ?_
            with_reducible repeat (first | refine S.then_n ?_ | refine S.then_x ?_ | refine S.then_r ?_ | refine S.inBlock_n ?_ | refine S.inBlock_r ?_ | refine S.inBlock_x rfl ?_ | refine S.noGoto_r ?_ | refine S.noGoto_n ?_ | refine S.noGoto_x ?_)
            first | exact S.meet ⟨b' - 1 - (u - a'), (b' : Int) - 1 - ((u : Int) - a'), 1, e2, by omega, by omega, permIn_trans _ _ _ _ _ hp1 hp2, rfl, rfl⟩ ⟨rfl, rfl, rfl, rfl, rfl, rfl, rfl, rfl, rfl, trivial⟩ Sub.ent | exact S.meet ⟨u, u, h, e1, rfl, hu, hp1, rfl, rfl⟩ ⟨rfl, rfl, rfl, rfl, rfl, rfl, rfl, rfl, rfl, trivial⟩ Sub.ent
          · refine S.skip ?_
            with_reducible repeat (first | refine S.then_n ?_ | refine S.then_x ?_ | refine S.then_r ?_ | refine S.inBlock_n ?_ | refine S.inBlock_r ?_ | refine S.inBlock_x rfl ?_ | refine S.noGoto_r ?_ | refine S.noGoto_n ?_ | refine S.noGoto_x ?_)
            with_reducible repeat (first | refine S.then_n ?_ | refine S.then_x ?_ | refine S.then_r ?_ | refine S.inBlock_n ?_ | refine S.inBlock_r ?_ | refine S.inBlock_x rfl ?_ | refine S.noGoto_r ?_ | refine S.noGoto_n ?_ | refine S.noGoto_x ?_)
            first | exact S.meet ⟨b' - 1 - (u - a'), (b' : Int) - 1 - ((u : Int) - a'), 1, e2, by omega, by omega, permIn_trans _ _ _ _ _ hp1 hp2, rfl, rfl⟩ ⟨rfl, rfl, rfl, rfl, rfl, rfl, rfl, rfl, rfl, trivial⟩ Sub.ent | exact S.meet ⟨u, u, h, e1, rfl, hu, hp1, rfl, rfl⟩ ⟨rfl, rfl, rfl, rfl, rfl, rfl, rfl, rfl, rfl, trivial⟩ Sub.ent
        · rintro ρ' Γ' ⟨u2, zu, h2, e2, rfl, hu2, hp2, rfl, rfl⟩
          have hz2 := hp2.1
          refine hK14 _ _ ?_
          refine S.seq fun K18 hK18 => ?_
          refine S.seq fun K19 hK19 => ?_
          refine S.cut (fun ρ' Γ' => ∃ bb : Bool, ρ' = [(0, s.v), (1, .int .i64 (a' : Int)), (2, .int .i64 (b' : Int)), (3, .int .i64 l2), (8, .bool wb), (9, .bool wp), (10, .int .i64 ((b' : Int) - a')), (11, .int .i64 (u2 : Int)), (68, .bool bb)] ∧ Γ' = own s 68 1 (uA e2) :: Γ) ?_ ?_
          · refine S.regionG ?_
            refine S.g_op rfl (S.q (q_move rfl) rfl rfl ?_)
            refine S.g_op rfl (S.q (q_move rfl) rfl rfl ?_)
            rcases Bool.eq_false_or_eq_true (wb) with hg15_1 | hg15_1
            · refine S.g_yes rfl rfl rfl (hg15_1) (S.q (q_move rfl) rfl rfl ?_)
              refine S.g_op rfl (S.q (q_pickT rfl (hg15_1) rfl) rfl rfl ?_)
              refine S.g_op rfl (S.q (q_move rfl) rfl rfl ?_)
              rcases Bool.eq_false_or_eq_true (wp) with hg15_4 | hg15_4
              · refine S.g_yes rfl rfl rfl (hg15_4) (S.q (q_move rfl) rfl rfl ?_)
                refine S.g_yes rfl rfl rfl (hg15_4) (S.q (q_eq rfl rfl) rfl rfl ?_)
                refine S.g_op rfl (S.q (q_pickT rfl (hg15_4) rfl) rfl rfl ?_)
                first | with_reducible refine S.g_nilK ?_ | refine S.g_nil ?_
                with_reducible repeat (first | refine S.then_n ?_ | refine S.then_x ?_ | refine S.then_r ?_ | refine S.inBlock_n ?_ | refine S.inBlock_r ?_ | refine S.inBlock_x rfl ?_ | refine S.noGoto_r ?_ | refine S.noGoto_n ?_ | refine S.noGoto_x ?_)
                first | exact S.meet ⟨false, rfl, rfl⟩ ⟨rfl, rfl, rfl, rfl, rfl, rfl, rfl, rfl, rfl, trivial⟩ Sub.ent | exact S.meet ⟨decide (h2 = 1), rfl, rfl⟩ ⟨rfl, rfl, rfl, rfl, rfl, rfl, rfl, rfl, rfl, trivial⟩ Sub.ent
              · refine S.g_no rfl rfl rfl (hg15_4) rfl rfl ?_
                refine S.g_no rfl rfl rfl (hg15_4) rfl rfl ?_
                refine S.g_op rfl (S.q (q_pickF rfl (hg15_4) rfl) rfl rfl ?_)
                first | with_reducible refine S.g_nilK ?_ | refine S.g_nil ?_
                with_reducible repeat (first | refine S.then_n ?_ | refine S.then_x ?_ | refine S.then_r ?_ | refine S.inBlock_n ?_ | refine S.inBlock_r ?_ | refine S.inBlock_x rfl ?_ | refine S.noGoto_r ?_ | refine S.noGoto_n ?_ | refine S.noGoto_x ?_)
                first | exact S.meet ⟨false, rfl, rfl⟩ ⟨rfl, rfl, rfl, rfl, rfl, rfl, rfl, rfl, rfl, trivial⟩ Sub.ent | exact S.meet ⟨decide (h2 = 1), rfl, rfl⟩ ⟨rfl, rfl, rfl, rfl, rfl, rfl, rfl, rfl, rfl, trivial⟩ Sub.ent
            · refine S.g_no rfl rfl rfl (hg15_1) rfl rfl ?_
              refine S.g_op rfl (S.q (q_pickF rfl (hg15_1) rfl) rfl rfl ?_)
              refine S.g_op rfl (S.q (q_move rfl) rfl rfl ?_)
              refine S.g_no rfl rfl rfl (rfl) rfl rfl ?_
              refine S.g_no rfl rfl rfl (rfl) rfl rfl ?_
              refine S.g_op rfl (S.q (q_pickF rfl (rfl) rfl) rfl rfl ?_)
              first | with_reducible refine S.g_nilK ?_ | refine S.g_nil ?_
              with_reducible repeat (first | refine S.then_n ?_ | refine S.then_x ?_ | refine S.then_r ?_ | refine S.inBlock_n ?_ | refine S.inBlock_r ?_ | refine S.inBlock_x rfl ?_ | refine S.noGoto_r ?_ | refine S.noGoto_n ?_ | refine S.noGoto_x ?_)
              first | exact S.meet ⟨false, rfl, rfl⟩ ⟨rfl, rfl, rfl, rfl, rfl, rfl, rfl, rfl, rfl, trivial⟩ Sub.ent | exact S.meet ⟨decide (h2 = 1), rfl, rfl⟩ ⟨rfl, rfl, rfl, rfl, rfl, rfl, rfl, rfl, rfl, trivial⟩ Sub.ent
          · rintro ρ' Γ' ⟨bb, rfl, rfl⟩
            refine hK19 _ _ ?_
            refine S.cut (fun ρ' Γ' => ∃ e3 : Array Int, PermIn a' b' e e3 ∧ ρ' = [(0, s.v), (1, .int .i64 (a' : Int)), (2, .int .i64 (b' : Int)), (3, .int .i64 l2), (8, .bool wb), (9, .bool wp), (10, .int .i64 ((b' : Int) - a')), (11, .int .i64 (u2 : Int))] ∧ Γ' = own s 68 1 (uA e3) :: Γ) ?_ ?_
            · refine S.cond rfl (fun h5 => ?_) (fun h5 => ?_)
              · obtain ⟨pp1, pp2⟩ := partialInsertionSort_holds swo_ltInt e2 a' b' (by omega) (by omega) (hB.perm (by omega) hp2)
                refine S.seq fun K20 hK20 => ?_
                refine S.region rfl ?_
                refine S.op (S.q (q_move rfl) rfl rfl ?_)
                refine S.op (S.q (q_move rfl) rfl rfl ?_)
                refine S.op (S.q (q_move rfl) rfl rfl ?_)
                refine S.op (S.call Tryd.en126 (vs := [_, _, _]) ⟨rfl, rfl, rfl, trivial⟩ (partialIns_S s e2 a' b' (by omega) (by omega) (by omega) (by omega)) rfl ?_)
                rintro v Θ ⟨rfl, rfl⟩
                first | with_reducible refine S.nilK ?_ | refine S.nil ?_
                refine hK20 _ _ ?_
                refine S.cond rfl (fun h6 => ?_) (fun h6 => ?_)
                · obtain ⟨p3, p4⟩ := hG _ (permIn_trans _ _ _ _ _ hp2 pp1) (pp2 h6)
                  refine S.ret ?_
                  with_reducible repeat (first | refine S.then_n ?_ | refine S.then_x ?_ | refine S.then_r ?_ | refine S.inBlock_n ?_ | refine S.inBlock_r ?_ | refine S.inBlock_x rfl ?_ | refine S.noGoto_r ?_ | refine S.noGoto_n ?_ | refine S.noGoto_x ?_)
                  exact S.fin (rs := []) (vs := []) Tryd.results107 (trivial)  (⟨_, p3, p4, rfl⟩) Sub.ent
                · refine S.skip ?_
                  with_reducible repeat (first | refine S.then_n ?_ | refine S.then_x ?_ | refine S.then_r ?_ | refine S.inBlock_n ?_ | refine S.inBlock_r ?_ | refine S.inBlock_x rfl ?_ | refine S.noGoto_r ?_ | refine S.noGoto_n ?_ | refine S.noGoto_x ?_)
                  with_reducible repeat (first | refine S.then_n ?_ | refine S.then_x ?_ | refine S.then_r ?_ | refine S.inBlock_n ?_ | refine S.inBlock_r ?_ | refine S.inBlock_x rfl ?_ | refine S.noGoto_r ?_ | refine S.noGoto_n ?_ | refine S.noGoto_x ?_)
                  first | exact S.meet ⟨_, permIn_trans _ _ _ _ _ hp2 pp1, rfl, rfl⟩ ⟨rfl, rfl, rfl, rfl, rfl, rfl, rfl, rfl, trivial⟩ Sub.ent | exact S.meet ⟨e2, hp2, rfl, rfl⟩ ⟨rfl, rfl, rfl, rfl, rfl, rfl, rfl, rfl, trivial⟩ Sub.ent
              · refine S.skip ?_
                with_reducible repeat (first | refine S.then_n ?_ | refine S.then_x ?_ | refine S.then_r ?_ | refine S.inBlock_n ?_ | refine S.inBlock_r ?_ | refine S.inBlock_x rfl ?_ | refine S.noGoto_r ?_ | refine S.noGoto_n ?_ | refine S.noGoto_x ?_)
                with_reducible repeat (first | refine S.then_n ?_ | refine S.then_x ?_ | refine S.then_r ?_ | refine S.inBlock_n ?_ | refine S.inBlock_r ?_ | refine S.inBlock_x rfl ?_ | refine S.noGoto_r ?_ | refine S.noGoto_n ?_ | refine S.noGoto_x ?_)
                first | exact S.meet ⟨_, permIn_trans _ _ _ _ _ hp2 pp1, rfl, rfl⟩ ⟨rfl, rfl, rfl, rfl, rfl, rfl, rfl, rfl, trivial⟩ Sub.ent | exact S.meet ⟨e2, hp2, rfl, rfl⟩ ⟨rfl, rfl, rfl, rfl, rfl, rfl, rfl, rfl, trivial⟩ Sub.ent
            · rintro ρ' Γ' ⟨e3, hp3, rfl, rfl⟩
              have hz3 := hp3.1
              have hB3 := hB.perm (by omega) hp3
              refine S.ownSome s (by omega) fun sb so hsa _ _ _ => ?_
              refine hK18 _ _ ?_
              refine S.seq fun K21 hK21 => ?_
              refine S.seq fun K22 hK22 => ?_
              refine S.cut (fun ρ' Γ' => ∃ bb : Bool, (bb = true → 0 < a' ∧ ltInt e3[a' - 1]! e3[u2]! = false) ∧ ρ' = [(0, s.v), (1, .int .i64 (a' : Int)), (2, .int .i64 (b' : Int)), (3, .int .i64 l2), (8, .bool wb), (9, .bool wp), (10, .int .i64 ((b' : Int) - a')), (11, .int .i64 (u2 : Int)), (87, .bool bb)] ∧ Γ' = own s 68 1 (uA e3) :: Γ) ?_ ?_
              · refine S.draw ([own s 68 1 (uA e3)]) [] Tryd.mixed ?_
                refine S.dr_take 0 [] rfl (by kernel_rfl) rfl rfl rfl (q_move rfl) Sub.ent ?_
                refine S.dr_take 1 [] rfl (by kernel_rfl) rfl rfl rfl (q_gt rfl rfl) Sub.ent ?_
                refine S.dr_take 2 [] rfl (by kernel_rfl) rfl rfl rfl (q_move rfl) Sub.ent ?_
                by_cases hg17_2 : (0 : Int) < a'
                · refine S.dr_takeY 3 [] rfl (by kernel_rfl) rfl rfl rfl (decide_eq_true hg17_2) rfl rfl (q_move rfl) Sub.ent ?_
                  refine S.dr_takeY 4 [] rfl (by kernel_rfl) rfl rfl rfl (decide_eq_true hg17_2) rfl rfl (q_move rfl) Sub.ent ?_
                  refine S.dr_takeY 5 [] rfl (by kernel_rfl) rfl rfl rfl (decide_eq_true hg17_2) rfl rfl (q_sub rfl rfl (inI64 (by omega) (by omega))) Sub.ent ?_
                  refine S.dr_takeY 6 [] rfl (by kernel_rfl) rfl rfl rfl (decide_eq_true hg17_2) rfl rfl (q_indexO (a' - 1) Tryd.el31 rfl hsa rfl (by omega) (by omega)) Sub.ent ?_
                  refine S.dr_takeY 7 [] rfl (by kernel_rfl) rfl rfl rfl (decide_eq_true hg17_2) rfl rfl (q_loadOw (s) (a' - 1) Tryd.at68 rfl hsa (by first | rfl | exact Nat.add_assoc _ _ _ | omega) (uA_get (by omega))) Sub.ent ?_
                  refine S.dr_takeY 8 [] rfl (by kernel_rfl) rfl rfl rfl (decide_eq_true hg17_2) rfl rfl (q_move rfl) Sub.ent ?_
                  refine S.dr_takeY 9 [] rfl (by kernel_rfl) rfl rfl rfl (decide_eq_true hg17_2) rfl rfl (q_move rfl) Sub.ent ?_
                  refine S.dr_takeY 10 [] rfl (by kernel_rfl) rfl rfl rfl (decide_eq_true hg17_2) rfl rfl (q_indexO (u2) Tryd.el31 rfl hsa rfl rfl (by omega)) Sub.ent ?_
                  refine S.dr_takeY 11 [] rfl (by kernel_rfl) rfl rfl rfl (decide_eq_true hg17_2) rfl rfl (q_loadOw (s) (u2) Tryd.at68 rfl hsa (by first | rfl | exact Nat.add_assoc _ _ _ | omega) (uA_get (by omega))) Sub.ent ?_
                  refine S.dr_1Y (i := 12) (by kernel_rfl) rfl rfl rfl rfl (decide_eq_true hg17_2) ?_
                  refine  (S.call Tryd.en127 (vs := [_, _]) ⟨rfl, rfl, trivial⟩ (Less_S (e3[a' - 1]!) (e3[u2]!)) rfl ?_)
                  rintro v Θ ⟨rfl, rfl⟩
                  refine S.dr_k rfl Sub.ent ?_
                  refine S.dr_takeY 13 [] rfl (by kernel_rfl) rfl rfl rfl (decide_eq_true hg17_2) rfl rfl (q_not rfl) Sub.ent ?_
                  refine S.dr_take 14 [] rfl (by kernel_rfl) rfl rfl rfl (q_pickT rfl (decide_eq_true hg17_2) rfl) Sub.ent ?_
                  first | with_reducible refine S.dr_doneK (by kernel_rfl) ?_ | refine S.dr_done (by kernel_rfl) ?_
                  with_reducible repeat (first | refine S.then_n ?_ | refine S.then_x ?_ | refine S.then_r ?_ | refine S.inBlock_n ?_ | refine S.inBlock_r ?_ | refine S.inBlock_x rfl ?_ | refine S.noGoto_r ?_ | refine S.noGoto_n ?_ | refine S.noGoto_x ?_)
                  first | exact S.meet ⟨false, fun h => (by cases h), rfl, rfl⟩ ⟨rfl, rfl, rfl, rfl, rfl, rfl, rfl, rfl, rfl, trivial⟩ Sub.ent | exact S.meet ⟨!ltInt e3[a' - 1]! e3[u2]!, fun h => ⟨by omega, by simpa using h⟩, rfl, rfl⟩ ⟨rfl, rfl, rfl, rfl, rfl, rfl, rfl, rfl, rfl, trivial⟩ Sub.ent
                · refine S.dr_takeN 3 [] rfl (by kernel_rfl) rfl rfl rfl (decide_eq_false hg17_2) rfl rfl Sub.ent ?_
                  refine S.dr_takeN 4 [] rfl (by kernel_rfl) rfl rfl rfl (decide_eq_false hg17_2) rfl rfl Sub.ent ?_
                  refine S.dr_takeN 5 [] rfl (by kernel_rfl) rfl rfl rfl (decide_eq_false hg17_2) rfl rfl Sub.ent ?_
                  refine S.dr_takeN 6 [] rfl (by kernel_rfl) rfl rfl rfl (decide_eq_false hg17_2) rfl rfl Sub.ent ?_
                  refine S.dr_takeN 7 [] rfl (by kernel_rfl) rfl rfl rfl (decide_eq_false hg17_2) rfl rfl Sub.ent ?_
                  refine S.dr_takeN 8 [] rfl (by kernel_rfl) rfl rfl rfl (decide_eq_false hg17_2) rfl rfl Sub.ent ?_
                  refine S.dr_takeN 9 [] rfl (by kernel_rfl) rfl rfl rfl (decide_eq_false hg17_2) rfl rfl Sub.ent ?_
                  refine S.dr_takeN 10 [] rfl (by kernel_rfl) rfl rfl rfl (decide_eq_false hg17_2) rfl rfl Sub.ent ?_
                  refine S.dr_takeN 11 [] rfl (by kernel_rfl) rfl rfl rfl (decide_eq_false hg17_2) rfl rfl Sub.ent ?_
                  refine S.dr_takeN 12 [] rfl (by kernel_rfl) rfl rfl rfl (decide_eq_false hg17_2) rfl rfl Sub.ent ?_
                  refine S.dr_takeN 13 [] rfl (by kernel_rfl) rfl rfl rfl (decide_eq_false hg17_2) rfl rfl Sub.ent ?_
                  refine S.dr_take 14 [] rfl (by kernel_rfl) rfl rfl rfl (q_pickF rfl (decide_eq_false hg17_2) rfl) Sub.ent ?_
                  first | with_reducible refine S.dr_doneK (by kernel_rfl) ?_ | refine S.dr_done (by kernel_rfl) ?_
                  with_reducible repeat (first | refine S.then_n ?_ | refine S.then_x ?_ | refine S.then_r ?_ | refine S.inBlock_n ?_ | refine S.inBlock_r ?_ | refine S.inBlock_x rfl ?_ | refine S.noGoto_r ?_ | refine S.noGoto_n ?_ | refine S.noGoto_x ?_)
                  first | exact S.meet ⟨false, fun h => (by cases h), rfl, rfl⟩ ⟨rfl, rfl, rfl, rfl, rfl, rfl, rfl, rfl, rfl, trivial⟩ Sub.ent | exact S.meet ⟨!ltInt e3[a' - 1]! e3[u2]!, fun h => ⟨by omega, by simpa using h⟩, rfl, rfl⟩ ⟨rfl, rfl, rfl, rfl, rfl, rfl, rfl, rfl, rfl, trivial⟩ Sub.ent
              · rintro ρ' Γ' ⟨bb, hbt, rfl, rfl⟩
                refine hK22 _ _ ?_
                refine S.cond rfl (fun h7 => ?_) (fun h7 => ?_)
                · obtain ⟨h0, hnl⟩ := hbt h7
                  obtain ⟨mid, d4, hpp⟩ : ∃ mid d4, partitionEqual ltInt e3 a' b' u2 = (mid, d4) := ⟨_, _, rfl⟩
                  obtain ⟨r1, r2, r3, r4, r5⟩ := round_eq swo_ltInt (partitionEqual_holds ltInt) h0 hu2.1 hu2.2 (by omega) hB3 hnl hpp
                  refine S.seq fun K23 hK23 => ?_
                  refine S.region rfl ?_
                  refine S.op (S.q (q_move rfl) rfl rfl ?_)
                  refine S.op (S.q (q_move rfl) rfl rfl ?_)
                  refine S.op (S.q (q_move rfl) rfl rfl ?_)
                  refine S.op (S.q (q_move rfl) rfl rfl ?_)
                  refine S.op (S.call Tryd.en128 (vs := [_, _, _, _]) ⟨rfl, rfl, rfl, rfl, trivial⟩ ((by have h := partitionEqual_S s e3 a' b' u2 hu2.1 hu2.2 (by omega) (by omega) (by omega); rw [hpp] at h; exact h)) rfl ?_)
                  rintro v Θ ⟨rfl, rfl⟩
                  refine S.op (S.q (q_assign rfl) rfl rfl ?_)
                  first | with_reducible refine S.nilK ?_ | refine S.nil ?_
                  refine hK23 _ _ ?_
                  refine S.seq fun K24 hK24 => ?_
                  refine S.region rfl ?_
                  refine S.op (S.q (q_move rfl) rfl rfl ?_)
                  refine S.op (S.q (q_assign rfl) rfl rfl ?_)
                  first | with_reducible refine S.nilK ?_ | refine S.nil ?_
                  refine hK24 _ _ ?_
                  refine S.exit ?_
                  with_reducible repeat (first | refine S.then_n ?_ | refine S.then_x ?_ | refine S.then_r ?_ | refine S.inBlock_n ?_ | refine S.inBlock_r ?_ | refine S.inBlock_x rfl ?_ | refine S.noGoto_r ?_ | refine S.noGoto_n ?_ | refine S.noGoto_x ?_)
                  with_reducible refine S.inBlock_s ?_
                  with_reducible repeat (first | refine S.then_n ?_ | refine S.then_x ?_ | refine S.then_r ?_ | refine S.inBlock_n ?_ | refine S.inBlock_r ?_ | refine S.inBlock_x rfl ?_ | refine S.noGoto_r ?_ | refine S.noGoto_n ?_ | refine S.noGoto_x ?_)
                  with_reducible repeat (first | refine S.then_n ?_ | refine S.then_x ?_ | refine S.then_r ?_ | refine S.inBlock_n ?_ | refine S.inBlock_r ?_ | refine S.inBlock_x rfl ?_ | refine S.noGoto_r ?_ | refine S.noGoto_n ?_ | refine S.noGoto_x ?_)
                  first | exact S.next (b' - mid) ⟨mid, b', l2, wb, wp, d4, rfl, by omega, by omega, by omega, hl2, by omega, r4, fun R h1 h2 => hG R (permIn_trans _ _ _ _ _ hp3 (r5 R h1 h2).1) (r5 R h1 h2).2, rfl, rfl⟩ (by omega) ⟨rfl, rfl, rfl, rfl, rfl, rfl, trivial⟩ Sub.ent | exact S.next (b' - (mid + 1)) ⟨mid + 1, b', l2, _, ap, L, rfl, by omega, by omega, by omega, hl2, by omega, x1, fun R h1 h2 => hG R (permIn_trans _ _ _ _ _ hp3 (x2 R h1 h2).1) (x2 R h1 h2).2, rfl, rfl⟩ (by omega) ⟨rfl, rfl, rfl, rfl, rfl, rfl, trivial⟩ Sub.ent | exact S.next (mid - a') ⟨a', mid, l2, _, ap, L, rfl, by omega, by omega, by omega, hl2, by omega, x1, fun R h1 h2 => hG R (permIn_trans _ _ _ _ _ hp3 (x2 R h1 h2).1) (x2 R h1 h2).2, rfl, rfl⟩ (by omega) ⟨rfl, rfl, rfl, rfl, rfl, rfl, trivial⟩ Sub.ent
                · obtain ⟨mid, ap, d4, hpp⟩ : ∃ mid ap d4, partition ltInt e3 a' b' u2 = (mid, ap, d4) := ⟨_, _, _, rfl⟩
                  obtain ⟨r1, r2, r3, r4, r5, r6, r7⟩ := round_part swo_ltInt (partition_holds ltInt) hu2.1 hu2.2 (by omega) hB3 hpp
                  refine S.skip ?_
                  with_reducible repeat (first | refine S.then_n ?_ | refine S.then_x ?_ | refine S.then_r ?_ | refine S.inBlock_n ?_ | refine S.inBlock_r ?_ | refine S.inBlock_x rfl ?_ | refine S.noGoto_r ?_ | refine S.noGoto_n ?_ | refine S.noGoto_x ?_)
                  refine hK21 _ _ ?_
                  refine S.seq fun K25 hK25 => ?_
                  refine S.region rfl ?_
                  refine S.op (S.q (q_move rfl) rfl rfl ?_)
                  refine S.op (S.q (q_move rfl) rfl rfl ?_)
                  refine S.op (S.q (q_move rfl) rfl rfl ?_)
                  refine S.op (S.q (q_move rfl) rfl rfl ?_)
                  refine S.op (S.call Tryd.en129 (vs := [_, _, _, _]) ⟨rfl, rfl, rfl, rfl, trivial⟩ ((by have h := partition_S s e3 a' b' u2 hu2.1 hu2.2 (by omega) (by omega) (by omega); rw [hpp] at h; exact h)) rfl ?_)
                  rintro v Θ ⟨rfl, rfl⟩
                  refine S.op (S.q (q_move rfl) rfl rfl ?_)
                  refine S.op (S.q (q_extract rfl rfl) rfl rfl ?_)
                  refine S.op (S.q (q_extract rfl rfl) rfl rfl ?_)
                  refine S.op (S.q (q_assign rfl) rfl rfl ?_)
                  refine S.op (S.q (q_assign rfl) rfl rfl ?_)
                  first | with_reducible refine S.nilK ?_ | refine S.nil ?_
                  refine hK25 _ _ ?_
                  refine S.seq fun K26 hK26 => ?_
                  refine S.region rfl ?_
                  refine S.op (S.q (q_move rfl) rfl rfl ?_)
                  refine S.op (S.q (q_assign rfl) rfl rfl ?_)
                  first | with_reducible refine S.nilK ?_ | refine S.nil ?_
                  refine hK26 _ _ ?_
                  refine S.seq fun K27 hK27 => ?_
                  refine S.region rfl ?_
                  refine S.op (S.q (q_move rfl) rfl rfl ?_)
                  refine S.op (S.q (q_move rfl) rfl rfl ?_)
                  refine S.op (S.q (q_sub rfl rfl (inI64 (by omega) (by omega))) rfl rfl ?_)
                  refine S.op (S.q (q_move rfl) rfl rfl ?_)
                  refine S.op (S.q (q_move rfl) rfl rfl ?_)
                  refine S.op (S.q (q_sub rfl rfl (inI64 (by omega) (by omega))) rfl rfl ?_)
                  refine S.op (S.q (q_assign rfl) rfl rfl ?_)
                  refine S.op (S.q (q_assign rfl) rfl rfl ?_)
                  first | with_reducible refine S.nilK ?_ | refine S.nil ?_
                  refine hK27 _ _ ?_
                  refine S.seq fun K28 hK28 => ?_
                  refine S.region rfl ?_
                  refine S.op (S.q (q_move rfl) rfl rfl ?_)
                  refine S.op (S.q (q_quo rfl rfl (⟨by omega, by omega⟩) (inI64 (by omega) (by omega))) rfl rfl ?_)
                  refine S.op (S.q (q_assign rfl) rfl rfl ?_)
                  first | with_reducible refine S.nilK ?_ | refine S.nil ?_
                  refine hK28 _ _ ?_
                  refine S.seq fun K29 hK29 => ?_
                  refine S.region rfl ?_
                  refine S.op (S.q (q_move rfl) rfl rfl ?_)
                  refine S.op (S.q (q_move rfl) rfl rfl ?_)
                  refine S.op (S.q (q_lt rfl rfl) rfl rfl ?_)
                  first | with_reducible refine S.nilK ?_ | refine S.nil ?_
                  refine hK29 _ _ ?_
                  refine S.condD rfl (fun h8 => ?_) (fun h8 => ?_)
                  · refine S.seq fun K30 hK30 => ?_
                    refine S.region rfl ?_
                    refine S.op (S.q (q_move rfl) rfl rfl ?_)
                    refine S.op (S.q (q_move rfl) rfl rfl ?_)
                    refine S.op (S.q (q_ge rfl rfl) rfl rfl ?_)
                    refine S.op (S.q (q_assign rfl) rfl rfl ?_)
                    first | with_reducible refine S.nilK ?_ | refine S.nil ?_
                    refine hK30 _ _ ?_
                    refine S.seq fun K31 hK31 => ?_
                    refine S.region rfl ?_
                    refine S.op (S.q (q_move rfl) rfl rfl ?_)
                    refine S.op (S.q (q_move rfl) rfl rfl ?_)
                    refine S.op (S.q (q_move rfl) rfl rfl ?_)
                    refine S.op (S.q (q_move rfl) rfl rfl ?_)
                    refine S.op (S.call Tryd.en107 (vs := [_, _, _, _]) ⟨rfl, rfl, rfl, rfl, trivial⟩ (ih (mid - a') (by omega) a' mid d4 l2 rfl (by omega) (by omega) (by omega) hl2 r4) rfl ?_)
                    rintro v Θ ⟨L, hL1, hL2, rfl⟩
                    obtain ⟨x1, x2⟩ := r6 L hL1 hL2
                    have hLs := hL1.1
                    first | with_reducible refine S.nilK ?_ | refine S.nil ?_
                    refine hK31 _ _ ?_
                    refine S.region rfl ?_
                    refine S.op (S.q (q_move rfl) rfl rfl ?_)
                    refine S.op (S.q (q_add rfl rfl (inI64 (by omega) (by omega))) rfl rfl ?_)
                    refine S.op (S.q (q_assign rfl) rfl rfl ?_)
                    first | with_reducible refine S.nilK ?_ | refine S.nil ?_
                    with_reducible repeat (first | refine S.then_n ?_ | refine S.then_x ?_ | refine S.then_r ?_ | refine S.inBlock_n ?_ | refine S.inBlock_r ?_ | refine S.inBlock_x rfl ?_ | refine S.noGoto_r ?_ | refine S.noGoto_n ?_ | refine S.noGoto_x ?_)
                    with_reducible repeat (first | refine S.then_n ?_ | refine S.then_x ?_ | refine S.then_r ?_ | refine S.inBlock_n ?_ | refine S.inBlock_r ?_ | refine S.inBlock_x rfl ?_ | refine S.noGoto_r ?_ | refine S.noGoto_n ?_ | refine S.noGoto_x ?_)
                    first | exact S.next (b' - mid) ⟨mid, b', l2, wb, wp, d4, rfl, by omega, by omega, by omega, hl2, by omega, r4, fun R h1 h2 => hG R (permIn_trans _ _ _ _ _ hp3 (r5 R h1 h2).1) (r5 R h1 h2).2, rfl, rfl⟩ (by omega) ⟨rfl, rfl, rfl, rfl, rfl, rfl, trivial⟩ Sub.ent | exact S.next (b' - (mid + 1)) ⟨mid + 1, b', l2, _, ap, L, rfl, by omega, by omega, by omega, hl2, by omega, x1, fun R h1 h2 => hG R (permIn_trans _ _ _ _ _ hp3 (x2 R h1 h2).1) (x2 R h1 h2).2, rfl, rfl⟩ (by omega) ⟨rfl, rfl, rfl, rfl, rfl, rfl, trivial⟩ Sub.ent | exact S.next (mid - a') ⟨a', mid, l2, _, ap, L, rfl, by omega, by omega, by omega, hl2, by omega, x1, fun R h1 h2 => hG R (permIn_trans _ _ _ _ _ hp3 (x2 R h1 h2).1) (x2 R h1 h2).2, rfl, rfl⟩ (by omega) ⟨rfl, rfl, rfl, rfl, rfl, rfl, trivial⟩ Sub.ent
                  · refine S.seq fun K32 hK32 => ?_
                    refine S.region rfl ?_
                    refine S.op (S.q (q_move rfl) rfl rfl ?_)
                    refine S.op (S.q (q_move rfl) rfl rfl ?_)
                    refine S.op (S.q (q_ge rfl rfl) rfl rfl ?_)
                    refine S.op (S.q (q_assign rfl) rfl rfl ?_)
                    first | with_reducible refine S.nilK ?_ | refine S.nil ?_
                    refine hK32 _ _ ?_
                    refine S.seq fun K33 hK33 => ?_
                    refine S.region rfl ?_
                    refine S.op (S.q (q_move rfl) rfl rfl ?_)
                    refine S.op (S.q (q_move rfl) rfl rfl ?_)
                    refine S.op (S.q (q_add rfl rfl (inI64 (by omega) (by omega))) rfl rfl ?_)
                    refine S.op (S.q (q_move rfl) rfl rfl ?_)
                    refine S.op (S.q (q_move rfl) rfl rfl ?_)
                    refine S.op (S.call Tryd.en107 (vs := [_, _, _, _]) ⟨rfl, rfl, rfl, rfl, trivial⟩ (ih (b' - (mid + 1)) (by omega) (mid + 1) b' d4 l2 rfl (by omega) (by omega) (by omega) hl2 r5) rfl ?_)
                    rintro v Θ ⟨L, hL1, hL2, rfl⟩
                    obtain ⟨x1, x2⟩ := r7 L hL1 hL2
                    have hLs := hL1.1
                    first | with_reducible refine S.nilK ?_ | refine S.nil ?_
                    refine hK33 _ _ ?_
                    refine S.region rfl ?_
                    refine S.op (S.q (q_move rfl) rfl rfl ?_)
                    refine S.op (S.q (q_assign rfl) rfl rfl ?_)
                    first | with_reducible refine S.nilK ?_ | refine S.nil ?_
                    with_reducible repeat (first | refine S.then_n ?_ | refine S.then_x ?_ | refine S.then_r ?_ | refine S.inBlock_n ?_ | refine S.inBlock_r ?_ | refine S.inBlock_x rfl ?_ | refine S.noGoto_r ?_ | refine S.noGoto_n ?_ | refine S.noGoto_x ?_)
                    with_reducible repeat (first | refine S.then_n ?_ | refine S.then_x ?_ | refine S.then_r ?_ | refine S.inBlock_n ?_ | refine S.inBlock_r ?_ | refine S.inBlock_x rfl ?_ | refine S.noGoto_r ?_ | refine S.noGoto_n ?_ | refine S.noGoto_x ?_)
                    first | exact S.next (b' - mid) ⟨mid, b', l2, wb, wp, d4, rfl, by omega, by omega, by omega, hl2, by omega, r4, fun R h1 h2 => hG R (permIn_trans _ _ _ _ _ hp3 (r5 R h1 h2).1) (r5 R h1 h2).2, rfl, rfl⟩ (by omega) ⟨rfl, rfl, rfl, rfl, rfl, rfl, trivial⟩ Sub.ent | exact S.next (b' - (mid + 1)) ⟨mid + 1, b', l2, _, ap, L, rfl, by omega, by omega, by omega, hl2, by omega, x1, fun R h1 h2 => hG R (permIn_trans _ _ _ _ _ hp3 (x2 R h1 h2).1) (x2 R h1 h2).2, rfl, rfl⟩ (by omega) ⟨rfl, rfl, rfl, rfl, rfl, rfl, trivial⟩ Sub.ent | exact S.next (mid - a') ⟨a', mid, l2, _, ap, L, rfl, by omega, by omega, by omega, hl2, by omega, x1, fun R h1 h2 => hG R (permIn_trans _ _ _ _ _ hp3 (x2 R h1 h2).1) (x2 R h1 h2).2, rfl, rfl⟩ (by omega) ⟨rfl, rfl, rfl, rfl, rfl, rfl, trivial⟩ Sub.ent
theorem sort_out {d R : Array Int} (hR1 : PermIn 0 d.size d R) (hR2 : SortedIn ltInt 0 d.size R) : R.toList.Perm d.toList ∧ R.toList.Pairwise (· ≤ ·) := by
  constructor
  · have h := hR1.2.2
    have h1 : (R.extract 0 d.size).toList = R.toList := by rw [← hR1.1]; simp
    have h2 : (d.extract 0 d.size).toList = d.toList := by simp
    rw [h1, h2] at h
    exact h
  · refine List.pairwise_iff_getElem.2 fun i j hi hj hij => ?_
    have h := hR2 i j (Nat.zero_le _) hij (by rw [← hR1.1]; simpa using hj)
    have hi' : i < R.size := by simpa using hi
    have hj' : j < R.size := by simpa using hj
    rw [getElem!_pos R i hi', getElem!_pos R j hj'] at h
    have h := of_decide_eq_false h
    simp only [Array.getElem_toList]
    omega
theorem Sort_S (s : SV) (d : Array Int) (hsz : d.size ≤ 65535) (hsn : s.n = d.size) : Spec Tryd.prog 91 [s.v] [own s 68 1 (uA d)] fun Γ _ Θ => ∃ R : Array Int, R.toList.Perm d.toList ∧ R.toList.Pairwise (· ≤ ·) ∧ Θ = own s 68 1 (uA R) :: Γ := by
  refine Spec.of_body Tryd.func91 rfl Tryd.ntmps91 rfl ?_
  intro w0 Γ
  show S _ w0 [(0, s.v)] (own s 68 1 (uA d) :: Γ) _
  have hbl : bitsLen s.n ≤ 16 := (bitsLen_le_iff _ 16).2 (by omega)
  refine S.seq fun K1 hK1 => ?_
  refine S.region rfl ?_
  refine S.op (S.q (q_move rfl) rfl rfl ?_)
  refine S.op (S.q (q_len Tryd.underlying31 rfl) rfl rfl ?_)
  refine S.op (S.q (q_assign rfl) rfl rfl ?_)
  first | with_reducible refine S.nilK ?_ | refine S.nil ?_
  refine hK1 _ _ ?_
  refine S.region rfl ?_
  refine S.op (S.q (q_move rfl) rfl rfl ?_)
  refine S.op (S.q (q_move rfl) rfl rfl ?_)
  refine S.op (S.q (q_move rfl) rfl rfl ?_)
  refine S.op (S.q (q_conv Tryd.it160 (by rw [Tryd.underlying3]; rfl) rfl (inU64 (by omega) (by omega))) rfl rfl ?_)
  refine S.op (S.call Tryd.en89 (vs := [_]) ⟨rfl, trivial⟩ (Len_S s.n (by omega)) rfl ?_)
  rintro v Θ ⟨rfl, rfl⟩
  refine S.op (S.call Tryd.en107 (vs := [_, _, _, _]) ⟨rfl, rfl, rfl, rfl, trivial⟩ (pdq_S s d.size hsz hsn (s.n - 0) 0 s.n d _ rfl (by omega) (by omega) rfl (by omega) (.inl rfl)) rfl ?_)
  rintro v Θ ⟨R, hR1, hR2, rfl⟩
  rw [hsn] at hR1 hR2
  first | with_reducible refine S.nilK ?_ | refine S.nil ?_
  with_reducible repeat (first | refine S.then_n ?_ | refine S.then_x ?_ | refine S.then_r ?_ | refine S.inBlock_n ?_ | refine S.inBlock_r ?_ | refine S.inBlock_x rfl ?_ | refine S.noGoto_r ?_ | refine S.noGoto_n ?_ | refine S.noGoto_x ?_)
  exact S.finN (rs := []) (vs := []) Tryd.results91 (trivial)  (⟨R, (sort_out hR1 hR2).1, (sort_out hR1 hR2).2, rfl⟩) Sub.ent
end Go.Proofs.YtegjmmocnffpiaaDoor
/- The matrix: Jobs: all its jobs' numbers, rising. -/
namespace Go.Proofs.YtegjmmocnffpiaaDoor
open Go.RowKit
set_option maxRecDepth 20000
abbrev kv (z : Int) : Value := .int .u32 z
abbrev keyP (c mb : Nat) (l : List (Int × Value)) : List Assn := [blk c 121 #[.map (some mb)], mapL mb .u32 l]
theorem keys_seq (c mb : Nat) (l : List (Int × Value)) : SeqS Tryd.prog 92 [] [.pointer (some ⟨c, 0, none⟩)] kv (fun done _ => done.length < l.length) (fun xs => xs.Perm (l.map (·.1))) (keyP c mb l) := by
  intro y w0 J hY Γ w hs hx
  refine callsIn_wide.2 (calls_of_S (n := 14) (l := [.func (.yield y) #[] #[], .pointer (some ⟨c, 0, none⟩)]) (Γ := stars (J []) :: blk c 121 #[.map (some mb)] :: mapL mb .u32 l :: Γ) (w0 := w0) Tryd.func92 rfl Tryd.ntmps92 rfl ?_ (hs.ent (((Ent.cons _ (Ent.cons _ (Ent.pack (J []) Γ))).trans (Ent.cons _ (Ent.swap _ _ _))).trans (Ent.swap _ _ _))) hx)
  show S _ w0 [(0, .func (.yield y) #[] #[]), (1, .pointer (some ⟨c, 0, none⟩))] (stars (J []) :: blk c 121 #[.map (some mb)] :: mapL mb .u32 l :: Γ) _
  refine S.seq fun K1 hK1 => ?_
  refine S.region rfl ?_
  refine S.op (S.q (q_load Tryd.at121 rfl rfl) rfl rfl ?_)
  refine S.op (S.range Tryd.underlying121 rfl rfl ?_)
  intro r5
  first | with_reducible refine S.nilK ?_ | refine S.nil ?_
  refine hK1 _ _ ?_
  refine S.block ?_
  refine S.loop (fun m ρ' Γ' => ∃ (left : List (Int × Value)) (cur : Option (Int × Value)) (L : List Int), m = left.length ∧ (L ++ left.map (·.1)).Perm (l.map (·.1)) ∧ ρ' = [(0, .func (.yield y) #[] #[]), (5, .pointer (some ⟨r5, 0, none⟩))] ∧ Γ' = rngM r5 mb .u32 l left cur :: stars (J L) :: blk c 121 #[.map (some mb)] :: Γ) (m := _) (ρ0 := _) (Γ0 := _) (⟨l, none, [], rfl, List.Perm.refl _, rfl, rfl⟩) (by repeat (first | exact trivial | refine ⟨rfl, ?_⟩)) Sub.ent ?_
  rintro m ρ' Γ' ⟨left, cur, L, hm, hL, rfl, rfl⟩
  refine S.seq fun K2 hK2 => ?_
  refine S.region rfl ?_
  refine S.op (S.nextR rfl rfl (fun hl6 => ?_) (fun i6 z6 v6 hi6 => ?_))
  · have hl0 : left = [] := hl6
    subst hl0
    rw [List.map_nil, List.append_nil] at hL
    refine S.op (S.q (q_extract rfl rfl) rfl rfl ?_)
    first | with_reducible refine S.nilK ?_ | refine S.nil ?_
    refine hK2 _ _ ?_
    refine S.seq fun K3 hK3 => ?_
    refine S.condF rfl ?_
    refine S.exit ?_
    with_reducible repeat (first | refine S.then_n ?_ | refine S.then_x ?_ | refine S.then_r ?_ | refine S.inBlock_n ?_ | refine S.inBlock_r ?_ | refine S.inBlock_x rfl ?_ | refine S.noGoto_r ?_ | refine S.noGoto_n ?_ | refine S.noGoto_x ?_)
    with_reducible refine S.inBlock_s ?_
    with_reducible repeat (first | refine S.then_n ?_ | refine S.then_x ?_ | refine S.then_r ?_ | refine S.inBlock_n ?_ | refine S.inBlock_r ?_ | refine S.inBlock_x rfl ?_ | refine S.noGoto_r ?_ | refine S.noGoto_n ?_ | refine S.noGoto_x ?_)
    with_reducible repeat (first | refine S.then_n ?_ | refine S.then_x ?_ | refine S.then_r ?_ | refine S.inBlock_n ?_ | refine S.inBlock_r ?_ | refine S.inBlock_x rfl ?_ | refine S.noGoto_r ?_ | refine S.noGoto_n ?_ | refine S.noGoto_x ?_)
    refine S.finR rfl ?_
    exact fun v w hs hx => ⟨⟨v, rfl⟩, _, hL, hs.ent ((Ent.rngM _).trans ((Sub.ent (Δ := blk c 121 #[.map (some mb)] :: mapL mb .u32 l :: stars (J L) :: Γ)).trans (Ent.cons _ (Ent.cons _ (Ent.unpack _ _))))), hx⟩
  · have hpe := erase_perm hi6
    have hel := hpe.length_eq
    rw [List.length_cons] at hel
    have hL2 : ((L ++ [z6]) ++ (left.eraseIdx i6).map (·.1)).Perm (l.map (·.1)) := by
      rw [List.append_assoc]
      exact (List.Perm.append_left L (hpe.map (·.1)).symm).trans hL
    have hlt : L.length < l.length := by
      have := hL.length_eq
      rw [List.length_append, List.length_map, List.length_map] at this
      omega
    refine S.op (S.q (q_extract rfl rfl) rfl rfl ?_)
    first | with_reducible refine S.nilK ?_ | refine S.nil ?_
    refine hK2 _ _ ?_
    refine S.seq fun K4 hK4 => ?_
    refine S.condT rfl ?_
    refine S.skip ?_
    with_reducible repeat (first | refine S.then_n ?_ | refine S.then_x ?_ | refine S.then_r ?_ | refine S.inBlock_n ?_ | refine S.inBlock_r ?_ | refine S.inBlock_x rfl ?_ | refine S.noGoto_r ?_ | refine S.noGoto_n ?_ | refine S.noGoto_x ?_)
    refine hK4 _ _ ?_
    refine S.block ?_
    refine S.seq fun K5 hK5 => ?_
    refine S.region rfl ?_
    refine S.op (S.q (q_entryR rfl) rfl rfl ?_)
    refine S.op (S.q (q_extract rfl rfl) rfl rfl ?_)
    refine S.op (S.q (q_assign rfl) rfl rfl ?_)
    first | with_reducible refine S.nilK ?_ | refine S.nil ?_
    refine hK5 _ _ ?_
    refine S.seq fun K6 hK6 => ?_
    refine S.regionW rfl ?_
    refine S.opI rfl ?_
    refine  (S.q (q_move rfl) rfl rfl ?_)
    refine S.opI rfl ?_
    refine  (S.q (q_move rfl) rfl rfl ?_)
    refine S.yieldI rfl rfl (fun w hs hx => hY L z6 (rngM r5 mb .u32 l (left.eraseIdx i6) (some (z6, v6)) :: blk c 121 #[.map (some mb)] :: Γ) w hlt (hs.ent ((Ent.swap _ _ _).trans (Ent.unpack _ _))) hx) rfl ?_
    refine S.ent (Ent.pack _ _) ?_
    refine S.opI rfl ?_
    refine  (S.q (q_not rfl) rfl rfl ?_)
    refine S.nilI ?_
    refine hK6 _ _ ?_
    refine S.condF rfl ?_
    refine S.skip ?_
    with_reducible repeat (first | refine S.then_n ?_ | refine S.then_x ?_ | refine S.then_r ?_ | refine S.inBlock_n ?_ | refine S.inBlock_r ?_ | refine S.inBlock_x rfl ?_ | refine S.noGoto_r ?_ | refine S.noGoto_n ?_ | refine S.noGoto_x ?_)
    with_reducible repeat (first | refine S.then_n ?_ | refine S.then_x ?_ | refine S.then_r ?_ | refine S.inBlock_n ?_ | refine S.inBlock_r ?_ | refine S.inBlock_x rfl ?_ | refine S.noGoto_r ?_ | refine S.noGoto_n ?_ | refine S.noGoto_x ?_)
    with_reducible repeat (first | refine S.then_n ?_ | refine S.then_x ?_ | refine S.then_r ?_ | refine S.inBlock_n ?_ | refine S.inBlock_r ?_ | refine S.inBlock_x rfl ?_ | refine S.noGoto_r ?_ | refine S.noGoto_n ?_ | refine S.noGoto_x ?_)
    exact S.next ((left.eraseIdx i6).length) (⟨left.eraseIdx i6, some (z6, v6), L ++ [z6], rfl, hL2, rfl, rfl⟩) (by omega) (by repeat (first | exact trivial | refine ⟨rfl, ?_⟩)) Sub.ent
theorem Keys_S (mb : Nat) : Spec Tryd.prog 83 [.map (some mb)] [] fun Γ v Θ => ∃ c, v = .func (.func 92) #[] #[.pointer (some ⟨c, 0, none⟩)] ∧ Θ = blk c 121 #[.map (some mb)] :: Γ := by
  refine Spec.of_body Tryd.func83 rfl Tryd.ntmps83 rfl ?_
  intro w0 Γ
  show S _ w0 [(0, .map (some mb))] Γ _
  refine S.seq fun K1 hK1 => ?_
  refine S.region rfl ?_
  refine S.op (S.box (cs := [_]) rfl rfl rfl ?_)
  intro b1
  refine S.op (S.q (q_assign rfl) rfl rfl ?_)
  first | with_reducible refine S.nilK ?_ | refine S.nil ?_
  refine hK1 _ _ ?_
  refine S.seq fun K2 hK2 => ?_
  refine S.region rfl ?_
  refine S.op (S.q (q_makeFunc (vs := []) (us := [_]) trivial ⟨rfl, trivial⟩) rfl rfl ?_)
  refine S.op (S.q (q_assign rfl) rfl rfl ?_)
  first | with_reducible refine S.nilK ?_ | refine S.nil ?_
  refine hK2 _ _ ?_
  refine S.ret ?_
  with_reducible repeat (first | refine S.then_n ?_ | refine S.then_x ?_ | refine S.then_r ?_ | refine S.inBlock_n ?_ | refine S.inBlock_r ?_ | refine S.inBlock_x rfl ?_ | refine S.noGoto_r ?_ | refine S.noGoto_n ?_ | refine S.noGoto_x ?_)
  exact S.fin (rs := [_]) (vs := [_]) Tryd.results83 (⟨rfl, trivial⟩)  (⟨b1, rfl, rfl⟩) Sub.ent
theorem AppendSeq_S (c mb : Nat) (l : List (Int × Value)) (hl : l.length ≤ 65535) : Spec Tryd.prog 106 [.slice none 0 0, .func (.func 92) #[] #[.pointer (some ⟨c, 0, none⟩)]] (keyP c mb l) fun Γ v Θ => ∃ (sv : SV) (xs : List Int), v = sv.v ∧ sv.n = xs.length ∧ xs.Perm (l.map (·.1)) ∧ Θ = own sv 68 1 (xs.map kv) :: blk c 121 #[.map (some mb)] :: mapL mb .u32 l :: Γ := by
  refine Spec.of_bodyM Tryd.func106 rfl Tryd.ntmps106 rfl ?_
  intro w0 Γ
  show S _ w0 [(0, SV.nil.v), (1, .func (.func 92) #[] #[.pointer (some ⟨c, 0, none⟩)])] (blk c 121 #[.map (some mb)] :: mapL mb .u32 l :: Γ) _
  refine S.seq fun K1 hK1 => ?_
  refine S.region rfl ?_
  refine S.op (S.box (cs := [_]) rfl rfl rfl ?_)
  intro b2
  refine S.op (S.q (q_assign rfl) rfl rfl ?_)
  refine S.nilK ?_
  refine hK1 _ _ ?_
  refine S.seq1 ?_
  refine S.seq fun K4 hK4 => ?_
  refine S.region rfl ?_
  refine S.op (S.q (q_move rfl) rfl rfl ?_)
  refine S.nilK ?_
  refine hK4 _ _ ?_
  refine S.block ?_
  refine S.rangeF (fs := []) (cs := [.pointer (some ⟨c, 0, none⟩)]) (enc := kv) (p := 7) (q := 5) rfl Tryd.en92 (keys_seq c mb l) (fun done => [outA b2 31 68 (done.map kv)]) (Γ' := Γ) ?_ rfl rfl ?_ ?_
  · exact (Sub.ent (Δ := blk c 121 #[.map (some mb)] :: mapL mb .u32 l :: blk b2 31 #[SV.nil.v] :: Γ)).trans (Ent.cons _ (Ent.cons _ ((Ent.cons _ (Ent.ownNil 68 1)).trans (Ent.outA SV.nil rfl _))))
  · intro y done x Θ hlt
    show S _ w0 _ (outA b2 31 68 (done.map kv) :: Θ) _
    refine S.outA (b := b2) (T := 31) (E := 68) (done := done.map kv) fun sv hsv => ?_
    rw [List.length_map] at hsv
    refine S.blockR (S.regionR rfl ?_)
    refine S.opI rfl ?_
    refine (S.q (q_load Tryd.at31 rfl rfl) rfl rfl ?_)
    refine S.opI rfl ?_
    refine (S.q (q_move rfl) rfl rfl ?_)
    refine S.opI rfl ?_
    refine (S.buildSlice (pvs := [(_, _)]) [_] Tryd.underlying31 Tryd.inf68 rfl rfl ⟨⟨rfl, rfl⟩, trivial⟩ rfl rfl ?_)
    intro b10
    refine S.opI rfl ?_
    refine (S.appendOw (s := sv) 1 [kv x] Tryd.underlying31 Tryd.inf68 rfl rfl rfl (blk_slAt (b := b10) rfl (show 1 ≤ maxLen by unfold maxLen; omega)) rfl ⟨by omega, by omega⟩ rfl ?_)
    intro s2 hs2
    refine S.opI rfl ?_
    refine (S.store (cs' := [_]) Tryd.at31 rfl rfl rfl rfl rfl ?_)
    refine S.nilI ?_
    refine S.endR ?_
    have e : done.map kv ++ [kv x] = (done ++ [x]).map kv := by simp
    rw [e]
    exact (Sub.ent (Δ := blk b2 31 #[s2.v] :: own s2 68 1 ((done ++ [x]).map kv) :: Θ)).trans (Ent.outA s2 (by simp [hs2, hsv]) Θ)
  · intro D xs hxs
    show S _ w0 _ (defA D :: blk c 121 #[.map (some mb)] :: mapL mb .u32 l :: outA b2 31 68 (xs.map kv) :: Γ) _
    refine S.outA (b := b2) (T := 31) (E := 68) (done := xs.map kv) fun sv hsv => ?_
    rw [List.length_map] at hsv
    refine S.seqD (S.regionD rfl ?_)
    refine S.qD (q_load Tryd.at31 rfl rfl) rfl rfl ?_
    refine S.qD (q_assign rfl) rfl rfl ?_
    refine S.nilD (S.retD ?_)
    exact S.finM (rs := [_]) (vs := [_]) Tryd.results106 ⟨rfl, trivial⟩ (Θ := own sv 68 1 (xs.map kv) :: blk c 121 #[.map (some mb)] :: mapL mb .u32 l :: Γ) ⟨sv, xs, rfl, hsv, hxs, rfl⟩ Sub.ent
theorem Collect_S (c mb : Nat) (l : List (Int × Value)) (hl : l.length ≤ 65535) : Spec Tryd.prog 90 [.func (.func 92) #[] #[.pointer (some ⟨c, 0, none⟩)]] (keyP c mb l) fun Γ v Θ => ∃ (sv : SV) (xs : List Int), v = sv.v ∧ sv.n = xs.length ∧ xs.Perm (l.map (·.1)) ∧ Θ = own sv 68 1 (xs.map kv) :: blk c 121 #[.map (some mb)] :: mapL mb .u32 l :: Γ := by
  refine Spec.of_body Tryd.func90 rfl Tryd.ntmps90 rfl ?_
  intro w0 Γ
  show S _ w0 [(0, .func (.func 92) #[] #[.pointer (some ⟨c, 0, none⟩)])] (blk c 121 #[.map (some mb)] :: mapL mb .u32 l :: Γ) _
  refine S.seq fun K1 hK1 => ?_
  refine S.region rfl ?_
  refine S.op (S.q (q_assign rfl) rfl rfl ?_)
  first | with_reducible refine S.nilK ?_ | refine S.nil ?_
  refine hK1 _ _ ?_
  refine S.seq fun K2 hK2 => ?_
  refine S.region rfl ?_
  refine S.op (S.q (q_move rfl) rfl rfl ?_)
  refine S.op (S.call Tryd.en106 (vs := [_, _]) ⟨rfl, rfl, trivial⟩ (AppendSeq_S c mb l hl) rfl ?_)
  rintro v Θ ⟨sv, xs, rfl, hsn, hxs, rfl⟩
  refine S.op (S.q (q_assign rfl) rfl rfl ?_)
  first | with_reducible refine S.nilK ?_ | refine S.nil ?_
  refine hK2 _ _ ?_
  refine S.ret ?_
  with_reducible repeat (first | refine S.then_n ?_ | refine S.then_x ?_ | refine S.then_r ?_ | refine S.inBlock_n ?_ | refine S.inBlock_r ?_ | refine S.inBlock_x rfl ?_ | refine S.noGoto_r ?_ | refine S.noGoto_n ?_ | refine S.noGoto_x ?_)
  exact S.fin (rs := [_]) (vs := [_]) Tryd.results90 (⟨rfl, trivial⟩)  (⟨sv, xs, rfl, hsn, hxs, rfl⟩) Sub.ent
theorem Sorted_S (c mb : Nat) (l : List (Int × Value)) (hl : l.length ≤ 65535) : Spec Tryd.prog 82 [.func (.func 92) #[] #[.pointer (some ⟨c, 0, none⟩)]] (keyP c mb l) fun Γ v Θ => ∃ (sv : SV) (xs : List Int), v = sv.v ∧ sv.n = xs.length ∧ xs.Perm (l.map (·.1)) ∧ xs.Pairwise (· ≤ ·) ∧ Θ = own sv 68 1 (xs.map kv) :: blk c 121 #[.map (some mb)] :: mapL mb .u32 l :: Γ := by
  refine Spec.of_body Tryd.func82 rfl Tryd.ntmps82 rfl ?_
  intro w0 Γ
  show S _ w0 [(0, .func (.func 92) #[] #[.pointer (some ⟨c, 0, none⟩)])] (blk c 121 #[.map (some mb)] :: mapL mb .u32 l :: Γ) _
  refine S.seq fun K1 hK1 => ?_
  refine S.region rfl ?_
  refine S.op (S.q (q_assign rfl) rfl rfl ?_)
  first | with_reducible refine S.nilK ?_ | refine S.nil ?_
  refine hK1 _ _ ?_
  refine S.seq fun K2 hK2 => ?_
  refine S.region rfl ?_
  refine S.op (S.q (q_move rfl) rfl rfl ?_)
  refine S.op (S.call Tryd.en90 (vs := [_]) ⟨rfl, trivial⟩ (Collect_S c mb l hl) rfl ?_)
  rintro v Θ ⟨sv, xs, rfl, hsn, hxs, rfl⟩
  have hxl : xs.length = l.length := by rw [hxs.length_eq, List.length_map]
  refine S.op (S.q (q_assign rfl) rfl rfl ?_)
  first | with_reducible refine S.nilK ?_ | refine S.nil ?_
  refine hK2 _ _ ?_
  refine S.seq fun K3 hK3 => ?_
  refine S.region rfl ?_
  refine S.op (S.q (q_move rfl) rfl rfl ?_)
  refine S.op (S.call Tryd.en91 (vs := [_]) ⟨rfl, trivial⟩ (Sort_S sv xs.toArray (by simpa [hxl] using hl) (by simpa using hsn)) rfl ?_)
  rintro v Θ ⟨R, hR1, hR2, rfl⟩
  have hR1 : R.toList.Perm xs := hR1
  have hRl : sv.n = R.toList.length := by rw [hR1.length_eq, hsn]
  first | with_reducible refine S.nilK ?_ | refine S.nil ?_
  refine hK3 _ _ ?_
  refine S.seq fun K4 hK4 => ?_
  refine S.region rfl ?_
  refine S.op (S.q (q_move rfl) rfl rfl ?_)
  refine S.op (S.q (q_assign rfl) rfl rfl ?_)
  first | with_reducible refine S.nilK ?_ | refine S.nil ?_
  refine hK4 _ _ ?_
  refine S.ret ?_
  with_reducible repeat (first | refine S.then_n ?_ | refine S.then_x ?_ | refine S.then_r ?_ | refine S.inBlock_n ?_ | refine S.inBlock_r ?_ | refine S.inBlock_x rfl ?_ | refine S.noGoto_r ?_ | refine S.noGoto_n ?_ | refine S.noGoto_x ?_)
  exact S.fin (rs := [_]) (vs := [_]) Tryd.results82 (⟨rfl, trivial⟩)  (⟨sv, R.toList, rfl, hRl, hR1.trans hxs, hR2, rfl⟩) Sub.ent
abbrev jobIds (m : Mx) : List Nat := m.js.map (·.id)
theorem jobs_eq {m : Mx} (hm : MxOk m) {l : List (Int × Value)} (hp : l.Perm (m.js.map jbE)) {xs : List Int} (h1 : xs.Perm (l.map (·.1))) (h2 : xs.Pairwise (· ≤ ·)) : xs = (jobIds m).map fun j : Nat => (j : Int) := by
  have e : (m.js.map jbE).map (·.1) = (jobIds m).map fun j : Nat => (j : Int) := by rw [List.map_map, List.map_map]; rfl
  refine List.Perm.eq_of_pairwise (le := (· ≤ ·)) (fun a b _ _ h1 h2 => by omega) h2 ?_ (h1.trans ((hp.map _).trans (e ▸ List.Perm.refl _)))
  rw [List.map_map]
  refine List.pairwise_map.2 (hm.srt.imp fun h => ?_)
  exact Int.ofNat_le.2 (Nat.le_of_lt h)
theorem Jobs_S (b : Nat) (m : Mx) : Spec Tryd.prog 66 [.pointer (some ⟨b, 0, none⟩)] [MI b m] fun Γ v Θ => ∃ sv : SV, v = sv.v ∧ sv.n = (jobIds m).length ∧ Θ = own sv 68 1 (idsV (jobIds m)) :: MI b m :: Γ := by
  refine Spec.of_body Tryd.func66 rfl Tryd.ntmps66 rfl ?_
  intro w0 Γ
  show S _ w0 [(0, .pointer (some ⟨b, 0, none⟩))] (MI b m :: Γ) _
  refine S.seq fun K1 hK1 => ?_
  refine S.region rfl ?_
  refine S.op (S.q (q_assign rfl) rfl rfl ?_)
  first | with_reducible refine S.nilK ?_ | refine S.nil ?_
  refine hK1 _ _ ?_
  refine S.seq fun K2 hK2 => ?_
  refine S.seq fun K3 hK3 => ?_
  refine S.region rfl ?_
  refine S.op (S.q (q_move rfl) rfl rfl ?_)
  refine S.op (S.q (q_eqN Tryd.underlying25 rfl rfl) rfl rfl ?_)
  first | with_reducible refine S.nilK ?_ | refine S.nil ?_
  refine hK3 _ _ ?_
  refine S.condF rfl ?_
  refine S.skip ?_
  with_reducible repeat (first | refine S.then_n ?_ | refine S.then_x ?_ | refine S.then_r ?_ | refine S.inBlock_n ?_ | refine S.inBlock_r ?_ | refine S.inBlock_x rfl ?_ | refine S.noGoto_r ?_ | refine S.noGoto_n ?_ | refine S.noGoto_x ?_)
  refine hK2 _ _ ?_
  refine S.seq fun K4 hK4 => ?_
  refine S.region rfl ?_
  refine S.miOpen b m fun mb tv l hok hp htn => ?_
  have h128 := sum_lens m hok
  have hll : l.length = m.js.length := by rw [hp.length_eq, List.length_map]
  refine S.op (S.q (q_move rfl) rfl rfl ?_)
  refine S.op (S.q (q_nilCheck rfl) rfl rfl ?_)
  refine S.op (S.q (q_field Tryd.fo124_3 rfl) rfl rfl ?_)
  refine S.op (S.q (q_load Tryd.at121 rfl rfl) rfl rfl ?_)
  refine S.op (S.call Tryd.en83 (vs := [_]) ⟨rfl, trivial⟩ (Keys_S mb) rfl ?_)
  rintro v Θ ⟨c, rfl, rfl⟩
  refine S.op (S.call Tryd.en82 (vs := [_]) ⟨rfl, trivial⟩ (Sorted_S c mb l (by omega)) rfl ?_)
  rintro v Θ ⟨sv, xs, rfl, hsn, hx1, hx2, rfl⟩
  have hxe := jobs_eq hok hp hx1 hx2
  have hsl : sv.n = (jobIds m).length := by rw [hsn, hxe, List.length_map]
  have hxv : xs.map kv = idsV (jobIds m) := by rw [hxe, List.map_map]; rfl
  rw [hxv]
  refine S.miClose (b := b) (m := m) (mb := mb) (tv := tv) rfl rfl rfl hok hp htn ?_
  refine S.op (S.q (q_assign rfl) rfl rfl ?_)
  first | with_reducible refine S.nilK ?_ | refine S.nil ?_
  refine hK4 _ _ ?_
  refine S.ret ?_
  with_reducible repeat (first | refine S.then_n ?_ | refine S.then_x ?_ | refine S.then_r ?_ | refine S.inBlock_n ?_ | refine S.inBlock_r ?_ | refine S.inBlock_x rfl ?_ | refine S.noGoto_r ?_ | refine S.noGoto_n ?_ | refine S.noGoto_x ?_)
  exact S.fin (rs := [_]) (vs := [_]) Tryd.results66 (⟨rfl, trivial⟩)  (⟨sv, rfl, hsl, rfl⟩) Sub.ent
end Go.Proofs.YtegjmmocnffpiaaDoor
