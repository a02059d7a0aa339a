/- Sets of nodes: the contracts of their functions; bits.OnesCount16, TrailingZeros16. -/
import Derived.Test.YtdmfjjogpmddoaaDoorTab
import Derived.Test.YtdmfjjogpmddoaaDoorBit
import Derived.Test.YtdmfjjogpmddoaaDoorRng
import Derived.Test.YtdmfjjogpmddoaaDoorFacts
namespace Go.Proofs.YtdmfjjogpmddoaaDoor
open Go.RowKit
set_option maxRecDepth 20000
theorem OnesCount16_S {md : Bool} (s : Bs) : Spec Tryd.prog 60 [bsv s] [] (fun Γ v Θ => v = .int .i64 ((lst s).length : Nat) ∧ Θ = Γ) md := by
  refine Spec.of_body Tryd.func60 rfl Tryd.ntmps60 rfl ?_
  intro w0 Γ
  have hs := bs_lt s
  have e1 : ((s >>> 8).toNat : Int) = ((s.toNat / 256 : Nat) : Int) := by rw [BitVec.toNat_ushiftRight, Nat.shiftRight_eq_div_pow]
  have e2 : ((s &&& 255#16).toNat : Int) = ((s.toNat % 256 : Nat) : Int) := by
    rw [BitVec.toNat_and, show (255#16 : Bs).toNat = 2 ^ 8 - 1 from rfl, Nat.and_two_pow_sub_one_eq_mod]
  have p1 := pc8_le (s.toNat / 256)
  have p2 := pc8_le (s.toNat % 256)
  show S _ w0 [(0, bsv s)] Γ _
  refine S.seq fun K1 hK1 => ?_
  refine S.region rfl ?_
  refine S.op (S.q (q_assign rfl) rfl rfl ?_)
  first | with_reducible refine S.nilK ?_ | refine S.nil ?_
  refine hK1 _ _ ?_
  refine S.seq fun K2 hK2 => ?_
  refine S.draw ([]) [] Tryd.mixed ?_
  refine S.dr_take 0 [] rfl (by kernel_rfl) rfl rfl rfl (q_move rfl) Sub.ent ?_
  refine S.dr_take 1 [] rfl (by kernel_rfl) rfl rfl rfl (q_shrB (s) (8) rfl rfl rfl (rfl) (by omega)) Sub.ent ?_
  refine S.dr_take 2 [] rfl (by kernel_rfl) rfl rfl rfl (q_popAt (s.toNat / 256) Tryd.underlying9 rfl (by kernel_rfl) rfl e1 (by omega)) Sub.ent ?_
  refine S.dr_take 3 [] rfl (by kernel_rfl) rfl rfl rfl (q_move rfl) Sub.ent ?_
  refine S.dr_take 4 [] rfl (by kernel_rfl) rfl rfl rfl (q_andB (s) (255#16) rfl rfl (rfl) (rfl)) Sub.ent ?_
  refine S.dr_take 5 [] rfl (by kernel_rfl) rfl rfl rfl (q_popAt (s.toNat % 256) Tryd.underlying9 rfl (by kernel_rfl) rfl e2 (by omega)) Sub.ent ?_
  refine S.dr_take 6 [] rfl (by kernel_rfl) rfl rfl rfl (q_add rfl rfl (inU8 (by omega) (by omega))) Sub.ent ?_
  refine S.dr_take 7 [] rfl (by kernel_rfl) rfl rfl rfl (q_conv Tryd.it3 (by rw [Tryd.underlying5]; rfl) rfl (inI64 (by omega) (by omega))) Sub.ent ?_
  refine S.dr_take 8 [] rfl (by kernel_rfl) rfl rfl rfl (q_assign rfl) Sub.ent ?_
  first | with_reducible refine S.dr_doneK (by kernel_rfl) ?_ | refine S.dr_done (by kernel_rfl) ?_
  refine hK2 _ _ ?_
  refine S.ret ?_
  with_reducible repeat (first | refine S.then_n ?_ | refine S.then_x ?_ | refine S.then_r ?_ | refine S.inBlock_n ?_ | refine S.inBlock_r ?_ | refine S.inBlock_x rfl ?_ | refine S.noGoto_r ?_ | refine S.noGoto_n ?_ | refine S.noGoto_x ?_)
  exact S.fin (rs := [_]) (vs := [_]) Tryd.results60 (⟨rfl, trivial⟩)  (⟨by simp only [resV]; rw [lst_pc]; simp, rfl⟩) Sub.ent
theorem count_S {md : Bool} (s : Bs) : Spec Tryd.prog 42 [bsv s] [] (fun Γ v Θ => v = .int .i64 ((lst s).length : Nat) ∧ Θ = Γ) md := by
  refine Spec.of_body Tryd.func42 rfl Tryd.ntmps42 rfl ?_
  intro w0 Γ
  show S _ w0 [(0, bsv s)] Γ _
  refine S.seq fun K1 hK1 => ?_
  refine S.region rfl ?_
  refine S.op (S.q (q_assign rfl) rfl rfl ?_)
  first | with_reducible refine S.nilK ?_ | refine S.nil ?_
  refine hK1 _ _ ?_
  refine S.seq fun K2 hK2 => ?_
  refine S.region rfl ?_
  refine S.op (S.q (q_move rfl) rfl rfl ?_)
  refine S.op (S.call Tryd.en60 (vs := [_]) ⟨rfl, trivial⟩ (OnesCount16_S s) rfl ?_)
  rintro v Θ ⟨rfl, rfl⟩
  refine S.op (S.q (q_assign rfl) rfl rfl ?_)
  first | with_reducible refine S.nilK ?_ | refine S.nil ?_
  refine hK2 _ _ ?_
  refine S.ret ?_
  with_reducible repeat (first | refine S.then_n ?_ | refine S.then_x ?_ | refine S.then_r ?_ | refine S.inBlock_n ?_ | refine S.inBlock_r ?_ | refine S.inBlock_x rfl ?_ | refine S.noGoto_r ?_ | refine S.noGoto_n ?_ | refine S.noGoto_x ?_)
  exact S.fin (rs := [_]) (vs := [_]) Tryd.results42 (⟨rfl, trivial⟩)  (⟨rfl, rfl⟩) Sub.ent
theorem has_bit (s : Bs) (m : Nat) : decide (((s >>> m &&& 1#16).toNat : Int) = 1) = s.getLsbD m := by
  have e : ((s >>> m &&& 1#16).toNat) = if s.getLsbD m then 1 else 0 := by
    rw [BitVec.toNat_and, BitVec.toNat_ushiftRight, show (1#16 : Bs).toNat = 1 from rfl, Nat.and_one_is_mod, BitVec.getLsbD, Nat.testBit, Nat.one_and_eq_mod_two, Nat.shiftRight_eq_div_pow]
    rcases Nat.mod_two_eq_zero_or_one (s.toNat / 2 ^ m) with h | h <;> simp [h]
  rw [e]
  cases s.getLsbD m <;> rfl
theorem has_S {md : Bool} (s : Bs) (m : Nat) (z : Int) (hz : z = (m : Int)) (hm : m ≤ 16) : Spec Tryd.prog 47 [bsv s, .int .i64 z] [] (fun Γ v Θ => v = .bool (s.getLsbD m) ∧ Θ = Γ) md := by
  subst hz
  refine Spec.of_body Tryd.func47 rfl Tryd.ntmps47 rfl ?_
  intro w0 Γ
  show S _ w0 [(0, bsv s), (1, .int .i64 m)] Γ _
  refine S.seq fun K1 hK1 => ?_
  refine S.region rfl ?_
  refine S.op (S.q (q_assign rfl) rfl rfl ?_)
  first | with_reducible refine S.nilK ?_ | refine S.nil ?_
  refine hK1 _ _ ?_
  refine S.seq fun K2 hK2 => ?_
  refine S.region rfl ?_
  refine S.op (S.q (q_move rfl) rfl rfl ?_)
  refine S.op (S.q (q_move rfl) rfl rfl ?_)
  refine S.op (S.q (q_shrB (s) (m) rfl rfl rfl (rfl) (hm)) rfl rfl ?_)
  refine S.op (S.q (q_andB (s >>> m) (1#16) rfl rfl (rfl) (rfl)) rfl rfl ?_)
  refine S.op (S.q (q_eq rfl rfl) rfl rfl ?_)
  refine S.op (S.q (q_assign rfl) rfl rfl ?_)
  first | with_reducible refine S.nilK ?_ | refine S.nil ?_
  refine hK2 _ _ ?_
  refine S.ret ?_
  with_reducible repeat (first | refine S.then_n ?_ | refine S.then_x ?_ | refine S.then_r ?_ | refine S.inBlock_n ?_ | refine S.inBlock_r ?_ | refine S.inBlock_x rfl ?_ | refine S.noGoto_r ?_ | refine S.noGoto_n ?_ | refine S.noGoto_x ?_)
  exact S.fin (rs := [_]) (vs := [_]) Tryd.results47 (⟨rfl, trivial⟩)  (⟨by simp only [resV]; rw [has_bit], rfl⟩) Sub.ent
theorem least_S (s : Bs) (k : Int) (hk0 : 0 ≤ k) (hk : k ≤ 9223372036854775807) : Spec Tryd.prog 43 [bsv s, .int .i64 k] [] (fun Γ v Θ => v = bsv (leastK s k.toNat) ∧ Θ = Γ) := by
  refine Spec.of_body Tryd.func43 rfl Tryd.ntmps43 rfl ?_
  intro w0 Γ
  show S _ w0 [(0, bsv s), (1, .int .i64 k)] Γ _
  refine S.seq fun K1 hK1 => ?_
  refine S.region rfl ?_
  refine S.op (S.q (q_assign rfl) rfl rfl ?_)
  first | with_reducible refine S.nilK ?_ | refine S.nil ?_
  refine hK1 _ _ ?_
  refine S.seq fun K2 hK2 => ?_
  refine S.region rfl ?_
  refine S.op (S.q (q_assign rfl) rfl rfl ?_)
  first | with_reducible refine S.nilK ?_ | refine S.nil ?_
  refine hK2 _ _ ?_
  refine S.seq fun K3 hK3 => ?_
  refine S.block ?_
  refine S.loop (fun m ρ' Γ' => ∃ (j : Nat) (u o : Bs) (q : Int), j ≤ k.toNat ∧ q = k - j ∧ lst u = (lst s).drop j ∧ o = ofL ((lst s).take j) ∧ m = (lst u).length ∧ ρ' = [(0, bsv u), (1, .int .i64 q), (5, bsv o)] ∧ Γ' = Γ) (m := _) (ρ0 := _) (Γ0 := _) (⟨0, s, 0#16, k, by omega, by omega, by simp, by simp [ofL], rfl, rfl, rfl⟩) (by repeat (first | exact trivial | refine ⟨rfl, ?_⟩)) Sub.ent ?_
  rintro m ρ' Γ' ⟨j, u, o, q, hj, hq, hu, ho, hm, rfl, rfl⟩
  refine S.seq fun K4 hK4 => ?_
  refine S.seq fun K5 hK5 => ?_
  refine S.regionG ?_
  refine S.g_op rfl (S.q (q_move rfl) rfl rfl ?_)
  refine S.g_op rfl (S.q (q_gt rfl rfl) rfl rfl ?_)
  refine S.g_op rfl (S.q (q_move rfl) rfl rfl ?_)
  by_cases hg2_2 : (0 : Int) < q
  · refine S.g_yes rfl rfl rfl (decide_eq_true hg2_2) (S.q (q_move rfl) rfl rfl ?_)
    refine S.g_yes rfl rfl rfl (decide_eq_true hg2_2) (S.q (q_ne rfl rfl) rfl rfl ?_)
    refine S.g_op rfl (S.q (q_pickT rfl (decide_eq_true hg2_2) rfl) rfl rfl ?_)
    first | with_reducible refine S.g_nilK ?_ | refine S.g_nil ?_
    refine hK5 _ _ ?_
    refine S.condD rfl (fun h1 => ?_) (fun h1 => ?_)
    · refine S.skip ?_
      with_reducible repeat (first | refine S.then_n ?_ | refine S.then_x ?_ | refine S.then_r ?_ | refine S.inBlock_n ?_ | refine S.inBlock_r ?_ | refine S.inBlock_x rfl ?_ | refine S.noGoto_r ?_ | refine S.noGoto_n ?_ | refine S.noGoto_x ?_)
      refine hK4 _ _ ?_
      refine S.seq fun K6 hK6 => ?_
      refine S.block ?_
      refine S.seq fun K7 hK7 => ?_
      refine S.region rfl ?_
      refine S.op (S.q (q_move rfl) rfl rfl ?_)
      refine S.op (S.q (q_move rfl) rfl rfl ?_)
      refine S.op (S.q (q_negB (u) rfl rfl) rfl rfl ?_)
      refine S.op (S.q (q_andB (u) (-u) rfl rfl (rfl) (rfl)) rfl rfl ?_)
      refine S.op (S.q (q_assign rfl) rfl rfl ?_)
      first | with_reducible refine S.nilK ?_ | refine S.nil ?_
      refine hK7 _ _ ?_
      refine S.seq fun K8 hK8 => ?_
      refine S.region rfl ?_
      refine S.op (S.q (q_move rfl) rfl rfl ?_)
      refine S.op (S.q (q_move rfl) rfl rfl ?_)
      refine S.op (S.q (q_orB (o) (u &&& -u) rfl rfl (rfl) (rfl)) rfl rfl ?_)
      refine S.op (S.q (q_assign rfl) rfl rfl ?_)
      first | with_reducible refine S.nilK ?_ | refine S.nil ?_
      refine hK8 _ _ ?_
      refine S.region rfl ?_
      refine S.op (S.q (q_move rfl) rfl rfl ?_)
      refine S.op (S.q (q_move rfl) rfl rfl ?_)
      refine S.op (S.q (q_andNotB (u) (u &&& -u) rfl rfl (rfl) (rfl)) rfl rfl ?_)
      refine S.op (S.q (q_assign rfl) rfl rfl ?_)
      first | with_reducible refine S.nilK ?_ | refine S.nil ?_
      with_reducible repeat (first | refine S.then_n ?_ | refine S.then_x ?_ | refine S.then_r ?_ | refine S.inBlock_n ?_ | refine S.inBlock_r ?_ | refine S.inBlock_x rfl ?_ | refine S.noGoto_r ?_ | refine S.noGoto_n ?_ | refine S.noGoto_x ?_)
      refine hK6 _ _ ?_
      refine S.region rfl ?_
      refine S.op (S.q (q_move rfl) rfl rfl ?_)
      refine S.op (S.q (q_sub rfl rfl (inI64 (by omega) (by omega))) rfl rfl ?_)
      refine S.op (S.q (q_assign rfl) rfl rfl ?_)
      first | with_reducible refine S.nilK ?_ | refine S.nil ?_
      with_reducible repeat (first | refine S.then_n ?_ | refine S.then_x ?_ | refine S.then_r ?_ | refine S.inBlock_n ?_ | refine S.inBlock_r ?_ | refine S.inBlock_x rfl ?_ | refine S.noGoto_r ?_ | refine S.noGoto_n ?_ | refine S.noGoto_x ?_)
      have h0 : u ≠ 0#16 := fun e => h1 (bs_zero.2 e)
      obtain ⟨t, l, hl⟩ : ∃ t l, lst u = t :: l := by
        cases e : lst u with
        | nil => exact absurd (lst_nil.1 e) h0
        | cons t l => exact ⟨t, l, rfl⟩
      have hlt : 0 < (lst u).length := by rw [hl]; simp
      have hu2 : lst (butLeast u) = (lst s).drop (j + 1) := by rw [lst_butLeast hl, ← List.tail_drop, ← hu, hl]; rfl
      have ho2 : o ||| (u &&& -u) = ofL ((lst s).take (j + 1)) := by
        rw [List.take_add, ← hu, hl, ofL_append, ho, low_bit u h0, tz_cons hl]
        simp [ofL]
      have hm2 : m - 1 = (lst (butLeast u)).length := by rw [hm, lst_butLeast hl, hl]; simp
      exact S.next (m - 1) (⟨j + 1, butLeast u, o ||| (u &&& -u), q - 1, by omega, by omega, hu2, ho2, hm2, rfl, rfl⟩) (by omega) (by repeat (first | exact trivial | refine ⟨rfl, ?_⟩)) Sub.ent
    · have hfin : o = leastK s k.toNat := by
        have e0 : u = 0#16 := bs_zero.1 (Classical.byContradiction h1)
        rw [e0, lst_zero] at hu
        have := List.drop_eq_nil_iff.1 hu.symm
        rw [ho, leastK, List.take_of_length_le this, List.take_of_length_le (by omega)]
      refine S.exit ?_
      with_reducible repeat (first | refine S.then_n ?_ | refine S.then_x ?_ | refine S.then_r ?_ | refine S.inBlock_n ?_ | refine S.inBlock_r ?_ | refine S.inBlock_x rfl ?_ | refine S.noGoto_r ?_ | refine S.noGoto_n ?_ | refine S.noGoto_x ?_)
      with_reducible refine S.inBlock_s ?_
      with_reducible repeat (first | refine S.then_n ?_ | refine S.then_x ?_ | refine S.then_r ?_ | refine S.inBlock_n ?_ | refine S.inBlock_r ?_ | refine S.inBlock_x rfl ?_ | refine S.noGoto_r ?_ | refine S.noGoto_n ?_ | refine S.noGoto_x ?_)
      refine hK3 _ _ ?_
      refine S.seq fun K9 hK9 => ?_
      refine S.region rfl ?_
      refine S.op (S.q (q_move rfl) rfl rfl ?_)
      refine S.op (S.q (q_assign rfl) rfl rfl ?_)
      first | with_reducible refine S.nilK ?_ | refine S.nil ?_
      refine hK9 _ _ ?_
      refine S.ret ?_
      with_reducible repeat (first | refine S.then_n ?_ | refine S.then_x ?_ | refine S.then_r ?_ | refine S.inBlock_n ?_ | refine S.inBlock_r ?_ | refine S.inBlock_x rfl ?_ | refine S.noGoto_r ?_ | refine S.noGoto_n ?_ | refine S.noGoto_x ?_)
      exact S.fin (rs := [_]) (vs := [_]) Tryd.results43 (⟨rfl, trivial⟩)  (⟨by simp only [resV]; rw [hfin], rfl⟩) Sub.ent
  · have hfin : o = leastK s k.toNat := by rw [ho, show j = k.toNat by omega]; rfl
    refine S.g_no rfl rfl rfl (decide_eq_false hg2_2) rfl rfl ?_
    refine S.g_no rfl rfl rfl (decide_eq_false hg2_2) rfl rfl ?_
    refine S.g_op rfl (S.q (q_pickF rfl (decide_eq_false hg2_2) rfl) rfl rfl ?_)
    first | with_reducible refine S.g_nilK ?_ | refine S.g_nil ?_
    refine hK5 _ _ ?_
    refine S.condF rfl ?_
    refine S.exit ?_
    with_reducible repeat (first | refine S.then_n ?_ | refine S.then_x ?_ | refine S.then_r ?_ | refine S.inBlock_n ?_ | refine S.inBlock_r ?_ | refine S.inBlock_x rfl ?_ | refine S.noGoto_r ?_ | refine S.noGoto_n ?_ | refine S.noGoto_x ?_)
    with_reducible refine S.inBlock_s ?_
    with_reducible repeat (first | refine S.then_n ?_ | refine S.then_x ?_ | refine S.then_r ?_ | refine S.inBlock_n ?_ | refine S.inBlock_r ?_ | refine S.inBlock_x rfl ?_ | refine S.noGoto_r ?_ | refine S.noGoto_n ?_ | refine S.noGoto_x ?_)
    refine hK3 _ _ ?_
    refine S.seq fun K10 hK10 => ?_
    refine S.region rfl ?_
    refine S.op (S.q (q_move rfl) rfl rfl ?_)
    refine S.op (S.q (q_assign rfl) rfl rfl ?_)
    first | with_reducible refine S.nilK ?_ | refine S.nil ?_
    refine hK10 _ _ ?_
    refine S.ret ?_
    with_reducible repeat (first | refine S.then_n ?_ | refine S.then_x ?_ | refine S.then_r ?_ | refine S.inBlock_n ?_ | refine S.inBlock_r ?_ | refine S.inBlock_x rfl ?_ | refine S.noGoto_r ?_ | refine S.noGoto_n ?_ | refine S.noGoto_x ?_)
    exact S.fin (rs := [_]) (vs := [_]) Tryd.results43 (⟨rfl, trivial⟩)  (⟨by simp only [resV]; rw [hfin], rfl⟩) Sub.ent
end Go.Proofs.YtdmfjjogpmddoaaDoor
