/- Sets of nodes: the contracts of their functions; bits.OnesCount16, TrailingZeros16. -/
import Derived.Test.YtbhnbnecaejjiaaDoorTab
import Derived.Test.YtbhnbnecaejjiaaDoorBit
import Derived.Test.YtbhnbnecaejjiaaDoorRng
import Derived.Test.YtbhnbnecaejjiaaDoorFacts
namespace Go.Proofs.YtbhnbnecaejjiaaDoor
open Go.RowKit
set_option maxRecDepth 20000
theorem OnesCount16_S {md : Bool} (s : Bs) : Spec Tryd.prog 79 [bsv s] [] (fun Γ v Θ => v = .int .i64 ((lst s).length : Nat) ∧ Θ = Γ) md := by
  refine Spec.of_body Tryd.func79 rfl Tryd.ntmps79 rfl ?_
  intro w0 Γ
  have hs := bs_lt s
  have e1 : ((s >>> 8).toNat : Int) = ((s.toNat / 256 : Nat) : Int) := by rw [BitVec.toNat_ushiftRight, Nat.shiftRight_eq_div_pow]
  have e2 : ((s &&& 255#16).toNat : Int) = ((s.toNat % 256 : Nat) : Int) := by
    rw [BitVec.toNat_and, show (255#16 : Bs).toNat = 2 ^ 8 - 1 from rfl, Nat.and_two_pow_sub_one_eq_mod]
  have p1 := pc8_le (s.toNat / 256)
  have p2 := pc8_le (s.toNat % 256)
  show S _ w0 [(0, bsv s)] Γ _
  refine S.seq fun K1 hK1 => ?_
  refine S.region rfl ?_
  refine S.op (S.q (q_assign rfl) rfl rfl ?_)
  first | with_reducible refine S.nilK ?_ | refine S.nil ?_
  refine hK1 _ _ ?_
  refine S.seq fun K2 hK2 => ?_
  refine S.draw ([]) [] Tryd.mixed ?_
  refine S.dr_take 0 [] rfl (by kernel_rfl) rfl rfl rfl (q_move rfl) Sub.ent ?_
  refine S.dr_take 1 [] rfl (by kernel_rfl) rfl rfl rfl (q_shrB (s) (8) rfl rfl rfl (rfl) (by omega)) Sub.ent ?_
  refine S.dr_take 2 [] rfl (by kernel_rfl) rfl rfl rfl (q_popAt (s.toNat / 256) Tryd.underlying9 rfl (by kernel_rfl) rfl e1 (by omega)) Sub.ent ?_
  refine S.dr_take 3 [] rfl (by kernel_rfl) rfl rfl rfl (q_move rfl) Sub.ent ?_
  refine S.dr_take 4 [] rfl (by kernel_rfl) rfl rfl rfl (q_andB (s) (255#16) rfl rfl (rfl) (rfl)) Sub.ent ?_
  refine S.dr_take 5 [] rfl (by kernel_rfl) rfl rfl rfl (q_popAt (s.toNat % 256) Tryd.underlying9 rfl (by kernel_rfl) rfl e2 (by omega)) Sub.ent ?_
  refine S.dr_take 6 [] rfl (by kernel_rfl) rfl rfl rfl (q_add rfl rfl (inU8 (by omega) (by omega))) Sub.ent ?_
  refine S.dr_take 7 [] rfl (by kernel_rfl) rfl rfl rfl (q_conv Tryd.it3 (by rw [Tryd.underlying5]; rfl) rfl (inI64 (by omega) (by omega))) Sub.ent ?_
  refine S.dr_take 8 [] rfl (by kernel_rfl) rfl rfl rfl (q_assign rfl) Sub.ent ?_
  first | with_reducible refine S.dr_doneK (by kernel_rfl) ?_ | refine S.dr_done (by kernel_rfl) ?_
  refine hK2 _ _ ?_
  refine S.ret ?_
  with_reducible repeat (first | refine S.then_n ?_ | refine S.then_x ?_ | refine S.then_r ?_ | refine S.inBlock_n ?_ | refine S.inBlock_r ?_ | refine S.inBlock_x rfl ?_ | refine S.noGoto_r ?_ | refine S.noGoto_n ?_ | refine S.noGoto_x ?_)
  exact S.fin (rs := [_]) (vs := [_]) Tryd.results79 (⟨rfl, trivial⟩)  (⟨by simp only [resV]; rw [lst_pc]; simp, rfl⟩) Sub.ent
theorem count_S {md : Bool} (s : Bs) : Spec Tryd.prog 62 [bsv s] [] (fun Γ v Θ => v = .int .i64 ((lst s).length : Nat) ∧ Θ = Γ) md := by
  refine Spec.of_body Tryd.func62 rfl Tryd.ntmps62 rfl ?_
  intro w0 Γ
  show S _ w0 [(0, bsv s)] Γ _
  refine S.seq fun K1 hK1 => ?_
  refine S.region rfl ?_
  refine S.op (S.q (q_assign rfl) rfl rfl ?_)
  first | with_reducible refine S.nilK ?_ | refine S.nil ?_
  refine hK1 _ _ ?_
  refine S.seq fun K2 hK2 => ?_
  refine S.region rfl ?_
  refine S.op (S.q (q_move rfl) rfl rfl ?_)
  refine S.op (S.call Tryd.en79 (vs := [_]) ⟨rfl, trivial⟩ (OnesCount16_S s) rfl ?_)
  rintro v Θ ⟨rfl, rfl⟩
  refine S.op (S.q (q_assign rfl) rfl rfl ?_)
  first | with_reducible refine S.nilK ?_ | refine S.nil ?_
  refine hK2 _ _ ?_
  refine S.ret ?_
  with_reducible repeat (first | refine S.then_n ?_ | refine S.then_x ?_ | refine S.then_r ?_ | refine S.inBlock_n ?_ | refine S.inBlock_r ?_ | refine S.inBlock_x rfl ?_ | refine S.noGoto_r ?_ | refine S.noGoto_n ?_ | refine S.noGoto_x ?_)
  exact S.fin (rs := [_]) (vs := [_]) Tryd.results62 (⟨rfl, trivial⟩)  (⟨rfl, rfl⟩) Sub.ent
theorem has_bit (s : Bs) (m : Nat) : decide (((s >>> m &&& 1#16).toNat : Int) = 1) = s.getLsbD m := by
  have e : ((s >>> m &&& 1#16).toNat) = if s.getLsbD m then 1 else 0 := by
    rw [BitVec.toNat_and, BitVec.toNat_ushiftRight, show (1#16 : Bs).toNat = 1 from rfl, Nat.and_one_is_mod, BitVec.getLsbD, Nat.testBit, Nat.one_and_eq_mod_two, Nat.shiftRight_eq_div_pow]
    rcases Nat.mod_two_eq_zero_or_one (s.toNat / 2 ^ m) with h | h <;> simp [h]
  rw [e]
  cases s.getLsbD m <;> rfl
theorem has_S {md : Bool} (s : Bs) (m : Nat) (z : Int) (hz : z = (m : Int)) (hm : m ≤ 16) : Spec Tryd.prog 50 [bsv s, .int .i64 z] [] (fun Γ v Θ => v = .bool (s.getLsbD m) ∧ Θ = Γ) md := by
  subst hz
  refine Spec.of_body Tryd.func50 rfl Tryd.ntmps50 rfl ?_
  intro w0 Γ
  show S _ w0 [(0, bsv s), (1, .int .i64 m)] Γ _
  refine S.seq fun K1 hK1 => ?_
  refine S.region rfl ?_
  refine S.op (S.q (q_assign rfl) rfl rfl ?_)
  first | with_reducible refine S.nilK ?_ | refine S.nil ?_
  refine hK1 _ _ ?_
  refine S.seq fun K2 hK2 => ?_
  refine S.region rfl ?_
  refine S.op (S.q (q_move rfl) rfl rfl ?_)
  refine S.op (S.q (q_move rfl) rfl rfl ?_)
  refine S.op (S.q (q_shrB (s) (m) rfl rfl rfl (rfl) (hm)) rfl rfl ?_)
  refine S.op (S.q (q_andB (s >>> m) (1#16) rfl rfl (rfl) (rfl)) rfl rfl ?_)
  refine S.op (S.q (q_eq rfl rfl) rfl rfl ?_)
  refine S.op (S.q (q_assign rfl) rfl rfl ?_)
  first | with_reducible refine S.nilK ?_ | refine S.nil ?_
  refine hK2 _ _ ?_
  refine S.ret ?_
  with_reducible repeat (first | refine S.then_n ?_ | refine S.then_x ?_ | refine S.then_r ?_ | refine S.inBlock_n ?_ | refine S.inBlock_r ?_ | refine S.inBlock_x rfl ?_ | refine S.noGoto_r ?_ | refine S.noGoto_n ?_ | refine S.noGoto_x ?_)
  exact S.fin (rs := [_]) (vs := [_]) Tryd.results50 (⟨rfl, trivial⟩)  (⟨by simp only [resV]; rw [has_bit], rfl⟩) Sub.ent
end Go.Proofs.YtbhnbnecaejjiaaDoor
