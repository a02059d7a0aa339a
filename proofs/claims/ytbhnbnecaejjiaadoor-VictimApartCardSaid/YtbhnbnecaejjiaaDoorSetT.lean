/- bits.TrailingZeros16, by the table that the row lists. -/
import Derived.Test.YtbhnbnecaejjiaaDoorSetM
namespace Go.Proofs.YtbhnbnecaejjiaaDoor
open Go.RowKit
set_option maxRecDepth 20000
def dbi (t : Nat) : Nat := (2 ^ t * 125613361) % 4294967296 / 134217728
theorem dbi_ok1 : ((List.range 16).all fun t => Nat.blt (dbi t) 32 && decide (dbTab.getD (dbi t) 0 = (t : Int))) = true := by kernel_rfl
theorem wrapU32 (z : Int) : IntKind.u32.wrap z = z % 4294967296 := by
  have e : (2 : Int) ^ 32 = 4294967296 := by decide
  unfold IntKind.wrap
  show (if (false && decide _) = true then _ else z % ((2 : Int) ^ 32)) = _
  rw [e, Bool.false_and, if_neg (by decide)]
theorem dbi_ok {t : Nat} (h : t < 16) : ∃ i : Nat, i < 32 ∧ dbTab.getD i 0 = (t : Int) ∧ IntKind.u32.wrap ((2 : Int) ^ t * 125613361) / 2 ^ 27 = ((i : Nat) : Int) := by
  have h1 := List.all_eq_true.1 dbi_ok1 t (List.mem_range.2 h)
  rw [Bool.and_eq_true, decide_eq_true_eq] at h1
  refine ⟨dbi t, by have := h1.1; simp [Nat.blt] at this; omega, h1.2, ?_⟩
  have e : (2 : Int) ^ t * 125613361 = ((2 ^ t * 125613361 : Nat) : Int) := by rw [Int.natCast_mul, Int.natCast_pow]; rfl
  rw [wrapU32, e]
  unfold dbi
  generalize 2 ^ t * 125613361 = z
  omega
theorem tz16_S {md : Bool} (s : Bs) {W : World} (hW : TabW W) : Spec Tryd.prog 48 [bsv s] [old W] (fun Γ v Θ => v = .int .i64 (tz s : Nat) ∧ Θ = old W :: Γ) md := by
  refine Spec.of_body Tryd.func48 rfl Tryd.ntmps48 rfl ?_
  intro w0 Γ
  have hb := bs_lt (s &&& -s)
  show S _ w0 [(0, bsv s)] (old W :: Γ) _
  refine S.seq fun K1 hK1 => ?_
  refine S.region rfl ?_
  refine S.op (S.q (q_assign rfl) rfl rfl ?_)
  first | with_reducible refine S.nilK ?_ | refine S.nil ?_
  refine hK1 _ _ ?_
  refine S.seq fun K2 hK2 => ?_
  refine S.seq fun K3 hK3 => ?_
  refine S.region rfl ?_
  refine S.op (S.q (q_move rfl) rfl rfl ?_)
  refine S.op (S.q (q_eq rfl rfl) rfl rfl ?_)
  first | with_reducible refine S.nilK ?_ | refine S.nil ?_
  refine hK3 _ _ ?_
  refine S.condD rfl (fun h1 => ?_) (fun h1 => ?_)
  · have e0 : s = 0#16 := bs_zero.1 h1
    refine S.seq fun K4 hK4 => ?_
    refine S.region rfl ?_
    refine S.op (S.q (q_assign rfl) rfl rfl ?_)
    first | with_reducible refine S.nilK ?_ | refine S.nil ?_
    refine hK4 _ _ ?_
    refine S.ret ?_
    with_reducible repeat (first | refine S.then_n ?_ | refine S.then_x ?_ | refine S.then_r ?_ | refine S.inBlock_n ?_ | refine S.inBlock_r ?_ | refine S.inBlock_x rfl ?_ | refine S.noGoto_r ?_ | refine S.noGoto_n ?_ | refine S.noGoto_x ?_)
    exact S.fin (rs := [_]) (vs := [_]) Tryd.results48 (⟨rfl, trivial⟩)  (⟨by simp only [resV]; rw [e0, tz_zero]; rfl, rfl⟩) Sub.ent
  · have h0 : s ≠ 0#16 := fun e => h1 (bs_zero.2 e)
    have ht : tz s < 16 := lst_lt (tz_mem h0)
    obtain ⟨i, k1, k2, k3⟩ := dbi_ok ht
    have hp : ((s &&& -s).toNat : Int) = 2 ^ tz s := by
      rw [low_bit s h0, BitVec.toNat_twoPow, Nat.mod_eq_of_lt (Nat.pow_lt_pow_right (by omega) ht)]
      norm_cast
    have k4 := hW i k1
    rw [k2] at k4
    refine S.skip ?_
    with_reducible repeat (first | refine S.then_n ?_ | refine S.then_x ?_ | refine S.then_r ?_ | refine S.inBlock_n ?_ | refine S.inBlock_r ?_ | refine S.inBlock_x rfl ?_ | refine S.noGoto_r ?_ | refine S.noGoto_n ?_ | refine S.noGoto_x ?_)
    refine hK2 _ _ ?_
    refine S.seq fun K5 hK5 => ?_
    refine S.region rfl ?_
    refine S.op (S.q (q_move rfl) rfl rfl ?_)
    refine S.op (S.q (q_move rfl) rfl rfl ?_)
    refine S.op (S.q (q_negB (s) rfl rfl) rfl rfl ?_)
    refine S.op (S.q (q_andB (s) (-s) rfl rfl (rfl) (rfl)) rfl rfl ?_)
    refine S.op (S.q (q_conv Tryd.it36 (by rw [Tryd.underlying28]; rfl) rfl (inU32 (by omega) (by omega))) rfl rfl ?_)
    refine S.op (S.q (q_mulW rfl rfl) rfl rfl ?_)
    refine S.op (S.q (q_shrTo 27 ((i : Nat) : Int) rfl rfl rfl (by decide) (by rw [hp]; exact k3)) rfl rfl ?_)
    refine S.op (S.q (q_indexA Tryd.ar139 rfl rfl (⟨by omega, by omega⟩)) rfl rfl ?_)
    refine S.op (S.q (q_loadW Tryd.at5 rfl (show W.cell? ⟨0, 0 + i * 1, none⟩ = _ by rw [Nat.zero_add, Nat.mul_one]; exact k4)) rfl rfl ?_)
    refine S.op (S.q (q_conv Tryd.it3 (by rw [Tryd.underlying5]; rfl) rfl (inI64 (by omega) (by omega))) rfl rfl ?_)
    refine S.op (S.q (q_assign rfl) rfl rfl ?_)
    first | with_reducible refine S.nilK ?_ | refine S.nil ?_
    refine hK5 _ _ ?_
    refine S.ret ?_
    with_reducible repeat (first | refine S.then_n ?_ | refine S.then_x ?_ | refine S.then_r ?_ | refine S.inBlock_n ?_ | refine S.inBlock_r ?_ | refine S.inBlock_x rfl ?_ | refine S.noGoto_r ?_ | refine S.noGoto_n ?_ | refine S.noGoto_x ?_)
    exact S.fin (rs := [_]) (vs := [_]) Tryd.results48 (⟨rfl, trivial⟩)  (⟨rfl, rfl⟩) Sub.ent
end Go.Proofs.YtbhnbnecaejjiaaDoor
