/- Talk: answered, Open, Heard, Mine. -/
import Derived.Test.YtdlddggjjibeaaaTalkS
import Derived.Test.YtdlddggjjibeaaaOw
namespace Go.Proofs.Ytdlddggjjibeaaa
open Go.RowKit
/-- Something that was said. -/
structure Slt where
  seq : Int
  data : List Int
  wait : Int
  v : SV
abbrev sltC (x : Slt) : List Value := [.int .u32 x.seq, x.v.v, .int .i64 x.wait]
theorem sltC_len : ∀ x, (sltC x).length = 3 := fun _ => rfl
/-- Its bytes. -/
def sltB (x : Slt) : Assn := obytes x.v x.data
theorem obytes_len {u : SV} {l : List Int} {h : HL} (p : obytes u l h) : u.n = l.length := by have := p.1; simp [bcells] at this; exact this.symm
theorem obytes_at {u : SV} {l : List Int} {Γ : List Assn} {w : World} (h : Sat w (obytes u l :: Γ)) : BytesAt w u.v l := by
  obtain ⟨x, lx, p⟩ := h.head
  have := (own.toOwn (own.mono p lx)).sl
  unfold BytesAt
  rw [← obytes_len p]
  exact this
theorem Open_S (t : Nat) (nd ep lf said hd : Int) (ov : SV) : Spec Try.prog 17 [.pointer (some ⟨t, 0, none⟩)] [blk t 72 (tk nd ep lf said hd ov).toArray] fun Γ v Θ => v = .int .i64 ov.n ∧ Θ = blk t 72 (tk nd ep lf said hd ov).toArray :: Γ := by
  refine Spec.of_body Try.func17 rfl Try.ntmps17 rfl ?_
  intro w0 Γ
  show S _ w0 [(0, .pointer (some ⟨t, 0, none⟩))] (blk t 72 (tk nd ep lf said hd ov).toArray :: Γ) _
  refine S.seq fun K1 hK1 => ?_
  refine S.region rfl ?_
  refine S.op (S.q (q_assign rfl) rfl rfl ?_)
  first | with_reducible refine S.nilK ?_ | refine S.nil ?_
  refine hK1 _ _ ?_
  refine S.seq fun K2 hK2 => ?_
  refine S.seq fun K3 hK3 => ?_
  refine S.region rfl ?_
  refine S.op (S.q (q_move rfl) rfl rfl ?_)
  refine S.op (S.q (q_eqN Try.underlying24 rfl rfl) rfl rfl ?_)
  first | with_reducible refine S.nilK ?_ | refine S.nil ?_
  refine hK3 _ _ ?_
  refine S.condF rfl ?_
  refine S.skip ?_
  with_reducible repeat (first | refine S.then_n ?_ | refine S.then_x ?_ | refine S.then_r ?_ | refine S.inBlock_n ?_ | refine S.inBlock_r ?_ | refine S.inBlock_x rfl ?_ | refine S.noGoto_r ?_ | refine S.noGoto_n ?_ | refine S.noGoto_x ?_)
  refine hK2 _ _ ?_
  refine S.seq fun K4 hK4 => ?_
  refine S.region rfl ?_
  refine S.op (S.q (q_move rfl) rfl rfl ?_)
  refine S.op (S.q (q_nilCheck rfl) rfl rfl ?_)
  refine S.op (S.q (q_field Try.fo72_2 rfl) rfl rfl ?_)
  refine S.op (S.q (q_load Try.at70 rfl rfl) rfl rfl ?_)
  refine S.op (S.q (q_len Try.underlying70 rfl) rfl rfl ?_)
  refine S.op (S.q (q_assign rfl) rfl rfl ?_)
  first | with_reducible refine S.nilK ?_ | refine S.nil ?_
  refine hK4 _ _ ?_
  refine S.ret ?_
  with_reducible repeat (first | refine S.then_n ?_ | refine S.then_x ?_ | refine S.then_r ?_ | refine S.inBlock_n ?_ | refine S.inBlock_r ?_ | refine S.inBlock_x rfl ?_ | refine S.noGoto_r ?_ | refine S.noGoto_n ?_ | refine S.noGoto_x ?_)
  exact S.fin (rs := [_]) (vs := [_]) Try.results17 (⟨rfl, trivial⟩)  (⟨rfl, rfl⟩) Sub.ent
theorem OpenNil_S : Spec Try.prog 17 [.pointer none] [] fun Γ v Θ => v = .int .i64 0 ∧ Θ = Γ := by
  refine Spec.of_body Try.func17 rfl Try.ntmps17 rfl ?_
  intro w0 Γ
  show S _ w0 [(0, .pointer none)] Γ _
  refine S.seq fun K1 hK1 => ?_
  refine S.region rfl ?_
  refine S.op (S.q (q_assign rfl) rfl rfl ?_)
  first | with_reducible refine S.nilK ?_ | refine S.nil ?_
  refine hK1 _ _ ?_
  refine S.seq fun K2 hK2 => ?_
  refine S.seq fun K3 hK3 => ?_
  refine S.region rfl ?_
  refine S.op (S.q (q_move rfl) rfl rfl ?_)
  refine S.op (S.q (q_eqN Try.underlying24 rfl rfl) rfl rfl ?_)
  first | with_reducible refine S.nilK ?_ | refine S.nil ?_
  refine hK3 _ _ ?_
  refine S.condT rfl ?_
  refine S.seq fun K4 hK4 => ?_
  refine S.region rfl ?_
  refine S.op (S.q (q_assign rfl) rfl rfl ?_)
  first | with_reducible refine S.nilK ?_ | refine S.nil ?_
  refine hK4 _ _ ?_
  refine S.ret ?_
  with_reducible repeat (first | refine S.then_n ?_ | refine S.then_x ?_ | refine S.then_r ?_ | refine S.inBlock_n ?_ | refine S.inBlock_r ?_ | refine S.inBlock_x rfl ?_ | refine S.noGoto_r ?_ | refine S.noGoto_n ?_ | refine S.noGoto_x ?_)
  exact S.fin (rs := [_]) (vs := [_]) Try.results17 (⟨rfl, trivial⟩)  (⟨rfl, rfl⟩) Sub.ent
theorem Heard_S (t : Nat) (nd ep lf said hd : Int) (ov : SV) : Spec Try.prog 26 [.pointer (some ⟨t, 0, none⟩)] [blk t 72 (tk nd ep lf said hd ov).toArray] fun Γ v Θ => v = .int .u32 hd ∧ Θ = blk t 72 (tk nd ep lf said hd ov).toArray :: Γ := by
  refine Spec.of_body Try.func26 rfl Try.ntmps26 rfl ?_
  intro w0 Γ
  show S _ w0 [(0, .pointer (some ⟨t, 0, none⟩))] (blk t 72 (tk nd ep lf said hd ov).toArray :: Γ) _
  refine S.seq fun K1 hK1 => ?_
  refine S.region rfl ?_
  refine S.op (S.q (q_assign rfl) rfl rfl ?_)
  first | with_reducible refine S.nilK ?_ | refine S.nil ?_
  refine hK1 _ _ ?_
  refine S.seq fun K2 hK2 => ?_
  refine S.seq fun K3 hK3 => ?_
  refine S.region rfl ?_
  refine S.op (S.q (q_move rfl) rfl rfl ?_)
  refine S.op (S.q (q_eqN Try.underlying24 rfl rfl) rfl rfl ?_)
  first | with_reducible refine S.nilK ?_ | refine S.nil ?_
  refine hK3 _ _ ?_
  refine S.condF rfl ?_
  refine S.skip ?_
  with_reducible repeat (first | refine S.then_n ?_ | refine S.then_x ?_ | refine S.then_r ?_ | refine S.inBlock_n ?_ | refine S.inBlock_r ?_ | refine S.inBlock_x rfl ?_ | refine S.noGoto_r ?_ | refine S.noGoto_n ?_ | refine S.noGoto_x ?_)
  refine hK2 _ _ ?_
  refine S.seq fun K4 hK4 => ?_
  refine S.region rfl ?_
  refine S.op (S.q (q_move rfl) rfl rfl ?_)
  refine S.op (S.q (q_nilCheck rfl) rfl rfl ?_)
  refine S.op (S.q (q_field Try.fo72_3 rfl) rfl rfl ?_)
  refine S.op (S.q (q_load Try.at26 rfl rfl) rfl rfl ?_)
  refine S.op (S.q (q_assign rfl) rfl rfl ?_)
  first | with_reducible refine S.nilK ?_ | refine S.nil ?_
  refine hK4 _ _ ?_
  refine S.ret ?_
  with_reducible repeat (first | refine S.then_n ?_ | refine S.then_x ?_ | refine S.then_r ?_ | refine S.inBlock_n ?_ | refine S.inBlock_r ?_ | refine S.inBlock_x rfl ?_ | refine S.noGoto_r ?_ | refine S.noGoto_n ?_ | refine S.noGoto_x ?_)
  exact S.fin (rs := [_]) (vs := [_]) Try.results26 (⟨rfl, trivial⟩)  (⟨rfl, rfl⟩) Sub.ent
theorem HeardNil_S : Spec Try.prog 26 [.pointer none] [] fun Γ v Θ => v = .int .u32 0 ∧ Θ = Γ := by
  refine Spec.of_body Try.func26 rfl Try.ntmps26 rfl ?_
  intro w0 Γ
  show S _ w0 [(0, .pointer none)] Γ _
  refine S.seq fun K1 hK1 => ?_
  refine S.region rfl ?_
  refine S.op (S.q (q_assign rfl) rfl rfl ?_)
  first | with_reducible refine S.nilK ?_ | refine S.nil ?_
  refine hK1 _ _ ?_
  refine S.seq fun K2 hK2 => ?_
  refine S.seq fun K3 hK3 => ?_
  refine S.region rfl ?_
  refine S.op (S.q (q_move rfl) rfl rfl ?_)
  refine S.op (S.q (q_eqN Try.underlying24 rfl rfl) rfl rfl ?_)
  first | with_reducible refine S.nilK ?_ | refine S.nil ?_
  refine hK3 _ _ ?_
  refine S.condT rfl ?_
  refine S.seq fun K4 hK4 => ?_
  refine S.region rfl ?_
  refine S.op (S.q (q_assign rfl) rfl rfl ?_)
  first | with_reducible refine S.nilK ?_ | refine S.nil ?_
  refine hK4 _ _ ?_
  refine S.ret ?_
  with_reducible repeat (first | refine S.then_n ?_ | refine S.then_x ?_ | refine S.then_r ?_ | refine S.inBlock_n ?_ | refine S.inBlock_r ?_ | refine S.inBlock_x rfl ?_ | refine S.noGoto_r ?_ | refine S.noGoto_n ?_ | refine S.noGoto_x ?_)
  exact S.fin (rs := [_]) (vs := [_]) Try.results26 (⟨rfl, trivial⟩)  (⟨rfl, rfl⟩) Sub.ent
/-- Whether a packet is of a talk. -/
def mineB (nd ep lf said n e l a : Int) (pl : Bool) : Bool := decide (n = nd) && (decide (e = ep) && (decide (l = lf) && (!pl && decide (a ≤ said))))
theorem Mine_S (t : Nat) (nd ep lf said hd : Int) (ov : SV) (n e l s a : Int) (pl : Bool) (dv : Value) : Spec Try.prog 23 [.pointer (some ⟨t, 0, none⟩), .agg #[.int .u8 n, .int .u32 e, .int .u32 l, .int .u32 s, .int .u32 a, .bool pl, dv]]
    [blk t 72 (tk nd ep lf said hd ov).toArray] fun Γ v Θ => v = .bool (mineB nd ep lf said n e l a pl) ∧ Θ = blk t 72 (tk nd ep lf said hd ov).toArray :: Γ := by
  refine Spec.of_body Try.func23 rfl Try.ntmps23 rfl ?_
  intro w0 Γ
  show S _ w0 [(0, .pointer (some ⟨t, 0, none⟩)), (1, .agg #[.int .u8 n, .int .u32 e, .int .u32 l, .int .u32 s, .int .u32 a, .bool pl, dv])] (blk t 72 (tk nd ep lf said hd ov).toArray :: Γ) _
  refine S.seq fun K1 hK1 => ?_
  refine S.region rfl ?_
  refine S.op (S.box (cs := [_, _, _, _, _, _, _]) rfl rfl rfl ?_)
  intro b3
  refine S.op (S.q (q_assign rfl) rfl rfl ?_)
  first | with_reducible refine S.nilK ?_ | refine S.nil ?_
  refine hK1 _ _ ?_
  refine S.seq fun K2 hK2 => ?_
  refine S.draw ([blk t 72 (tk nd ep lf said hd ov).toArray, blk b3 34 #[.int .u8 n, .int .u32 e, .int .u32 l, .int .u32 s, .int .u32 a, .bool pl, dv]]) [] Try.mixed ?_
  refine S.dr_take 0 [] rfl (by kernel_rfl) rfl rfl rfl (q_move rfl) Sub.ent ?_
  refine S.dr_take 1 [] rfl (by kernel_rfl) rfl rfl rfl (q_neN Try.underlying24 rfl rfl) Sub.ent ?_
  refine S.dr_take 2 [] rfl (by kernel_rfl) rfl rfl rfl (q_move rfl) Sub.ent ?_
  refine S.dr_takeY 3 [] rfl (by kernel_rfl) rfl rfl rfl (rfl) rfl rfl (q_field Try.fo34_0 rfl) Sub.ent ?_
  refine S.dr_takeY 4 [] rfl (by kernel_rfl) rfl rfl rfl (rfl) rfl rfl (q_load Try.at5 rfl rfl) Sub.ent ?_
  refine S.dr_takeY 5 [] rfl (by kernel_rfl) rfl rfl rfl (rfl) rfl rfl (q_move rfl) Sub.ent ?_
  refine S.dr_takeY 6 [] rfl (by kernel_rfl) rfl rfl rfl (rfl) rfl rfl (q_nilCheck rfl) Sub.ent ?_
  refine S.dr_takeY 7 [] rfl (by kernel_rfl) rfl rfl rfl (rfl) rfl rfl (q_field Try.fo72_0 rfl) Sub.ent ?_
  refine S.dr_takeY 8 [] rfl (by kernel_rfl) rfl rfl rfl (rfl) rfl rfl (q_field Try.fo34_0 rfl) Sub.ent ?_
  refine S.dr_takeY 9 [] rfl (by kernel_rfl) rfl rfl rfl (rfl) rfl rfl (q_load Try.at5 rfl rfl) Sub.ent ?_
  refine S.dr_takeY 10 [] rfl (by kernel_rfl) rfl rfl rfl (rfl) rfl rfl (q_eq rfl rfl) Sub.ent ?_
  refine S.dr_take 11 [] rfl (by kernel_rfl) rfl rfl rfl (q_pickT rfl (rfl) rfl) Sub.ent ?_
  refine S.dr_take 12 [] rfl (by kernel_rfl) rfl rfl rfl (q_move rfl) Sub.ent ?_
  by_cases hg1_12 : n = nd
  · refine S.dr_takeY 13 [] rfl (by kernel_rfl) rfl rfl rfl (decide_eq_true hg1_12) rfl rfl (q_field Try.fo34_1 rfl) Sub.ent ?_
    refine S.dr_takeY 14 [] rfl (by kernel_rfl) rfl rfl rfl (decide_eq_true hg1_12) rfl rfl (q_load Try.at26 rfl rfl) Sub.ent ?_
    refine S.dr_takeY 15 [] rfl (by kernel_rfl) rfl rfl rfl (decide_eq_true hg1_12) rfl rfl (q_move rfl) Sub.ent ?_
    refine S.dr_takeY 16 [] rfl (by kernel_rfl) rfl rfl rfl (decide_eq_true hg1_12) rfl rfl (q_nilCheck rfl) Sub.ent ?_
    refine S.dr_takeY 17 [] rfl (by kernel_rfl) rfl rfl rfl (decide_eq_true hg1_12) rfl rfl (q_field Try.fo72_0 rfl) Sub.ent ?_
    refine S.dr_takeY 18 [] rfl (by kernel_rfl) rfl rfl rfl (decide_eq_true hg1_12) rfl rfl (q_field Try.fo34_1 rfl) Sub.ent ?_
    refine S.dr_takeY 19 [] rfl (by kernel_rfl) rfl rfl rfl (decide_eq_true hg1_12) rfl rfl (q_load Try.at26 rfl rfl) Sub.ent ?_
    refine S.dr_takeY 20 [] rfl (by kernel_rfl) rfl rfl rfl (decide_eq_true hg1_12) rfl rfl (q_eq rfl rfl) Sub.ent ?_
    refine S.dr_take 21 [] rfl (by kernel_rfl) rfl rfl rfl (q_pickT rfl (decide_eq_true hg1_12) rfl) Sub.ent ?_
    refine S.dr_take 22 [] rfl (by kernel_rfl) rfl rfl rfl (q_move rfl) Sub.ent ?_
    by_cases hg1_22 : e = ep
    · refine S.dr_takeY 23 [] rfl (by kernel_rfl) rfl rfl rfl (decide_eq_true hg1_22) rfl rfl (q_field Try.fo34_2 rfl) Sub.ent ?_
      refine S.dr_takeY 24 [] rfl (by kernel_rfl) rfl rfl rfl (decide_eq_true hg1_22) rfl rfl (q_load Try.at26 rfl rfl) Sub.ent ?_
      refine S.dr_takeY 25 [] rfl (by kernel_rfl) rfl rfl rfl (decide_eq_true hg1_22) rfl rfl (q_move rfl) Sub.ent ?_
      refine S.dr_takeY 26 [] rfl (by kernel_rfl) rfl rfl rfl (decide_eq_true hg1_22) rfl rfl (q_nilCheck rfl) Sub.ent ?_
      refine S.dr_takeY 27 [] rfl (by kernel_rfl) rfl rfl rfl (decide_eq_true hg1_22) rfl rfl (q_field Try.fo72_0 rfl) Sub.ent ?_
      refine S.dr_takeY 28 [] rfl (by kernel_rfl) rfl rfl rfl (decide_eq_true hg1_22) rfl rfl (q_field Try.fo34_2 rfl) Sub.ent ?_
      refine S.dr_takeY 29 [] rfl (by kernel_rfl) rfl rfl rfl (decide_eq_true hg1_22) rfl rfl (q_load Try.at26 rfl rfl) Sub.ent ?_
      refine S.dr_takeY 30 [] rfl (by kernel_rfl) rfl rfl rfl (decide_eq_true hg1_22) rfl rfl (q_eq rfl rfl) Sub.ent ?_
      refine S.dr_take 31 [] rfl (by kernel_rfl) rfl rfl rfl (q_pickT rfl (decide_eq_true hg1_22) rfl) Sub.ent ?_
      refine S.dr_take 32 [] rfl (by kernel_rfl) rfl rfl rfl (q_move rfl) Sub.ent ?_
      by_cases hg1_32 : l = lf
      · refine S.dr_takeY 33 [] rfl (by kernel_rfl) rfl rfl rfl (decide_eq_true hg1_32) rfl rfl (q_field Try.fo34_5 rfl) Sub.ent ?_
        refine S.dr_takeY 34 [] rfl (by kernel_rfl) rfl rfl rfl (decide_eq_true hg1_32) rfl rfl (q_load Try.at4 rfl rfl) Sub.ent ?_
        refine S.dr_takeY 35 [] rfl (by kernel_rfl) rfl rfl rfl (decide_eq_true hg1_32) rfl rfl (q_not rfl) Sub.ent ?_
        refine S.dr_take 36 [] rfl (by kernel_rfl) rfl rfl rfl (q_pickT rfl (decide_eq_true hg1_32) rfl) Sub.ent ?_
        refine S.dr_take 37 [] rfl (by kernel_rfl) rfl rfl rfl (q_move rfl) Sub.ent ?_
        rcases Bool.eq_false_or_eq_true ((!pl)) with hg1_37 | hg1_37
        · refine S.dr_takeY 38 [] rfl (by kernel_rfl) rfl rfl rfl (hg1_37) rfl rfl (q_field Try.fo34_4 rfl) Sub.ent ?_
          refine S.dr_takeY 39 [] rfl (by kernel_rfl) rfl rfl rfl (hg1_37) rfl rfl (q_load Try.at26 rfl rfl) Sub.ent ?_
          refine S.dr_takeY 40 [] rfl (by kernel_rfl) rfl rfl rfl (hg1_37) rfl rfl (q_move rfl) Sub.ent ?_
          refine S.dr_takeY 41 [] rfl (by kernel_rfl) rfl rfl rfl (hg1_37) rfl rfl (q_nilCheck rfl) Sub.ent ?_
          refine S.dr_takeY 42 [] rfl (by kernel_rfl) rfl rfl rfl (hg1_37) rfl rfl (q_field Try.fo72_1 rfl) Sub.ent ?_
          refine S.dr_takeY 43 [] rfl (by kernel_rfl) rfl rfl rfl (hg1_37) rfl rfl (q_load Try.at26 rfl rfl) Sub.ent ?_
          refine S.dr_takeY 44 [] rfl (by kernel_rfl) rfl rfl rfl (hg1_37) rfl rfl (q_le rfl rfl) Sub.ent ?_
          refine S.dr_take 45 [] rfl (by kernel_rfl) rfl rfl rfl (q_pickT rfl (hg1_37) rfl) Sub.ent ?_
          refine S.dr_take 46 [] rfl (by kernel_rfl) rfl rfl rfl (q_assign rfl) Sub.ent ?_
          first | with_reducible refine S.dr_doneK (by kernel_rfl) ?_ | refine S.dr_done (by kernel_rfl) ?_
          refine hK2 _ _ ?_
          refine S.ret ?_
          with_reducible repeat (first | refine S.then_n ?_ | refine S.then_x ?_ | refine S.then_r ?_ | refine S.inBlock_n ?_ | refine S.inBlock_r ?_ | refine S.inBlock_x rfl ?_ | refine S.noGoto_r ?_ | refine S.noGoto_n ?_ | refine S.noGoto_x ?_)
          exact S.fin (rs := [_]) (vs := [_]) Try.results23 (⟨rfl, trivial⟩)  (⟨by simp [resV, mineB, *], rfl⟩) Sub.ent
        · refine S.dr_takeN 38 [] rfl (by kernel_rfl) rfl rfl rfl (hg1_37) rfl rfl Sub.ent ?_
          refine S.dr_takeN 39 [] rfl (by kernel_rfl) rfl rfl rfl (hg1_37) rfl rfl Sub.ent ?_
          refine S.dr_takeN 40 [] rfl (by kernel_rfl) rfl rfl rfl (hg1_37) rfl rfl Sub.ent ?_
          refine S.dr_takeN 41 [] rfl (by kernel_rfl) rfl rfl rfl (hg1_37) rfl rfl Sub.ent ?_
          refine S.dr_takeN 42 [] rfl (by kernel_rfl) rfl rfl rfl (hg1_37) rfl rfl Sub.ent ?_
          refine S.dr_takeN 43 [] rfl (by kernel_rfl) rfl rfl rfl (hg1_37) rfl rfl Sub.ent ?_
          refine S.dr_takeN 44 [] rfl (by kernel_rfl) rfl rfl rfl (hg1_37) rfl rfl Sub.ent ?_
          refine S.dr_take 45 [] rfl (by kernel_rfl) rfl rfl rfl (q_pickF rfl (hg1_37) rfl) Sub.ent ?_
          refine S.dr_take 46 [] rfl (by kernel_rfl) rfl rfl rfl (q_assign rfl) Sub.ent ?_
          first | with_reducible refine S.dr_doneK (by kernel_rfl) ?_ | refine S.dr_done (by kernel_rfl) ?_
          refine hK2 _ _ ?_
          refine S.ret ?_
          with_reducible repeat (first | refine S.then_n ?_ | refine S.then_x ?_ | refine S.then_r ?_ | refine S.inBlock_n ?_ | refine S.inBlock_r ?_ | refine S.inBlock_x rfl ?_ | refine S.noGoto_r ?_ | refine S.noGoto_n ?_ | refine S.noGoto_x ?_)
          exact S.fin (rs := [_]) (vs := [_]) Try.results23 (⟨rfl, trivial⟩)  (⟨by simp [resV, mineB, *], rfl⟩) Sub.ent
      · refine S.dr_takeN 33 [] rfl (by kernel_rfl) rfl rfl rfl (decide_eq_false hg1_32) rfl rfl Sub.ent ?_
        refine S.dr_takeN 34 [] rfl (by kernel_rfl) rfl rfl rfl (decide_eq_false hg1_32) rfl rfl Sub.ent ?_
        refine S.dr_takeN 35 [] rfl (by kernel_rfl) rfl rfl rfl (decide_eq_false hg1_32) rfl rfl Sub.ent ?_
        refine S.dr_take 36 [] rfl (by kernel_rfl) rfl rfl rfl (q_pickF rfl (decide_eq_false hg1_32) rfl) Sub.ent ?_
        refine S.dr_take 37 [] rfl (by kernel_rfl) rfl rfl rfl (q_move rfl) Sub.ent ?_
        refine S.dr_takeN 38 [] rfl (by kernel_rfl) rfl rfl rfl (rfl) rfl rfl Sub.ent ?_
        refine S.dr_takeN 39 [] rfl (by kernel_rfl) rfl rfl rfl (rfl) rfl rfl Sub.ent ?_
        refine S.dr_takeN 40 [] rfl (by kernel_rfl) rfl rfl rfl (rfl) rfl rfl Sub.ent ?_
        refine S.dr_takeN 41 [] rfl (by kernel_rfl) rfl rfl rfl (rfl) rfl rfl Sub.ent ?_
        refine S.dr_takeN 42 [] rfl (by kernel_rfl) rfl rfl rfl (rfl) rfl rfl Sub.ent ?_
        refine S.dr_takeN 43 [] rfl (by kernel_rfl) rfl rfl rfl (rfl) rfl rfl Sub.ent ?_
        refine S.dr_takeN 44 [] rfl (by kernel_rfl) rfl rfl rfl (rfl) rfl rfl Sub.ent ?_
        refine S.dr_take 45 [] rfl (by kernel_rfl) rfl rfl rfl (q_pickF rfl (rfl) rfl) Sub.ent ?_
        refine S.dr_take 46 [] rfl (by kernel_rfl) rfl rfl rfl (q_assign rfl) Sub.ent ?_
        first | with_reducible refine S.dr_doneK (by kernel_rfl) ?_ | refine S.dr_done (by kernel_rfl) ?_
        refine hK2 _ _ ?_
        refine S.ret ?_
        with_reducible repeat (first | refine S.then_n ?_ | refine S.then_x ?_ | refine S.then_r ?_ | refine S.inBlock_n ?_ | refine S.inBlock_r ?_ | refine S.inBlock_x rfl ?_ | refine S.noGoto_r ?_ | refine S.noGoto_n ?_ | refine S.noGoto_x ?_)
        exact S.fin (rs := [_]) (vs := [_]) Try.results23 (⟨rfl, trivial⟩)  (⟨by simp [resV, mineB, *], rfl⟩) Sub.ent
    · refine S.dr_takeN 23 [] rfl (by kernel_rfl) rfl rfl rfl (decide_eq_false hg1_22) rfl rfl Sub.ent ?_
      refine S.dr_takeN 24 [] rfl (by kernel_rfl) rfl rfl rfl (decide_eq_false hg1_22) rfl rfl Sub.ent ?_
      refine S.dr_takeN 25 [] rfl (by kernel_rfl) rfl rfl rfl (decide_eq_false hg1_22) rfl rfl Sub.ent ?_
      refine S.dr_takeN 26 [] rfl (by kernel_rfl) rfl rfl rfl (decide_eq_false hg1_22) rfl rfl Sub.ent ?_
      refine S.dr_takeN 27 [] rfl (by kernel_rfl) rfl rfl rfl (decide_eq_false hg1_22) rfl rfl Sub.ent ?_
      refine S.dr_takeN 28 [] rfl (by kernel_rfl) rfl rfl rfl (decide_eq_false hg1_22) rfl rfl Sub.ent ?_
      refine S.dr_takeN 29 [] rfl (by kernel_rfl) rfl rfl rfl (decide_eq_false hg1_22) rfl rfl Sub.ent ?_
      refine S.dr_takeN 30 [] rfl (by kernel_rfl) rfl rfl rfl (decide_eq_false hg1_22) rfl rfl Sub.ent ?_
      refine S.dr_take 31 [] rfl (by kernel_rfl) rfl rfl rfl (q_pickF rfl (decide_eq_false hg1_22) rfl) Sub.ent ?_
      refine S.dr_take 32 [] rfl (by kernel_rfl) rfl rfl rfl (q_move rfl) Sub.ent ?_
      refine S.dr_takeN 33 [] rfl (by kernel_rfl) rfl rfl rfl (rfl) rfl rfl Sub.ent ?_
      refine S.dr_takeN 34 [] rfl (by kernel_rfl) rfl rfl rfl (rfl) rfl rfl Sub.ent ?_
      refine S.dr_takeN 35 [] rfl (by kernel_rfl) rfl rfl rfl (rfl) rfl rfl Sub.ent ?_
      refine S.dr_take 36 [] rfl (by kernel_rfl) rfl rfl rfl (q_pickF rfl (rfl) rfl) Sub.ent ?_
      refine S.dr_take 37 [] rfl (by kernel_rfl) rfl rfl rfl (q_move rfl) Sub.ent ?_
      refine S.dr_takeN 38 [] rfl (by kernel_rfl) rfl rfl rfl (rfl) rfl rfl Sub.ent ?_
      refine S.dr_takeN 39 [] rfl (by kernel_rfl) rfl rfl rfl (rfl) rfl rfl Sub.ent ?_
      refine S.dr_takeN 40 [] rfl (by kernel_rfl) rfl rfl rfl (rfl) rfl rfl Sub.ent ?_
      refine S.dr_takeN 41 [] rfl (by kernel_rfl) rfl rfl rfl (rfl) rfl rfl Sub.ent ?_
      refine S.dr_takeN 42 [] rfl (by kernel_rfl) rfl rfl rfl (rfl) rfl rfl Sub.ent ?_
      refine S.dr_takeN 43 [] rfl (by kernel_rfl) rfl rfl rfl (rfl) rfl rfl Sub.ent ?_
      refine S.dr_takeN 44 [] rfl (by kernel_rfl) rfl rfl rfl (rfl) rfl rfl Sub.ent ?_
      refine S.dr_take 45 [] rfl (by kernel_rfl) rfl rfl rfl (q_pickF rfl (rfl) rfl) Sub.ent ?_
      refine S.dr_take 46 [] rfl (by kernel_rfl) rfl rfl rfl (q_assign rfl) Sub.ent ?_
      first | with_reducible refine S.dr_doneK (by kernel_rfl) ?_ | refine S.dr_done (by kernel_rfl) ?_
      refine hK2 _ _ ?_
      refine S.ret ?_
      with_reducible repeat (first | refine S.then_n ?_ | refine S.then_x ?_ | refine S.then_r ?_ | refine S.inBlock_n ?_ | refine S.inBlock_r ?_ | refine S.inBlock_x rfl ?_ | refine S.noGoto_r ?_ | refine S.noGoto_n ?_ | refine S.noGoto_x ?_)
      exact S.fin (rs := [_]) (vs := [_]) Try.results23 (⟨rfl, trivial⟩)  (⟨by simp [resV, mineB, *], rfl⟩) Sub.ent
  · refine S.dr_takeN 13 [] rfl (by kernel_rfl) rfl rfl rfl (decide_eq_false hg1_12) rfl rfl Sub.ent ?_
    refine S.dr_takeN 14 [] rfl (by kernel_rfl) rfl rfl rfl (decide_eq_false hg1_12) rfl rfl Sub.ent ?_
    refine S.dr_takeN 15 [] rfl (by kernel_rfl) rfl rfl rfl (decide_eq_false hg1_12) rfl rfl Sub.ent ?_
    refine S.dr_takeN 16 [] rfl (by kernel_rfl) rfl rfl rfl (decide_eq_false hg1_12) rfl rfl Sub.ent ?_
    refine S.dr_takeN 17 [] rfl (by kernel_rfl) rfl rfl rfl (decide_eq_false hg1_12) rfl rfl Sub.ent ?_
    refine S.dr_takeN 18 [] rfl (by kernel_rfl) rfl rfl rfl (decide_eq_false hg1_12) rfl rfl Sub.ent ?_
    refine S.dr_takeN 19 [] rfl (by kernel_rfl) rfl rfl rfl (decide_eq_false hg1_12) rfl rfl Sub.ent ?_
    refine S.dr_takeN 20 [] rfl (by kernel_rfl) rfl rfl rfl (decide_eq_false hg1_12) rfl rfl Sub.ent ?_
    refine S.dr_take 21 [] rfl (by kernel_rfl) rfl rfl rfl (q_pickF rfl (decide_eq_false hg1_12) rfl) Sub.ent ?_
    refine S.dr_take 22 [] rfl (by kernel_rfl) rfl rfl rfl (q_move rfl) Sub.ent ?_
    refine S.dr_takeN 23 [] rfl (by kernel_rfl) rfl rfl rfl (rfl) rfl rfl Sub.ent ?_
    refine S.dr_takeN 24 [] rfl (by kernel_rfl) rfl rfl rfl (rfl) rfl rfl Sub.ent ?_
    refine S.dr_takeN 25 [] rfl (by kernel_rfl) rfl rfl rfl (rfl) rfl rfl Sub.ent ?_
    refine S.dr_takeN 26 [] rfl (by kernel_rfl) rfl rfl rfl (rfl) rfl rfl Sub.ent ?_
    refine S.dr_takeN 27 [] rfl (by kernel_rfl) rfl rfl rfl (rfl) rfl rfl Sub.ent ?_
    refine S.dr_takeN 28 [] rfl (by kernel_rfl) rfl rfl rfl (rfl) rfl rfl Sub.ent ?_
    refine S.dr_takeN 29 [] rfl (by kernel_rfl) rfl rfl rfl (rfl) rfl rfl Sub.ent ?_
    refine S.dr_takeN 30 [] rfl (by kernel_rfl) rfl rfl rfl (rfl) rfl rfl Sub.ent ?_
    refine S.dr_take 31 [] rfl (by kernel_rfl) rfl rfl rfl (q_pickF rfl (rfl) rfl) Sub.ent ?_
    refine S.dr_take 32 [] rfl (by kernel_rfl) rfl rfl rfl (q_move rfl) Sub.ent ?_
    refine S.dr_takeN 33 [] rfl (by kernel_rfl) rfl rfl rfl (rfl) rfl rfl Sub.ent ?_
    refine S.dr_takeN 34 [] rfl (by kernel_rfl) rfl rfl rfl (rfl) rfl rfl Sub.ent ?_
    refine S.dr_takeN 35 [] rfl (by kernel_rfl) rfl rfl rfl (rfl) rfl rfl Sub.ent ?_
    refine S.dr_take 36 [] rfl (by kernel_rfl) rfl rfl rfl (q_pickF rfl (rfl) rfl) Sub.ent ?_
    refine S.dr_take 37 [] rfl (by kernel_rfl) rfl rfl rfl (q_move rfl) Sub.ent ?_
    refine S.dr_takeN 38 [] rfl (by kernel_rfl) rfl rfl rfl (rfl) rfl rfl Sub.ent ?_
    refine S.dr_takeN 39 [] rfl (by kernel_rfl) rfl rfl rfl (rfl) rfl rfl Sub.ent ?_
    refine S.dr_takeN 40 [] rfl (by kernel_rfl) rfl rfl rfl (rfl) rfl rfl Sub.ent ?_
    refine S.dr_takeN 41 [] rfl (by kernel_rfl) rfl rfl rfl (rfl) rfl rfl Sub.ent ?_
    refine S.dr_takeN 42 [] rfl (by kernel_rfl) rfl rfl rfl (rfl) rfl rfl Sub.ent ?_
    refine S.dr_takeN 43 [] rfl (by kernel_rfl) rfl rfl rfl (rfl) rfl rfl Sub.ent ?_
    refine S.dr_takeN 44 [] rfl (by kernel_rfl) rfl rfl rfl (rfl) rfl rfl Sub.ent ?_
    refine S.dr_take 45 [] rfl (by kernel_rfl) rfl rfl rfl (q_pickF rfl (rfl) rfl) Sub.ent ?_
    refine S.dr_take 46 [] rfl (by kernel_rfl) rfl rfl rfl (q_assign rfl) Sub.ent ?_
    first | with_reducible refine S.dr_doneK (by kernel_rfl) ?_ | refine S.dr_done (by kernel_rfl) ?_
    refine hK2 _ _ ?_
    refine S.ret ?_
    with_reducible repeat (first | refine S.then_n ?_ | refine S.then_x ?_ | refine S.then_r ?_ | refine S.inBlock_n ?_ | refine S.inBlock_r ?_ | refine S.inBlock_x rfl ?_ | refine S.noGoto_r ?_ | refine S.noGoto_n ?_ | refine S.noGoto_x ?_)
    exact S.fin (rs := [_]) (vs := [_]) Try.results23 (⟨rfl, trivial⟩)  (⟨by simp [resV, mineB, *], rfl⟩) Sub.ent
theorem MineNil_S (n e l s a : Int) (pl : Bool) (dv : Value) : Spec Try.prog 23 [.pointer none, .agg #[.int .u8 n, .int .u32 e, .int .u32 l, .int .u32 s, .int .u32 a, .bool pl, dv]] [] fun Γ v Θ => v = .bool false ∧ Θ = Γ := by
  refine Spec.of_body Try.func23 rfl Try.ntmps23 rfl ?_
  intro w0 Γ
  show S _ w0 [(0, .pointer none), (1, .agg #[.int .u8 n, .int .u32 e, .int .u32 l, .int .u32 s, .int .u32 a, .bool pl, dv])] Γ _
  refine S.seq fun K1 hK1 => ?_
  refine S.region rfl ?_
  refine S.op (S.box (cs := [_, _, _, _, _, _, _]) rfl rfl rfl ?_)
  intro b3
  refine S.op (S.q (q_assign rfl) rfl rfl ?_)
  first | with_reducible refine S.nilK ?_ | refine S.nil ?_
  refine hK1 _ _ ?_
  refine S.seq fun K2 hK2 => ?_
  refine S.draw ([]) [] Try.mixed ?_
  refine S.dr_take 0 [] rfl (by kernel_rfl) rfl rfl rfl (q_move rfl) Sub.ent ?_
  refine S.dr_take 1 [] rfl (by kernel_rfl) rfl rfl rfl (q_neN Try.underlying24 rfl rfl) Sub.ent ?_
  refine S.dr_take 2 [] rfl (by kernel_rfl) rfl rfl rfl (q_move rfl) Sub.ent ?_
  refine S.dr_takeN 3 [] rfl (by kernel_rfl) rfl rfl rfl (rfl) rfl rfl Sub.ent ?_
  refine S.dr_takeN 4 [] rfl (by kernel_rfl) rfl rfl rfl (rfl) rfl rfl Sub.ent ?_
  refine S.dr_takeN 5 [] rfl (by kernel_rfl) rfl rfl rfl (rfl) rfl rfl Sub.ent ?_
  refine S.dr_takeN 6 [] rfl (by kernel_rfl) rfl rfl rfl (rfl) rfl rfl Sub.ent ?_
  refine S.dr_takeN 7 [] rfl (by kernel_rfl) rfl rfl rfl (rfl) rfl rfl Sub.ent ?_
  refine S.dr_takeN 8 [] rfl (by kernel_rfl) rfl rfl rfl (rfl) rfl rfl Sub.ent ?_
  refine S.dr_takeN 9 [] rfl (by kernel_rfl) rfl rfl rfl (rfl) rfl rfl Sub.ent ?_
  refine S.dr_takeN 10 [] rfl (by kernel_rfl) rfl rfl rfl (rfl) rfl rfl Sub.ent ?_
  refine S.dr_take 11 [] rfl (by kernel_rfl) rfl rfl rfl (q_pickF rfl (rfl) rfl) Sub.ent ?_
  refine S.dr_take 12 [] rfl (by kernel_rfl) rfl rfl rfl (q_move rfl) Sub.ent ?_
  refine S.dr_takeN 13 [] rfl (by kernel_rfl) rfl rfl rfl (rfl) rfl rfl Sub.ent ?_
  refine S.dr_takeN 14 [] rfl (by kernel_rfl) rfl rfl rfl (rfl) rfl rfl Sub.ent ?_
  refine S.dr_takeN 15 [] rfl (by kernel_rfl) rfl rfl rfl (rfl) rfl rfl Sub.ent ?_
  refine S.dr_takeN 16 [] rfl (by kernel_rfl) rfl rfl rfl (rfl) rfl rfl Sub.ent ?_
  refine S.dr_takeN 17 [] rfl (by kernel_rfl) rfl rfl rfl (rfl) rfl rfl Sub.ent ?_
  refine S.dr_takeN 18 [] rfl (by kernel_rfl) rfl rfl rfl (rfl) rfl rfl Sub.ent ?_
  refine S.dr_takeN 19 [] rfl (by kernel_rfl) rfl rfl rfl (rfl) rfl rfl Sub.ent ?_
  refine S.dr_takeN 20 [] rfl (by kernel_rfl) rfl rfl rfl (rfl) rfl rfl Sub.ent ?_
  refine S.dr_take 21 [] rfl (by kernel_rfl) rfl rfl rfl (q_pickF rfl (rfl) rfl) Sub.ent ?_
  refine S.dr_take 22 [] rfl (by kernel_rfl) rfl rfl rfl (q_move rfl) Sub.ent ?_
  refine S.dr_takeN 23 [] rfl (by kernel_rfl) rfl rfl rfl (rfl) rfl rfl Sub.ent ?_
  refine S.dr_takeN 24 [] rfl (by kernel_rfl) rfl rfl rfl (rfl) rfl rfl Sub.ent ?_
  refine S.dr_takeN 25 [] rfl (by kernel_rfl) rfl rfl rfl (rfl) rfl rfl Sub.ent ?_
  refine S.dr_takeN 26 [] rfl (by kernel_rfl) rfl rfl rfl (rfl) rfl rfl Sub.ent ?_
  refine S.dr_takeN 27 [] rfl (by kernel_rfl) rfl rfl rfl (rfl) rfl rfl Sub.ent ?_
  refine S.dr_takeN 28 [] rfl (by kernel_rfl) rfl rfl rfl (rfl) rfl rfl Sub.ent ?_
  refine S.dr_takeN 29 [] rfl (by kernel_rfl) rfl rfl rfl (rfl) rfl rfl Sub.ent ?_
  refine S.dr_takeN 30 [] rfl (by kernel_rfl) rfl rfl rfl (rfl) rfl rfl Sub.ent ?_
  refine S.dr_take 31 [] rfl (by kernel_rfl) rfl rfl rfl (q_pickF rfl (rfl) rfl) Sub.ent ?_
  refine S.dr_take 32 [] rfl (by kernel_rfl) rfl rfl rfl (q_move rfl) Sub.ent ?_
  refine S.dr_takeN 33 [] rfl (by kernel_rfl) rfl rfl rfl (rfl) rfl rfl Sub.ent ?_
  refine S.dr_takeN 34 [] rfl (by kernel_rfl) rfl rfl rfl (rfl) rfl rfl Sub.ent ?_
  refine S.dr_takeN 35 [] rfl (by kernel_rfl) rfl rfl rfl (rfl) rfl rfl Sub.ent ?_
  refine S.dr_take 36 [] rfl (by kernel_rfl) rfl rfl rfl (q_pickF rfl (rfl) rfl) Sub.ent ?_
  refine S.dr_take 37 [] rfl (by kernel_rfl) rfl rfl rfl (q_move rfl) Sub.ent ?_
  refine S.dr_takeN 38 [] rfl (by kernel_rfl) rfl rfl rfl (rfl) rfl rfl Sub.ent ?_
  refine S.dr_takeN 39 [] rfl (by kernel_rfl) rfl rfl rfl (rfl) rfl rfl Sub.ent ?_
  refine S.dr_takeN 40 [] rfl (by kernel_rfl) rfl rfl rfl (rfl) rfl rfl Sub.ent ?_
  refine S.dr_takeN 41 [] rfl (by kernel_rfl) rfl rfl rfl (rfl) rfl rfl Sub.ent ?_
  refine S.dr_takeN 42 [] rfl (by kernel_rfl) rfl rfl rfl (rfl) rfl rfl Sub.ent ?_
  refine S.dr_takeN 43 [] rfl (by kernel_rfl) rfl rfl rfl (rfl) rfl rfl Sub.ent ?_
  refine S.dr_takeN 44 [] rfl (by kernel_rfl) rfl rfl rfl (rfl) rfl rfl Sub.ent ?_
  refine S.dr_take 45 [] rfl (by kernel_rfl) rfl rfl rfl (q_pickF rfl (rfl) rfl) Sub.ent ?_
  refine S.dr_take 46 [] rfl (by kernel_rfl) rfl rfl rfl (q_assign rfl) Sub.ent ?_
  first | with_reducible refine S.dr_doneK (by kernel_rfl) ?_ | refine S.dr_done (by kernel_rfl) ?_
  refine hK2 _ _ ?_
  refine S.ret ?_
  with_reducible repeat (first | refine S.then_n ?_ | refine S.then_x ?_ | refine S.then_r ?_ | refine S.inBlock_n ?_ | refine S.inBlock_r ?_ | refine S.inBlock_x rfl ?_ | refine S.noGoto_r ?_ | refine S.noGoto_n ?_ | refine S.noGoto_x ?_)
  exact S.fin (rs := [_]) (vs := [_]) Try.results23 (⟨rfl, trivial⟩)  (⟨rfl, rfl⟩) Sub.ent
theorem answered_S (t : Nat) (nd ep lf said hd : Int) (ov : SV) (os : List Slt) (ack : Int) : Spec Try.prog 27 [.pointer (some ⟨t, 0, none⟩), .int .u32 ack]
    [blk t 72 (tk nd ep lf said hd ov).toArray, own ov 76 3 (os.flatMap sltC), alls os sltB] fun Γ v Θ =>
      ∃ ov', v = .tuple #[] ∧ Θ = blk t 72 (tk nd ep lf said hd ov').toArray :: own ov' 76 3 ((os.dropWhile fun x => decide (x.seq ≤ ack)).flatMap sltC) :: alls (os.dropWhile fun x => decide (x.seq ≤ ack)) sltB :: Γ := by
  refine Spec.of_body Try.func27 rfl Try.ntmps27 rfl ?_
  intro w0 Γ
  show S _ w0 [(0, .pointer (some ⟨t, 0, none⟩)), (1, .int .u32 ack)] (blk t 72 (tk nd ep lf said hd ov).toArray :: own ov 76 3 (os.flatMap sltC) :: alls os sltB :: Γ) _
  refine S.block ?_
  refine S.loop (fun m ρ' Γ' => ∃ (os' : List Slt) (ov' : SV), m = os'.length ∧ (os'.dropWhile fun x => decide (x.seq ≤ ack)) = (os.dropWhile fun x => decide (x.seq ≤ ack)) ∧ ρ' = [(0, .pointer (some ⟨t, 0, none⟩)), (1, .int .u32 ack)] ∧ Γ' = blk t 72 (tk nd ep lf said hd ov').toArray :: own ov' 76 3 (os'.flatMap sltC) :: alls os' sltB :: Γ) (m := _) (ρ0 := _) (Γ0 := _) (⟨os, ov, rfl, rfl, rfl, rfl⟩) (by repeat (first | exact trivial | refine ⟨rfl, ?_⟩)) Sub.ent ?_
  rintro m ρ' Γ' ⟨os', ov', rfl, hdw, rfl, rfl⟩
  refine S.ownLen ov' fun hlen hnc hcm => ?_
  rw [flat_length sltC_len] at hlen
  refine S.seq fun K1 hK1 => ?_
  refine S.seq fun K2 hK2 => ?_
  refine S.regionG ?_
  refine S.g_op rfl (S.q (q_move rfl) rfl rfl ?_)
  refine S.g_op rfl (S.q (q_nilCheck rfl) rfl rfl ?_)
  refine S.g_op rfl (S.q (q_field Try.fo72_2 rfl) rfl rfl ?_)
  refine S.g_op rfl (S.q (q_load Try.at70 rfl rfl) rfl rfl ?_)
  refine S.g_op rfl (S.q (q_len Try.underlying70 rfl) rfl rfl ?_)
  refine S.g_op rfl (S.q (q_gt rfl rfl) rfl rfl ?_)
  refine S.g_op rfl (S.q (q_move rfl) rfl rfl ?_)
  by_cases hg0_6 : 0 < (ov'.n : Int)
  · obtain ⟨x, os', rfl⟩ : ∃ x r, os' = x :: r := by cases os' with | nil => (simp at hlen; omega) | cons x r => exact ⟨x, r, rfl⟩
    refine S.ownSome ov' (by omega) fun b off hb _ _ _ => ?_
    refine S.g_yes rfl rfl rfl (decide_eq_true hg0_6) (S.q (q_move rfl) rfl rfl ?_)
    refine S.g_yes rfl rfl rfl (decide_eq_true hg0_6) (S.q (q_nilCheck rfl) rfl rfl ?_)
    refine S.g_yes rfl rfl rfl (decide_eq_true hg0_6) (S.q (q_field Try.fo72_2 rfl) rfl rfl ?_)
    refine S.g_yes rfl rfl rfl (decide_eq_true hg0_6) (S.q (q_load Try.at70 rfl rfl) rfl rfl ?_)
    refine S.g_yes rfl rfl rfl (decide_eq_true hg0_6) (S.q (q_indexO (0) Try.el70 rfl hb rfl rfl (by omega)) rfl rfl ?_)
    refine S.g_yes rfl rfl rfl (decide_eq_true hg0_6) (S.q (q_field Try.fo76_0 rfl) rfl rfl ?_)
    refine S.g_yes rfl rfl rfl (decide_eq_true hg0_6) (S.q (q_loadOw (ov') (0 * 3 + 0) Try.at26 rfl hb (by first | rfl | exact Nat.add_assoc _ _ _ | omega) (flat_get sltC_len (x := x) rfl rfl)) rfl rfl ?_)
    refine S.g_yes rfl rfl rfl (decide_eq_true hg0_6) (S.q (q_move rfl) rfl rfl ?_)
    refine S.g_yes rfl rfl rfl (decide_eq_true hg0_6) (S.q (q_le rfl rfl) rfl rfl ?_)
    refine S.g_op rfl (S.q (q_pickT rfl (decide_eq_true hg0_6) rfl) rfl rfl ?_)
    first | with_reducible refine S.g_nilK ?_ | refine S.g_nil ?_
    refine hK2 _ _ ?_
    refine S.condD rfl (fun h1 => ?_) (fun h1 => ?_)
    · refine S.skip ?_
      with_reducible repeat (first | refine S.then_n ?_ | refine S.then_x ?_ | refine S.then_r ?_ | refine S.inBlock_n ?_ | refine S.inBlock_r ?_ | refine S.inBlock_x rfl ?_ | refine S.noGoto_r ?_ | refine S.noGoto_n ?_ | refine S.noGoto_x ?_)
      refine hK1 _ _ ?_
      refine S.block ?_
      refine S.region rfl ?_
      refine S.op (S.q (q_move rfl) rfl rfl ?_)
      refine S.op (S.q (q_move rfl) rfl rfl ?_)
      refine S.op (S.q (q_nilCheck rfl) rfl rfl ?_)
      refine S.op (S.q (q_field Try.fo72_2 rfl) rfl rfl ?_)
      refine S.op (S.q (q_load Try.at70 rfl rfl) rfl rfl ?_)
      refine S.op (S.sliceDrop (s := ov') (1) Try.el70 rfl rfl rfl (by omega) rfl ?_)
      intro ov2 hov2
      have hdr : ((x :: os').flatMap sltC).drop (1 * 3) = os'.flatMap sltC := flat_drop sltC_len (x :: os') 1
      rw [hdr]
      refine S.op (S.q (q_nilCheck rfl) rfl rfl ?_)
      refine S.op (S.q (q_field Try.fo72_2 rfl) rfl rfl ?_)
      refine S.op (S.store (cs' := [_, _, _, _, _, _, _, _, _, _]) Try.at70 rfl rfl rfl rfl rfl ?_)
      first | with_reducible refine S.nilK ?_ | refine S.nil ?_
      with_reducible repeat (first | refine S.then_n ?_ | refine S.then_x ?_ | refine S.then_r ?_ | refine S.inBlock_n ?_ | refine S.inBlock_r ?_ | refine S.inBlock_x rfl ?_ | refine S.noGoto_r ?_ | refine S.noGoto_n ?_ | refine S.noGoto_x ?_)
      with_reducible repeat (first | refine S.then_n ?_ | refine S.then_x ?_ | refine S.then_r ?_ | refine S.inBlock_n ?_ | refine S.inBlock_r ?_ | refine S.inBlock_x rfl ?_ | refine S.noGoto_r ?_ | refine S.noGoto_n ?_ | refine S.noGoto_x ?_)
      refine S.conv (alls (x :: os') sltB) ((Ent.allsUncons sltB x os' _).trans (Ent.drop _ _)) ?_
      exact S.next (os'.length) (⟨os', ov2, rfl, by rw [← hdw, List.dropWhile_cons_of_pos (by simpa using h1)], rfl, rfl⟩) (by simp) (by repeat (first | exact trivial | refine ⟨rfl, ?_⟩)) Sub.ent
    · have hfin : ((x :: os').dropWhile fun x => decide (x.seq ≤ ack)) = x :: os' := List.dropWhile_cons_of_neg (by simpa using h1)
      refine S.exit ?_
      with_reducible repeat (first | refine S.then_n ?_ | refine S.then_x ?_ | refine S.then_r ?_ | refine S.inBlock_n ?_ | refine S.inBlock_r ?_ | refine S.inBlock_x rfl ?_ | refine S.noGoto_r ?_ | refine S.noGoto_n ?_ | refine S.noGoto_x ?_)
      with_reducible refine S.inBlock_s ?_
      with_reducible repeat (first | refine S.then_n ?_ | refine S.then_x ?_ | refine S.then_r ?_ | refine S.inBlock_n ?_ | refine S.inBlock_r ?_ | refine S.inBlock_x rfl ?_ | refine S.noGoto_r ?_ | refine S.noGoto_n ?_ | refine S.noGoto_x ?_)
      with_reducible repeat (first | refine S.then_n ?_ | refine S.then_x ?_ | refine S.then_r ?_ | refine S.inBlock_n ?_ | refine S.inBlock_r ?_ | refine S.inBlock_x rfl ?_ | refine S.noGoto_r ?_ | refine S.noGoto_n ?_ | refine S.noGoto_x ?_)
      exact S.finN (rs := []) (vs := []) Try.results27 (trivial)  (⟨ov', rfl, by rw [← hdw, hfin]⟩) Sub.ent
  · have hos : os' = [] := List.eq_nil_of_length_eq_zero (by omega)
    have hfin : (os'.dropWhile fun x => decide (x.seq ≤ ack)) = os' := by rw [hos]; rfl
    refine S.g_no rfl rfl rfl (decide_eq_false hg0_6) rfl rfl ?_
    refine S.g_no rfl rfl rfl (decide_eq_false hg0_6) rfl rfl ?_
    refine S.g_no rfl rfl rfl (decide_eq_false hg0_6) rfl rfl ?_
    refine S.g_no rfl rfl rfl (decide_eq_false hg0_6) rfl rfl ?_
    refine S.g_no rfl rfl rfl (decide_eq_false hg0_6) rfl rfl ?_
    refine S.g_no rfl rfl rfl (decide_eq_false hg0_6) rfl rfl ?_
    refine S.g_no rfl rfl rfl (decide_eq_false hg0_6) rfl rfl ?_
    refine S.g_no rfl rfl rfl (decide_eq_false hg0_6) rfl rfl ?_
    refine S.g_no rfl rfl rfl (decide_eq_false hg0_6) rfl rfl ?_
    refine S.g_op rfl (S.q (q_pickF rfl (decide_eq_false hg0_6) rfl) rfl rfl ?_)
    first | with_reducible refine S.g_nilK ?_ | refine S.g_nil ?_
    refine hK2 _ _ ?_
    refine S.condF rfl ?_
    refine S.exit ?_
    with_reducible repeat (first | refine S.then_n ?_ | refine S.then_x ?_ | refine S.then_r ?_ | refine S.inBlock_n ?_ | refine S.inBlock_r ?_ | refine S.inBlock_x rfl ?_ | refine S.noGoto_r ?_ | refine S.noGoto_n ?_ | refine S.noGoto_x ?_)
    with_reducible refine S.inBlock_s ?_
    with_reducible repeat (first | refine S.then_n ?_ | refine S.then_x ?_ | refine S.then_r ?_ | refine S.inBlock_n ?_ | refine S.inBlock_r ?_ | refine S.inBlock_x rfl ?_ | refine S.noGoto_r ?_ | refine S.noGoto_n ?_ | refine S.noGoto_x ?_)
    with_reducible repeat (first | refine S.then_n ?_ | refine S.then_x ?_ | refine S.then_r ?_ | refine S.inBlock_n ?_ | refine S.inBlock_r ?_ | refine S.inBlock_x rfl ?_ | refine S.noGoto_r ?_ | refine S.noGoto_n ?_ | refine S.noGoto_x ?_)
    exact S.finN (rs := []) (vs := []) Try.results27 (trivial)  (⟨ov', rfl, by rw [← hdw, hfin]⟩) Sub.ent
end Go.Proofs.Ytdlddggjjibeaaa
