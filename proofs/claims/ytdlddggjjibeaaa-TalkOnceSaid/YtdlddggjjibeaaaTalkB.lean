/- Talk: Say. -/
import Derived.Test.YtdlddggjjibeaaaTalkA
namespace Go.Proofs.Ytdlddggjjibeaaa
open Go.RowKit
/-- No packet. -/
abbrev pk0 : List Value := [.int .u8 0, .int .u32 0, .int .u32 0, .int .u32 0, .int .u32 0, .bool false, .slice none 0 0]
abbrev pkC (nd ep lf sq ak : Int) (pl : Bool) (dv : SV) : List Value := [.int .u8 nd, .int .u32 ep, .int .u32 lf, .int .u32 sq, .int .u32 ak, .bool pl, dv.v]
theorem SayNil_S (p : Value) : Spec Try.prog 15 [.pointer none, p] [] fun Γ v Θ => v = .tuple #[.agg pk0.toArray, .int .i64 6] ∧ Θ = Γ := by
  refine Spec.of_body Try.func15 rfl Try.ntmps15 rfl ?_
  intro w0 Γ
  show S _ w0 [(0, .pointer none), (1, p)] Γ _
  refine S.seq fun K1 hK1 => ?_
  refine S.region rfl ?_
  refine S.op (S.alloc Try.z34 rfl ?_)
  intro b4
  refine S.op (S.q (q_assign rfl) rfl rfl ?_)
  first | with_reducible refine S.nilK ?_ | refine S.nil ?_
  refine hK1 _ _ ?_
  refine S.seq fun K2 hK2 => ?_
  refine S.block ?_
  refine S.seq fun K3 hK3 => ?_
  refine S.region rfl ?_
  refine S.op (S.q (q_move rfl) rfl rfl ?_)
  refine S.op (S.q (q_eqN Try.underlying24 rfl rfl) rfl rfl ?_)
  refine S.op (S.q (q_assign rfl) rfl rfl ?_)
  first | with_reducible refine S.nilK ?_ | refine S.nil ?_
  refine hK3 _ _ ?_
  refine S.condT rfl ?_
  refine S.seq fun K4 hK4 => ?_
  refine S.region rfl ?_
  refine S.op (S.q (q_build (pvs := []) [_, _, _, _, _, _, _] Try.z34 Try.p34 trivial rfl) rfl rfl ?_)
  refine S.op (S.storeS (cs' := [_, _, _, _, _, _, _]) Try.ag34 rfl rfl rfl rfl rfl rfl ?_)
  refine S.op (S.q (q_assign rfl) rfl rfl ?_)
  first | with_reducible refine S.nilK ?_ | refine S.nil ?_
  refine hK4 _ _ ?_
  refine S.ret ?_
  with_reducible repeat (first | refine S.then_n ?_ | refine S.then_x ?_ | refine S.then_r ?_ | refine S.inBlock_n ?_ | refine S.inBlock_r ?_ | refine S.inBlock_x rfl ?_ | refine S.noGoto_r ?_ | refine S.noGoto_n ?_ | refine S.noGoto_x ?_)
  exact S.fin (rs := [_, _]) (vs := [_, _]) Try.results15 (⟨⟨_, _, rfl, lod_agg [_, _, _, _, _, _, _] Try.ag34 rfl ⟨rfl, rfl, rfl, rfl, rfl, rfl, rfl, trivial⟩⟩, rfl, trivial⟩)  (⟨rfl, rfl⟩) Sub.ent
theorem SayLong_S (t : Nat) (p : SV) (h : 1984 < p.n) (R : Assn) : Spec Try.prog 15 [.pointer (some ⟨t, 0, none⟩), p.v] [R] fun Γ v Θ => v = .tuple #[.agg pk0.toArray, .int .i64 3] ∧ Θ = R :: Γ := by
  refine Spec.of_body Try.func15 rfl Try.ntmps15 rfl ?_
  intro w0 Γ
  show S _ w0 [(0, .pointer (some ⟨t, 0, none⟩)), (1, p.v)] (R :: Γ) _
  refine S.seq fun K1 hK1 => ?_
  refine S.region rfl ?_
  refine S.op (S.alloc Try.z34 rfl ?_)
  intro b4
  refine S.op (S.q (q_assign rfl) rfl rfl ?_)
  first | with_reducible refine S.nilK ?_ | refine S.nil ?_
  refine hK1 _ _ ?_
  refine S.seq fun K2 hK2 => ?_
  refine S.block ?_
  refine S.seq fun K3 hK3 => ?_
  refine S.region rfl ?_
  refine S.op (S.q (q_move rfl) rfl rfl ?_)
  refine S.op (S.q (q_eqN Try.underlying24 rfl rfl) rfl rfl ?_)
  refine S.op (S.q (q_assign rfl) rfl rfl ?_)
  first | with_reducible refine S.nilK ?_ | refine S.nil ?_
  refine hK3 _ _ ?_
  refine S.condF rfl ?_
  refine S.seq fun K4 hK4 => ?_
  refine S.region rfl ?_
  refine S.op (S.q (q_move rfl) rfl rfl ?_)
  refine S.op (S.q (q_len Try.underlying32 rfl) rfl rfl ?_)
  refine S.op (S.q (q_gt rfl rfl) rfl rfl ?_)
  refine S.op (S.q (q_assign rfl) rfl rfl ?_)
  first | with_reducible refine S.nilK ?_ | refine S.nil ?_
  refine hK4 _ _ ?_
  refine S.condD rfl (fun h2 => ?_) (fun h2 => ?_)
  · refine S.seq fun K5 hK5 => ?_
    refine S.region rfl ?_
    refine S.op (S.q (q_build (pvs := []) [_, _, _, _, _, _, _] Try.z34 Try.p34 trivial rfl) rfl rfl ?_)
    refine S.op (S.storeS (cs' := [_, _, _, _, _, _, _]) Try.ag34 rfl rfl rfl rfl rfl rfl ?_)
    refine S.op (S.q (q_assign rfl) rfl rfl ?_)
    first | with_reducible refine S.nilK ?_ | refine S.nil ?_
    refine hK5 _ _ ?_
    refine S.ret ?_
    with_reducible repeat (first | refine S.then_n ?_ | refine S.then_x ?_ | refine S.then_r ?_ | refine S.inBlock_n ?_ | refine S.inBlock_r ?_ | refine S.inBlock_x rfl ?_ | refine S.noGoto_r ?_ | refine S.noGoto_n ?_ | refine S.noGoto_x ?_)
    exact S.fin (rs := [_, _]) (vs := [_, _]) Try.results15 (⟨⟨_, _, rfl, lod_agg [_, _, _, _, _, _, _] Try.ag34 rfl ⟨rfl, rfl, rfl, rfl, rfl, rfl, rfl, trivial⟩⟩, rfl, trivial⟩)  (⟨rfl, rfl⟩) Sub.ent
  · exact absurd (show (1984 : Int) < p.n by omega) h2
theorem SayFull_S (t : Nat) (nd ep lf said hd : Int) (ov : SV) (p : SV) (R : Assn) (h : p.n ≤ 1984) (hf : 256 ≤ ov.n ∨ said = 4294967295) : Spec Try.prog 15 [.pointer (some ⟨t, 0, none⟩), p.v] [blk t 72 (tk nd ep lf said hd ov).toArray, R] fun Γ v Θ => v = .tuple #[.agg pk0.toArray, .int .i64 8] ∧ Θ = blk t 72 (tk nd ep lf said hd ov).toArray :: R :: Γ := by
  refine Spec.of_body Try.func15 rfl Try.ntmps15 rfl ?_
  intro w0 Γ
  show S _ w0 [(0, .pointer (some ⟨t, 0, none⟩)), (1, p.v)] (blk t 72 (tk nd ep lf said hd ov).toArray :: R :: Γ) _
  refine S.seq fun K1 hK1 => ?_
  refine S.region rfl ?_
  refine S.op (S.alloc Try.z34 rfl ?_)
  intro b4
  refine S.op (S.q (q_assign rfl) rfl rfl ?_)
  first | with_reducible refine S.nilK ?_ | refine S.nil ?_
  refine hK1 _ _ ?_
  refine S.seq fun K2 hK2 => ?_
  refine S.block ?_
  refine S.seq fun K3 hK3 => ?_
  refine S.region rfl ?_
  refine S.op (S.q (q_move rfl) rfl rfl ?_)
  refine S.op (S.q (q_eqN Try.underlying24 rfl rfl) rfl rfl ?_)
  refine S.op (S.q (q_assign rfl) rfl rfl ?_)
  first | with_reducible refine S.nilK ?_ | refine S.nil ?_
  refine hK3 _ _ ?_
  refine S.condF rfl ?_
  refine S.seq fun K4 hK4 => ?_
  refine S.region rfl ?_
  refine S.op (S.q (q_move rfl) rfl rfl ?_)
  refine S.op (S.q (q_len Try.underlying32 rfl) rfl rfl ?_)
  refine S.op (S.q (q_gt rfl rfl) rfl rfl ?_)
  refine S.op (S.q (q_assign rfl) rfl rfl ?_)
  first | with_reducible refine S.nilK ?_ | refine S.nil ?_
  refine hK4 _ _ ?_
  refine S.condD rfl (fun h2 => ?_) (fun h2 => ?_)
  · exact absurd h2 (by omega)
  · refine S.seq fun K5 hK5 => ?_
    refine S.regionG ?_
    refine S.g_op rfl (S.q (q_move rfl) rfl rfl ?_)
    refine S.g_op rfl (S.q (q_nilCheck rfl) rfl rfl ?_)
    refine S.g_op rfl (S.q (q_field Try.fo72_2 rfl) rfl rfl ?_)
    refine S.g_op rfl (S.q (q_load Try.at70 rfl rfl) rfl rfl ?_)
    refine S.g_op rfl (S.q (q_len Try.underlying70 rfl) rfl rfl ?_)
    refine S.g_op rfl (S.q (q_ge rfl rfl) rfl rfl ?_)
    refine S.g_op rfl (S.q (q_move rfl) rfl rfl ?_)
    by_cases hg5_6 : 256 ≤ (ov.n : Int)
    · refine S.g_no rfl rfl rfl (decide_eq_true hg5_6) rfl rfl ?_
      refine S.g_no rfl rfl rfl (decide_eq_true hg5_6) rfl rfl ?_
      refine S.g_no rfl rfl rfl (decide_eq_true hg5_6) rfl rfl ?_
      refine S.g_no rfl rfl rfl (decide_eq_true hg5_6) rfl rfl ?_
      refine S.g_no rfl rfl rfl (decide_eq_true hg5_6) rfl rfl ?_
      refine S.g_op rfl (S.q (q_pickT rfl (decide_eq_true hg5_6) rfl) rfl rfl ?_)
      refine S.g_op rfl (S.q (q_assign rfl) rfl rfl ?_)
      first | with_reducible refine S.g_nilK ?_ | refine S.g_nil ?_
      refine hK5 _ _ ?_
      refine S.condT rfl ?_
      refine S.seq fun K6 hK6 => ?_
      refine S.region rfl ?_
      refine S.op (S.q (q_build (pvs := []) [_, _, _, _, _, _, _] Try.z34 Try.p34 trivial rfl) rfl rfl ?_)
      refine S.op (S.storeS (cs' := [_, _, _, _, _, _, _]) Try.ag34 rfl rfl rfl rfl rfl rfl ?_)
      refine S.op (S.q (q_assign rfl) rfl rfl ?_)
      first | with_reducible refine S.nilK ?_ | refine S.nil ?_
      refine hK6 _ _ ?_
      refine S.ret ?_
      with_reducible repeat (first | refine S.then_n ?_ | refine S.then_x ?_ | refine S.then_r ?_ | refine S.inBlock_n ?_ | refine S.inBlock_r ?_ | refine S.inBlock_x rfl ?_ | refine S.noGoto_r ?_ | refine S.noGoto_n ?_ | refine S.noGoto_x ?_)
      exact S.fin (rs := [_, _]) (vs := [_, _]) Try.results15 (⟨⟨_, _, rfl, lod_agg [_, _, _, _, _, _, _] Try.ag34 rfl ⟨rfl, rfl, rfl, rfl, rfl, rfl, rfl, trivial⟩⟩, rfl, trivial⟩)  (⟨rfl, rfl⟩) Sub.ent
    · refine S.g_yes rfl rfl rfl (decide_eq_false hg5_6) (S.q (q_move rfl) rfl rfl ?_)
      refine S.g_yes rfl rfl rfl (decide_eq_false hg5_6) (S.q (q_nilCheck rfl) rfl rfl ?_)
      refine S.g_yes rfl rfl rfl (decide_eq_false hg5_6) (S.q (q_field Try.fo72_1 rfl) rfl rfl ?_)
      refine S.g_yes rfl rfl rfl (decide_eq_false hg5_6) (S.q (q_load Try.at26 rfl rfl) rfl rfl ?_)
      refine S.g_yes rfl rfl rfl (decide_eq_false hg5_6) (S.q (q_eq rfl rfl) rfl rfl ?_)
      refine S.g_op rfl (S.q (q_pickF rfl (decide_eq_false hg5_6) rfl) rfl rfl ?_)
      refine S.g_op rfl (S.q (q_assign rfl) rfl rfl ?_)
      first | with_reducible refine S.g_nilK ?_ | refine S.g_nil ?_
      refine hK5 _ _ ?_
      refine S.condD rfl (fun h3 => ?_) (fun h3 => ?_)
      · refine S.seq fun K7 hK7 => ?_
        refine S.region rfl ?_
        refine S.op (S.q (q_build (pvs := []) [_, _, _, _, _, _, _] Try.z34 Try.p34 trivial rfl) rfl rfl ?_)
        refine S.op (S.storeS (cs' := [_, _, _, _, _, _, _]) Try.ag34 rfl rfl rfl rfl rfl rfl ?_)
        refine S.op (S.q (q_assign rfl) rfl rfl ?_)
        first | with_reducible refine S.nilK ?_ | refine S.nil ?_
        refine hK7 _ _ ?_
        refine S.ret ?_
        with_reducible repeat (first | refine S.then_n ?_ | refine S.then_x ?_ | refine S.then_r ?_ | refine S.inBlock_n ?_ | refine S.inBlock_r ?_ | refine S.inBlock_x rfl ?_ | refine S.noGoto_r ?_ | refine S.noGoto_n ?_ | refine S.noGoto_x ?_)
        exact S.fin (rs := [_, _]) (vs := [_, _]) Try.results15 (⟨⟨_, _, rfl, lod_agg [_, _, _, _, _, _, _] Try.ag34 rfl ⟨rfl, rfl, rfl, rfl, rfl, rfl, rfl, trivial⟩⟩, rfl, trivial⟩)  (⟨rfl, rfl⟩) Sub.ent
      · exact absurd (by omega) h3
theorem Say_S (t : Nat) (nd ep lf said hd : Int) (ov : SV) (os : List Slt) (p : SV) (l : List Int) (R : Assn) (hR : ∀ Γ w, Sat w (R :: Γ) → BytesAt w p.v l) (hpn : p.n = l.length) (hl : l.length ≤ 1984) (hos : os.length < 256) (hs0 : 0 ≤ said) (hs : said < 4294967295) :
    Spec Try.prog 15 [.pointer (some ⟨t, 0, none⟩), p.v] [blk t 72 (tk nd ep lf said hd ov).toArray, own ov 76 3 (os.flatMap sltC), alls os sltB, R] fun Γ v Θ =>
      ∃ s ov' u, v = .tuple #[.agg (pkC nd ep lf (said + 1) hd false s).toArray, .int .i64 0] ∧ s.n = l.length ∧
        Θ = obytes s l :: blk t 72 (tk nd ep lf (said + 1) hd ov').toArray :: own ov' 76 3 ((os ++ [(⟨said + 1, l, 0, u⟩ : Slt)]).flatMap sltC) :: alls (os ++ [(⟨said + 1, l, 0, u⟩ : Slt)]) sltB :: R :: Γ := by
  refine Spec.of_body Try.func15 rfl Try.ntmps15 rfl ?_
  intro w0 Γ
  show S _ w0 [(0, .pointer (some ⟨t, 0, none⟩)), (1, p.v)] (blk t 72 (tk nd ep lf said hd ov).toArray :: own ov 76 3 (os.flatMap sltC) :: alls os sltB :: R :: Γ) _
  refine S.ownLen ov fun hlen hnc hcm => ?_
  rw [flat_length sltC_len] at hlen
  refine S.seq fun K1 hK1 => ?_
  refine S.region rfl ?_
  refine S.op (S.alloc Try.z34 rfl ?_)
  intro b4
  refine S.op (S.q (q_assign rfl) rfl rfl ?_)
  first | with_reducible refine S.nilK ?_ | refine S.nil ?_
  refine hK1 _ _ ?_
  refine S.seq fun K2 hK2 => ?_
  refine S.block ?_
  refine S.seq fun K3 hK3 => ?_
  refine S.region rfl ?_
  refine S.op (S.q (q_move rfl) rfl rfl ?_)
  refine S.op (S.q (q_eqN Try.underlying24 rfl rfl) rfl rfl ?_)
  refine S.op (S.q (q_assign rfl) rfl rfl ?_)
  first | with_reducible refine S.nilK ?_ | refine S.nil ?_
  refine hK3 _ _ ?_
  refine S.condF rfl ?_
  refine S.seq fun K4 hK4 => ?_
  refine S.region rfl ?_
  refine S.op (S.q (q_move rfl) rfl rfl ?_)
  refine S.op (S.q (q_len Try.underlying32 rfl) rfl rfl ?_)
  refine S.op (S.q (q_gt rfl rfl) rfl rfl ?_)
  refine S.op (S.q (q_assign rfl) rfl rfl ?_)
  first | with_reducible refine S.nilK ?_ | refine S.nil ?_
  refine hK4 _ _ ?_
  refine S.condD rfl (fun h2 => ?_) (fun h2 => ?_)
  · exact absurd h2 (by omega)
  · refine S.seq fun K5 hK5 => ?_
    refine S.regionG ?_
    refine S.g_op rfl (S.q (q_move rfl) rfl rfl ?_)
    refine S.g_op rfl (S.q (q_nilCheck rfl) rfl rfl ?_)
    refine S.g_op rfl (S.q (q_field Try.fo72_2 rfl) rfl rfl ?_)
    refine S.g_op rfl (S.q (q_load Try.at70 rfl rfl) rfl rfl ?_)
    refine S.g_op rfl (S.q (q_len Try.underlying70 rfl) rfl rfl ?_)
    refine S.g_op rfl (S.q (q_ge rfl rfl) rfl rfl ?_)
    refine S.g_op rfl (S.q (q_move rfl) rfl rfl ?_)
    by_cases hg5_6 : 256 ≤ (ov.n : Int)
    · exact absurd hg5_6 (by omega)
    · refine S.g_yes rfl rfl rfl (decide_eq_false hg5_6) (S.q (q_move rfl) rfl rfl ?_)
      refine S.g_yes rfl rfl rfl (decide_eq_false hg5_6) (S.q (q_nilCheck rfl) rfl rfl ?_)
      refine S.g_yes rfl rfl rfl (decide_eq_false hg5_6) (S.q (q_field Try.fo72_1 rfl) rfl rfl ?_)
      refine S.g_yes rfl rfl rfl (decide_eq_false hg5_6) (S.q (q_load Try.at26 rfl rfl) rfl rfl ?_)
      refine S.g_yes rfl rfl rfl (decide_eq_false hg5_6) (S.q (q_eq rfl rfl) rfl rfl ?_)
      refine S.g_op rfl (S.q (q_pickF rfl (decide_eq_false hg5_6) rfl) rfl rfl ?_)
      refine S.g_op rfl (S.q (q_assign rfl) rfl rfl ?_)
      first | with_reducible refine S.g_nilK ?_ | refine S.g_nil ?_
      refine hK5 _ _ ?_
      refine S.condD rfl (fun h3 => ?_) (fun h3 => ?_)
      · exact absurd h3 (by omega)
      · refine S.skip ?_
        with_reducible repeat (first | refine S.then_n ?_ | refine S.then_x ?_ | refine S.then_r ?_ | refine S.inBlock_n ?_ | refine S.inBlock_r ?_ | refine S.inBlock_x rfl ?_ | refine S.noGoto_r ?_ | refine S.noGoto_n ?_ | refine S.noGoto_x ?_)
        with_reducible repeat (first | refine S.then_n ?_ | refine S.then_x ?_ | refine S.then_r ?_ | refine S.inBlock_n ?_ | refine S.inBlock_r ?_ | refine S.inBlock_x rfl ?_ | refine S.noGoto_r ?_ | refine S.noGoto_n ?_ | refine S.noGoto_x ?_)
        refine hK2 _ _ ?_
        refine S.seq fun K6 hK6 => ?_
        refine S.region rfl ?_
        refine S.op (S.q (q_move rfl) rfl rfl ?_)
        refine S.op (S.q (q_nilCheck rfl) rfl rfl ?_)
        refine S.op (S.q (q_field Try.fo72_1 rfl) rfl rfl ?_)
        refine S.op (S.q (q_load Try.at26 rfl rfl) rfl rfl ?_)
        refine S.op (S.q (q_add rfl rfl (inU32 (by omega) (by omega))) rfl rfl ?_)
        refine S.op (S.q (q_nilCheck rfl) rfl rfl ?_)
        refine S.op (S.q (q_field Try.fo72_1 rfl) rfl rfl ?_)
        refine S.op (S.store (cs' := [_, _, _, _, _, _, _, _, _, _]) Try.at26 rfl rfl rfl rfl rfl ?_)
        first | with_reducible refine S.nilK ?_ | refine S.nil ?_
        refine hK6 _ _ ?_
        refine S.seq fun K7 hK7 => ?_
        refine S.draw ([blk t 72 (tk nd ep lf (said + 1) hd ov).toArray]) [] Try.mixed ?_
        refine S.dr_take 0 [] rfl (by kernel_rfl) rfl rfl rfl (q_move rfl) Sub.ent ?_
        refine S.dr_take 1 [] rfl (by kernel_rfl) rfl rfl rfl (q_nilCheck rfl) Sub.ent ?_
        refine S.dr_take 2 [] rfl (by kernel_rfl) rfl rfl rfl (q_field Try.fo72_1 rfl) Sub.ent ?_
        refine S.dr_take 3 [] rfl (by kernel_rfl) rfl rfl rfl (q_load Try.at26 rfl rfl) Sub.ent ?_
        refine S.dr_take 4 [] rfl (by kernel_rfl) rfl rfl rfl (q_move rfl) Sub.ent ?_
        refine S.dr_2 (i := 5) (j := 7) (by kernel_rfl) rfl rfl rfl rfl ?_ ?_
        · refine  (S.call Try.en29 (vs := [_]) ⟨rfl, trivial⟩ (Clone_S p.v l R hR (by omega)) rfl ?_)
          rintro v Θ ⟨u, rfl, hu, rfl⟩
          refine S.dr_k rfl Sub.ent ?_
          refine S.dr_take 6 [] rfl (by kernel_rfl) rfl rfl rfl (q_build (pvs := [(_, _), (_, _), (_, _)]) [_, _, _] Try.z76 Try.p76 ⟨⟨rfl, rfl⟩, ⟨rfl, rfl⟩, ⟨rfl, rfl⟩, trivial⟩ rfl) Sub.ent ?_
          refine S.dr_1 (i := 7) (by kernel_rfl) rfl rfl ?_
          refine  (S.alloc Try.z76 rfl ?_)
          intro b6
          refine S.dr_k rfl Sub.ent ?_
          refine S.dr_1 (i := 8) (by kernel_rfl) rfl rfl ?_
          refine  (S.storeS (cs' := [_, _, _]) Try.ag76 rfl rfl rfl rfl rfl rfl ?_)
          refine S.dr_k rfl Sub.ent ?_
          first | with_reducible refine S.dr_doneK (by kernel_rfl) ?_ | refine S.dr_done (by kernel_rfl) ?_
          refine hK7 _ _ ?_
          refine S.seq fun K8 hK8 => ?_
          refine S.draw ([blk t 72 (tk nd ep lf (said + 1) hd ov).toArray, blk b6 76 #[.int .u32 (said + 1), u.v, .int .i64 0]]) [10] Try.mixed ?_
          refine S.dr_take 0 [8, 9, 10] rfl (by kernel_rfl) rfl rfl rfl (q_move rfl) Sub.ent ?_
          refine S.dr_take 1 [2, 3, 4, 7, 8, 9, 10] rfl (by kernel_rfl) rfl rfl rfl (q_move rfl) Sub.ent ?_
          refine S.dr_take 2 [3, 4, 7, 8, 9, 10] rfl (by kernel_rfl) rfl rfl rfl (q_nilCheck rfl) Sub.ent ?_
          refine S.dr_take 3 [4, 7, 8, 9, 10] rfl (by kernel_rfl) rfl rfl rfl (q_field Try.fo72_2 rfl) Sub.ent ?_
          refine S.dr_take 4 [7, 8, 9, 10] rfl (by kernel_rfl) rfl rfl rfl (q_load Try.at70 rfl rfl) Sub.ent ?_
          refine S.dr_take 5 [6, 7, 8, 9, 10] rfl (by kernel_rfl) rfl rfl rfl (q_loadS [_, _, _] Try.ag76 rfl rfl ⟨rfl, rfl, rfl, trivial⟩) Sub.ent ?_
          refine S.dr_1 (i := 6) (by kernel_rfl) rfl rfl ?_
          refine  (S.buildSlice (pvs := [(_, _)]) [_, _, _] Try.underlying70 Try.inf76 rfl rfl ⟨⟨rfl, rfl⟩, trivial⟩ rfl rfl ?_)
          intro b51
          refine S.dr_k rfl Sub.ent ?_
          refine S.dr_1 (i := 7) (by kernel_rfl) rfl rfl ?_
          refine  (S.appendOw (s := ov) (1) ([.int .u32 (said + 1), u.v, .int .i64 0]) Try.underlying70 Try.inf76 rfl rfl rfl (blk_slAt (b := b51) rfl (by unfold maxLen; omega)) (by first | rfl | exact allOne_bcells _) (⟨by omega, by omega⟩) rfl ?_)
          intro ov' hov'
          refine S.dr_k rfl Sub.ent ?_
          refine S.dr_take 8 [9, 10] rfl (by kernel_rfl) rfl rfl rfl (q_nilCheck rfl) Sub.ent ?_
          refine S.dr_take 9 [10] rfl (by kernel_rfl) rfl rfl rfl (q_field Try.fo72_2 rfl) Sub.ent ?_
          refine S.dr_1 (i := 10) (by kernel_rfl) rfl rfl ?_
          refine  (S.store (cs' := [_, _, _, _, _, _, _, _, _, _]) Try.at70 rfl rfl rfl rfl rfl ?_)
          refine S.dr_late ([]) [] rfl ?_
          first | with_reducible refine S.dr_doneK (by kernel_rfl) ?_ | refine S.dr_done (by kernel_rfl) ?_
          refine hK8 _ _ ?_
          refine S.seq fun K9 hK9 => ?_
          refine S.region rfl ?_
          refine S.op (S.q (q_move rfl) rfl rfl ?_)
          refine S.op (S.q (q_loadS [_, _, _] Try.ag76 rfl rfl ⟨rfl, rfl, rfl, trivial⟩) rfl rfl ?_)
          refine S.op (S.call Try.en28 (vs := [_, _]) ⟨rfl, rfl, trivial⟩ (packet_S t nd ep lf (said + 1) hd (said + 1) 0 ov' u l (obytes u l) (fun Γ w h => obytes_at h) (by omega)) rfl ?_)
          rintro v Θ ⟨s, rfl, hsn, rfl⟩
          refine S.op (S.storeS (cs' := [_, _, _, _, _, _, _]) Try.ag34 rfl rfl rfl rfl rfl rfl ?_)
          refine S.op (S.q (q_assign rfl) rfl rfl ?_)
          first | with_reducible refine S.nilK ?_ | refine S.nil ?_
          refine hK9 _ _ ?_
          refine S.ret ?_
          with_reducible repeat (first | refine S.then_n ?_ | refine S.then_x ?_ | refine S.then_r ?_ | refine S.inBlock_n ?_ | refine S.inBlock_r ?_ | refine S.inBlock_x rfl ?_ | refine S.noGoto_r ?_ | refine S.noGoto_n ?_ | refine S.noGoto_x ?_)
          rw [show os.flatMap sltC ++ [Value.int .u32 (said + 1), u.v, .int .i64 0] = _ from flat_snoc sltC os (⟨said + 1, l, 0, u⟩ : Slt)]
          refine S.conv2 (obytes u l) (alls os sltB) (Ent.allsSnoc sltB os (⟨said + 1, l, 0, u⟩ : Slt) _) ?_
          exact S.fin (rs := [_, _]) (vs := [_, _]) Try.results15 (⟨⟨_, _, rfl, lod_agg [_, _, _, _, _, _, _] Try.ag34 rfl ⟨rfl, rfl, rfl, rfl, rfl, rfl, rfl, trivial⟩⟩, rfl, trivial⟩)  (⟨s, ov', u, rfl, hsn, rfl⟩) Sub.ent
        · refine  (S.alloc Try.z76 rfl ?_)
          intro b6
          refine S.dr_k rfl Sub.ent ?_
          refine S.dr_1 (i := 5) (by kernel_rfl) rfl rfl ?_
          refine  (S.call Try.en29 (vs := [_]) ⟨rfl, trivial⟩ (Clone_S p.v l R hR (by omega)) rfl ?_)
          rintro v Θ ⟨u, rfl, hu, rfl⟩
          refine S.dr_k rfl Sub.ent ?_
          refine S.dr_take 6 [] rfl (by kernel_rfl) rfl rfl rfl (q_build (pvs := [(_, _), (_, _), (_, _)]) [_, _, _] Try.z76 Try.p76 ⟨⟨rfl, rfl⟩, ⟨rfl, rfl⟩, ⟨rfl, rfl⟩, trivial⟩ rfl) Sub.ent ?_
          refine S.dr_1 (i := 8) (by kernel_rfl) rfl rfl ?_
          refine  (S.storeS (cs' := [_, _, _]) Try.ag76 rfl rfl rfl rfl rfl rfl ?_)
          refine S.dr_k rfl Sub.ent ?_
          first | with_reducible refine S.dr_doneK (by kernel_rfl) ?_ | refine S.dr_done (by kernel_rfl) ?_
          refine hK7 _ _ ?_
          refine S.seq fun K10 hK10 => ?_
          refine S.draw ([blk t 72 (tk nd ep lf (said + 1) hd ov).toArray, blk b6 76 #[.int .u32 (said + 1), u.v, .int .i64 0]]) [10] Try.mixed ?_
          refine S.dr_take 0 [8, 9, 10] rfl (by kernel_rfl) rfl rfl rfl (q_move rfl) Sub.ent ?_
          refine S.dr_take 1 [2, 3, 4, 7, 8, 9, 10] rfl (by kernel_rfl) rfl rfl rfl (q_move rfl) Sub.ent ?_
          refine S.dr_take 2 [3, 4, 7, 8, 9, 10] rfl (by kernel_rfl) rfl rfl rfl (q_nilCheck rfl) Sub.ent ?_
          refine S.dr_take 3 [4, 7, 8, 9, 10] rfl (by kernel_rfl) rfl rfl rfl (q_field Try.fo72_2 rfl) Sub.ent ?_
          refine S.dr_take 4 [7, 8, 9, 10] rfl (by kernel_rfl) rfl rfl rfl (q_load Try.at70 rfl rfl) Sub.ent ?_
          refine S.dr_take 5 [6, 7, 8, 9, 10] rfl (by kernel_rfl) rfl rfl rfl (q_loadS [_, _, _] Try.ag76 rfl rfl ⟨rfl, rfl, rfl, trivial⟩) Sub.ent ?_
          refine S.dr_1 (i := 6) (by kernel_rfl) rfl rfl ?_
          refine  (S.buildSlice (pvs := [(_, _)]) [_, _, _] Try.underlying70 Try.inf76 rfl rfl ⟨⟨rfl, rfl⟩, trivial⟩ rfl rfl ?_)
          intro b51
          refine S.dr_k rfl Sub.ent ?_
          refine S.dr_1 (i := 7) (by kernel_rfl) rfl rfl ?_
          refine  (S.appendOw (s := ov) (1) ([.int .u32 (said + 1), u.v, .int .i64 0]) Try.underlying70 Try.inf76 rfl rfl rfl (blk_slAt (b := b51) rfl (by unfold maxLen; omega)) (by first | rfl | exact allOne_bcells _) (⟨by omega, by omega⟩) rfl ?_)
          intro ov' hov'
          refine S.dr_k rfl Sub.ent ?_
          refine S.dr_take 8 [9, 10] rfl (by kernel_rfl) rfl rfl rfl (q_nilCheck rfl) Sub.ent ?_
          refine S.dr_take 9 [10] rfl (by kernel_rfl) rfl rfl rfl (q_field Try.fo72_2 rfl) Sub.ent ?_
          refine S.dr_1 (i := 10) (by kernel_rfl) rfl rfl ?_
          refine  (S.store (cs' := [_, _, _, _, _, _, _, _, _, _]) Try.at70 rfl rfl rfl rfl rfl ?_)
          refine S.dr_late ([]) [] rfl ?_
          first | with_reducible refine S.dr_doneK (by kernel_rfl) ?_ | refine S.dr_done (by kernel_rfl) ?_
          refine hK10 _ _ ?_
          refine S.seq fun K11 hK11 => ?_
          refine S.region rfl ?_
          refine S.op (S.q (q_move rfl) rfl rfl ?_)
          refine S.op (S.q (q_loadS [_, _, _] Try.ag76 rfl rfl ⟨rfl, rfl, rfl, trivial⟩) rfl rfl ?_)
          refine S.op (S.call Try.en28 (vs := [_, _]) ⟨rfl, rfl, trivial⟩ (packet_S t nd ep lf (said + 1) hd (said + 1) 0 ov' u l (obytes u l) (fun Γ w h => obytes_at h) (by omega)) rfl ?_)
          rintro v Θ ⟨s, rfl, hsn, rfl⟩
          refine S.op (S.storeS (cs' := [_, _, _, _, _, _, _]) Try.ag34 rfl rfl rfl rfl rfl rfl ?_)
          refine S.op (S.q (q_assign rfl) rfl rfl ?_)
          first | with_reducible refine S.nilK ?_ | refine S.nil ?_
          refine hK11 _ _ ?_
          refine S.ret ?_
          with_reducible repeat (first | refine S.then_n ?_ | refine S.then_x ?_ | refine S.then_r ?_ | refine S.inBlock_n ?_ | refine S.inBlock_r ?_ | refine S.inBlock_x rfl ?_ | refine S.noGoto_r ?_ | refine S.noGoto_n ?_ | refine S.noGoto_x ?_)
          rw [show os.flatMap sltC ++ [Value.int .u32 (said + 1), u.v, .int .i64 0] = _ from flat_snoc sltC os (⟨said + 1, l, 0, u⟩ : Slt)]
          refine S.conv2 (obytes u l) (alls os sltB) (Ent.allsSnoc sltB os (⟨said + 1, l, 0, u⟩ : Slt) _) ?_
          exact S.fin (rs := [_, _]) (vs := [_, _]) Try.results15 (⟨⟨_, _, rfl, lod_agg [_, _, _, _, _, _, _] Try.ag34 rfl ⟨rfl, rfl, rfl, rfl, rfl, rfl, rfl, trivial⟩⟩, rfl, trivial⟩)  (⟨s, ov', u, rfl, hsn, rfl⟩) Sub.ent
end Go.Proofs.Ytdlddggjjibeaaa
