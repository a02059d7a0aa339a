/- Talk: Hear. -/
import Derived.Test.YtdlddggjjibeaaaTalkB
namespace Go.Proofs.Ytdlddggjjibeaaa
open Go.RowKit
abbrev ans (a : Int) (os : List Slt) : List Slt := os.dropWhile fun x => decide (x.seq ≤ a)
theorem HearNil_S (n e l s a : Int) (pl : Bool) (dv : SV) : Spec Try.prog 12 [.pointer none, .agg (pkC n e l s a pl dv).toArray] [] fun Γ v Θ => v = .tuple #[.slice none 0 0, .bool false, .agg pk0.toArray, .bool false] ∧ Θ = Γ := by
  refine Spec.of_body Try.func12 rfl Try.ntmps12 rfl ?_
  intro w0 Γ
  show S _ w0 [(0, .pointer none), (1, .agg (pkC n e l s a pl dv).toArray)] Γ _
  refine S.seq fun K1 hK1 => ?_
  refine S.region rfl ?_
  refine S.op (S.box (cs := [_, _, _, _, _, _, _]) rfl rfl rfl ?_)
  intro b3
  refine S.op (S.q (q_assign rfl) rfl rfl ?_)
  refine S.op (S.q (q_assign rfl) rfl rfl ?_)
  refine S.op (S.alloc Try.z34 rfl ?_)
  intro b6
  refine S.op (S.q (q_assign rfl) rfl rfl ?_)
  first | with_reducible refine S.nilK ?_ | refine S.nil ?_
  refine hK1 _ _ ?_
  refine S.seq fun K2 hK2 => ?_
  refine S.seq fun K3 hK3 => ?_
  refine S.region rfl ?_
  refine S.op (S.q (q_move rfl) rfl rfl ?_)
  refine S.op (S.q (q_loadS [_, _, _, _, _, _, _] Try.ag34 rfl rfl ⟨rfl, rfl, rfl, rfl, rfl, rfl, rfl, trivial⟩) rfl rfl ?_)
  refine S.op (S.call Try.en23 (vs := [_, _]) ⟨rfl, rfl, trivial⟩ (MineNil_S n e l s a pl dv.v) rfl ?_)
  rintro v Θ ⟨rfl, rfl⟩
  refine S.op (S.q (q_not rfl) rfl rfl ?_)
  first | with_reducible refine S.nilK ?_ | refine S.nil ?_
  refine hK3 _ _ ?_
  refine S.condT rfl ?_
  refine S.seq fun K4 hK4 => ?_
  refine S.region rfl ?_
  refine S.op (S.q (q_build (pvs := []) [_, _, _, _, _, _, _] Try.z34 Try.p34 trivial rfl) rfl rfl ?_)
  refine S.op (S.q (q_assign rfl) rfl rfl ?_)
  refine S.op (S.q (q_assign rfl) rfl rfl ?_)
  refine S.op (S.storeS (cs' := [_, _, _, _, _, _, _]) Try.ag34 rfl rfl rfl rfl rfl rfl ?_)
  refine S.op (S.q (q_assign rfl) rfl rfl ?_)
  first | with_reducible refine S.nilK ?_ | refine S.nil ?_
  refine hK4 _ _ ?_
  refine S.ret ?_
  with_reducible repeat (first | refine S.then_n ?_ | refine S.then_x ?_ | refine S.then_r ?_ | refine S.inBlock_n ?_ | refine S.inBlock_r ?_ | refine S.inBlock_x rfl ?_ | refine S.noGoto_r ?_ | refine S.noGoto_n ?_ | refine S.noGoto_x ?_)
  exact S.fin (rs := [_, _, _, _]) (vs := [_, _, _, _]) Try.results12 (⟨rfl, rfl, ⟨_, _, rfl, lod_agg [_, _, _, _, _, _, _] Try.ag34 rfl ⟨rfl, rfl, rfl, rfl, rfl, rfl, rfl, trivial⟩⟩, rfl, trivial⟩)  (⟨rfl, rfl⟩) Sub.ent
theorem HearOther_S (t : Nat) (nd ep lf said hd : Int) (ov : SV) (os : List Slt) (n e l s a : Int) (pl : Bool) (dv : SV) (hm : mineB nd ep lf said n e l a pl = false) :
    Spec Try.prog 12 [.pointer (some ⟨t, 0, none⟩), .agg (pkC n e l s a pl dv).toArray] [blk t 72 (tk nd ep lf said hd ov).toArray, own ov 76 3 (os.flatMap sltC), alls os sltB] fun Γ v Θ => v = .tuple #[.slice none 0 0, .bool false, .agg pk0.toArray, .bool false] ∧ Θ = blk t 72 (tk nd ep lf said hd ov).toArray :: own ov 76 3 (os.flatMap sltC) :: alls os sltB :: Γ := by
  refine Spec.of_body Try.func12 rfl Try.ntmps12 rfl ?_
  intro w0 Γ
  show S _ w0 [(0, .pointer (some ⟨t, 0, none⟩)), (1, .agg (pkC n e l s a pl dv).toArray)] (blk t 72 (tk nd ep lf said hd ov).toArray :: own ov 76 3 (os.flatMap sltC) :: alls os sltB :: Γ) _
  refine S.seq fun K1 hK1 => ?_
  refine S.region rfl ?_
  refine S.op (S.box (cs := [_, _, _, _, _, _, _]) rfl rfl rfl ?_)
  intro b3
  refine S.op (S.q (q_assign rfl) rfl rfl ?_)
  refine S.op (S.q (q_assign rfl) rfl rfl ?_)
  refine S.op (S.alloc Try.z34 rfl ?_)
  intro b6
  refine S.op (S.q (q_assign rfl) rfl rfl ?_)
  first | with_reducible refine S.nilK ?_ | refine S.nil ?_
  refine hK1 _ _ ?_
  refine S.seq fun K2 hK2 => ?_
  refine S.seq fun K3 hK3 => ?_
  refine S.region rfl ?_
  refine S.op (S.q (q_move rfl) rfl rfl ?_)
  refine S.op (S.q (q_loadS [_, _, _, _, _, _, _] Try.ag34 rfl rfl ⟨rfl, rfl, rfl, rfl, rfl, rfl, rfl, trivial⟩) rfl rfl ?_)
  refine S.op (S.call Try.en23 (vs := [_, _]) ⟨rfl, rfl, trivial⟩ (Mine_S t nd ep lf said hd ov n e l s a pl dv.v) rfl ?_)
  rintro v Θ ⟨rfl, rfl⟩
  rw [hm]
  refine S.op (S.q (q_not rfl) rfl rfl ?_)
  first | with_reducible refine S.nilK ?_ | refine S.nil ?_
  refine hK3 _ _ ?_
  refine S.condT rfl ?_
  refine S.seq fun K4 hK4 => ?_
  refine S.region rfl ?_
  refine S.op (S.q (q_build (pvs := []) [_, _, _, _, _, _, _] Try.z34 Try.p34 trivial rfl) rfl rfl ?_)
  refine S.op (S.q (q_assign rfl) rfl rfl ?_)
  refine S.op (S.q (q_assign rfl) rfl rfl ?_)
  refine S.op (S.storeS (cs' := [_, _, _, _, _, _, _]) Try.ag34 rfl rfl rfl rfl rfl rfl ?_)
  refine S.op (S.q (q_assign rfl) rfl rfl ?_)
  first | with_reducible refine S.nilK ?_ | refine S.nil ?_
  refine hK4 _ _ ?_
  refine S.ret ?_
  with_reducible repeat (first | refine S.then_n ?_ | refine S.then_x ?_ | refine S.then_r ?_ | refine S.inBlock_n ?_ | refine S.inBlock_r ?_ | refine S.inBlock_x rfl ?_ | refine S.noGoto_r ?_ | refine S.noGoto_n ?_ | refine S.noGoto_x ?_)
  exact S.fin (rs := [_, _, _, _]) (vs := [_, _, _, _]) Try.results12 (⟨rfl, rfl, ⟨_, _, rfl, lod_agg [_, _, _, _, _, _, _] Try.ag34 rfl ⟨rfl, rfl, rfl, rfl, rfl, rfl, rfl, trivial⟩⟩, rfl, trivial⟩)  (⟨rfl, rfl⟩) Sub.ent
theorem HearZero_S (t : Nat) (nd ep lf said hd : Int) (ov : SV) (os : List Slt) (n e l s a : Int) (pl : Bool) (dv : SV) (hm : mineB nd ep lf said n e l a pl = true) (hs : s = 0) :
    Spec Try.prog 12 [.pointer (some ⟨t, 0, none⟩), .agg (pkC n e l s a pl dv).toArray] [blk t 72 (tk nd ep lf said hd ov).toArray, own ov 76 3 (os.flatMap sltC), alls os sltB] fun Γ v Θ => ∃ ov', v = .tuple #[.slice none 0 0, .bool false, .agg pk0.toArray, .bool false] ∧ Θ = blk t 72 (tk nd ep lf said hd ov').toArray :: own ov' 76 3 ((ans a os).flatMap sltC) :: alls (ans a os) sltB :: Γ := by
  refine Spec.of_body Try.func12 rfl Try.ntmps12 rfl ?_
  intro w0 Γ
  show S _ w0 [(0, .pointer (some ⟨t, 0, none⟩)), (1, .agg (pkC n e l s a pl dv).toArray)] (blk t 72 (tk nd ep lf said hd ov).toArray :: own ov 76 3 (os.flatMap sltC) :: alls os sltB :: Γ) _
  refine S.seq fun K1 hK1 => ?_
  refine S.region rfl ?_
  refine S.op (S.box (cs := [_, _, _, _, _, _, _]) rfl rfl rfl ?_)
  intro b3
  refine S.op (S.q (q_assign rfl) rfl rfl ?_)
  refine S.op (S.q (q_assign rfl) rfl rfl ?_)
  refine S.op (S.alloc Try.z34 rfl ?_)
  intro b6
  refine S.op (S.q (q_assign rfl) rfl rfl ?_)
  first | with_reducible refine S.nilK ?_ | refine S.nil ?_
  refine hK1 _ _ ?_
  refine S.seq fun K2 hK2 => ?_
  refine S.seq fun K3 hK3 => ?_
  refine S.region rfl ?_
  refine S.op (S.q (q_move rfl) rfl rfl ?_)
  refine S.op (S.q (q_loadS [_, _, _, _, _, _, _] Try.ag34 rfl rfl ⟨rfl, rfl, rfl, rfl, rfl, rfl, rfl, trivial⟩) rfl rfl ?_)
  refine S.op (S.call Try.en23 (vs := [_, _]) ⟨rfl, rfl, trivial⟩ (Mine_S t nd ep lf said hd ov n e l s a pl dv.v) rfl ?_)
  rintro v Θ ⟨rfl, rfl⟩
  rw [hm]
  refine S.op (S.q (q_not rfl) rfl rfl ?_)
  first | with_reducible refine S.nilK ?_ | refine S.nil ?_
  refine hK3 _ _ ?_
  refine S.condF rfl ?_
  refine S.skip ?_
  with_reducible repeat (first | refine S.then_n ?_ | refine S.then_x ?_ | refine S.then_r ?_ | refine S.inBlock_n ?_ | refine S.inBlock_r ?_ | refine S.inBlock_x rfl ?_ | refine S.noGoto_r ?_ | refine S.noGoto_n ?_ | refine S.noGoto_x ?_)
  refine hK2 _ _ ?_
  refine S.seq fun K4 hK4 => ?_
  refine S.region rfl ?_
  refine S.op (S.q (q_move rfl) rfl rfl ?_)
  refine S.op (S.q (q_field Try.fo34_4 rfl) rfl rfl ?_)
  refine S.op (S.q (q_load Try.at26 rfl rfl) rfl rfl ?_)
  refine S.op (S.call Try.en27 (vs := [_, _]) ⟨rfl, rfl, trivial⟩ (answered_S t nd ep lf said hd ov os a) rfl ?_)
  rintro v Θ ⟨ov', rfl, rfl⟩
  first | with_reducible refine S.nilK ?_ | refine S.nil ?_
  refine hK4 _ _ ?_
  refine S.seq fun K5 hK5 => ?_
  refine S.seq fun K6 hK6 => ?_
  refine S.region rfl ?_
  refine S.op (S.q (q_field Try.fo34_3 rfl) rfl rfl ?_)
  refine S.op (S.q (q_load Try.at26 rfl rfl) rfl rfl ?_)
  refine S.op (S.q (q_eq rfl rfl) rfl rfl ?_)
  first | with_reducible refine S.nilK ?_ | refine S.nil ?_
  refine hK6 _ _ ?_
  refine S.condD rfl (fun h2 => ?_) (fun h2 => ?_)
  · refine S.seq fun K7 hK7 => ?_
    refine S.region rfl ?_
    refine S.op (S.q (q_build (pvs := []) [_, _, _, _, _, _, _] Try.z34 Try.p34 trivial rfl) rfl rfl ?_)
    refine S.op (S.q (q_assign rfl) rfl rfl ?_)
    refine S.op (S.q (q_assign rfl) rfl rfl ?_)
    refine S.op (S.storeS (cs' := [_, _, _, _, _, _, _]) Try.ag34 rfl rfl rfl rfl rfl rfl ?_)
    refine S.op (S.q (q_assign rfl) rfl rfl ?_)
    first | with_reducible refine S.nilK ?_ | refine S.nil ?_
    refine hK7 _ _ ?_
    refine S.ret ?_
    with_reducible repeat (first | refine S.then_n ?_ | refine S.then_x ?_ | refine S.then_r ?_ | refine S.inBlock_n ?_ | refine S.inBlock_r ?_ | refine S.inBlock_x rfl ?_ | refine S.noGoto_r ?_ | refine S.noGoto_n ?_ | refine S.noGoto_x ?_)
    exact S.fin (rs := [_, _, _, _]) (vs := [_, _, _, _]) Try.results12 (⟨rfl, rfl, ⟨_, _, rfl, lod_agg [_, _, _, _, _, _, _] Try.ag34 rfl ⟨rfl, rfl, rfl, rfl, rfl, rfl, rfl, trivial⟩⟩, rfl, trivial⟩)  (⟨ov', rfl, rfl⟩) Sub.ent
  · exact absurd hs h2
theorem HearOld_S (t : Nat) (nd ep lf said hd : Int) (ov : SV) (os : List Slt) (n e l s a : Int) (pl : Bool) (dv : SV) (hm : mineB nd ep lf said n e l a pl = true) (hs : s ≠ 0) (ho : hd = 4294967295 ∨ s ≠ hd + 1) (hh : 0 ≤ hd ∧ hd ≤ 4294967295) :
    Spec Try.prog 12 [.pointer (some ⟨t, 0, none⟩), .agg (pkC n e l s a pl dv).toArray] [blk t 72 (tk nd ep lf said hd ov).toArray, own ov 76 3 (os.flatMap sltC), alls os sltB] fun Γ v Θ => ∃ ov' u, v = .tuple #[.slice none 0 0, .bool false, .agg (pkC nd ep lf 0 hd false u).toArray, .bool true] ∧ u.n = 0 ∧ Θ = obytes u [] :: blk t 72 (tk nd ep lf said hd ov').toArray :: own ov' 76 3 ((ans a os).flatMap sltC) :: alls (ans a os) sltB :: Γ := by
  refine Spec.of_body Try.func12 rfl Try.ntmps12 rfl ?_
  intro w0 Γ
  show S _ w0 [(0, .pointer (some ⟨t, 0, none⟩)), (1, .agg (pkC n e l s a pl dv).toArray)] (blk t 72 (tk nd ep lf said hd ov).toArray :: own ov 76 3 (os.flatMap sltC) :: alls os sltB :: Γ) _
  refine S.seq fun K1 hK1 => ?_
  refine S.region rfl ?_
  refine S.op (S.box (cs := [_, _, _, _, _, _, _]) rfl rfl rfl ?_)
  intro b3
  refine S.op (S.q (q_assign rfl) rfl rfl ?_)
  refine S.op (S.q (q_assign rfl) rfl rfl ?_)
  refine S.op (S.alloc Try.z34 rfl ?_)
  intro b6
  refine S.op (S.q (q_assign rfl) rfl rfl ?_)
  first | with_reducible refine S.nilK ?_ | refine S.nil ?_
  refine hK1 _ _ ?_
  refine S.seq fun K2 hK2 => ?_
  refine S.seq fun K3 hK3 => ?_
  refine S.region rfl ?_
  refine S.op (S.q (q_move rfl) rfl rfl ?_)
  refine S.op (S.q (q_loadS [_, _, _, _, _, _, _] Try.ag34 rfl rfl ⟨rfl, rfl, rfl, rfl, rfl, rfl, rfl, trivial⟩) rfl rfl ?_)
  refine S.op (S.call Try.en23 (vs := [_, _]) ⟨rfl, rfl, trivial⟩ (Mine_S t nd ep lf said hd ov n e l s a pl dv.v) rfl ?_)
  rintro v Θ ⟨rfl, rfl⟩
  rw [hm]
  refine S.op (S.q (q_not rfl) rfl rfl ?_)
  first | with_reducible refine S.nilK ?_ | refine S.nil ?_
  refine hK3 _ _ ?_
  refine S.condF rfl ?_
  refine S.skip ?_
  with_reducible repeat (first | refine S.then_n ?_ | refine S.then_x ?_ | refine S.then_r ?_ | refine S.inBlock_n ?_ | refine S.inBlock_r ?_ | refine S.inBlock_x rfl ?_ | refine S.noGoto_r ?_ | refine S.noGoto_n ?_ | refine S.noGoto_x ?_)
  refine hK2 _ _ ?_
  refine S.seq fun K4 hK4 => ?_
  refine S.region rfl ?_
  refine S.op (S.q (q_move rfl) rfl rfl ?_)
  refine S.op (S.q (q_field Try.fo34_4 rfl) rfl rfl ?_)
  refine S.op (S.q (q_load Try.at26 rfl rfl) rfl rfl ?_)
  refine S.op (S.call Try.en27 (vs := [_, _]) ⟨rfl, rfl, trivial⟩ (answered_S t nd ep lf said hd ov os a) rfl ?_)
  rintro v Θ ⟨ov', rfl, rfl⟩
  first | with_reducible refine S.nilK ?_ | refine S.nil ?_
  refine hK4 _ _ ?_
  refine S.seq fun K5 hK5 => ?_
  refine S.seq fun K6 hK6 => ?_
  refine S.region rfl ?_
  refine S.op (S.q (q_field Try.fo34_3 rfl) rfl rfl ?_)
  refine S.op (S.q (q_load Try.at26 rfl rfl) rfl rfl ?_)
  refine S.op (S.q (q_eq rfl rfl) rfl rfl ?_)
  first | with_reducible refine S.nilK ?_ | refine S.nil ?_
  refine hK6 _ _ ?_
  refine S.condD rfl (fun h2 => ?_) (fun h2 => ?_)
  · exact absurd h2 hs
  · refine S.skip ?_
    with_reducible repeat (first | refine S.then_n ?_ | refine S.then_x ?_ | refine S.then_r ?_ | refine S.inBlock_n ?_ | refine S.inBlock_r ?_ | refine S.inBlock_x rfl ?_ | refine S.noGoto_r ?_ | refine S.noGoto_n ?_ | refine S.noGoto_x ?_)
    refine hK5 _ _ ?_
    refine S.seq fun K7 hK7 => ?_
    refine S.seq fun K8 hK8 => ?_
    refine S.draw ([blk t 72 (tk nd ep lf said hd ov').toArray, blk b3 34 (pkC n e l s a pl dv).toArray]) [] Try.mixed ?_
    refine S.dr_take 0 [] rfl (by kernel_rfl) rfl rfl rfl (q_move rfl) Sub.ent ?_
    refine S.dr_take 1 [] rfl (by kernel_rfl) rfl rfl rfl (q_nilCheck rfl) Sub.ent ?_
    refine S.dr_take 2 [] rfl (by kernel_rfl) rfl rfl rfl (q_field Try.fo72_3 rfl) Sub.ent ?_
    refine S.dr_take 3 [] rfl (by kernel_rfl) rfl rfl rfl (q_load Try.at26 rfl rfl) Sub.ent ?_
    refine S.dr_take 4 [] rfl (by kernel_rfl) rfl rfl rfl (q_eq rfl rfl) Sub.ent ?_
    refine S.dr_take 5 [] rfl (by kernel_rfl) rfl rfl rfl (q_move rfl) Sub.ent ?_
    by_cases hg6_5 : hd = 4294967295
    · refine S.dr_takeN 6 [] rfl (by kernel_rfl) rfl rfl rfl (decide_eq_true hg6_5) rfl rfl Sub.ent ?_
      refine S.dr_takeN 7 [] rfl (by kernel_rfl) rfl rfl rfl (decide_eq_true hg6_5) rfl rfl Sub.ent ?_
      refine S.dr_takeN 8 [] rfl (by kernel_rfl) rfl rfl rfl (decide_eq_true hg6_5) rfl rfl Sub.ent ?_
      refine S.dr_takeN 9 [] rfl (by kernel_rfl) rfl rfl rfl (decide_eq_true hg6_5) rfl rfl Sub.ent ?_
      refine S.dr_takeN 10 [] rfl (by kernel_rfl) rfl rfl rfl (decide_eq_true hg6_5) rfl rfl Sub.ent ?_
      refine S.dr_takeN 11 [] rfl (by kernel_rfl) rfl rfl rfl (decide_eq_true hg6_5) rfl rfl Sub.ent ?_
      refine S.dr_takeN 12 [] rfl (by kernel_rfl) rfl rfl rfl (decide_eq_true hg6_5) rfl rfl Sub.ent ?_
      refine S.dr_takeN 13 [] rfl (by kernel_rfl) rfl rfl rfl (decide_eq_true hg6_5) rfl rfl Sub.ent ?_
      refine S.dr_take 14 [] rfl (by kernel_rfl) rfl rfl rfl (q_pickT rfl (decide_eq_true hg6_5) rfl) Sub.ent ?_
      first | with_reducible refine S.dr_doneK (by kernel_rfl) ?_ | refine S.dr_done (by kernel_rfl) ?_
      refine hK8 _ _ ?_
      refine S.condT rfl ?_
      refine S.seq fun K9 hK9 => ?_
      refine S.region rfl ?_
      refine S.op (S.q (q_move rfl) rfl rfl ?_)
      refine S.op (S.q (q_build (pvs := []) [_, _, _] Try.z76 Try.p76 trivial rfl) rfl rfl ?_)
      refine S.addTrue ?_
      refine S.op (S.call Try.en28 (vs := [_, _]) ⟨rfl, rfl, trivial⟩ (packet_S t nd ep lf said hd 0 0 ov' SV.nil [] (fun _ => True) (fun _ _ _ => SlAt.nil _ _) (by simp)) rfl ?_)
      rintro v Θ ⟨u, rfl, hu, rfl⟩
      refine S.op (S.q (q_assign rfl) rfl rfl ?_)
      refine S.op (S.q (q_assign rfl) rfl rfl ?_)
      refine S.op (S.storeS (cs' := [_, _, _, _, _, _, _]) Try.ag34 rfl rfl rfl rfl rfl rfl ?_)
      refine S.op (S.q (q_assign rfl) rfl rfl ?_)
      first | with_reducible refine S.nilK ?_ | refine S.nil ?_
      refine hK9 _ _ ?_
      refine S.ret ?_
      with_reducible repeat (first | refine S.then_n ?_ | refine S.then_x ?_ | refine S.then_r ?_ | refine S.inBlock_n ?_ | refine S.inBlock_r ?_ | refine S.inBlock_x rfl ?_ | refine S.noGoto_r ?_ | refine S.noGoto_n ?_ | refine S.noGoto_x ?_)
      exact S.fin (rs := [_, _, _, _]) (vs := [_, _, _, _]) Try.results12 (⟨rfl, rfl, ⟨_, _, rfl, lod_agg [_, _, _, _, _, _, _] Try.ag34 rfl ⟨rfl, rfl, rfl, rfl, rfl, rfl, rfl, trivial⟩⟩, rfl, trivial⟩)  (⟨ov', u, rfl, hu, rfl⟩) Sub.ent
    · refine S.dr_takeY 6 [] rfl (by kernel_rfl) rfl rfl rfl (decide_eq_false hg6_5) rfl rfl (q_field Try.fo34_3 rfl) Sub.ent ?_
      refine S.dr_takeY 7 [] rfl (by kernel_rfl) rfl rfl rfl (decide_eq_false hg6_5) rfl rfl (q_load Try.at26 rfl rfl) Sub.ent ?_
      refine S.dr_takeY 8 [] rfl (by kernel_rfl) rfl rfl rfl (decide_eq_false hg6_5) rfl rfl (q_move rfl) Sub.ent ?_
      refine S.dr_takeY 9 [] rfl (by kernel_rfl) rfl rfl rfl (decide_eq_false hg6_5) rfl rfl (q_nilCheck rfl) Sub.ent ?_
      refine S.dr_takeY 10 [] rfl (by kernel_rfl) rfl rfl rfl (decide_eq_false hg6_5) rfl rfl (q_field Try.fo72_3 rfl) Sub.ent ?_
      refine S.dr_takeY 11 [] rfl (by kernel_rfl) rfl rfl rfl (decide_eq_false hg6_5) rfl rfl (q_load Try.at26 rfl rfl) Sub.ent ?_
      refine S.dr_takeY 12 [] rfl (by kernel_rfl) rfl rfl rfl (decide_eq_false hg6_5) rfl rfl (q_add rfl rfl (inU32 (by omega) (by omega))) Sub.ent ?_
      refine S.dr_takeY 13 [] rfl (by kernel_rfl) rfl rfl rfl (decide_eq_false hg6_5) rfl rfl (q_ne rfl rfl) Sub.ent ?_
      refine S.dr_take 14 [] rfl (by kernel_rfl) rfl rfl rfl (q_pickF rfl (decide_eq_false hg6_5) rfl) Sub.ent ?_
      first | with_reducible refine S.dr_doneK (by kernel_rfl) ?_ | refine S.dr_done (by kernel_rfl) ?_
      refine hK8 _ _ ?_
      refine S.condD rfl (fun h3 => ?_) (fun h3 => ?_)
      · refine S.seq fun K10 hK10 => ?_
        refine S.region rfl ?_
        refine S.op (S.q (q_move rfl) rfl rfl ?_)
        refine S.op (S.q (q_build (pvs := []) [_, _, _] Try.z76 Try.p76 trivial rfl) rfl rfl ?_)
        refine S.addTrue ?_
        refine S.op (S.call Try.en28 (vs := [_, _]) ⟨rfl, rfl, trivial⟩ (packet_S t nd ep lf said hd 0 0 ov' SV.nil [] (fun _ => True) (fun _ _ _ => SlAt.nil _ _) (by simp)) rfl ?_)
        rintro v Θ ⟨u, rfl, hu, rfl⟩
        refine S.op (S.q (q_assign rfl) rfl rfl ?_)
        refine S.op (S.q (q_assign rfl) rfl rfl ?_)
        refine S.op (S.storeS (cs' := [_, _, _, _, _, _, _]) Try.ag34 rfl rfl rfl rfl rfl rfl ?_)
        refine S.op (S.q (q_assign rfl) rfl rfl ?_)
        first | with_reducible refine S.nilK ?_ | refine S.nil ?_
        refine hK10 _ _ ?_
        refine S.ret ?_
        with_reducible repeat (first | refine S.then_n ?_ | refine S.then_x ?_ | refine S.then_r ?_ | refine S.inBlock_n ?_ | refine S.inBlock_r ?_ | refine S.inBlock_x rfl ?_ | refine S.noGoto_r ?_ | refine S.noGoto_n ?_ | refine S.noGoto_x ?_)
        exact S.fin (rs := [_, _, _, _]) (vs := [_, _, _, _]) Try.results12 (⟨rfl, rfl, ⟨_, _, rfl, lod_agg [_, _, _, _, _, _, _] Try.ag34 rfl ⟨rfl, rfl, rfl, rfl, rfl, rfl, rfl, trivial⟩⟩, rfl, trivial⟩)  (⟨ov', u, rfl, hu, rfl⟩) Sub.ent
      · exact absurd (ho.resolve_left hg6_5) h3
theorem HearNew_S (t : Nat) (nd ep lf said hd : Int) (ov : SV) (os : List Slt) (n e l s a : Int) (pl : Bool) (dv : SV) (ld : List Int) (R : Assn) (hR : ∀ Γ w, Sat w (R :: Γ) → BytesAt w dv.v ld) (hld : ld.length ≤ 140737488355328) (hm : mineB nd ep lf said n e l a pl = true) (hh : 0 ≤ hd ∧ hd < 4294967295) (hs : s = hd + 1) :
    Spec Try.prog 12 [.pointer (some ⟨t, 0, none⟩), .agg (pkC n e l s a pl dv).toArray] [blk t 72 (tk nd ep lf said hd ov).toArray, own ov 76 3 (os.flatMap sltC), alls os sltB, R] fun Γ v Θ => ∃ ov' u g, v = .tuple #[g.v, .bool true, .agg (pkC nd ep lf 0 (hd + 1) false u).toArray, .bool true] ∧ u.n = 0 ∧ g.n = ld.length ∧ Θ = obytes g ld :: obytes u [] :: blk t 72 (tk nd ep lf said (hd + 1) ov').toArray :: own ov' 76 3 ((ans a os).flatMap sltC) :: alls (ans a os) sltB :: R :: Γ := by
  refine Spec.of_body Try.func12 rfl Try.ntmps12 rfl ?_
  intro w0 Γ
  show S _ w0 [(0, .pointer (some ⟨t, 0, none⟩)), (1, .agg (pkC n e l s a pl dv).toArray)] (blk t 72 (tk nd ep lf said hd ov).toArray :: own ov 76 3 (os.flatMap sltC) :: alls os sltB :: R :: Γ) _
  refine S.seq fun K1 hK1 => ?_
  refine S.region rfl ?_
  refine S.op (S.box (cs := [_, _, _, _, _, _, _]) rfl rfl rfl ?_)
  intro b3
  refine S.op (S.q (q_assign rfl) rfl rfl ?_)
  refine S.op (S.q (q_assign rfl) rfl rfl ?_)
  refine S.op (S.alloc Try.z34 rfl ?_)
  intro b6
  refine S.op (S.q (q_assign rfl) rfl rfl ?_)
  first | with_reducible refine S.nilK ?_ | refine S.nil ?_
  refine hK1 _ _ ?_
  refine S.seq fun K2 hK2 => ?_
  refine S.seq fun K3 hK3 => ?_
  refine S.region rfl ?_
  refine S.op (S.q (q_move rfl) rfl rfl ?_)
  refine S.op (S.q (q_loadS [_, _, _, _, _, _, _] Try.ag34 rfl rfl ⟨rfl, rfl, rfl, rfl, rfl, rfl, rfl, trivial⟩) rfl rfl ?_)
  refine S.op (S.call Try.en23 (vs := [_, _]) ⟨rfl, rfl, trivial⟩ (Mine_S t nd ep lf said hd ov n e l s a pl dv.v) rfl ?_)
  rintro v Θ ⟨rfl, rfl⟩
  rw [hm]
  refine S.op (S.q (q_not rfl) rfl rfl ?_)
  first | with_reducible refine S.nilK ?_ | refine S.nil ?_
  refine hK3 _ _ ?_
  refine S.condF rfl ?_
  refine S.skip ?_
  with_reducible repeat (first | refine S.then_n ?_ | refine S.then_x ?_ | refine S.then_r ?_ | refine S.inBlock_n ?_ | refine S.inBlock_r ?_ | refine S.inBlock_x rfl ?_ | refine S.noGoto_r ?_ | refine S.noGoto_n ?_ | refine S.noGoto_x ?_)
  refine hK2 _ _ ?_
  refine S.seq fun K4 hK4 => ?_
  refine S.region rfl ?_
  refine S.op (S.q (q_move rfl) rfl rfl ?_)
  refine S.op (S.q (q_field Try.fo34_4 rfl) rfl rfl ?_)
  refine S.op (S.q (q_load Try.at26 rfl rfl) rfl rfl ?_)
  refine S.op (S.call Try.en27 (vs := [_, _]) ⟨rfl, rfl, trivial⟩ (answered_S t nd ep lf said hd ov os a) rfl ?_)
  rintro v Θ ⟨ov', rfl, rfl⟩
  first | with_reducible refine S.nilK ?_ | refine S.nil ?_
  refine hK4 _ _ ?_
  refine S.seq fun K5 hK5 => ?_
  refine S.seq fun K6 hK6 => ?_
  refine S.region rfl ?_
  refine S.op (S.q (q_field Try.fo34_3 rfl) rfl rfl ?_)
  refine S.op (S.q (q_load Try.at26 rfl rfl) rfl rfl ?_)
  refine S.op (S.q (q_eq rfl rfl) rfl rfl ?_)
  first | with_reducible refine S.nilK ?_ | refine S.nil ?_
  refine hK6 _ _ ?_
  refine S.condD rfl (fun h2 => ?_) (fun h2 => ?_)
  · exact absurd h2 (by omega)
  · refine S.skip ?_
    with_reducible repeat (first | refine S.then_n ?_ | refine S.then_x ?_ | refine S.then_r ?_ | refine S.inBlock_n ?_ | refine S.inBlock_r ?_ | refine S.inBlock_x rfl ?_ | refine S.noGoto_r ?_ | refine S.noGoto_n ?_ | refine S.noGoto_x ?_)
    refine hK5 _ _ ?_
    refine S.seq fun K7 hK7 => ?_
    refine S.seq fun K8 hK8 => ?_
    refine S.draw ([blk t 72 (tk nd ep lf said hd ov').toArray, blk b3 34 (pkC n e l s a pl dv).toArray]) [] Try.mixed ?_
    refine S.dr_take 0 [] rfl (by kernel_rfl) rfl rfl rfl (q_move rfl) Sub.ent ?_
    refine S.dr_take 1 [] rfl (by kernel_rfl) rfl rfl rfl (q_nilCheck rfl) Sub.ent ?_
    refine S.dr_take 2 [] rfl (by kernel_rfl) rfl rfl rfl (q_field Try.fo72_3 rfl) Sub.ent ?_
    refine S.dr_take 3 [] rfl (by kernel_rfl) rfl rfl rfl (q_load Try.at26 rfl rfl) Sub.ent ?_
    refine S.dr_take 4 [] rfl (by kernel_rfl) rfl rfl rfl (q_eq rfl rfl) Sub.ent ?_
    refine S.dr_take 5 [] rfl (by kernel_rfl) rfl rfl rfl (q_move rfl) Sub.ent ?_
    by_cases hg6_5 : hd = 4294967295
    · exact absurd hg6_5 (by omega)
    · refine S.dr_takeY 6 [] rfl (by kernel_rfl) rfl rfl rfl (decide_eq_false hg6_5) rfl rfl (q_field Try.fo34_3 rfl) Sub.ent ?_
      refine S.dr_takeY 7 [] rfl (by kernel_rfl) rfl rfl rfl (decide_eq_false hg6_5) rfl rfl (q_load Try.at26 rfl rfl) Sub.ent ?_
      refine S.dr_takeY 8 [] rfl (by kernel_rfl) rfl rfl rfl (decide_eq_false hg6_5) rfl rfl (q_move rfl) Sub.ent ?_
      refine S.dr_takeY 9 [] rfl (by kernel_rfl) rfl rfl rfl (decide_eq_false hg6_5) rfl rfl (q_nilCheck rfl) Sub.ent ?_
      refine S.dr_takeY 10 [] rfl (by kernel_rfl) rfl rfl rfl (decide_eq_false hg6_5) rfl rfl (q_field Try.fo72_3 rfl) Sub.ent ?_
      refine S.dr_takeY 11 [] rfl (by kernel_rfl) rfl rfl rfl (decide_eq_false hg6_5) rfl rfl (q_load Try.at26 rfl rfl) Sub.ent ?_
      refine S.dr_takeY 12 [] rfl (by kernel_rfl) rfl rfl rfl (decide_eq_false hg6_5) rfl rfl (q_add rfl rfl (inU32 (by omega) (by omega))) Sub.ent ?_
      refine S.dr_takeY 13 [] rfl (by kernel_rfl) rfl rfl rfl (decide_eq_false hg6_5) rfl rfl (q_ne rfl rfl) Sub.ent ?_
      refine S.dr_take 14 [] rfl (by kernel_rfl) rfl rfl rfl (q_pickF rfl (decide_eq_false hg6_5) rfl) Sub.ent ?_
      first | with_reducible refine S.dr_doneK (by kernel_rfl) ?_ | refine S.dr_done (by kernel_rfl) ?_
      refine hK8 _ _ ?_
      refine S.condD rfl (fun h3 => ?_) (fun h3 => ?_)
      · exact absurd hs h3
      · refine S.skip ?_
        with_reducible repeat (first | refine S.then_n ?_ | refine S.then_x ?_ | refine S.then_r ?_ | refine S.inBlock_n ?_ | refine S.inBlock_r ?_ | refine S.inBlock_x rfl ?_ | refine S.noGoto_r ?_ | refine S.noGoto_n ?_ | refine S.noGoto_x ?_)
        refine hK7 _ _ ?_
        refine S.seq fun K9 hK9 => ?_
        refine S.region rfl ?_
        refine S.op (S.q (q_move rfl) rfl rfl ?_)
        refine S.op (S.q (q_nilCheck rfl) rfl rfl ?_)
        refine S.op (S.q (q_field Try.fo72_3 rfl) rfl rfl ?_)
        refine S.op (S.q (q_load Try.at26 rfl rfl) rfl rfl ?_)
        refine S.op (S.q (q_add rfl rfl (inU32 (by omega) (by omega))) rfl rfl ?_)
        refine S.op (S.q (q_nilCheck rfl) rfl rfl ?_)
        refine S.op (S.q (q_field Try.fo72_3 rfl) rfl rfl ?_)
        refine S.op (S.store (cs' := [_, _, _, _, _, _, _, _, _, _]) Try.at26 rfl rfl rfl rfl rfl ?_)
        first | with_reducible refine S.nilK ?_ | refine S.nil ?_
        refine hK9 _ _ ?_
        refine S.seq fun K10 hK10 => ?_
        refine S.region rfl ?_
        refine S.op (S.q (q_field Try.fo34_6 rfl) rfl rfl ?_)
        refine S.op (S.q (q_load Try.at32 rfl rfl) rfl rfl ?_)
        refine S.op (S.call Try.en29 (vs := [_]) ⟨rfl, trivial⟩ (Clone_S dv.v ld R hR hld) rfl ?_)
        rintro v Θ ⟨g, rfl, hg, rfl⟩
        refine S.op (S.q (q_move rfl) rfl rfl ?_)
        refine S.op (S.q (q_build (pvs := []) [_, _, _] Try.z76 Try.p76 trivial rfl) rfl rfl ?_)
        refine S.addTrue ?_
        refine S.op (S.call Try.en28 (vs := [_, _]) ⟨rfl, rfl, trivial⟩ (packet_S t nd ep lf said (hd + 1) 0 0 ov' SV.nil [] (fun _ => True) (fun _ _ _ => SlAt.nil _ _) (by simp)) rfl ?_)
        rintro v Θ ⟨u, rfl, hu, rfl⟩
        refine S.op (S.q (q_assign rfl) rfl rfl ?_)
        refine S.op (S.q (q_assign rfl) rfl rfl ?_)
        refine S.op (S.storeS (cs' := [_, _, _, _, _, _, _]) Try.ag34 rfl rfl rfl rfl rfl rfl ?_)
        refine S.op (S.q (q_assign rfl) rfl rfl ?_)
        first | with_reducible refine S.nilK ?_ | refine S.nil ?_
        refine hK10 _ _ ?_
        refine S.ret ?_
        with_reducible repeat (first | refine S.then_n ?_ | refine S.then_x ?_ | refine S.then_r ?_ | refine S.inBlock_n ?_ | refine S.inBlock_r ?_ | refine S.inBlock_x rfl ?_ | refine S.noGoto_r ?_ | refine S.noGoto_n ?_ | refine S.noGoto_x ?_)
        exact S.fin (rs := [_, _, _, _]) (vs := [_, _, _, _]) Try.results12 (⟨rfl, rfl, ⟨_, _, rfl, lod_agg [_, _, _, _, _, _, _] Try.ag34 rfl ⟨rfl, rfl, rfl, rfl, rfl, rfl, rfl, trivial⟩⟩, rfl, trivial⟩)  (⟨ov', u, g, rfl, hu, hg, rfl⟩) Sub.ent
end Go.Proofs.Ytdlddggjjibeaaa
