/- The matrix: Of, Free, Size, Remove, Next. -/
import Derived.Test.YtbhnbnecaejjiaaDoorMatA
namespace Go.Proofs.YtbhnbnecaejjiaaDoor
open Go.RowKit
set_option maxRecDepth 20000
def ofR (m : Mx) (j : Nat) : Int × List Nat × Bool := match look m.js j with
  | some x => ((x.row : Int), lst x.ns, true)
  | none => (0, [], false)
theorem ofR_some {m : Mx} {j : Nat} {x : Jb} (h : look m.js j = some x) : ofR m j = ((x.row : Int), lst x.ns, true) := by simp only [ofR, h]
theorem ofR_none {m : Mx} {j : Nat} (h : look m.js j = none) : ofR m j = (0, [], false) := by simp only [ofR, h]
theorem Of_S (b : Nat) (m : Mx) (j : Nat) {W : World} (hW : TabW W) : Spec Tryd.prog 27 [.pointer (some ⟨b, 0, none⟩), .int .u32 (j : Int)] [MI b m, old W] fun Γ v Θ => ∃ sv : SV, v = .tuple #[.int .i64 (ofR m j).1, sv.v, .bool (ofR m j).2.2] ∧ sv.n = (ofR m j).2.1.length ∧
    Θ = own sv 3 1 (nds (ofR m j).2.1) :: MI b m :: old W :: Γ := by
  refine Spec.of_body Tryd.func27 rfl Tryd.ntmps27 rfl ?_
  intro w0 Γ
  show S _ w0 [(0, .pointer (some ⟨b, 0, none⟩)), (1, .int .u32 (j : Int))] (MI b m :: old W :: Γ) _
  refine S.seq fun K1 hK1 => ?_
  refine S.region rfl ?_
  refine S.op (S.q (q_assign rfl) rfl rfl ?_)
  refine S.op (S.q (q_assign rfl) rfl rfl ?_)
  refine S.op (S.q (q_assign rfl) rfl rfl ?_)
  first | with_reducible refine S.nilK ?_ | refine S.nil ?_
  refine hK1 _ _ ?_
  refine S.seq fun K2 hK2 => ?_
  refine S.seq fun K3 hK3 => ?_
  refine S.regionG ?_
  refine S.g_op rfl (S.q (q_move rfl) rfl rfl ?_)
  refine S.g_op rfl (S.q (q_eqN Tryd.underlying24 rfl rfl) rfl rfl ?_)
  refine S.g_op rfl (S.q (q_move rfl) rfl rfl ?_)
  refine S.g_yes rfl rfl rfl (rfl) (S.q (q_move rfl) rfl rfl ?_)
  refine S.g_yes rfl rfl rfl (rfl) (S.q (q_move rfl) rfl rfl ?_)
  refine S.g_yes rfl rfl rfl (rfl) (S.call Tryd.en59 (vs := [_, _]) ⟨rfl, rfl, trivial⟩ (stands_S b m j) rfl ?_)
  rintro v Θ ⟨rfl, rfl⟩
  refine S.g_yes rfl rfl rfl (rfl) (S.q (q_not rfl) rfl rfl ?_)
  refine S.g_op rfl (S.q (q_pickF rfl (rfl) rfl) rfl rfl ?_)
  first | with_reducible refine S.g_nilK ?_ | refine S.g_nil ?_
  refine hK3 _ _ ?_
  refine S.cond rfl (fun h1 => ?_) (fun h1 => ?_)
  · have hn : look m.js j = none := by cases h : look m.js j with | none => rfl | some x => rw [h] at h1; cases h1
    refine S.seq fun K4 hK4 => ?_
    refine S.region rfl ?_
    refine S.op (S.q (q_assign rfl) rfl rfl ?_)
    refine S.op (S.q (q_assign rfl) rfl rfl ?_)
    refine S.op (S.q (q_assign rfl) rfl rfl ?_)
    first | with_reducible refine S.nilK ?_ | refine S.nil ?_
    refine hK4 _ _ ?_
    refine S.ret ?_
    with_reducible repeat (first | refine S.then_n ?_ | refine S.then_x ?_ | refine S.then_r ?_ | refine S.inBlock_n ?_ | refine S.inBlock_r ?_ | refine S.inBlock_x rfl ?_ | refine S.noGoto_r ?_ | refine S.noGoto_n ?_ | refine S.noGoto_x ?_)
    rw [show S _ w0 = S _ w0 from rfl]
    refine S.ent (Δ := own SV.nil 3 1 (nds (ofR m j).2.1) :: MI b m :: old W :: Γ) (by rw [ofR_none hn]; exact Ent.ownNil _ _) ?_
    exact S.fin (rs := [_, _, _]) (vs := [_, _, _]) Tryd.results27 (⟨rfl, rfl, rfl, trivial⟩)  (⟨SV.nil, by rw [ofR_none hn]; rfl, by rw [ofR_none hn]; rfl, rfl⟩) Sub.ent
  · obtain ⟨x, hx⟩ : ∃ x, look m.js j = some x := by cases h : look m.js j with | none => rw [h] at h1; cases h1 | some x => exact ⟨x, rfl⟩
    refine S.miOpen b m fun mb tv l hok hp htn => ?_
    have hg := get_look hok.srt hp j
    refine S.skip ?_
    with_reducible repeat (first | refine S.then_n ?_ | refine S.then_x ?_ | refine S.then_r ?_ | refine S.inBlock_n ?_ | refine S.inBlock_r ?_ | refine S.inBlock_x rfl ?_ | refine S.noGoto_r ?_ | refine S.noGoto_n ?_ | refine S.noGoto_x ?_)
    refine hK2 _ _ ?_
    refine S.seq fun K5 hK5 => ?_
    refine S.region rfl ?_
    refine S.op (S.q (q_move rfl) rfl rfl ?_)
    refine S.op (S.q (q_nilCheck rfl) rfl rfl ?_)
    refine S.op (S.q (q_field Tryd.fo99_3 rfl) rfl rfl ?_)
    refine S.op (S.q (q_load Tryd.at96 rfl rfl) rfl rfl ?_)
    refine S.op (S.q (q_move rfl) rfl rfl ?_)
    refine S.op (S.q (q_lookup1 (jbV x) Tryd.underlying96 Tryd.underlying36 Tryd.zv102 rfl rfl rfl (by rw [hg, hx]; rfl)) rfl rfl ?_)
    refine S.op (S.alloc Tryd.z102 rfl ?_)
    intro b7
    refine S.op (S.storeS (cs' := [_, _]) Tryd.ag102 rfl rfl rfl rfl rfl rfl ?_)
    first | with_reducible refine S.nilK ?_ | refine S.nil ?_
    refine hK5 _ _ ?_
    refine S.seq fun K6 hK6 => ?_
    refine S.draw ([blk b7 102 #[.int .i64 (x.row : Int), bsv x.ns], old W]) [4] Tryd.mixed ?_
    refine S.dr_take 2 [3, 4, 5, 6, 7] rfl (by kernel_rfl) rfl rfl rfl (q_field Tryd.fo102_1 rfl) Sub.ent ?_
    refine S.dr_take 3 [4, 5, 6, 7] rfl (by kernel_rfl) rfl rfl rfl (q_load Tryd.at95 rfl rfl) Sub.ent ?_
    refine S.dr_2 (i := 0) (j := 4) (by kernel_rfl) rfl rfl rfl rfl ?_ ?_
    · refine  (S.q (q_field Tryd.fo102_0 rfl) rfl rfl ?_)
      refine S.dr_k rfl Sub.ent ?_
      refine S.dr_2 (i := 1) (j := 4) (by kernel_rfl) rfl rfl rfl rfl ?_ ?_
      · refine  (S.q (q_load Tryd.at3 rfl rfl) rfl rfl ?_)
        refine S.dr_k rfl Sub.ent ?_
        refine S.dr_1 (i := 4) (by kernel_rfl) rfl rfl ?_
        refine  (S.call Tryd.en60 (vs := [_]) ⟨rfl, trivial⟩ (list_S x.ns hW) rfl ?_)
        rintro v Θ ⟨sv, rfl, hsv, rfl⟩
        refine S.dr_late ([blk b7 102 #[.int .i64 (x.row : Int), bsv x.ns]]) [] rfl ?_
        refine S.dr_take 5 [] rfl (by kernel_rfl) rfl rfl rfl (q_assign rfl) Sub.ent ?_
        refine S.dr_take 6 [] rfl (by kernel_rfl) rfl rfl rfl (q_assign rfl) Sub.ent ?_
        refine S.dr_take 7 [] rfl (by kernel_rfl) rfl rfl rfl (q_assign rfl) Sub.ent ?_
        first | with_reducible refine S.dr_doneK (by kernel_rfl) ?_ | refine S.dr_done (by kernel_rfl) ?_
        refine hK6 _ _ ?_
        refine S.ret ?_
        with_reducible repeat (first | refine S.then_n ?_ | refine S.then_x ?_ | refine S.then_r ?_ | refine S.inBlock_n ?_ | refine S.inBlock_r ?_ | refine S.inBlock_x rfl ?_ | refine S.noGoto_r ?_ | refine S.noGoto_n ?_ | refine S.noGoto_x ?_)
        refine S.miClose (b := b) (m := m) (mb := mb) (tv := tv) rfl rfl rfl hok hp htn ?_
        exact S.fin (rs := [_, _, _]) (vs := [_, _, _]) Tryd.results27 (⟨rfl, rfl, rfl, trivial⟩)  (⟨sv, by rw [ofR_some hx]; rfl, by rw [ofR_some hx]; exact hsv, by rw [ofR_some hx]⟩) Sub.ent
      · refine  (S.call Tryd.en60 (vs := [_]) ⟨rfl, trivial⟩ (list_S x.ns hW) rfl ?_)
        rintro v Θ ⟨sv, rfl, hsv, rfl⟩
        refine S.dr_late ([blk b7 102 #[.int .i64 (x.row : Int), bsv x.ns]]) [] rfl ?_
        refine S.dr_take 1 [] rfl (by kernel_rfl) rfl rfl rfl (q_load Tryd.at3 rfl rfl) Sub.ent ?_
        refine S.dr_take 5 [] rfl (by kernel_rfl) rfl rfl rfl (q_assign rfl) Sub.ent ?_
        refine S.dr_take 6 [] rfl (by kernel_rfl) rfl rfl rfl (q_assign rfl) Sub.ent ?_
        refine S.dr_take 7 [] rfl (by kernel_rfl) rfl rfl rfl (q_assign rfl) Sub.ent ?_
        first | with_reducible refine S.dr_doneK (by kernel_rfl) ?_ | refine S.dr_done (by kernel_rfl) ?_
        refine hK6 _ _ ?_
        refine S.ret ?_
        with_reducible repeat (first | refine S.then_n ?_ | refine S.then_x ?_ | refine S.then_r ?_ | refine S.inBlock_n ?_ | refine S.inBlock_r ?_ | refine S.inBlock_x rfl ?_ | refine S.noGoto_r ?_ | refine S.noGoto_n ?_ | refine S.noGoto_x ?_)
        refine S.miClose (b := b) (m := m) (mb := mb) (tv := tv) rfl rfl rfl hok hp htn ?_
        exact S.fin (rs := [_, _, _]) (vs := [_, _, _]) Tryd.results27 (⟨rfl, rfl, rfl, trivial⟩)  (⟨sv, by rw [ofR_some hx]; rfl, by rw [ofR_some hx]; exact hsv, by rw [ofR_some hx]⟩) Sub.ent
    · refine  (S.call Tryd.en60 (vs := [_]) ⟨rfl, trivial⟩ (list_S x.ns hW) rfl ?_)
      rintro v Θ ⟨sv, rfl, hsv, rfl⟩
      refine S.dr_late ([blk b7 102 #[.int .i64 (x.row : Int), bsv x.ns]]) [] rfl ?_
      refine S.dr_take 0 [] rfl (by kernel_rfl) rfl rfl rfl (q_field Tryd.fo102_0 rfl) Sub.ent ?_
      refine S.dr_take 1 [] rfl (by kernel_rfl) rfl rfl rfl (q_load Tryd.at3 rfl rfl) Sub.ent ?_
      refine S.dr_take 5 [] rfl (by kernel_rfl) rfl rfl rfl (q_assign rfl) Sub.ent ?_
      refine S.dr_take 6 [] rfl (by kernel_rfl) rfl rfl rfl (q_assign rfl) Sub.ent ?_
      refine S.dr_take 7 [] rfl (by kernel_rfl) rfl rfl rfl (q_assign rfl) Sub.ent ?_
      first | with_reducible refine S.dr_doneK (by kernel_rfl) ?_ | refine S.dr_done (by kernel_rfl) ?_
      refine hK6 _ _ ?_
      refine S.ret ?_
      with_reducible repeat (first | refine S.then_n ?_ | refine S.then_x ?_ | refine S.then_r ?_ | refine S.inBlock_n ?_ | refine S.inBlock_r ?_ | refine S.inBlock_x rfl ?_ | refine S.noGoto_r ?_ | refine S.noGoto_n ?_ | refine S.noGoto_x ?_)
      refine S.miClose (b := b) (m := m) (mb := mb) (tv := tv) rfl rfl rfl hok hp htn ?_
      exact S.fin (rs := [_, _, _]) (vs := [_, _, _]) Tryd.results27 (⟨rfl, rfl, rfl, trivial⟩)  (⟨sv, by rw [ofR_some hx]; rfl, by rw [ofR_some hx]; exact hsv, by rw [ofR_some hx]⟩) Sub.ent
def freeR (m : Mx) (z : Int) : Nat := if rowB m z then (lst (m.free z.toNat)).length else 0
theorem Free_S (b : Nat) (m : Mx) (z : Int) : Spec Tryd.prog 33 [.pointer (some ⟨b, 0, none⟩), .int .i64 z] [MI b m] fun Γ v Θ => v = .int .i64 (freeR m z : Nat) ∧ Θ = MI b m :: Γ := by
  refine Spec.of_body Tryd.func33 rfl Tryd.ntmps33 rfl ?_
  intro w0 Γ
  show S _ w0 [(0, .pointer (some ⟨b, 0, none⟩)), (1, .int .i64 z)] (MI b m :: Γ) _
  refine S.seq fun K1 hK1 => ?_
  refine S.region rfl ?_
  refine S.op (S.q (q_assign rfl) rfl rfl ?_)
  first | with_reducible refine S.nilK ?_ | refine S.nil ?_
  refine hK1 _ _ ?_
  refine S.seq fun K2 hK2 => ?_
  refine S.seq fun K3 hK3 => ?_
  refine S.region rfl ?_
  refine S.op (S.q (q_move rfl) rfl rfl ?_)
  refine S.op (S.q (q_move rfl) rfl rfl ?_)
  refine S.op (S.call Tryd.en45 (vs := [_, _]) ⟨rfl, rfl, trivial⟩ (row_S b m z) rfl ?_)
  rintro v Θ ⟨rfl, rfl⟩
  refine S.op (S.q (q_not rfl) rfl rfl ?_)
  first | with_reducible refine S.nilK ?_ | refine S.nil ?_
  refine hK3 _ _ ?_
  refine S.cond rfl (fun h1 => ?_) (fun h1 => ?_)
  · have hn : rowB m z = false := by simpa using h1
    refine S.seq fun K4 hK4 => ?_
    refine S.region rfl ?_
    refine S.op (S.q (q_assign rfl) rfl rfl ?_)
    first | with_reducible refine S.nilK ?_ | refine S.nil ?_
    refine hK4 _ _ ?_
    refine S.ret ?_
    with_reducible repeat (first | refine S.then_n ?_ | refine S.then_x ?_ | refine S.then_r ?_ | refine S.inBlock_n ?_ | refine S.inBlock_r ?_ | refine S.inBlock_x rfl ?_ | refine S.noGoto_r ?_ | refine S.noGoto_n ?_ | refine S.noGoto_x ?_)
    exact S.fin (rs := [_]) (vs := [_]) Tryd.results33 (⟨rfl, trivial⟩)  (⟨by simp only [resV, freeR, hn]; rfl, rfl⟩) Sub.ent
  · have hn : rowB m z = true := by simpa using h1
    have hr := rowB_iff.1 hn
    refine S.miOpen b m fun mb tv l hok hp htn => ?_
    refine S.ownSome tv (by omega) fun tb tf hta hl1 hl2 hl3 => ?_
    refine S.skip ?_
    with_reducible repeat (first | refine S.then_n ?_ | refine S.then_x ?_ | refine S.then_r ?_ | refine S.inBlock_n ?_ | refine S.inBlock_r ?_ | refine S.inBlock_x rfl ?_ | refine S.noGoto_r ?_ | refine S.noGoto_n ?_ | refine S.noGoto_x ?_)
    refine hK2 _ _ ?_
    refine S.seq fun K5 hK5 => ?_
    refine S.draw ([blk b 99 (mxC m mb tv).toArray, own tv 95 1 (tks m)]) [12] Tryd.mixed ?_
    refine S.dr_take 0 [1, 2, 3, 11, 12, 13] rfl (by kernel_rfl) rfl rfl rfl (q_move rfl) Sub.ent ?_
    refine S.dr_take 1 [2, 3, 11, 12, 13] rfl (by kernel_rfl) rfl rfl rfl (q_nilCheck rfl) Sub.ent ?_
    refine S.dr_take 2 [3, 11, 12, 13] rfl (by kernel_rfl) rfl rfl rfl (q_field Tryd.fo99_2 rfl) Sub.ent ?_
    refine S.dr_take 3 [11, 12, 13] rfl (by kernel_rfl) rfl rfl rfl (q_load Tryd.at95 rfl rfl) Sub.ent ?_
    refine S.dr_take 4 [5, 6, 7, 9, 10, 11, 12, 13] rfl (by kernel_rfl) rfl rfl rfl (q_move rfl) Sub.ent ?_
    refine S.dr_take 5 [6, 7, 9, 10, 11, 12, 13] rfl (by kernel_rfl) rfl rfl rfl (q_nilCheck rfl) Sub.ent ?_
    refine S.dr_take 6 [7, 9, 10, 11, 12, 13] rfl (by kernel_rfl) rfl rfl rfl (q_field Tryd.fo99_4 rfl) Sub.ent ?_
    refine S.dr_take 7 [9, 10, 11, 12, 13] rfl (by kernel_rfl) rfl rfl rfl (q_load Tryd.at97 rfl rfl) Sub.ent ?_
    refine S.dr_take 8 [9, 10, 11, 12, 13] rfl (by kernel_rfl) rfl rfl rfl (q_move rfl) Sub.ent ?_
    refine S.dr_take 9 [10, 11, 12, 13] rfl (by kernel_rfl) rfl rfl rfl (q_indexO (z.toNat) Tryd.el97 rfl hta rfl (by omega) (by omega)) Sub.ent ?_
    refine S.dr_take 10 [11, 12, 13] rfl (by kernel_rfl) rfl rfl rfl (q_loadOw (tv) (z.toNat) Tryd.at95 rfl hta (by first | rfl | exact Nat.add_assoc _ _ _ | omega) (tks_get (show z.toNat < m.R by omega))) Sub.ent ?_
    refine S.dr_take 11 [12, 13] rfl (by kernel_rfl) rfl rfl rfl (q_andNotB (m.up) (tk m.js z.toNat) rfl rfl (rfl) (rfl)) Sub.ent ?_
    refine S.dr_1 (i := 12) (by kernel_rfl) rfl rfl ?_
    refine  (S.call Tryd.en62 (vs := [_]) ⟨rfl, trivial⟩ (count_S (m.free z.toNat)) rfl ?_)
    rintro v Θ ⟨rfl, rfl⟩
    refine S.dr_late ([]) [] rfl ?_
    refine S.dr_take 13 [] rfl (by kernel_rfl) rfl rfl rfl (q_assign rfl) Sub.ent ?_
    first | with_reducible refine S.dr_doneK (by kernel_rfl) ?_ | refine S.dr_done (by kernel_rfl) ?_
    refine hK5 _ _ ?_
    refine S.ret ?_
    with_reducible repeat (first | refine S.then_n ?_ | refine S.then_x ?_ | refine S.then_r ?_ | refine S.inBlock_n ?_ | refine S.inBlock_r ?_ | refine S.inBlock_x rfl ?_ | refine S.noGoto_r ?_ | refine S.noGoto_n ?_ | refine S.noGoto_x ?_)
    refine S.miClose (b := b) (m := m) (mb := mb) (tv := tv) rfl rfl rfl hok hp htn ?_
    exact S.fin (rs := [_]) (vs := [_]) Tryd.results33 (⟨rfl, trivial⟩)  (⟨by simp only [resV, freeR, hn]; rfl, rfl⟩) Sub.ent
theorem Size_S (b : Nat) (m : Mx) : Spec Tryd.prog 16 [.pointer (some ⟨b, 0, none⟩)] [MI b m] fun Γ v Θ => v = .tuple #[.int .i64 (m.R : Int), .int .i64 (m.N : Int)] ∧ Θ = MI b m :: Γ := by
  refine Spec.of_body Tryd.func16 rfl Tryd.ntmps16 rfl ?_
  intro w0 Γ
  show S _ w0 [(0, .pointer (some ⟨b, 0, none⟩))] (MI b m :: Γ) _
  refine S.miOpen b m fun mb tv l hok hp htn => ?_
  refine S.seq fun K1 hK1 => ?_
  refine S.region rfl ?_
  refine S.op (S.q (q_assign rfl) rfl rfl ?_)
  refine S.op (S.q (q_assign rfl) rfl rfl ?_)
  first | with_reducible refine S.nilK ?_ | refine S.nil ?_
  refine hK1 _ _ ?_
  refine S.seq fun K2 hK2 => ?_
  refine S.seq fun K3 hK3 => ?_
  refine S.region rfl ?_
  refine S.op (S.q (q_move rfl) rfl rfl ?_)
  refine S.op (S.q (q_eqN Tryd.underlying24 rfl rfl) rfl rfl ?_)
  first | with_reducible refine S.nilK ?_ | refine S.nil ?_
  refine hK3 _ _ ?_
  refine S.condF rfl ?_
  refine S.skip ?_
  with_reducible repeat (first | refine S.then_n ?_ | refine S.then_x ?_ | refine S.then_r ?_ | refine S.inBlock_n ?_ | refine S.inBlock_r ?_ | refine S.inBlock_x rfl ?_ | refine S.noGoto_r ?_ | refine S.noGoto_n ?_ | refine S.noGoto_x ?_)
  refine hK2 _ _ ?_
  refine S.seq fun K4 hK4 => ?_
  refine S.draw ([blk b 99 (mxC m mb tv).toArray]) [] Tryd.mixed ?_
  refine S.dr_take 0 [] rfl (by kernel_rfl) rfl rfl rfl (q_move rfl) Sub.ent ?_
  refine S.dr_take 1 [] rfl (by kernel_rfl) rfl rfl rfl (q_nilCheck rfl) Sub.ent ?_
  refine S.dr_take 2 [] rfl (by kernel_rfl) rfl rfl rfl (q_field Tryd.fo99_0 rfl) Sub.ent ?_
  refine S.dr_take 3 [] rfl (by kernel_rfl) rfl rfl rfl (q_load Tryd.at3 rfl rfl) Sub.ent ?_
  refine S.dr_take 4 [] rfl (by kernel_rfl) rfl rfl rfl (q_move rfl) Sub.ent ?_
  refine S.dr_take 5 [] rfl (by kernel_rfl) rfl rfl rfl (q_nilCheck rfl) Sub.ent ?_
  refine S.dr_take 6 [] rfl (by kernel_rfl) rfl rfl rfl (q_field Tryd.fo99_1 rfl) Sub.ent ?_
  refine S.dr_take 7 [] rfl (by kernel_rfl) rfl rfl rfl (q_load Tryd.at3 rfl rfl) Sub.ent ?_
  refine S.dr_take 8 [] rfl (by kernel_rfl) rfl rfl rfl (q_assign rfl) Sub.ent ?_
  refine S.dr_take 9 [] rfl (by kernel_rfl) rfl rfl rfl (q_assign rfl) Sub.ent ?_
  first | with_reducible refine S.dr_doneK (by kernel_rfl) ?_ | refine S.dr_done (by kernel_rfl) ?_
  refine hK4 _ _ ?_
  refine S.ret ?_
  with_reducible repeat (first | refine S.then_n ?_ | refine S.then_x ?_ | refine S.then_r ?_ | refine S.inBlock_n ?_ | refine S.inBlock_r ?_ | refine S.inBlock_x rfl ?_ | refine S.noGoto_r ?_ | refine S.noGoto_n ?_ | refine S.noGoto_x ?_)
  refine S.miClose (b := b) (m := m) (mb := mb) (tv := tv) rfl rfl rfl hok hp htn ?_
  exact S.fin (rs := [_, _]) (vs := [_, _]) Tryd.results16 (⟨rfl, rfl, trivial⟩)  (⟨rfl, rfl⟩) Sub.ent
def removeR (m : Mx) (j : Nat) : Int × Mx := if (look m.js j).isSome then (0, m.del j) else (6, m)
theorem removeR_none {m : Mx} {j : Nat} (h : look m.js j = none) : removeR m j = (6, m) := by simp [removeR, h]
theorem removeR_some {m : Mx} {j : Nat} {x : Jb} (h : look m.js j = some x) : removeR m j = (0, m.del j) := by simp [removeR, h]
theorem Remove_S (b : Nat) (m : Mx) (j : Nat) : Spec Tryd.prog 29 [.pointer (some ⟨b, 0, none⟩), .int .u32 (j : Int)] [MI b m] fun Γ v Θ => v = .int .i64 (removeR m j).1 ∧ Θ = MI b (removeR m j).2 :: Γ := by
  refine Spec.of_body Tryd.func29 rfl Tryd.ntmps29 rfl ?_
  intro w0 Γ
  show S _ w0 [(0, .pointer (some ⟨b, 0, none⟩)), (1, .int .u32 (j : Int))] (MI b m :: Γ) _
  refine S.seq fun K1 hK1 => ?_
  refine S.region rfl ?_
  refine S.op (S.q (q_assign rfl) rfl rfl ?_)
  first | with_reducible refine S.nilK ?_ | refine S.nil ?_
  refine hK1 _ _ ?_
  refine S.seq fun K2 hK2 => ?_
  refine S.seq fun K3 hK3 => ?_
  refine S.regionG ?_
  refine S.g_op rfl (S.q (q_move rfl) rfl rfl ?_)
  refine S.g_op rfl (S.q (q_eqN Tryd.underlying24 rfl rfl) rfl rfl ?_)
  refine S.g_op rfl (S.q (q_move rfl) rfl rfl ?_)
  refine S.g_yes rfl rfl rfl (rfl) (S.q (q_move rfl) rfl rfl ?_)
  refine S.g_yes rfl rfl rfl (rfl) (S.q (q_move rfl) rfl rfl ?_)
  refine S.g_yes rfl rfl rfl (rfl) (S.call Tryd.en59 (vs := [_, _]) ⟨rfl, rfl, trivial⟩ (stands_S b m j) rfl ?_)
  rintro v Θ ⟨rfl, rfl⟩
  refine S.g_yes rfl rfl rfl (rfl) (S.q (q_not rfl) rfl rfl ?_)
  refine S.g_op rfl (S.q (q_pickF rfl (rfl) rfl) rfl rfl ?_)
  first | with_reducible refine S.g_nilK ?_ | refine S.g_nil ?_
  refine hK3 _ _ ?_
  refine S.cond rfl (fun h1 => ?_) (fun h1 => ?_)
  · have hn : look m.js j = none := by cases h : look m.js j with | none => rfl | some x => rw [h] at h1; cases h1
    refine S.seq fun K4 hK4 => ?_
    refine S.region rfl ?_
    refine S.op (S.q (q_assign rfl) rfl rfl ?_)
    first | with_reducible refine S.nilK ?_ | refine S.nil ?_
    refine hK4 _ _ ?_
    refine S.ret ?_
    with_reducible repeat (first | refine S.then_n ?_ | refine S.then_x ?_ | refine S.then_r ?_ | refine S.inBlock_n ?_ | refine S.inBlock_r ?_ | refine S.inBlock_x rfl ?_ | refine S.noGoto_r ?_ | refine S.noGoto_n ?_ | refine S.noGoto_x ?_)
    exact S.fin (rs := [_]) (vs := [_]) Tryd.results29 (⟨rfl, trivial⟩)  (⟨by rw [removeR_none hn]; rfl, by rw [removeR_none hn]⟩) Sub.ent
  · obtain ⟨x, hx⟩ : ∃ x, look m.js j = some x := by cases h : look m.js j with | none => rw [h] at h1; cases h1 | some x => exact ⟨x, rfl⟩
    refine S.miOpen b m fun mb tv l hok hp htn => ?_
    have hg := get_look hok.srt hp j
    obtain ⟨hxm, hxi⟩ := look_some hx
    have hrow := hok.row x hxm
    have hR8 := hok.R8
    refine S.ownSome tv (by omega) fun tb tf hta hl1 hl2 hl3 => ?_
    have hset : (tks m).set x.row (bsv (tk m.js x.row &&& ~~~x.ns)) = tks (m.del j) := by
      have hd : ∀ q, tk (m.del j).js q = if x.row = q then tk m.js q &&& ~~~x.ns else tk m.js q := fun q => by
        have := tk_delJ hok hxm q
        rw [hxi] at this
        exact this
      have := tks_set (m := m) (m' := m.del j) (r := x.row) rfl fun q _ => by
        by_cases e : x.row = q
        · subst e; rw [if_pos rfl]
        · rw [hd q, if_neg e, if_neg e]
      rw [← this, hd, if_pos rfl]
    refine S.skip ?_
    with_reducible repeat (first | refine S.then_n ?_ | refine S.then_x ?_ | refine S.then_r ?_ | refine S.inBlock_n ?_ | refine S.inBlock_r ?_ | refine S.inBlock_x rfl ?_ | refine S.noGoto_r ?_ | refine S.noGoto_n ?_ | refine S.noGoto_x ?_)
    refine hK2 _ _ ?_
    refine S.seq fun K5 hK5 => ?_
    refine S.region rfl ?_
    refine S.op (S.q (q_move rfl) rfl rfl ?_)
    refine S.op (S.q (q_nilCheck rfl) rfl rfl ?_)
    refine S.op (S.q (q_field Tryd.fo99_3 rfl) rfl rfl ?_)
    refine S.op (S.q (q_load Tryd.at96 rfl rfl) rfl rfl ?_)
    refine S.op (S.q (q_move rfl) rfl rfl ?_)
    refine S.op (S.q (q_lookup1 (jbV x) Tryd.underlying96 Tryd.underlying36 Tryd.zv102 rfl rfl rfl (by rw [hg, hx]; rfl)) rfl rfl ?_)
    refine S.op (S.alloc Tryd.z102 rfl ?_)
    intro b5
    refine S.op (S.storeS (cs' := [_, _]) Tryd.ag102 rfl rfl rfl rfl rfl rfl ?_)
    first | with_reducible refine S.nilK ?_ | refine S.nil ?_
    refine hK5 _ _ ?_
    refine S.seq fun K6 hK6 => ?_
    refine S.draw ([blk b 99 (mxC m mb tv).toArray, blk b5 102 #[.int .i64 (x.row : Int), bsv x.ns], own tv 95 1 (tks m)]) [12] Tryd.mixed ?_
    refine S.dr_take 0 [1, 2, 3, 6, 7, 10, 11, 12] rfl (by kernel_rfl) rfl rfl rfl (q_move rfl) Sub.ent ?_
    refine S.dr_take 1 [2, 3, 6, 7, 10, 11, 12] rfl (by kernel_rfl) rfl rfl rfl (q_nilCheck rfl) Sub.ent ?_
    refine S.dr_take 2 [3, 6, 7, 10, 11, 12] rfl (by kernel_rfl) rfl rfl rfl (q_field Tryd.fo99_4 rfl) Sub.ent ?_
    refine S.dr_take 3 [6, 7, 10, 11, 12] rfl (by kernel_rfl) rfl rfl rfl (q_load Tryd.at97 rfl rfl) Sub.ent ?_
    refine S.dr_take 4 [5, 6, 7, 10, 11, 12] rfl (by kernel_rfl) rfl rfl rfl (q_field Tryd.fo102_0 rfl) Sub.ent ?_
    refine S.dr_take 5 [6, 7, 10, 11, 12] rfl (by kernel_rfl) rfl rfl rfl (q_load Tryd.at3 rfl rfl) Sub.ent ?_
    refine S.dr_take 6 [7, 10, 11, 12] rfl (by kernel_rfl) rfl rfl rfl (q_indexO (x.row) Tryd.el97 rfl hta rfl rfl (by omega)) Sub.ent ?_
    refine S.dr_take 7 [10, 11, 12] rfl (by kernel_rfl) rfl rfl rfl (q_loadOw (tv) (x.row) Tryd.at95 rfl hta (by first | rfl | exact Nat.add_assoc _ _ _ | omega) (tks_get hrow)) Sub.ent ?_
    refine S.dr_take 8 [9, 10, 11, 12] rfl (by kernel_rfl) rfl rfl rfl (q_field Tryd.fo102_1 rfl) Sub.ent ?_
    refine S.dr_take 9 [10, 11, 12] rfl (by kernel_rfl) rfl rfl rfl (q_load Tryd.at95 rfl rfl) Sub.ent ?_
    refine S.dr_take 10 [11, 12] rfl (by kernel_rfl) rfl rfl rfl (q_andNotB (tk m.js x.row) (x.ns) rfl rfl (rfl) (rfl)) Sub.ent ?_
    refine S.dr_take 11 [12] rfl (by kernel_rfl) rfl rfl rfl (q_indexO (x.row) Tryd.el97 rfl hta rfl rfl (by omega)) Sub.ent ?_
    refine S.dr_1 (i := 12) (by kernel_rfl) rfl rfl ?_
    refine  (S.storeOw (tv) (x.row) Tryd.at95 rfl rfl rfl hta (by first | rfl | exact Nat.add_assoc _ _ _ | omega) (by rw [tks_len]; omega) (hset) ?_)
    refine S.dr_late ([]) [] rfl ?_
    first | with_reducible refine S.dr_doneK (by kernel_rfl) ?_ | refine S.dr_done (by kernel_rfl) ?_
    refine hK6 _ _ ?_
    refine S.seq fun K7 hK7 => ?_
    refine S.region rfl ?_
    refine S.op (S.q (q_move rfl) rfl rfl ?_)
    refine S.op (S.q (q_nilCheck rfl) rfl rfl ?_)
    refine S.op (S.q (q_field Tryd.fo99_3 rfl) rfl rfl ?_)
    refine S.op (S.q (q_load Tryd.at96 rfl rfl) rfl rfl ?_)
    refine S.op (S.q (q_move rfl) rfl rfl ?_)
    refine S.op (S.mapDelete Tryd.underlying96 Tryd.underlying36 rfl rfl rfl ?_)
    first | with_reducible refine S.nilK ?_ | refine S.nil ?_
    refine hK7 _ _ ?_
    refine S.seq fun K8 hK8 => ?_
    refine S.region rfl ?_
    refine S.op (S.q (q_assign rfl) rfl rfl ?_)
    first | with_reducible refine S.nilK ?_ | refine S.nil ?_
    refine hK8 _ _ ?_
    refine S.ret ?_
    with_reducible repeat (first | refine S.then_n ?_ | refine S.then_x ?_ | refine S.then_r ?_ | refine S.inBlock_n ?_ | refine S.inBlock_r ?_ | refine S.inBlock_x rfl ?_ | refine S.noGoto_r ?_ | refine S.noGoto_n ?_ | refine S.noGoto_x ?_)
    refine S.miClose (b := b) (m := m.del j) (mb := mb) (tv := tv) rfl rfl rfl (hok.del j) (del_perm hok.srt hp j) htn ?_
    exact S.fin (rs := [_]) (vs := [_]) Tryd.results29 (⟨rfl, trivial⟩)  (⟨by rw [removeR_some hx]; rfl, by rw [removeR_some hx]⟩) Sub.ent
/-- The next row that has anybody. -/
def nextUp (m : Mx) (z : Int) : Nat → Option Nat
  | 0 => none
  | i + 1 => match nextUp m z i with
    | some r => some r
    | none => if tk m.js ((z + 1 + i) % m.R).toNat = 0#16 then none else some ((z + 1 + i) % m.R).toNat
def nextR (m : Mx) (z : Int) : Int × Bool := match nextUp m (if rowB m z then z else -1) m.R with
  | some r => ((r : Int), true)
  | none => (0, false)
theorem nextUp_mono {m : Mx} {z : Int} {r : Nat} : ∀ {k i : Nat}, nextUp m z i = some r → i ≤ k → nextUp m z k = some r
  | 0, i, h, hk => by rwa [show i = 0 by omega] at h
  | k + 1, i, h, hk => by
    by_cases e : i = k + 1
    · rwa [e] at h
    · rw [nextUp, nextUp_mono h (by omega)]
end Go.Proofs.YtbhnbnecaejjiaaDoor
