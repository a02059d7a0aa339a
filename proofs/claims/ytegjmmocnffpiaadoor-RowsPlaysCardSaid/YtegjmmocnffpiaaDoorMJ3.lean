/- The matrix: Fill; lists held against lists. -/
import Derived.Shelf.SlSortCmp.NoneTotal
import Derived.Shelf.SlGeneric
import Derived.Ground.SlsfProg
import Derived.Test.YtegjmmocnffpiaaDoorProg
import Derived.Test.YtegjmmocnffpiaaDoorMJ2
/- The matrix: Up, IsUp, put, Of, Free, Size, Remove. -/
namespace Go.Proofs.YtegjmmocnffpiaaDoor
open Go.RowKit
set_option maxRecDepth 20000
def Mx.setUp (m : Mx) (i : Nat) (on : Bool) : Mx := { m with up := if on then m.up ||| BitVec.twoPow 16 i else m.up &&& ~~~BitVec.twoPow 16 i }
theorem MxOk.setUp {m : Mx} (h : MxOk m) {i : Nat} (hi : i < m.N) (on : Bool) : MxOk (m.setUp i on) := by
  refine ⟨h.R1, h.R8, h.N1, h.N16, fun q hq => ?_, h.srt, h.id1, h.id2, h.row, h.some, h.ns, h.dis⟩
  simp only [Mx.setUp] at hq ⊢
  cases on with
  | true =>
    rw [if_pos rfl, BitVec.getLsbD_or, Bool.or_eq_true, BitVec.getLsbD_twoPow, Bool.and_eq_true, decide_eq_true_eq, decide_eq_true_eq] at hq
    rcases hq with hq | ⟨_, hq⟩
    · exact h.up q hq
    · omega
  | false =>
    rw [if_neg (by decide), BitVec.getLsbD_and, Bool.and_eq_true] at hq
    exact h.up q hq.1
def upR (m : Mx) (z : Int) (on : Bool) : Int × Mx := if nodeB m z then (0, m.setUp z.toNat on) else (1, m)
theorem nodeB_iff {m : Mx} {z : Int} : nodeB m z = true ↔ 0 ≤ z ∧ z < m.N := by simp [nodeB]
theorem rowB_iff {m : Mx} {z : Int} : rowB m z = true ↔ 0 ≤ z ∧ z < m.R := by simp [rowB]
theorem Up_S (b : Nat) (m : Mx) (z : Int) (on : Bool) : Spec Tryd.prog 34 [.pointer (some ⟨b, 0, none⟩), .int .i64 z, .bool on] [MI b m] fun Γ v Θ => v = .int .i64 (upR m z on).1 ∧ Θ = MI b (upR m z on).2 :: Γ := by
  refine Spec.of_body Tryd.func34 rfl Tryd.ntmps34 rfl ?_
  intro w0 Γ
  show S _ w0 [(0, .pointer (some ⟨b, 0, none⟩)), (1, .int .i64 z), (2, .bool on)] (MI b m :: Γ) _
  refine S.seq fun K1 hK1 => ?_
  refine S.region rfl ?_
  refine S.op (S.q (q_assign rfl) rfl rfl ?_)
  first | with_reducible refine S.nilK ?_ | refine S.nil ?_
  refine hK1 _ _ ?_
  refine S.seq fun K2 hK2 => ?_
  refine S.block ?_
  refine S.seq fun K3 hK3 => ?_
  refine S.region rfl ?_
  refine S.op (S.q (q_move rfl) rfl rfl ?_)
  refine S.op (S.q (q_eqN Tryd.underlying25 rfl rfl) rfl rfl ?_)
  refine S.op (S.q (q_assign rfl) rfl rfl ?_)
  first | with_reducible refine S.nilK ?_ | refine S.nil ?_
  refine hK3 _ _ ?_
  refine S.condF rfl ?_
  refine S.seq fun K4 hK4 => ?_
  refine S.region rfl ?_
  refine S.op (S.q (q_move rfl) rfl rfl ?_)
  refine S.op (S.q (q_move rfl) rfl rfl ?_)
  refine S.op (S.call Tryd.en64 (vs := [_, _]) ⟨rfl, rfl, trivial⟩ (node_S b m z) rfl ?_)
  rintro v Θ ⟨rfl, rfl⟩
  refine S.op (S.q (q_not rfl) rfl rfl ?_)
  refine S.op (S.q (q_assign rfl) rfl rfl ?_)
  first | with_reducible refine S.nilK ?_ | refine S.nil ?_
  refine hK4 _ _ ?_
  refine S.cond rfl (fun h2 => ?_) (fun h2 => ?_)
  · have hn : nodeB m z = false := by simpa using h2
    have hu : upR m z on = (1, m) := by simp [upR, hn]
    refine S.seq fun K5 hK5 => ?_
    refine S.region rfl ?_
    refine S.op (S.q (q_assign rfl) rfl rfl ?_)
    first | with_reducible refine S.nilK ?_ | refine S.nil ?_
    refine hK5 _ _ ?_
    refine S.ret ?_
    with_reducible repeat (first | refine S.then_n ?_ | refine S.then_x ?_ | refine S.then_r ?_ | refine S.inBlock_n ?_ | refine S.inBlock_r ?_ | refine S.inBlock_x rfl ?_ | refine S.noGoto_r ?_ | refine S.noGoto_n ?_ | refine S.noGoto_x ?_)
    exact S.fin (rs := [_]) (vs := [_]) Tryd.results34 (⟨rfl, trivial⟩)  (⟨by rw [hu]; rfl, by rw [hu]⟩) Sub.ent
  · have hn : nodeB m z = true := by simpa using h2
    have hr := nodeB_iff.1 hn
    refine S.miOpen b m fun mb tv l hok hp htn => ?_
    have hN := hok.N16
    refine S.seq fun K6 hK6 => ?_
    refine S.region rfl ?_
    refine S.op (S.q (q_move rfl) rfl rfl ?_)
    refine S.op (S.q (q_assign rfl) rfl rfl ?_)
    first | with_reducible refine S.nilK ?_ | refine S.nil ?_
    refine hK6 _ _ ?_
    refine S.cond rfl (fun h3 => ?_) (fun h3 => ?_)
    · subst h3
      have hu : upR m z true = (0, m.setUp z.toNat true) := by simp [upR, hn]
      refine S.draw ([blk b 124 (mxC m mb tv).toArray]) [9] Tryd.mixed ?_
      refine S.dr_take 0 [1, 2, 3, 6, 7, 8, 9] rfl (by kernel_rfl) rfl rfl rfl (q_move rfl) Sub.ent ?_
      refine S.dr_take 1 [2, 3, 6, 7, 8, 9] rfl (by kernel_rfl) rfl rfl rfl (q_nilCheck rfl) Sub.ent ?_
      refine S.dr_take 2 [3, 6, 7, 8, 9] rfl (by kernel_rfl) rfl rfl rfl (q_field Tryd.fo124_2 rfl) Sub.ent ?_
      refine S.dr_take 3 [6, 7, 8, 9] rfl (by kernel_rfl) rfl rfl rfl (q_load Tryd.at120 rfl rfl) Sub.ent ?_
      refine S.dr_take 4 [5, 6, 7, 8, 9] rfl (by kernel_rfl) rfl rfl rfl (q_move rfl) Sub.ent ?_
      refine S.dr_take 5 [6, 7, 8, 9] rfl (by kernel_rfl) rfl rfl rfl (q_shlB (z.toNat) rfl rfl (by omega) (by omega)) Sub.ent ?_
      refine S.dr_take 6 [7, 8, 9] rfl (by kernel_rfl) rfl rfl rfl (q_orB (m.up) (BitVec.twoPow 16 z.toNat) rfl rfl (rfl) (rfl)) Sub.ent ?_
      refine S.dr_take 7 [8, 9] rfl (by kernel_rfl) rfl rfl rfl (q_nilCheck rfl) Sub.ent ?_
      refine S.dr_take 8 [9] rfl (by kernel_rfl) rfl rfl rfl (q_field Tryd.fo124_2 rfl) Sub.ent ?_
      refine S.dr_1 (i := 9) (by kernel_rfl) rfl rfl ?_
      refine  (S.store (cs' := [_, _, _, _, _]) Tryd.at120 rfl rfl rfl rfl rfl ?_)
      refine S.dr_late ([]) [] rfl ?_
      first | with_reducible refine S.dr_doneK (by kernel_rfl) ?_ | refine S.dr_done (by kernel_rfl) ?_
      with_reducible repeat (first | refine S.then_n ?_ | refine S.then_x ?_ | refine S.then_r ?_ | refine S.inBlock_n ?_ | refine S.inBlock_r ?_ | refine S.inBlock_x rfl ?_ | refine S.noGoto_r ?_ | refine S.noGoto_n ?_ | refine S.noGoto_x ?_)
      refine hK2 _ _ ?_
      refine S.seq fun K7 hK7 => ?_
      refine S.region rfl ?_
      refine S.op (S.q (q_assign rfl) rfl rfl ?_)
      first | with_reducible refine S.nilK ?_ | refine S.nil ?_
      refine hK7 _ _ ?_
      refine S.ret ?_
      with_reducible repeat (first | refine S.then_n ?_ | refine S.then_x ?_ | refine S.then_r ?_ | refine S.inBlock_n ?_ | refine S.inBlock_r ?_ | refine S.inBlock_x rfl ?_ | refine S.noGoto_r ?_ | refine S.noGoto_n ?_ | refine S.noGoto_x ?_)
      first | refine S.miClose (b := b) (m := m.setUp z.toNat true) (mb := mb) (tv := tv) rfl rfl rfl (hok.setUp (by omega) _) hp htn ?_ | refine S.miClose (b := b) (m := m.setUp z.toNat false) (mb := mb) (tv := tv) rfl rfl rfl (hok.setUp (by omega) _) hp htn ?_
      exact S.fin (rs := [_]) (vs := [_]) Tryd.results34 (⟨rfl, trivial⟩)  (⟨by rw [hu]; rfl, by rw [hu]⟩) Sub.ent
    · subst h3
      have hu : upR m z false = (0, m.setUp z.toNat false) := by simp [upR, hn]
      refine S.draw ([blk b 124 (mxC m mb tv).toArray]) [9] Tryd.mixed ?_
      refine S.dr_take 0 [1, 2, 3, 6, 7, 8, 9] rfl (by kernel_rfl) rfl rfl rfl (q_move rfl) Sub.ent ?_
      refine S.dr_take 1 [2, 3, 6, 7, 8, 9] rfl (by kernel_rfl) rfl rfl rfl (q_nilCheck rfl) Sub.ent ?_
      refine S.dr_take 2 [3, 6, 7, 8, 9] rfl (by kernel_rfl) rfl rfl rfl (q_field Tryd.fo124_2 rfl) Sub.ent ?_
      refine S.dr_take 3 [6, 7, 8, 9] rfl (by kernel_rfl) rfl rfl rfl (q_load Tryd.at120 rfl rfl) Sub.ent ?_
      refine S.dr_take 4 [5, 6, 7, 8, 9] rfl (by kernel_rfl) rfl rfl rfl (q_move rfl) Sub.ent ?_
      refine S.dr_take 5 [6, 7, 8, 9] rfl (by kernel_rfl) rfl rfl rfl (q_shlB (z.toNat) rfl rfl (by omega) (by omega)) Sub.ent ?_
      refine S.dr_take 6 [7, 8, 9] rfl (by kernel_rfl) rfl rfl rfl (q_andNotB (m.up) (BitVec.twoPow 16 z.toNat) rfl rfl (rfl) (rfl)) Sub.ent ?_
      refine S.dr_take 7 [8, 9] rfl (by kernel_rfl) rfl rfl rfl (q_nilCheck rfl) Sub.ent ?_
      refine S.dr_take 8 [9] rfl (by kernel_rfl) rfl rfl rfl (q_field Tryd.fo124_2 rfl) Sub.ent ?_
      refine S.dr_1 (i := 9) (by kernel_rfl) rfl rfl ?_
      refine  (S.store (cs' := [_, _, _, _, _]) Tryd.at120 rfl rfl rfl rfl rfl ?_)
      refine S.dr_late ([]) [] rfl ?_
      first | with_reducible refine S.dr_doneK (by kernel_rfl) ?_ | refine S.dr_done (by kernel_rfl) ?_
      with_reducible repeat (first | refine S.then_n ?_ | refine S.then_x ?_ | refine S.then_r ?_ | refine S.inBlock_n ?_ | refine S.inBlock_r ?_ | refine S.inBlock_x rfl ?_ | refine S.noGoto_r ?_ | refine S.noGoto_n ?_ | refine S.noGoto_x ?_)
      refine hK2 _ _ ?_
      refine S.seq fun K8 hK8 => ?_
      refine S.region rfl ?_
      refine S.op (S.q (q_assign rfl) rfl rfl ?_)
      first | with_reducible refine S.nilK ?_ | refine S.nil ?_
      refine hK8 _ _ ?_
      refine S.ret ?_
      with_reducible repeat (first | refine S.then_n ?_ | refine S.then_x ?_ | refine S.then_r ?_ | refine S.inBlock_n ?_ | refine S.inBlock_r ?_ | refine S.inBlock_x rfl ?_ | refine S.noGoto_r ?_ | refine S.noGoto_n ?_ | refine S.noGoto_x ?_)
      first | refine S.miClose (b := b) (m := m.setUp z.toNat true) (mb := mb) (tv := tv) rfl rfl rfl (hok.setUp (by omega) _) hp htn ?_ | refine S.miClose (b := b) (m := m.setUp z.toNat false) (mb := mb) (tv := tv) rfl rfl rfl (hok.setUp (by omega) _) hp htn ?_
      exact S.fin (rs := [_]) (vs := [_]) Tryd.results34 (⟨rfl, trivial⟩)  (⟨by rw [hu]; rfl, by rw [hu]⟩) Sub.ent
def isUpB (m : Mx) (z : Int) : Bool := nodeB m z && m.up.getLsbD z.toNat
theorem IsUp_S (b : Nat) (m : Mx) (z : Int) : Spec Tryd.prog 35 [.pointer (some ⟨b, 0, none⟩), .int .i64 z] [MI b m] fun Γ v Θ => v = .bool (isUpB m z) ∧ Θ = MI b m :: Γ := by
  refine Spec.miOk fun hok => ?_
  refine Spec.of_body Tryd.func35 rfl Tryd.ntmps35 rfl ?_
  intro w0 Γ
  show S _ w0 [(0, .pointer (some ⟨b, 0, none⟩)), (1, .int .i64 z)] (MI b m :: Γ) _
  have hN := hok.N16
  refine S.seq fun K1 hK1 => ?_
  refine S.region rfl ?_
  refine S.op (S.q (q_assign rfl) rfl rfl ?_)
  first | with_reducible refine S.nilK ?_ | refine S.nil ?_
  refine hK1 _ _ ?_
  refine S.seq fun K2 hK2 => ?_
  refine S.regionG ?_
  refine S.g_op rfl (S.q (q_move rfl) rfl rfl ?_)
  refine S.g_op rfl (S.q (q_move rfl) rfl rfl ?_)
  refine S.g_op rfl (S.call Tryd.en64 (vs := [_, _]) ⟨rfl, rfl, trivial⟩ (node_S b m z) rfl ?_)
  rintro v Θ ⟨rfl, rfl⟩
  refine S.g_op rfl (S.q (q_move rfl) rfl rfl ?_)
  rcases Bool.eq_false_or_eq_true (nodeB m z) with hg1_3 | hg1_3
  · have hr := nodeB_iff.1 hg1_3
    refine S.miOpen b m fun mb tv l hok hp htn => ?_
    refine S.g_yes rfl rfl rfl (hg1_3) (S.q (q_move rfl) rfl rfl ?_)
    refine S.g_yes rfl rfl rfl (hg1_3) (S.q (q_nilCheck rfl) rfl rfl ?_)
    refine S.g_yes rfl rfl rfl (hg1_3) (S.q (q_field Tryd.fo124_2 rfl) rfl rfl ?_)
    refine S.g_yes rfl rfl rfl (hg1_3) (S.q (q_load Tryd.at120 rfl rfl) rfl rfl ?_)
    refine S.g_yes rfl rfl rfl (hg1_3) (S.q (q_move rfl) rfl rfl ?_)
    refine S.g_yes rfl rfl rfl (hg1_3) (S.call Tryd.en65 (vs := [_, _]) ⟨rfl, rfl, trivial⟩ (has_S m.up z.toNat z (by omega) (by omega)) rfl ?_)
    rintro v Θ ⟨rfl, rfl⟩
    refine S.miClose (b := b) (m := m) (mb := mb) (tv := tv) rfl rfl rfl hok hp htn ?_
    refine S.g_op rfl (S.q (q_pickT rfl (hg1_3) rfl) rfl rfl ?_)
    refine S.g_op rfl (S.q (q_assign rfl) rfl rfl ?_)
    first | with_reducible refine S.g_nilK ?_ | refine S.g_nil ?_
    refine hK2 _ _ ?_
    refine S.ret ?_
    with_reducible repeat (first | refine S.then_n ?_ | refine S.then_x ?_ | refine S.then_r ?_ | refine S.inBlock_n ?_ | refine S.inBlock_r ?_ | refine S.inBlock_x rfl ?_ | refine S.noGoto_r ?_ | refine S.noGoto_n ?_ | refine S.noGoto_x ?_)
    exact S.fin (rs := [_]) (vs := [_]) Tryd.results35 (⟨rfl, trivial⟩)  (⟨by simp only [resV, isUpB, hg1_3]; rfl, rfl⟩) Sub.ent
  · refine S.g_no rfl rfl rfl (hg1_3) rfl rfl ?_
    refine S.g_no rfl rfl rfl (hg1_3) rfl rfl ?_
    refine S.g_no rfl rfl rfl (hg1_3) rfl rfl ?_
    refine S.g_no rfl rfl rfl (hg1_3) rfl rfl ?_
    refine S.g_no rfl rfl rfl (hg1_3) rfl rfl ?_
    refine S.g_no rfl rfl rfl (hg1_3) rfl rfl ?_
    refine S.g_op rfl (S.q (q_pickF rfl (hg1_3) rfl) rfl rfl ?_)
    refine S.g_op rfl (S.q (q_assign rfl) rfl rfl ?_)
    first | with_reducible refine S.g_nilK ?_ | refine S.g_nil ?_
    refine hK2 _ _ ?_
    refine S.ret ?_
    with_reducible repeat (first | refine S.then_n ?_ | refine S.then_x ?_ | refine S.then_r ?_ | refine S.inBlock_n ?_ | refine S.inBlock_r ?_ | refine S.inBlock_x rfl ?_ | refine S.noGoto_r ?_ | refine S.noGoto_n ?_ | refine S.noGoto_x ?_)
    exact S.fin (rs := [_]) (vs := [_]) Tryd.results35 (⟨rfl, trivial⟩)  (⟨by simp only [resV, isUpB, hg1_3]; rfl, rfl⟩) Sub.ent
theorem put_S (b : Nat) (m : Mx) (x : Jb) (hn : ∀ y ∈ m.js, y.id ≠ x.id) (h1 : 1 ≤ x.id) (h2 : x.id ≤ 4294967295) (h3 : x.row < m.R) (h4 : x.ns ≠ 0#16) (h5 : ∀ i, x.ns.getLsbD i = true → i < m.N) (h6 : tk m.js x.row &&& x.ns = 0#16) :
    Spec Tryd.prog 61 [.pointer (some ⟨b, 0, none⟩), .int .u32 (x.id : Int), jbV x] [MI b m] fun Γ _ Θ => Θ = MI b (m.add x) :: Γ := by
  refine Spec.of_body Tryd.func61 rfl Tryd.ntmps61 rfl ?_
  intro w0 Γ
  show S _ w0 [(0, .pointer (some ⟨b, 0, none⟩)), (1, .int .u32 (x.id : Int)), (2, jbV x)] (MI b m :: Γ) _
  refine S.miOpen b m fun mb tv l hok hp htn => ?_
  refine S.ownSome tv (by have := hok.R1; omega) fun tb tf hta hl1 hl2 hl3 => ?_
  have hR8 := hok.R8
  have hadd := tk_addJ x m.js
  have hset : (tks m).set x.row (bsv (tk m.js x.row ||| x.ns)) = tks (m.add x) := by
    have := tks_set (m := m) (m' := m.add x) (r := x.row) rfl fun q _ => by
      show tk (addJ x m.js) q = _
      rw [hadd]
      by_cases e : x.row = q
      · subst e; rw [if_pos rfl, if_pos rfl]; exact (hadd _).trans (if_pos rfl) |>.symm
      · rw [if_neg e, if_neg e]
    rw [← this]
    show _ = (tks m).set x.row (bsv (tk (addJ x m.js) x.row))
    rw [hadd, if_pos rfl]
  refine S.seq fun K1 hK1 => ?_
  refine S.region rfl ?_
  refine S.op (S.box (cs := [_, _]) rfl rfl rfl ?_)
  intro b5
  first | with_reducible refine S.nilK ?_ | refine S.nil ?_
  refine hK1 _ _ ?_
  refine S.seq fun K2 hK2 => ?_
  refine S.draw ([blk b 124 (mxC m mb tv).toArray, blk b5 127 #[.int .i64 (x.row : Int), bsv x.ns], mapL mb .u32 l]) [6] Tryd.mixed ?_
  refine S.dr_take 0 [1, 2, 3, 6] rfl (by kernel_rfl) rfl rfl rfl (q_move rfl) Sub.ent ?_
  refine S.dr_take 1 [2, 3, 6] rfl (by kernel_rfl) rfl rfl rfl (q_nilCheck rfl) Sub.ent ?_
  refine S.dr_take 2 [3, 6] rfl (by kernel_rfl) rfl rfl rfl (q_field Tryd.fo124_3 rfl) Sub.ent ?_
  refine S.dr_take 3 [6] rfl (by kernel_rfl) rfl rfl rfl (q_load Tryd.at121 rfl rfl) Sub.ent ?_
  refine S.dr_take 4 [6] rfl (by kernel_rfl) rfl rfl rfl (q_move rfl) Sub.ent ?_
  refine S.dr_take 5 [6] rfl (by kernel_rfl) rfl rfl rfl (q_loadS [_, _] Tryd.ag127 rfl rfl ⟨rfl, rfl, trivial⟩) Sub.ent ?_
  refine S.dr_1 (i := 6) (by kernel_rfl) rfl rfl ?_
  refine  (S.mapUpdate Tryd.underlying121 Tryd.underlying68 rfl rfl rfl rfl ?_)
  refine S.dr_late ([]) [] rfl ?_
  first | with_reducible refine S.dr_doneK (by kernel_rfl) ?_ | refine S.dr_done (by kernel_rfl) ?_
  refine hK2 _ _ ?_
  refine S.draw ([blk b 124 (mxC m mb tv).toArray, blk b5 127 #[.int .i64 (x.row : Int), bsv x.ns], own tv 120 1 (tks m)]) [12] Tryd.mixed ?_
  refine S.dr_take 0 [1, 2, 3, 6, 7, 10, 11, 12] rfl (by kernel_rfl) rfl rfl rfl (q_move rfl) Sub.ent ?_
  refine S.dr_take 1 [2, 3, 6, 7, 10, 11, 12] rfl (by kernel_rfl) rfl rfl rfl (q_nilCheck rfl) Sub.ent ?_
  refine S.dr_take 2 [3, 6, 7, 10, 11, 12] rfl (by kernel_rfl) rfl rfl rfl (q_field Tryd.fo124_4 rfl) Sub.ent ?_
  refine S.dr_take 3 [6, 7, 10, 11, 12] rfl (by kernel_rfl) rfl rfl rfl (q_load Tryd.at122 rfl rfl) Sub.ent ?_
  refine S.dr_take 4 [5, 6, 7, 10, 11, 12] rfl (by kernel_rfl) rfl rfl rfl (q_field Tryd.fo127_0 rfl) Sub.ent ?_
  refine S.dr_take 5 [6, 7, 10, 11, 12] rfl (by kernel_rfl) rfl rfl rfl (q_load Tryd.at3 rfl rfl) Sub.ent ?_
  refine S.dr_take 6 [7, 10, 11, 12] rfl (by kernel_rfl) rfl rfl rfl (q_indexO (x.row) Tryd.el122 rfl hta rfl rfl (by omega)) Sub.ent ?_
  refine S.dr_take 7 [10, 11, 12] rfl (by kernel_rfl) rfl rfl rfl (q_loadOw (tv) (x.row) Tryd.at120 rfl hta (by first | rfl | exact Nat.add_assoc _ _ _ | omega) (tks_get h3)) Sub.ent ?_
  refine S.dr_take 8 [9, 10, 11, 12] rfl (by kernel_rfl) rfl rfl rfl (q_field Tryd.fo127_1 rfl) Sub.ent ?_
  refine S.dr_take 9 [10, 11, 12] rfl (by kernel_rfl) rfl rfl rfl (q_load Tryd.at120 rfl rfl) Sub.ent ?_
  refine S.dr_take 10 [11, 12] rfl (by kernel_rfl) rfl rfl rfl (q_orB (tk m.js x.row) (x.ns) rfl rfl (rfl) (rfl)) Sub.ent ?_
  refine S.dr_take 11 [12] rfl (by kernel_rfl) rfl rfl rfl (q_indexO (x.row) Tryd.el122 rfl hta rfl rfl (by omega)) Sub.ent ?_
  refine S.dr_1 (i := 12) (by kernel_rfl) rfl rfl ?_
  refine  (S.storeOw (tv) (x.row) Tryd.at120 rfl rfl rfl hta (by first | rfl | exact Nat.add_assoc _ _ _ | omega) (by rw [tks_len]; omega) (hset) ?_)
  refine S.dr_late ([]) [] rfl ?_
  first | with_reducible refine S.dr_doneK (by kernel_rfl) ?_ | refine S.dr_done (by kernel_rfl) ?_
  with_reducible repeat (first | refine S.then_n ?_ | refine S.then_x ?_ | refine S.then_r ?_ | refine S.inBlock_n ?_ | refine S.inBlock_r ?_ | refine S.inBlock_x rfl ?_ | refine S.noGoto_r ?_ | refine S.noGoto_n ?_ | refine S.noGoto_x ?_)
  refine S.miClose (b := b) (m := m.add x) (mb := mb) (tv := tv) rfl rfl rfl (hok.add hn h1 h2 h3 h4 h5 h6) (put_perm hp hn) htn ?_
  exact S.finN (rs := []) (vs := []) Tryd.results61 (trivial)  (rfl) Sub.ent
end Go.Proofs.YtegjmmocnffpiaaDoor
/- The matrix: Of, Free, Size, Remove, Next. -/
namespace Go.Proofs.YtegjmmocnffpiaaDoor
open Go.RowKit
set_option maxRecDepth 20000
def ofR (m : Mx) (j : Nat) : Int × List Nat × Bool := match look m.js j with
  | some x => ((x.row : Int), lst x.ns, true)
  | none => (0, [], false)
theorem ofR_some {m : Mx} {j : Nat} {x : Jb} (h : look m.js j = some x) : ofR m j = ((x.row : Int), lst x.ns, true) := by simp only [ofR, h]
theorem ofR_none {m : Mx} {j : Nat} (h : look m.js j = none) : ofR m j = (0, [], false) := by simp only [ofR, h]
theorem Of_S (b : Nat) (m : Mx) (j : Nat) {W : World} (hW : TabW W) : Spec Tryd.prog 72 [.pointer (some ⟨b, 0, none⟩), .int .u32 (j : Int)] [MI b m, old W] fun Γ v Θ => ∃ sv : SV, v = .tuple #[.int .i64 (ofR m j).1, sv.v, .bool (ofR m j).2.2] ∧ sv.n = (ofR m j).2.1.length ∧
    Θ = own sv 3 1 (nds (ofR m j).2.1) :: MI b m :: old W :: Γ := by
  refine Spec.of_body Tryd.func72 rfl Tryd.ntmps72 rfl ?_
  intro w0 Γ
  show S _ w0 [(0, .pointer (some ⟨b, 0, none⟩)), (1, .int .u32 (j : Int))] (MI b m :: old W :: Γ) _
  refine S.seq fun K1 hK1 => ?_
  refine S.region rfl ?_
  refine S.op (S.q (q_assign rfl) rfl rfl ?_)
  refine S.op (S.q (q_assign rfl) rfl rfl ?_)
  refine S.op (S.q (q_assign rfl) rfl rfl ?_)
  first | with_reducible refine S.nilK ?_ | refine S.nil ?_
  refine hK1 _ _ ?_
  refine S.seq fun K2 hK2 => ?_
  refine S.seq fun K3 hK3 => ?_
  refine S.regionG ?_
  refine S.g_op rfl (S.q (q_move rfl) rfl rfl ?_)
  refine S.g_op rfl (S.q (q_eqN Tryd.underlying25 rfl rfl) rfl rfl ?_)
  refine S.g_op rfl (S.q (q_move rfl) rfl rfl ?_)
  refine S.g_yes rfl rfl rfl (rfl) (S.q (q_move rfl) rfl rfl ?_)
  refine S.g_yes rfl rfl rfl (rfl) (S.q (q_move rfl) rfl rfl ?_)
  refine S.g_yes rfl rfl rfl (rfl) (S.call Tryd.en58 (vs := [_, _]) ⟨rfl, rfl, trivial⟩ (stands_S b m j) rfl ?_)
  rintro v Θ ⟨rfl, rfl⟩
  refine S.g_yes rfl rfl rfl (rfl) (S.q (q_not rfl) rfl rfl ?_)
  refine S.g_op rfl (S.q (q_pickF rfl (rfl) rfl) rfl rfl ?_)
  first | with_reducible refine S.g_nilK ?_ | refine S.g_nil ?_
  refine hK3 _ _ ?_
  refine S.cond rfl (fun h1 => ?_) (fun h1 => ?_)
  · have hn : look m.js j = none := by cases h : look m.js j with | none => rfl | some x => rw [h] at h1; cases h1
    refine S.seq fun K4 hK4 => ?_
    refine S.region rfl ?_
    refine S.op (S.q (q_assign rfl) rfl rfl ?_)
    refine S.op (S.q (q_assign rfl) rfl rfl ?_)
    refine S.op (S.q (q_assign rfl) rfl rfl ?_)
    first | with_reducible refine S.nilK ?_ | refine S.nil ?_
    refine hK4 _ _ ?_
    refine S.ret ?_
    with_reducible repeat (first | refine S.then_n ?_ | refine S.then_x ?_ | refine S.then_r ?_ | refine S.inBlock_n ?_ | refine S.inBlock_r ?_ | refine S.inBlock_x rfl ?_ | refine S.noGoto_r ?_ | refine S.noGoto_n ?_ | refine S.noGoto_x ?_)
    rw [show S _ w0 = S _ w0 from rfl]
    refine S.ent (Δ := own SV.nil 3 1 (nds (ofR m j).2.1) :: MI b m :: old W :: Γ) (by rw [ofR_none hn]; exact Ent.ownNil _ _) ?_
    exact S.fin (rs := [_, _, _]) (vs := [_, _, _]) Tryd.results72 (⟨rfl, rfl, rfl, trivial⟩)  (⟨SV.nil, by rw [ofR_none hn]; rfl, by rw [ofR_none hn]; rfl, rfl⟩) Sub.ent
  · obtain ⟨x, hx⟩ : ∃ x, look m.js j = some x := by cases h : look m.js j with | none => rw [h] at h1; cases h1 | some x => exact ⟨x, rfl⟩
    refine S.miOpen b m fun mb tv l hok hp htn => ?_
    have hg := get_look hok.srt hp j
    refine S.skip ?_
    with_reducible repeat (first | refine S.then_n ?_ | refine S.then_x ?_ | refine S.then_r ?_ | refine S.inBlock_n ?_ | refine S.inBlock_r ?_ | refine S.inBlock_x rfl ?_ | refine S.noGoto_r ?_ | refine S.noGoto_n ?_ | refine S.noGoto_x ?_)
    refine hK2 _ _ ?_
    refine S.seq fun K5 hK5 => ?_
    refine S.region rfl ?_
    refine S.op (S.q (q_move rfl) rfl rfl ?_)
    refine S.op (S.q (q_nilCheck rfl) rfl rfl ?_)
    refine S.op (S.q (q_field Tryd.fo124_3 rfl) rfl rfl ?_)
    refine S.op (S.q (q_load Tryd.at121 rfl rfl) rfl rfl ?_)
    refine S.op (S.q (q_move rfl) rfl rfl ?_)
    refine S.op (S.q (q_lookup1 (jbV x) Tryd.underlying121 Tryd.underlying68 Tryd.zv127 rfl rfl rfl (by rw [hg, hx]; rfl)) rfl rfl ?_)
    refine S.op (S.alloc Tryd.z127 rfl ?_)
    intro b7
    refine S.op (S.storeS (cs' := [_, _]) Tryd.ag127 rfl rfl rfl rfl rfl rfl ?_)
    first | with_reducible refine S.nilK ?_ | refine S.nil ?_
    refine hK5 _ _ ?_
    refine S.seq fun K6 hK6 => ?_
    refine S.draw ([blk b7 127 #[.int .i64 (x.row : Int), bsv x.ns], old W]) [4] Tryd.mixed ?_
    refine S.dr_takeP 0 rfl (by kernel_rfl) rfl rfl rfl (q_field Tryd.fo127_0 rfl) Sub.ent ?_
    refine S.dr_take 2 [3, 4, 5, 6, 7] rfl (by kernel_rfl) rfl rfl rfl (q_field Tryd.fo127_1 rfl) Sub.ent ?_
    refine S.dr_take 3 [4, 5, 6, 7] rfl (by kernel_rfl) rfl rfl rfl (q_load Tryd.at120 rfl rfl) Sub.ent ?_
    refine S.dr_2 (i := 1) (j := 4) (by kernel_rfl) rfl rfl rfl rfl ?_ ?_
    · refine  (S.q (q_load Tryd.at3 rfl rfl) rfl rfl ?_)
      refine S.dr_k rfl Sub.ent ?_
      refine S.dr_1 (i := 4) (by kernel_rfl) rfl rfl ?_
      refine  (S.call Tryd.en62 (vs := [_]) ⟨rfl, trivial⟩ (list_S x.ns hW) rfl ?_)
      rintro v Θ ⟨sv, rfl, hsv, rfl⟩
      refine S.dr_late ([blk b7 127 #[.int .i64 (x.row : Int), bsv x.ns]]) [] rfl ?_
      refine S.dr_take 5 [] rfl (by kernel_rfl) rfl rfl rfl (q_assign rfl) Sub.ent ?_
      refine S.dr_take 6 [] rfl (by kernel_rfl) rfl rfl rfl (q_assign rfl) Sub.ent ?_
      refine S.dr_take 7 [] rfl (by kernel_rfl) rfl rfl rfl (q_assign rfl) Sub.ent ?_
      first | with_reducible refine S.dr_doneK (by kernel_rfl) ?_ | refine S.dr_done (by kernel_rfl) ?_
      refine hK6 _ _ ?_
      refine S.ret ?_
      with_reducible repeat (first | refine S.then_n ?_ | refine S.then_x ?_ | refine S.then_r ?_ | refine S.inBlock_n ?_ | refine S.inBlock_r ?_ | refine S.inBlock_x rfl ?_ | refine S.noGoto_r ?_ | refine S.noGoto_n ?_ | refine S.noGoto_x ?_)
      refine S.miClose (b := b) (m := m) (mb := mb) (tv := tv) rfl rfl rfl hok hp htn ?_
      exact S.fin (rs := [_, _, _]) (vs := [_, _, _]) Tryd.results72 (⟨rfl, rfl, rfl, trivial⟩)  (⟨sv, by rw [ofR_some hx]; rfl, by rw [ofR_some hx]; exact hsv, by rw [ofR_some hx]⟩) Sub.ent
    · refine  (S.call Tryd.en62 (vs := [_]) ⟨rfl, trivial⟩ (list_S x.ns hW) rfl ?_)
      rintro v Θ ⟨sv, rfl, hsv, rfl⟩
      refine S.dr_late ([blk b7 127 #[.int .i64 (x.row : Int), bsv x.ns]]) [] rfl ?_
      refine S.dr_take 1 [] rfl (by kernel_rfl) rfl rfl rfl (q_load Tryd.at3 rfl rfl) Sub.ent ?_
      refine S.dr_take 5 [] rfl (by kernel_rfl) rfl rfl rfl (q_assign rfl) Sub.ent ?_
      refine S.dr_take 6 [] rfl (by kernel_rfl) rfl rfl rfl (q_assign rfl) Sub.ent ?_
      refine S.dr_take 7 [] rfl (by kernel_rfl) rfl rfl rfl (q_assign rfl) Sub.ent ?_
      first | with_reducible refine S.dr_doneK (by kernel_rfl) ?_ | refine S.dr_done (by kernel_rfl) ?_
      refine hK6 _ _ ?_
      refine S.ret ?_
      with_reducible repeat (first | refine S.then_n ?_ | refine S.then_x ?_ | refine S.then_r ?_ | refine S.inBlock_n ?_ | refine S.inBlock_r ?_ | refine S.inBlock_x rfl ?_ | refine S.noGoto_r ?_ | refine S.noGoto_n ?_ | refine S.noGoto_x ?_)
      refine S.miClose (b := b) (m := m) (mb := mb) (tv := tv) rfl rfl rfl hok hp htn ?_
      exact S.fin (rs := [_, _, _]) (vs := [_, _, _]) Tryd.results72 (⟨rfl, rfl, rfl, trivial⟩)  (⟨sv, by rw [ofR_some hx]; rfl, by rw [ofR_some hx]; exact hsv, by rw [ofR_some hx]⟩) Sub.ent
def freeR (m : Mx) (z : Int) : Nat := if rowB m z then (lst (m.free z.toNat)).length else 0
theorem Free_S (b : Nat) (m : Mx) (z : Int) : Spec Tryd.prog 67 [.pointer (some ⟨b, 0, none⟩), .int .i64 z] [MI b m] fun Γ v Θ => v = .int .i64 (freeR m z : Nat) ∧ Θ = MI b m :: Γ := by
  refine Spec.of_body Tryd.func67 rfl Tryd.ntmps67 rfl ?_
  intro w0 Γ
  show S _ w0 [(0, .pointer (some ⟨b, 0, none⟩)), (1, .int .i64 z)] (MI b m :: Γ) _
  refine S.seq fun K1 hK1 => ?_
  refine S.region rfl ?_
  refine S.op (S.q (q_assign rfl) rfl rfl ?_)
  first | with_reducible refine S.nilK ?_ | refine S.nil ?_
  refine hK1 _ _ ?_
  refine S.seq fun K2 hK2 => ?_
  refine S.seq fun K3 hK3 => ?_
  refine S.region rfl ?_
  refine S.op (S.q (q_move rfl) rfl rfl ?_)
  refine S.op (S.q (q_move rfl) rfl rfl ?_)
  refine S.op (S.call Tryd.en63 (vs := [_, _]) ⟨rfl, rfl, trivial⟩ (row_S b m z) rfl ?_)
  rintro v Θ ⟨rfl, rfl⟩
  refine S.op (S.q (q_not rfl) rfl rfl ?_)
  first | with_reducible refine S.nilK ?_ | refine S.nil ?_
  refine hK3 _ _ ?_
  refine S.cond rfl (fun h1 => ?_) (fun h1 => ?_)
  · have hn : rowB m z = false := by simpa using h1
    refine S.seq fun K4 hK4 => ?_
    refine S.region rfl ?_
    refine S.op (S.q (q_assign rfl) rfl rfl ?_)
    first | with_reducible refine S.nilK ?_ | refine S.nil ?_
    refine hK4 _ _ ?_
    refine S.ret ?_
    with_reducible repeat (first | refine S.then_n ?_ | refine S.then_x ?_ | refine S.then_r ?_ | refine S.inBlock_n ?_ | refine S.inBlock_r ?_ | refine S.inBlock_x rfl ?_ | refine S.noGoto_r ?_ | refine S.noGoto_n ?_ | refine S.noGoto_x ?_)
    exact S.fin (rs := [_]) (vs := [_]) Tryd.results67 (⟨rfl, trivial⟩)  (⟨by simp only [resV, freeR, hn]; rfl, rfl⟩) Sub.ent
  · have hn : rowB m z = true := by simpa using h1
    have hr := rowB_iff.1 hn
    refine S.miOpen b m fun mb tv l hok hp htn => ?_
    refine S.ownSome tv (by omega) fun tb tf hta hl1 hl2 hl3 => ?_
    refine S.skip ?_
    with_reducible repeat (first | refine S.then_n ?_ | refine S.then_x ?_ | refine S.then_r ?_ | refine S.inBlock_n ?_ | refine S.inBlock_r ?_ | refine S.inBlock_x rfl ?_ | refine S.noGoto_r ?_ | refine S.noGoto_n ?_ | refine S.noGoto_x ?_)
    refine hK2 _ _ ?_
    refine S.seq fun K5 hK5 => ?_
    refine S.draw ([blk b 124 (mxC m mb tv).toArray, own tv 120 1 (tks m)]) [12] Tryd.mixed ?_
    refine S.dr_take 0 [1, 2, 3, 11, 12, 13] rfl (by kernel_rfl) rfl rfl rfl (q_move rfl) Sub.ent ?_
    refine S.dr_take 1 [2, 3, 11, 12, 13] rfl (by kernel_rfl) rfl rfl rfl (q_nilCheck rfl) Sub.ent ?_
    refine S.dr_take 2 [3, 11, 12, 13] rfl (by kernel_rfl) rfl rfl rfl (q_field Tryd.fo124_2 rfl) Sub.ent ?_
    refine S.dr_take 3 [11, 12, 13] rfl (by kernel_rfl) rfl rfl rfl (q_load Tryd.at120 rfl rfl) Sub.ent ?_
    refine S.dr_take 4 [5, 6, 7, 9, 10, 11, 12, 13] rfl (by kernel_rfl) rfl rfl rfl (q_move rfl) Sub.ent ?_
    refine S.dr_take 5 [6, 7, 9, 10, 11, 12, 13] rfl (by kernel_rfl) rfl rfl rfl (q_nilCheck rfl) Sub.ent ?_
    refine S.dr_take 6 [7, 9, 10, 11, 12, 13] rfl (by kernel_rfl) rfl rfl rfl (q_field Tryd.fo124_4 rfl) Sub.ent ?_
    refine S.dr_take 7 [9, 10, 11, 12, 13] rfl (by kernel_rfl) rfl rfl rfl (q_load Tryd.at122 rfl rfl) Sub.ent ?_
    refine S.dr_take 8 [9, 10, 11, 12, 13] rfl (by kernel_rfl) rfl rfl rfl (q_move rfl) Sub.ent ?_
    refine S.dr_take 9 [10, 11, 12, 13] rfl (by kernel_rfl) rfl rfl rfl (q_indexO (z.toNat) Tryd.el122 rfl hta rfl (by omega) (by omega)) Sub.ent ?_
    refine S.dr_take 10 [11, 12, 13] rfl (by kernel_rfl) rfl rfl rfl (q_loadOw (tv) (z.toNat) Tryd.at120 rfl hta (by first | rfl | exact Nat.add_assoc _ _ _ | omega) (tks_get (show z.toNat < m.R by omega))) Sub.ent ?_
    refine S.dr_take 11 [12, 13] rfl (by kernel_rfl) rfl rfl rfl (q_andNotB (m.up) (tk m.js z.toNat) rfl rfl (rfl) (rfl)) Sub.ent ?_
    refine S.dr_1 (i := 12) (by kernel_rfl) rfl rfl ?_
    refine  (S.call Tryd.en59 (vs := [_]) ⟨rfl, trivial⟩ (count_S (m.free z.toNat)) rfl ?_)
    rintro v Θ ⟨rfl, rfl⟩
    refine S.dr_late ([]) [] rfl ?_
    refine S.dr_take 13 [] rfl (by kernel_rfl) rfl rfl rfl (q_assign rfl) Sub.ent ?_
    first | with_reducible refine S.dr_doneK (by kernel_rfl) ?_ | refine S.dr_done (by kernel_rfl) ?_
    refine hK5 _ _ ?_
    refine S.ret ?_
    with_reducible repeat (first | refine S.then_n ?_ | refine S.then_x ?_ | refine S.then_r ?_ | refine S.inBlock_n ?_ | refine S.inBlock_r ?_ | refine S.inBlock_x rfl ?_ | refine S.noGoto_r ?_ | refine S.noGoto_n ?_ | refine S.noGoto_x ?_)
    refine S.miClose (b := b) (m := m) (mb := mb) (tv := tv) rfl rfl rfl hok hp htn ?_
    exact S.fin (rs := [_]) (vs := [_]) Tryd.results67 (⟨rfl, trivial⟩)  (⟨by simp only [resV, freeR, hn]; rfl, rfl⟩) Sub.ent
theorem Size_S (b : Nat) (m : Mx) : Spec Tryd.prog 37 [.pointer (some ⟨b, 0, none⟩)] [MI b m] fun Γ v Θ => v = .tuple #[.int .i64 (m.R : Int), .int .i64 (m.N : Int)] ∧ Θ = MI b m :: Γ := by
  refine Spec.of_body Tryd.func37 rfl Tryd.ntmps37 rfl ?_
  intro w0 Γ
  show S _ w0 [(0, .pointer (some ⟨b, 0, none⟩))] (MI b m :: Γ) _
  refine S.miOpen b m fun mb tv l hok hp htn => ?_
  refine S.seq fun K1 hK1 => ?_
  refine S.region rfl ?_
  refine S.op (S.q (q_assign rfl) rfl rfl ?_)
  refine S.op (S.q (q_assign rfl) rfl rfl ?_)
  first | with_reducible refine S.nilK ?_ | refine S.nil ?_
  refine hK1 _ _ ?_
  refine S.seq fun K2 hK2 => ?_
  refine S.seq fun K3 hK3 => ?_
  refine S.region rfl ?_
  refine S.op (S.q (q_move rfl) rfl rfl ?_)
  refine S.op (S.q (q_eqN Tryd.underlying25 rfl rfl) rfl rfl ?_)
  first | with_reducible refine S.nilK ?_ | refine S.nil ?_
  refine hK3 _ _ ?_
  refine S.condF rfl ?_
  refine S.skip ?_
  with_reducible repeat (first | refine S.then_n ?_ | refine S.then_x ?_ | refine S.then_r ?_ | refine S.inBlock_n ?_ | refine S.inBlock_r ?_ | refine S.inBlock_x rfl ?_ | refine S.noGoto_r ?_ | refine S.noGoto_n ?_ | refine S.noGoto_x ?_)
  refine hK2 _ _ ?_
  refine S.seq fun K4 hK4 => ?_
  refine S.draw ([blk b 124 (mxC m mb tv).toArray]) [] Tryd.mixed ?_
  refine S.dr_take 0 [] rfl (by kernel_rfl) rfl rfl rfl (q_move rfl) Sub.ent ?_
  refine S.dr_take 1 [] rfl (by kernel_rfl) rfl rfl rfl (q_nilCheck rfl) Sub.ent ?_
  refine S.dr_take 2 [] rfl (by kernel_rfl) rfl rfl rfl (q_field Tryd.fo124_0 rfl) Sub.ent ?_
  refine S.dr_take 3 [] rfl (by kernel_rfl) rfl rfl rfl (q_load Tryd.at3 rfl rfl) Sub.ent ?_
  refine S.dr_take 4 [] rfl (by kernel_rfl) rfl rfl rfl (q_move rfl) Sub.ent ?_
  refine S.dr_take 5 [] rfl (by kernel_rfl) rfl rfl rfl (q_nilCheck rfl) Sub.ent ?_
  refine S.dr_take 6 [] rfl (by kernel_rfl) rfl rfl rfl (q_field Tryd.fo124_1 rfl) Sub.ent ?_
  refine S.dr_take 7 [] rfl (by kernel_rfl) rfl rfl rfl (q_load Tryd.at3 rfl rfl) Sub.ent ?_
  refine S.dr_take 8 [] rfl (by kernel_rfl) rfl rfl rfl (q_assign rfl) Sub.ent ?_
  refine S.dr_take 9 [] rfl (by kernel_rfl) rfl rfl rfl (q_assign rfl) Sub.ent ?_
  first | with_reducible refine S.dr_doneK (by kernel_rfl) ?_ | refine S.dr_done (by kernel_rfl) ?_
  refine hK4 _ _ ?_
  refine S.ret ?_
  with_reducible repeat (first | refine S.then_n ?_ | refine S.then_x ?_ | refine S.then_r ?_ | refine S.inBlock_n ?_ | refine S.inBlock_r ?_ | refine S.inBlock_x rfl ?_ | refine S.noGoto_r ?_ | refine S.noGoto_n ?_ | refine S.noGoto_x ?_)
  refine S.miClose (b := b) (m := m) (mb := mb) (tv := tv) rfl rfl rfl hok hp htn ?_
  exact S.fin (rs := [_, _]) (vs := [_, _]) Tryd.results37 (⟨rfl, rfl, trivial⟩)  (⟨rfl, rfl⟩) Sub.ent
def removeR (m : Mx) (j : Nat) : Int × Mx := if (look m.js j).isSome then (0, m.del j) else (6, m)
theorem removeR_none {m : Mx} {j : Nat} (h : look m.js j = none) : removeR m j = (6, m) := by simp [removeR, h]
theorem removeR_some {m : Mx} {j : Nat} {x : Jb} (h : look m.js j = some x) : removeR m j = (0, m.del j) := by simp [removeR, h]
theorem Remove_S (b : Nat) (m : Mx) (j : Nat) : Spec Tryd.prog 32 [.pointer (some ⟨b, 0, none⟩), .int .u32 (j : Int)] [MI b m] fun Γ v Θ => v = .int .i64 (removeR m j).1 ∧ Θ = MI b (removeR m j).2 :: Γ := by
  refine Spec.of_body Tryd.func32 rfl Tryd.ntmps32 rfl ?_
  intro w0 Γ
  show S _ w0 [(0, .pointer (some ⟨b, 0, none⟩)), (1, .int .u32 (j : Int))] (MI b m :: Γ) _
  refine S.seq fun K1 hK1 => ?_
  refine S.region rfl ?_
  refine S.op (S.q (q_assign rfl) rfl rfl ?_)
  first | with_reducible refine S.nilK ?_ | refine S.nil ?_
  refine hK1 _ _ ?_
  refine S.seq fun K2 hK2 => ?_
  refine S.seq fun K3 hK3 => ?_
  refine S.regionG ?_
  refine S.g_op rfl (S.q (q_move rfl) rfl rfl ?_)
  refine S.g_op rfl (S.q (q_eqN Tryd.underlying25 rfl rfl) rfl rfl ?_)
  refine S.g_op rfl (S.q (q_move rfl) rfl rfl ?_)
  refine S.g_yes rfl rfl rfl (rfl) (S.q (q_move rfl) rfl rfl ?_)
  refine S.g_yes rfl rfl rfl (rfl) (S.q (q_move rfl) rfl rfl ?_)
  refine S.g_yes rfl rfl rfl (rfl) (S.call Tryd.en58 (vs := [_, _]) ⟨rfl, rfl, trivial⟩ (stands_S b m j) rfl ?_)
  rintro v Θ ⟨rfl, rfl⟩
  refine S.g_yes rfl rfl rfl (rfl) (S.q (q_not rfl) rfl rfl ?_)
  refine S.g_op rfl (S.q (q_pickF rfl (rfl) rfl) rfl rfl ?_)
  first | with_reducible refine S.g_nilK ?_ | refine S.g_nil ?_
  refine hK3 _ _ ?_
  refine S.cond rfl (fun h1 => ?_) (fun h1 => ?_)
  · have hn : look m.js j = none := by cases h : look m.js j with | none => rfl | some x => rw [h] at h1; cases h1
    refine S.seq fun K4 hK4 => ?_
    refine S.region rfl ?_
    refine S.op (S.q (q_assign rfl) rfl rfl ?_)
    first | with_reducible refine S.nilK ?_ | refine S.nil ?_
    refine hK4 _ _ ?_
    refine S.ret ?_
    with_reducible repeat (first | refine S.then_n ?_ | refine S.then_x ?_ | refine S.then_r ?_ | refine S.inBlock_n ?_ | refine S.inBlock_r ?_ | refine S.inBlock_x rfl ?_ | refine S.noGoto_r ?_ | refine S.noGoto_n ?_ | refine S.noGoto_x ?_)
    exact S.fin (rs := [_]) (vs := [_]) Tryd.results32 (⟨rfl, trivial⟩)  (⟨by rw [removeR_none hn]; rfl, by rw [removeR_none hn]⟩) Sub.ent
  · obtain ⟨x, hx⟩ : ∃ x, look m.js j = some x := by cases h : look m.js j with | none => rw [h] at h1; cases h1 | some x => exact ⟨x, rfl⟩
    refine S.miOpen b m fun mb tv l hok hp htn => ?_
    have hg := get_look hok.srt hp j
    obtain ⟨hxm, hxi⟩ := look_some hx
    have hrow := hok.row x hxm
    have hR8 := hok.R8
    refine S.ownSome tv (by omega) fun tb tf hta hl1 hl2 hl3 => ?_
    have hset : (tks m).set x.row (bsv (tk m.js x.row &&& ~~~x.ns)) = tks (m.del j) := by
      have hd : ∀ q, tk (m.del j).js q = if x.row = q then tk m.js q &&& ~~~x.ns else tk m.js q := fun q => by
        have := tk_delJ hok hxm q
        rw [hxi] at this
        exact this
      have := tks_set (m := m) (m' := m.del j) (r := x.row) rfl fun q _ => by
        by_cases e : x.row = q
        · subst e; rw [if_pos rfl]
        · rw [hd q, if_neg e, if_neg e]
      rw [← this, hd, if_pos rfl]
    refine S.skip ?_
    with_reducible repeat (first | refine S.then_n ?_ | refine S.then_x ?_ | refine S.then_r ?_ | refine S.inBlock_n ?_ | refine S.inBlock_r ?_ | refine S.inBlock_x rfl ?_ | refine S.noGoto_r ?_ | refine S.noGoto_n ?_ | refine S.noGoto_x ?_)
    refine hK2 _ _ ?_
    refine S.seq fun K5 hK5 => ?_
    refine S.region rfl ?_
    refine S.op (S.q (q_move rfl) rfl rfl ?_)
    refine S.op (S.q (q_nilCheck rfl) rfl rfl ?_)
    refine S.op (S.q (q_field Tryd.fo124_3 rfl) rfl rfl ?_)
    refine S.op (S.q (q_load Tryd.at121 rfl rfl) rfl rfl ?_)
    refine S.op (S.q (q_move rfl) rfl rfl ?_)
    refine S.op (S.q (q_lookup1 (jbV x) Tryd.underlying121 Tryd.underlying68 Tryd.zv127 rfl rfl rfl (by rw [hg, hx]; rfl)) rfl rfl ?_)
    refine S.op (S.alloc Tryd.z127 rfl ?_)
    intro b5
    refine S.op (S.storeS (cs' := [_, _]) Tryd.ag127 rfl rfl rfl rfl rfl rfl ?_)
    first | with_reducible refine S.nilK ?_ | refine S.nil ?_
    refine hK5 _ _ ?_
    refine S.seq fun K6 hK6 => ?_
    refine S.draw ([blk b 124 (mxC m mb tv).toArray, blk b5 127 #[.int .i64 (x.row : Int), bsv x.ns], own tv 120 1 (tks m)]) [12] Tryd.mixed ?_
    refine S.dr_take 0 [1, 2, 3, 6, 7, 10, 11, 12] rfl (by kernel_rfl) rfl rfl rfl (q_move rfl) Sub.ent ?_
    refine S.dr_take 1 [2, 3, 6, 7, 10, 11, 12] rfl (by kernel_rfl) rfl rfl rfl (q_nilCheck rfl) Sub.ent ?_
    refine S.dr_take 2 [3, 6, 7, 10, 11, 12] rfl (by kernel_rfl) rfl rfl rfl (q_field Tryd.fo124_4 rfl) Sub.ent ?_
    refine S.dr_take 3 [6, 7, 10, 11, 12] rfl (by kernel_rfl) rfl rfl rfl (q_load Tryd.at122 rfl rfl) Sub.ent ?_
    refine S.dr_take 4 [5, 6, 7, 10, 11, 12] rfl (by kernel_rfl) rfl rfl rfl (q_field Tryd.fo127_0 rfl) Sub.ent ?_
    refine S.dr_take 5 [6, 7, 10, 11, 12] rfl (by kernel_rfl) rfl rfl rfl (q_load Tryd.at3 rfl rfl) Sub.ent ?_
    refine S.dr_take 6 [7, 10, 11, 12] rfl (by kernel_rfl) rfl rfl rfl (q_indexO (x.row) Tryd.el122 rfl hta rfl rfl (by omega)) Sub.ent ?_
    refine S.dr_take 7 [10, 11, 12] rfl (by kernel_rfl) rfl rfl rfl (q_loadOw (tv) (x.row) Tryd.at120 rfl hta (by first | rfl | exact Nat.add_assoc _ _ _ | omega) (tks_get hrow)) Sub.ent ?_
    refine S.dr_take 8 [9, 10, 11, 12] rfl (by kernel_rfl) rfl rfl rfl (q_field Tryd.fo127_1 rfl) Sub.ent ?_
    refine S.dr_take 9 [10, 11, 12] rfl (by kernel_rfl) rfl rfl rfl (q_load Tryd.at120 rfl rfl) Sub.ent ?_
    refine S.dr_take 10 [11, 12] rfl (by kernel_rfl) rfl rfl rfl (q_andNotB (tk m.js x.row) (x.ns) rfl rfl (rfl) (rfl)) Sub.ent ?_
    refine S.dr_take 11 [12] rfl (by kernel_rfl) rfl rfl rfl (q_indexO (x.row) Tryd.el122 rfl hta rfl rfl (by omega)) Sub.ent ?_
    refine S.dr_1 (i := 12) (by kernel_rfl) rfl rfl ?_
    refine  (S.storeOw (tv) (x.row) Tryd.at120 rfl rfl rfl hta (by first | rfl | exact Nat.add_assoc _ _ _ | omega) (by rw [tks_len]; omega) (hset) ?_)
    refine S.dr_late ([]) [] rfl ?_
    first | with_reducible refine S.dr_doneK (by kernel_rfl) ?_ | refine S.dr_done (by kernel_rfl) ?_
    refine hK6 _ _ ?_
    refine S.seq fun K7 hK7 => ?_
    refine S.region rfl ?_
    refine S.op (S.q (q_move rfl) rfl rfl ?_)
    refine S.op (S.q (q_nilCheck rfl) rfl rfl ?_)
    refine S.op (S.q (q_field Tryd.fo124_3 rfl) rfl rfl ?_)
    refine S.op (S.q (q_load Tryd.at121 rfl rfl) rfl rfl ?_)
    refine S.op (S.q (q_move rfl) rfl rfl ?_)
    refine S.op (S.mapDelete Tryd.underlying121 Tryd.underlying68 rfl rfl rfl ?_)
    first | with_reducible refine S.nilK ?_ | refine S.nil ?_
    refine hK7 _ _ ?_
    refine S.seq fun K8 hK8 => ?_
    refine S.region rfl ?_
    refine S.op (S.q (q_assign rfl) rfl rfl ?_)
    first | with_reducible refine S.nilK ?_ | refine S.nil ?_
    refine hK8 _ _ ?_
    refine S.ret ?_
    with_reducible repeat (first | refine S.then_n ?_ | refine S.then_x ?_ | refine S.then_r ?_ | refine S.inBlock_n ?_ | refine S.inBlock_r ?_ | refine S.inBlock_x rfl ?_ | refine S.noGoto_r ?_ | refine S.noGoto_n ?_ | refine S.noGoto_x ?_)
    refine S.miClose (b := b) (m := m.del j) (mb := mb) (tv := tv) rfl rfl rfl (hok.del j) (del_perm hok.srt hp j) htn ?_
    exact S.fin (rs := [_]) (vs := [_]) Tryd.results32 (⟨rfl, trivial⟩)  (⟨by rw [removeR_some hx]; rfl, by rw [removeR_some hx]⟩) Sub.ent
/-- The next row that has anybody. -/
def nextUp (m : Mx) (z : Int) : Nat → Option Nat
  | 0 => none
  | i + 1 => match nextUp m z i with
    | some r => some r
    | none => if tk m.js ((z + 1 + i) % m.R).toNat = 0#16 then none else some ((z + 1 + i) % m.R).toNat
def nextR (m : Mx) (z : Int) : Int × Bool := match nextUp m (if rowB m z then z else -1) m.R with
  | some r => ((r : Int), true)
  | none => (0, false)
theorem nextUp_mono {m : Mx} {z : Int} {r : Nat} : ∀ {k i : Nat}, nextUp m z i = some r → i ≤ k → nextUp m z k = some r
  | 0, i, h, hk => by rwa [show i = 0 by omega] at h
  | k + 1, i, h, hk => by
    by_cases e : i = k + 1
    · rwa [e] at h
    · rw [nextUp, nextUp_mono h (by omega)]
theorem Next_S (b : Nat) (m : Mx) (z : Int) : Spec Tryd.prog 54 [.pointer (some ⟨b, 0, none⟩), .int .i64 z] [MI b m] fun Γ v Θ => v = .tuple #[.int .i64 (nextR m z).1, .bool (nextR m z).2] ∧ Θ = MI b m :: Γ := by
  refine Spec.of_body Tryd.func54 rfl Tryd.ntmps54 rfl ?_
  intro w0 Γ
  show S _ w0 [(0, .pointer (some ⟨b, 0, none⟩)), (1, .int .i64 z)] (MI b m :: Γ) _
  obtain ⟨z', hz'⟩ : ∃ z', z' = if rowB m z then z else -1 := ⟨_, rfl⟩
  refine S.seq fun K1 hK1 => ?_
  refine S.region rfl ?_
  refine S.op (S.q (q_assign rfl) rfl rfl ?_)
  refine S.op (S.q (q_assign rfl) rfl rfl ?_)
  first | with_reducible refine S.nilK ?_ | refine S.nil ?_
  refine hK1 _ _ ?_
  refine S.seq fun K2 hK2 => ?_
  refine S.seq fun K3 hK3 => ?_
  refine S.region rfl ?_
  refine S.op (S.q (q_move rfl) rfl rfl ?_)
  refine S.op (S.q (q_eqN Tryd.underlying25 rfl rfl) rfl rfl ?_)
  first | with_reducible refine S.nilK ?_ | refine S.nil ?_
  refine hK3 _ _ ?_
  refine S.condF rfl ?_
  refine S.skip ?_
  with_reducible repeat (first | refine S.then_n ?_ | refine S.then_x ?_ | refine S.then_r ?_ | refine S.inBlock_n ?_ | refine S.inBlock_r ?_ | refine S.inBlock_x rfl ?_ | refine S.noGoto_r ?_ | refine S.noGoto_n ?_ | refine S.noGoto_x ?_)
  refine hK2 _ _ ?_
  refine S.seq fun K4 hK4 => ?_
  refine S.seq fun K5 hK5 => ?_
  refine S.region rfl ?_
  refine S.op (S.q (q_move rfl) rfl rfl ?_)
  refine S.op (S.q (q_move rfl) rfl rfl ?_)
  refine S.op (S.call Tryd.en63 (vs := [_, _]) ⟨rfl, rfl, trivial⟩ (row_S b m z) rfl ?_)
  rintro v Θ ⟨rfl, rfl⟩
  refine S.op (S.q (q_not rfl) rfl rfl ?_)
  first | with_reducible refine S.nilK ?_ | refine S.nil ?_
  refine hK5 _ _ ?_
  refine S.cut (fun ρ' Γ' => ρ' = [(0, .pointer (some ⟨b, 0, none⟩)), (1, .int .i64 z')] ∧ Γ' = MI b m :: Γ) ?_ ?_
  · refine S.cond rfl (fun h2 => ?_) (fun h2 => ?_)
    · have hn : rowB m z = false := by simpa using h2
      rw [hn] at hz'
      refine S.region rfl ?_
      refine S.op (S.q (q_assign rfl) rfl rfl ?_)
      first | with_reducible refine S.nilK ?_ | refine S.nil ?_
      with_reducible repeat (first | refine S.then_n ?_ | refine S.then_x ?_ | refine S.then_r ?_ | refine S.inBlock_n ?_ | refine S.inBlock_r ?_ | refine S.inBlock_x rfl ?_ | refine S.noGoto_r ?_ | refine S.noGoto_n ?_ | refine S.noGoto_x ?_)
      first | (subst hz'; exact S.meet ⟨rfl, rfl⟩ ⟨rfl, rfl, trivial⟩ Sub.ent)
    · have hn : rowB m z = true := by simpa using h2
      rw [hn] at hz'
      refine S.skip ?_
      with_reducible repeat (first | refine S.then_n ?_ | refine S.then_x ?_ | refine S.then_r ?_ | refine S.inBlock_n ?_ | refine S.inBlock_r ?_ | refine S.inBlock_x rfl ?_ | refine S.noGoto_r ?_ | refine S.noGoto_n ?_ | refine S.noGoto_x ?_)
      with_reducible repeat (first | refine S.then_n ?_ | refine S.then_x ?_ | refine S.then_r ?_ | refine S.inBlock_n ?_ | refine S.inBlock_r ?_ | refine S.inBlock_x rfl ?_ | refine S.noGoto_r ?_ | refine S.noGoto_n ?_ | refine S.noGoto_x ?_)
      first | (subst hz'; exact S.meet ⟨rfl, rfl⟩ ⟨rfl, rfl, trivial⟩ Sub.ent)
  · rintro ρ' Γ' ⟨rfl, rfl⟩
    refine S.miOpen b m fun mb tv l hok hp htn => ?_
    have hR8 := hok.R8
    have hR1 := hok.R1
    have hz2 : -1 ≤ z' ∧ z' < m.R := by
      rw [hz']
      by_cases h : rowB m z = true
      · rw [if_pos h]; have := rowB_iff.1 h; omega
      · rw [if_neg h]; omega
    refine S.ownSome tv (by omega) fun tb tf hta hl1 hl2 hl3 => ?_
    refine hK4 _ _ ?_
    refine S.seq fun K6 hK6 => ?_
    refine S.seq fun K7 hK7 => ?_
    refine S.region rfl ?_
    refine S.op (S.q (q_move rfl) rfl rfl ?_)
    refine S.op (S.q (q_nilCheck rfl) rfl rfl ?_)
    refine S.op (S.q (q_field Tryd.fo124_0 rfl) rfl rfl ?_)
    refine S.op (S.q (q_load Tryd.at3 rfl rfl) rfl rfl ?_)
    refine S.op (S.q (q_move rfl) rfl rfl ?_)
    first | with_reducible refine S.nilK ?_ | refine S.nil ?_
    refine hK7 _ _ ?_
    refine S.block ?_
    refine S.loop (fun k ρ' Γ' => ∃ i : Nat, k = m.R - i ∧ i ≤ m.R ∧ nextUp m z' i = none ∧ ρ' = [(0, .pointer (some ⟨b, 0, none⟩)), (1, .int .i64 z'), (17, .int .i64 m.R), (18, .int .i64 i)] ∧ Γ' = blk b 124 (mxC m mb tv).toArray :: mapL mb .u32 l :: own tv 120 1 (tks m) :: Γ) (m := _) (ρ0 := _) (Γ0 := _) (⟨0, rfl, by omega, rfl, rfl, rfl⟩) (by repeat (first | exact trivial | refine ⟨rfl, ?_⟩)) Sub.ent ?_
    rintro k ρ' Γ' ⟨i, hik, hiR, hnu, rfl, rfl⟩
    refine S.seq fun K8 hK8 => ?_
    refine S.region rfl ?_
    refine S.op (S.q (q_lt rfl rfl) rfl rfl ?_)
    first | with_reducible refine S.nilK ?_ | refine S.nil ?_
    refine hK8 _ _ ?_
    refine S.seq fun K9 hK9 => ?_
    refine S.condD rfl (fun h3 => ?_) (fun h3 => ?_)
    · have hmod : (((z' + 1 + i) % m.R).toNat : Int) = (z' + 1 + i) % m.R := Int.toNat_of_nonneg (Int.emod_nonneg _ (by omega))
      have hmlt : ((z' + 1 + i) % m.R) < m.R := Int.emod_lt_of_pos _ (by omega)
      refine S.skip ?_
      with_reducible repeat (first | refine S.then_n ?_ | refine S.then_x ?_ | refine S.then_r ?_ | refine S.inBlock_n ?_ | refine S.inBlock_r ?_ | refine S.inBlock_x rfl ?_ | refine S.noGoto_r ?_ | refine S.noGoto_n ?_ | refine S.noGoto_x ?_)
      refine hK9 _ _ ?_
      refine S.seq fun K10 hK10 => ?_
      refine S.block ?_
      refine S.seq fun K11 hK11 => ?_
      refine S.region rfl ?_
      refine S.op (S.q (q_move rfl) rfl rfl ?_)
      refine S.op (S.q (q_assign rfl) rfl rfl ?_)
      first | with_reducible refine S.nilK ?_ | refine S.nil ?_
      refine hK11 _ _ ?_
      refine S.seq fun K12 hK12 => ?_
      refine S.region rfl ?_
      refine S.op (S.q (q_move rfl) rfl rfl ?_)
      refine S.op (S.q (q_add rfl rfl (inI64 (by omega) (by omega))) rfl rfl ?_)
      refine S.op (S.q (q_move rfl) rfl rfl ?_)
      refine S.op (S.q (q_add rfl rfl (inI64 (by omega) (by omega))) rfl rfl ?_)
      refine S.op (S.q (q_move rfl) rfl rfl ?_)
      refine S.op (S.q (q_nilCheck rfl) rfl rfl ?_)
      refine S.op (S.q (q_field Tryd.fo124_0 rfl) rfl rfl ?_)
      refine S.op (S.q (q_load Tryd.at3 rfl rfl) rfl rfl ?_)
      refine S.op (S.q (q_rem rfl rfl (⟨by omega, by omega⟩)) rfl rfl ?_)
      refine S.op (S.q (q_assign rfl) rfl rfl ?_)
      first | with_reducible refine S.nilK ?_ | refine S.nil ?_
      refine hK12 _ _ ?_
      refine S.seq fun K13 hK13 => ?_
      refine S.region rfl ?_
      refine S.op (S.q (q_move rfl) rfl rfl ?_)
      refine S.op (S.q (q_nilCheck rfl) rfl rfl ?_)
      refine S.op (S.q (q_field Tryd.fo124_4 rfl) rfl rfl ?_)
      refine S.op (S.q (q_load Tryd.at122 rfl rfl) rfl rfl ?_)
      refine S.op (S.q (q_move rfl) rfl rfl ?_)
      refine S.op (S.q (q_indexO (((z' + 1 + i) % m.R).toNat) Tryd.el122 rfl hta rfl hmod.symm (by omega)) rfl rfl ?_)
      refine S.op (S.q (q_loadOw (tv) (((z' + 1 + i) % m.R).toNat) Tryd.at120 rfl hta (by first | rfl | exact Nat.add_assoc _ _ _ | omega) (tks_get (show ((z' + 1 + i) % m.R).toNat < m.R by omega))) rfl rfl ?_)
      refine S.op (S.q (q_ne rfl rfl) rfl rfl ?_)
      first | with_reducible refine S.nilK ?_ | refine S.nil ?_
      refine hK13 _ _ ?_
      refine S.condD rfl (fun h4 => ?_) (fun h4 => ?_)
      · have hu : nextUp m z' (i + 1) = some ((z' + 1 + i) % m.R).toNat := by
          rw [nextUp, hnu]
          exact if_neg fun e => h4 (bs_zero.2 e)
        have hfin : nextR m z = ((z' + 1 + i) % m.R, true) := by
          unfold nextR
          rw [← hz', nextUp_mono hu (show i + 1 ≤ m.R by omega)]
          exact congrArg (fun q : Int => (q, true)) hmod
        refine S.seq fun K14 hK14 => ?_
        refine S.region rfl ?_
        refine S.op (S.q (q_move rfl) rfl rfl ?_)
        refine S.op (S.q (q_assign rfl) rfl rfl ?_)
        refine S.op (S.q (q_assign rfl) rfl rfl ?_)
        first | with_reducible refine S.nilK ?_ | refine S.nil ?_
        refine hK14 _ _ ?_
        refine S.ret ?_
        with_reducible repeat (first | refine S.then_n ?_ | refine S.then_x ?_ | refine S.then_r ?_ | refine S.inBlock_n ?_ | refine S.inBlock_r ?_ | refine S.inBlock_x rfl ?_ | refine S.noGoto_r ?_ | refine S.noGoto_n ?_ | refine S.noGoto_x ?_)
        refine S.miClose (b := b) (m := m) (mb := mb) (tv := tv) rfl rfl rfl hok hp htn ?_
        exact S.fin (rs := [_, _]) (vs := [_, _]) Tryd.results54 (⟨rfl, rfl, trivial⟩)  (⟨by rw [hfin]; rfl, rfl⟩) Sub.ent
      · have hu : nextUp m z' (i + 1) = none := by
          rw [nextUp, hnu]
          exact if_pos (bs_zero.1 (Classical.byContradiction h4))
        refine S.skip ?_
        with_reducible repeat (first | refine S.then_n ?_ | refine S.then_x ?_ | refine S.then_r ?_ | refine S.inBlock_n ?_ | refine S.inBlock_r ?_ | refine S.inBlock_x rfl ?_ | refine S.noGoto_r ?_ | refine S.noGoto_n ?_ | refine S.noGoto_x ?_)
        with_reducible repeat (first | refine S.then_n ?_ | refine S.then_x ?_ | refine S.then_r ?_ | refine S.inBlock_n ?_ | refine S.inBlock_r ?_ | refine S.inBlock_x rfl ?_ | refine S.noGoto_r ?_ | refine S.noGoto_n ?_ | refine S.noGoto_x ?_)
        refine hK10 _ _ ?_
        refine S.region rfl ?_
        refine S.op (S.q (q_add rfl rfl (inI64 (by omega) (by omega))) rfl rfl ?_)
        refine S.op (S.q (q_move rfl) rfl rfl ?_)
        first | with_reducible refine S.nilK ?_ | refine S.nil ?_
        with_reducible repeat (first | refine S.then_n ?_ | refine S.then_x ?_ | refine S.then_r ?_ | refine S.inBlock_n ?_ | refine S.inBlock_r ?_ | refine S.inBlock_x rfl ?_ | refine S.noGoto_r ?_ | refine S.noGoto_n ?_ | refine S.noGoto_x ?_)
        exact S.next (k - 1) (⟨i + 1, by omega, by omega, hu, rfl, rfl⟩) (by omega) (by repeat (first | exact trivial | refine ⟨rfl, ?_⟩)) Sub.ent
    · have hfin : nextR m z = (0, false) := by
        rw [show i = m.R by omega] at hnu
        unfold nextR
        rw [← hz', hnu]
      refine S.exit ?_
      with_reducible repeat (first | refine S.then_n ?_ | refine S.then_x ?_ | refine S.then_r ?_ | refine S.inBlock_n ?_ | refine S.inBlock_r ?_ | refine S.inBlock_x rfl ?_ | refine S.noGoto_r ?_ | refine S.noGoto_n ?_ | refine S.noGoto_x ?_)
      with_reducible refine S.inBlock_s ?_
      with_reducible repeat (first | refine S.then_n ?_ | refine S.then_x ?_ | refine S.then_r ?_ | refine S.inBlock_n ?_ | refine S.inBlock_r ?_ | refine S.inBlock_x rfl ?_ | refine S.noGoto_r ?_ | refine S.noGoto_n ?_ | refine S.noGoto_x ?_)
      refine hK6 _ _ ?_
      refine S.seq fun K15 hK15 => ?_
      refine S.region rfl ?_
      refine S.op (S.q (q_assign rfl) rfl rfl ?_)
      refine S.op (S.q (q_assign rfl) rfl rfl ?_)
      first | with_reducible refine S.nilK ?_ | refine S.nil ?_
      refine hK15 _ _ ?_
      refine S.ret ?_
      with_reducible repeat (first | refine S.then_n ?_ | refine S.then_x ?_ | refine S.then_r ?_ | refine S.inBlock_n ?_ | refine S.inBlock_r ?_ | refine S.inBlock_x rfl ?_ | refine S.noGoto_r ?_ | refine S.noGoto_n ?_ | refine S.noGoto_x ?_)
      refine S.miClose (b := b) (m := m) (mb := mb) (tv := tv) rfl rfl rfl hok hp htn ?_
      exact S.fin (rs := [_, _]) (vs := [_, _]) Tryd.results54 (⟨rfl, rfl, trivial⟩)  (⟨by rw [hfin]; rfl, rfl⟩) Sub.ent
end Go.Proofs.YtegjmmocnffpiaaDoor
/- The matrix: New, Place, Put. -/
namespace Go.Proofs.YtegjmmocnffpiaaDoor
open Go.RowKit
set_option maxRecDepth 20000
def mx0 (R N : Nat) : Mx := ⟨R, N, mask N, []⟩
theorem mx0_ok {R N : Nat} (h1 : 1 ≤ R) (h2 : R ≤ 8) (h3 : 1 ≤ N) (h4 : N ≤ 16) : MxOk (mx0 R N) where
  R1 := h1
  R8 := h2
  N1 := h3
  N16 := h4
  up := fun i hi => (mask_bit h4 i).1 hi
  srt := List.Pairwise.nil
  id1 := fun _ h => by cases h
  id2 := fun _ h => by cases h
  row := fun _ h => by cases h
  some := fun _ h => by cases h
  ns := fun _ h => by cases h
  dis := fun _ h => by cases h
theorem zeroRow_mx0 (R N : Nat) : zeroRow [Value.int .u16 0] R = tks (mx0 R N) := by
  have e : tks (mx0 R N) = List.replicate R (Value.int .u16 0) := by
    refine List.eq_replicate_iff.2 ⟨tks_len _, fun v hv => ?_⟩
    obtain ⟨r, _, rfl⟩ := List.mem_map.1 hv
    rfl
  rw [e]
  induction R with
  | zero => rfl
  | succ R ih => rw [zeroRow, ih (by
      refine List.eq_replicate_iff.2 ⟨tks_len _, fun v hv => ?_⟩
      obtain ⟨r, _, rfl⟩ := List.mem_map.1 hv
      rfl), List.replicate_succ]; rfl
/-- New, where it makes one. -/
theorem New_S (R N : Nat) (hR1 : 1 ≤ R) (hR8 : R ≤ 8) (hN1 : 1 ≤ N) (hN16 : N ≤ 16) : Spec Tryd.prog 23 [.int .i64 (R : Int), .int .i64 (N : Int)] [] fun Γ v Θ => ∃ b, v = .tuple #[.pointer (some ⟨b, 0, none⟩), .int .i64 0] ∧ Θ = MI b (mx0 R N) :: Γ := by
  refine Spec.of_body Tryd.func23 rfl Tryd.ntmps23 rfl ?_
  intro w0 Γ
  show S _ w0 [(0, .int .i64 (R : Int)), (1, .int .i64 (N : Int))] Γ _
  refine S.seq fun K1 hK1 => ?_
  refine S.region rfl ?_
  refine S.op (S.q (q_assign rfl) rfl rfl ?_)
  refine S.op (S.q (q_assign rfl) rfl rfl ?_)
  first | with_reducible refine S.nilK ?_ | refine S.nil ?_
  refine hK1 _ _ ?_
  refine S.seq fun K2 hK2 => ?_
  refine S.seq fun K3 hK3 => ?_
  refine S.regionG ?_
  refine S.g_op rfl (S.q (q_move rfl) rfl rfl ?_)
  refine S.g_op rfl (S.q (q_lt rfl rfl) rfl rfl ?_)
  refine S.g_op rfl (S.q (q_move rfl) rfl rfl ?_)
  by_cases hg1_2 : (R : Int) < 1
  · omega
  · refine S.g_yes rfl rfl rfl (decide_eq_false hg1_2) (S.q (q_move rfl) rfl rfl ?_)
    refine S.g_yes rfl rfl rfl (decide_eq_false hg1_2) (S.q (q_gt rfl rfl) rfl rfl ?_)
    refine S.g_op rfl (S.q (q_pickF rfl (decide_eq_false hg1_2) rfl) rfl rfl ?_)
    refine S.g_op rfl (S.q (q_move rfl) rfl rfl ?_)
    by_cases hg1_6 : (8 : Int) < R
    · omega
    · refine S.g_yes rfl rfl rfl (decide_eq_false hg1_6) (S.q (q_move rfl) rfl rfl ?_)
      refine S.g_yes rfl rfl rfl (decide_eq_false hg1_6) (S.q (q_lt rfl rfl) rfl rfl ?_)
      refine S.g_op rfl (S.q (q_pickF rfl (decide_eq_false hg1_6) rfl) rfl rfl ?_)
      refine S.g_op rfl (S.q (q_move rfl) rfl rfl ?_)
      by_cases hg1_10 : (N : Int) < 1
      · omega
      · refine S.g_yes rfl rfl rfl (decide_eq_false hg1_10) (S.q (q_move rfl) rfl rfl ?_)
        refine S.g_yes rfl rfl rfl (decide_eq_false hg1_10) (S.q (q_gt rfl rfl) rfl rfl ?_)
        refine S.g_op rfl (S.q (q_pickF rfl (decide_eq_false hg1_10) rfl) rfl rfl ?_)
        first | with_reducible refine S.g_nilK ?_ | refine S.g_nil ?_
        refine hK3 _ _ ?_
        refine S.condD rfl (fun h1 => ?_) (fun h1 => ?_)
        · omega
        · refine S.skip ?_
          with_reducible repeat (first | refine S.then_n ?_ | refine S.then_x ?_ | refine S.then_r ?_ | refine S.inBlock_n ?_ | refine S.inBlock_r ?_ | refine S.inBlock_x rfl ?_ | refine S.noGoto_r ?_ | refine S.noGoto_n ?_ | refine S.noGoto_x ?_)
          refine hK2 _ _ ?_
          refine S.seq fun K4 hK4 => ?_
          refine S.draw ([]) [] Tryd.mixed ?_
          refine S.dr_take 0 [] rfl (by kernel_rfl) rfl rfl rfl (q_move rfl) Sub.ent ?_
          refine S.dr_take 1 [] rfl (by kernel_rfl) rfl rfl rfl (q_move rfl) Sub.ent ?_
          refine S.dr_take 2 [] rfl (by kernel_rfl) rfl rfl rfl (q_move rfl) Sub.ent ?_
          refine S.dr_take 3 [] rfl (by kernel_rfl) rfl rfl rfl (q_shlB (N) rfl rfl (rfl) (hN16)) Sub.ent ?_
          refine S.dr_take 4 [] rfl (by kernel_rfl) rfl rfl rfl (q_predB (BitVec.twoPow 16 N) rfl rfl rfl) Sub.ent ?_
          refine S.dr_take 6 [] rfl (by kernel_rfl) rfl rfl rfl (q_move rfl) Sub.ent ?_
          refine S.dr_2 (i := 5) (j := 7) (by kernel_rfl) rfl rfl rfl rfl ?_ ?_
          · refine  (S.makeMap .u32 rfl ?_)
            intro b25
            refine S.dr_k rfl Sub.ent ?_
            refine S.dr_1 (i := 7) (by kernel_rfl) rfl rfl ?_
            refine  (S.makeSlice (R) (R) Tryd.underlying122 Tryd.inf120 rfl rfl rfl rfl rfl (Nat.le_refl _) (by omega) rfl ?_)
            intro tv htv
            refine S.dr_k rfl Sub.ent ?_
            refine S.dr_take 8 [] rfl (by kernel_rfl) rfl rfl rfl (q_build (pvs := [(_, _), (_, _), (_, _), (_, _), (_, _)]) [_, _, _, _, _] Tryd.z124 Tryd.p124 ⟨⟨rfl, rfl⟩, ⟨rfl, rfl⟩, ⟨rfl, rfl⟩, ⟨rfl, rfl⟩, ⟨rfl, rfl⟩, trivial⟩ rfl) Sub.ent ?_
            refine S.dr_1 (i := 9) (by kernel_rfl) rfl rfl ?_
            refine  (S.box (cs := [_, _, _, _, _]) rfl rfl rfl ?_)
            intro b29
            refine S.dr_k rfl Sub.ent ?_
            refine S.dr_take 10 [] rfl (by kernel_rfl) rfl rfl rfl (q_assign rfl) Sub.ent ?_
            refine S.dr_take 11 [] rfl (by kernel_rfl) rfl rfl rfl (q_assign rfl) Sub.ent ?_
            first | with_reducible refine S.dr_doneK (by kernel_rfl) ?_ | refine S.dr_done (by kernel_rfl) ?_
            refine hK4 _ _ ?_
            refine S.ret ?_
            with_reducible repeat (first | refine S.then_n ?_ | refine S.then_x ?_ | refine S.then_r ?_ | refine S.inBlock_n ?_ | refine S.inBlock_r ?_ | refine S.inBlock_x rfl ?_ | refine S.noGoto_r ?_ | refine S.noGoto_n ?_ | refine S.noGoto_x ?_)
            refine S.miClose (b := b29) (m := mx0 R N) (mb := b25) (tv := tv) (by rw [twoPow_pred N hN16]; rfl) rfl (by rw [zeroRow_mx0 R N]) (mx0_ok hR1 hR8 hN1 hN16) (.refl _) htv ?_
            exact S.fin (rs := [_, _]) (vs := [_, _]) Tryd.results23 (⟨rfl, rfl, trivial⟩)  (⟨b29, rfl, rfl⟩) Sub.ent
          · refine  (S.makeSlice (R) (R) Tryd.underlying122 Tryd.inf120 rfl rfl rfl rfl rfl (Nat.le_refl _) (by omega) rfl ?_)
            intro tv htv
            refine S.dr_k rfl Sub.ent ?_
            refine S.dr_1 (i := 5) (by kernel_rfl) rfl rfl ?_
            refine  (S.makeMap .u32 rfl ?_)
            intro b25
            refine S.dr_k rfl Sub.ent ?_
            refine S.dr_take 8 [] rfl (by kernel_rfl) rfl rfl rfl (q_build (pvs := [(_, _), (_, _), (_, _), (_, _), (_, _)]) [_, _, _, _, _] Tryd.z124 Tryd.p124 ⟨⟨rfl, rfl⟩, ⟨rfl, rfl⟩, ⟨rfl, rfl⟩, ⟨rfl, rfl⟩, ⟨rfl, rfl⟩, trivial⟩ rfl) Sub.ent ?_
            refine S.dr_1 (i := 9) (by kernel_rfl) rfl rfl ?_
            refine  (S.box (cs := [_, _, _, _, _]) rfl rfl rfl ?_)
            intro b29
            refine S.dr_k rfl Sub.ent ?_
            refine S.dr_take 10 [] rfl (by kernel_rfl) rfl rfl rfl (q_assign rfl) Sub.ent ?_
            refine S.dr_take 11 [] rfl (by kernel_rfl) rfl rfl rfl (q_assign rfl) Sub.ent ?_
            first | with_reducible refine S.dr_doneK (by kernel_rfl) ?_ | refine S.dr_done (by kernel_rfl) ?_
            refine hK4 _ _ ?_
            refine S.ret ?_
            with_reducible repeat (first | refine S.then_n ?_ | refine S.then_x ?_ | refine S.then_r ?_ | refine S.inBlock_n ?_ | refine S.inBlock_r ?_ | refine S.inBlock_x rfl ?_ | refine S.noGoto_r ?_ | refine S.noGoto_n ?_ | refine S.noGoto_x ?_)
            refine S.miClose (b := b29) (m := mx0 R N) (mb := b25) (tv := tv) (by rw [twoPow_pred N hN16]; rfl) rfl (by rw [zeroRow_mx0 R N]) (mx0_ok hR1 hR8 hN1 hN16) (.refl _) htv ?_
            exact S.fin (rs := [_, _]) (vs := [_, _]) Tryd.results23 (⟨rfl, rfl, trivial⟩)  (⟨b29, rfl, rfl⟩) Sub.ent
/-- Place: the first row that has room. -/
def placeRow (m : Mx) (k : Nat) : Nat → Option Nat
  | 0 => none
  | i + 1 => match placeRow m k i with
    | some r => some r
    | none => if k ≤ (lst (m.free i)).length then some i else none
theorem placeRow_some {m : Mx} {k r : Nat} : ∀ {i : Nat}, placeRow m k i = some r → r < i ∧ k ≤ (lst (m.free r)).length ∧ ∀ q, q < r → (lst (m.free q)).length < k
  | 0, h => by cases h
  | i + 1, h => by
    unfold placeRow at h
    cases hp : placeRow m k i with
    | some q =>
      rw [hp] at h
      cases h
      obtain ⟨h1, h2, h3⟩ := placeRow_some hp
      exact ⟨by omega, h2, h3⟩
    | none =>
      rw [hp] at h
      by_cases e : k ≤ (lst (m.free i)).length
      · rw [if_pos e] at h
        cases h
        exact ⟨by omega, e, placeRow_none hp⟩
      · rw [if_neg e] at h
        cases h
where placeRow_none {m : Mx} {k : Nat} : ∀ {i : Nat}, placeRow m k i = none → ∀ q, q < i → (lst (m.free q)).length < k
  | 0, _, q, hq => by omega
  | i + 1, h, q, hq => by
    unfold placeRow at h
    cases hp : placeRow m k i with
    | some q => rw [hp] at h; cases h
    | none =>
      rw [hp] at h
      by_cases e : k ≤ (lst (m.free i)).length
      · rw [if_pos e] at h; cases h
      · by_cases e2 : q = i
        · subst e2; omega
        · exact placeRow_none hp q (by omega)
theorem placeRow_mono {m : Mx} {k r : Nat} : ∀ {n i : Nat}, placeRow m k i = some r → i ≤ n → placeRow m k n = some r
  | 0, i, h, hn => by rwa [show i = 0 by omega] at h
  | n + 1, i, h, hn => by
    by_cases e : i = n + 1
    · rwa [e] at h
    · rw [placeRow, placeRow_mono h (by omega)]
/-- What Place answers: the row, the nodes, the error; and the matrix behind it. -/
def placeR (m : Mx) (j : Nat) (k : Int) : (Int × List Nat × Int) × Mx :=
  if j = 0 ∨ k < 1 then ((0, [], 1), m)
  else if (look m.js j).isSome then ((0, [], 7), m)
  else if (m.N : Int) < k then ((0, [], 9), m)
  else match placeRow m k.toNat m.R with
    | some r => (((r : Int), (lst (m.free r)).take k.toNat, 0), m.add ⟨j, r, leastK (m.free r) k.toNat⟩)
    | none => ((0, [], 8), m)
theorem free_bit {m : Mx} {r i : Nat} (h : (m.free r).getLsbD i = true) : m.up.getLsbD i = true ∧ (tk m.js r).getLsbD i = false := by
  rw [Mx.free, BitVec.getLsbD_and, BitVec.getLsbD_not, Bool.and_eq_true, Bool.and_eq_true, Bool.not_eq_true'] at h
  exact ⟨h.1, h.2.2⟩
theorem place_ok {m : Mx} (hm : MxOk m) {r k : Nat} (hk : 1 ≤ k) (hl : k ≤ (lst (m.free r)).length) : leastK (m.free r) k ≠ 0#16 ∧ (∀ i, (leastK (m.free r) k).getLsbD i = true → i < m.N) ∧ tk m.js r &&& leastK (m.free r) k = 0#16 := by
  have hsub : ∀ i, (leastK (m.free r) k).getLsbD i = true → (m.free r).getLsbD i = true := fun i hi => by
    rw [← mem_lst, lst_leastK] at hi
    exact mem_lst.1 (List.mem_of_mem_take hi)
  refine ⟨fun e => ?_, fun i hi => hm.up i (free_bit (hsub i hi)).1, ?_⟩
  · have := congrArg (fun s => (lst s).length) e
    simp only [lst_leastK, lst_zero, List.length_take, List.length_nil] at this
    omega
  · refine BitVec.eq_of_getLsbD_eq fun i _ => ?_
    rw [BitVec.getLsbD_and]
    cases hb : (leastK (m.free r) k).getLsbD i with
    | false => simp
    | true => rw [(free_bit (hsub i hb)).2]; simp
theorem placeR_ok {m : Mx} (hm : MxOk m) {j : Nat} (hj : j ≤ 4294967295) (k : Int) : MxOk (placeR m j k).2 := by
  unfold placeR
  by_cases h1 : j = 0 ∨ k < 1
  · rw [if_pos h1]; exact hm
  rw [if_neg h1]
  cases h2 : look m.js j with
  | some x => exact hm
  | none =>
    simp only [Option.isSome_none, Bool.false_eq_true, if_false]
    by_cases h3 : (m.N : Int) < k
    · rw [if_pos h3]; exact hm
    rw [if_neg h3]
    cases h4 : placeRow m k.toNat m.R with
    | none => exact hm
    | some r =>
      obtain ⟨q1, q2, _⟩ := placeRow_some h4
      obtain ⟨p1, p2, p3⟩ := place_ok hm (r := r) (k := k.toNat) (by omega) q2
      exact hm.add (look_none h2) (by show 1 ≤ j; omega) hj q1 p1 p2 p3
theorem Place_S (b : Nat) (m : Mx) (j : Nat) (k : Int) (hj : j ≤ 4294967295) (hk : k ≤ 9223372036854775807) {W : World} (hW : TabW W) : Spec Tryd.prog 27 [.pointer (some ⟨b, 0, none⟩), .int .u32 (j : Int), .int .i64 k] [MI b m, old W] fun Γ v Θ =>
    ∃ sv : SV, v = .tuple #[.int .i64 (placeR m j k).1.1, sv.v, .int .i64 (placeR m j k).1.2.2] ∧ sv.n = (placeR m j k).1.2.1.length ∧ Θ = own sv 3 1 (nds (placeR m j k).1.2.1) :: MI b (placeR m j k).2 :: old W :: Γ := by
  refine Spec.of_body Tryd.func27 rfl Tryd.ntmps27 rfl ?_
  intro w0 Γ
  show S _ w0 [(0, .pointer (some ⟨b, 0, none⟩)), (1, .int .u32 (j : Int)), (2, .int .i64 k)] (MI b m :: old W :: Γ) _
  refine S.seq fun K1 hK1 => ?_
  refine S.region rfl ?_
  refine S.op (S.q (q_assign rfl) rfl rfl ?_)
  refine S.op (S.q (q_assign rfl) rfl rfl ?_)
  refine S.op (S.q (q_assign rfl) rfl rfl ?_)
  first | with_reducible refine S.nilK ?_ | refine S.nil ?_
  refine hK1 _ _ ?_
  refine S.seq fun K2 hK2 => ?_
  refine S.block ?_
  refine S.seq fun K3 hK3 => ?_
  refine S.region rfl ?_
  refine S.op (S.q (q_move rfl) rfl rfl ?_)
  refine S.op (S.q (q_eqN Tryd.underlying25 rfl rfl) rfl rfl ?_)
  refine S.op (S.q (q_assign rfl) rfl rfl ?_)
  first | with_reducible refine S.nilK ?_ | refine S.nil ?_
  refine hK3 _ _ ?_
  refine S.condF rfl ?_
  refine S.seq fun K4 hK4 => ?_
  refine S.regionG ?_
  refine S.g_op rfl (S.q (q_move rfl) rfl rfl ?_)
  refine S.g_op rfl (S.q (q_eq rfl rfl) rfl rfl ?_)
  refine S.g_op rfl (S.q (q_move rfl) rfl rfl ?_)
  by_cases hg3_2 : (j : Int) = 0
  · have hp : placeR m j k = ((0, [], 1), m) := by rw [placeR, if_pos (.inl (by omega))]
    refine S.g_no rfl rfl rfl (decide_eq_true hg3_2) rfl rfl ?_
    refine S.g_no rfl rfl rfl (decide_eq_true hg3_2) rfl rfl ?_
    refine S.g_op rfl (S.q (q_pickT rfl (decide_eq_true hg3_2) rfl) rfl rfl ?_)
    refine S.g_op rfl (S.q (q_assign rfl) rfl rfl ?_)
    first | with_reducible refine S.g_nilK ?_ | refine S.g_nil ?_
    refine hK4 _ _ ?_
    refine S.condT rfl ?_
    refine S.seq fun K5 hK5 => ?_
    refine S.region rfl ?_
    refine S.op (S.q (q_assign rfl) rfl rfl ?_)
    refine S.op (S.q (q_assign rfl) rfl rfl ?_)
    refine S.op (S.q (q_assign rfl) rfl rfl ?_)
    first | with_reducible refine S.nilK ?_ | refine S.nil ?_
    refine hK5 _ _ ?_
    refine S.ret ?_
    with_reducible repeat (first | refine S.then_n ?_ | refine S.then_x ?_ | refine S.then_r ?_ | refine S.inBlock_n ?_ | refine S.inBlock_r ?_ | refine S.inBlock_x rfl ?_ | refine S.noGoto_r ?_ | refine S.noGoto_n ?_ | refine S.noGoto_x ?_)
    refine S.ent (Δ := own SV.nil 3 1 (nds (placeR m j k).1.2.1) :: MI b (placeR m j k).2 :: old W :: Γ) (by rw [hp]; exact Ent.ownNil _ _) ?_
    exact S.fin (rs := [_, _, _]) (vs := [_, _, _]) Tryd.results27 (⟨rfl, rfl, rfl, trivial⟩)  (⟨SV.nil, by rw [hp]; rfl, by rw [hp]; rfl, rfl⟩) Sub.ent
  · refine S.g_yes rfl rfl rfl (decide_eq_false hg3_2) (S.q (q_move rfl) rfl rfl ?_)
    refine S.g_yes rfl rfl rfl (decide_eq_false hg3_2) (S.q (q_lt rfl rfl) rfl rfl ?_)
    refine S.g_op rfl (S.q (q_pickF rfl (decide_eq_false hg3_2) rfl) rfl rfl ?_)
    refine S.g_op rfl (S.q (q_assign rfl) rfl rfl ?_)
    first | with_reducible refine S.g_nilK ?_ | refine S.g_nil ?_
    refine hK4 _ _ ?_
    refine S.condD rfl (fun h2 => ?_) (fun h2 => ?_)
    · have hp : placeR m j k = ((0, [], 1), m) := by rw [placeR, if_pos (.inr (by omega))]
      refine S.seq fun K6 hK6 => ?_
      refine S.region rfl ?_
      refine S.op (S.q (q_assign rfl) rfl rfl ?_)
      refine S.op (S.q (q_assign rfl) rfl rfl ?_)
      refine S.op (S.q (q_assign rfl) rfl rfl ?_)
      first | with_reducible refine S.nilK ?_ | refine S.nil ?_
      refine hK6 _ _ ?_
      refine S.ret ?_
      with_reducible repeat (first | refine S.then_n ?_ | refine S.then_x ?_ | refine S.then_r ?_ | refine S.inBlock_n ?_ | refine S.inBlock_r ?_ | refine S.inBlock_x rfl ?_ | refine S.noGoto_r ?_ | refine S.noGoto_n ?_ | refine S.noGoto_x ?_)
      refine S.ent (Δ := own SV.nil 3 1 (nds (placeR m j k).1.2.1) :: MI b (placeR m j k).2 :: old W :: Γ) (by rw [hp]; exact Ent.ownNil _ _) ?_
      exact S.fin (rs := [_, _, _]) (vs := [_, _, _]) Tryd.results27 (⟨rfl, rfl, rfl, trivial⟩)  (⟨SV.nil, by rw [hp]; rfl, by rw [hp]; rfl, rfl⟩) Sub.ent
    · refine S.seq fun K7 hK7 => ?_
      refine S.region rfl ?_
      refine S.op (S.q (q_move rfl) rfl rfl ?_)
      refine S.op (S.q (q_move rfl) rfl rfl ?_)
      refine S.op (S.call Tryd.en58 (vs := [_, _]) ⟨rfl, rfl, trivial⟩ (stands_S b m j) rfl ?_)
      rintro v Θ ⟨rfl, rfl⟩
      refine S.op (S.q (q_assign rfl) rfl rfl ?_)
      first | with_reducible refine S.nilK ?_ | refine S.nil ?_
      refine hK7 _ _ ?_
      refine S.cond rfl (fun h3 => ?_) (fun h3 => ?_)
      · have hp : placeR m j k = ((0, [], 7), m) := by rw [placeR, if_neg (by omega), if_pos h3]
        refine S.seq fun K8 hK8 => ?_
        refine S.region rfl ?_
        refine S.op (S.q (q_assign rfl) rfl rfl ?_)
        refine S.op (S.q (q_assign rfl) rfl rfl ?_)
        refine S.op (S.q (q_assign rfl) rfl rfl ?_)
        first | with_reducible refine S.nilK ?_ | refine S.nil ?_
        refine hK8 _ _ ?_
        refine S.ret ?_
        with_reducible repeat (first | refine S.then_n ?_ | refine S.then_x ?_ | refine S.then_r ?_ | refine S.inBlock_n ?_ | refine S.inBlock_r ?_ | refine S.inBlock_x rfl ?_ | refine S.noGoto_r ?_ | refine S.noGoto_n ?_ | refine S.noGoto_x ?_)
        refine S.ent (Δ := own SV.nil 3 1 (nds (placeR m j k).1.2.1) :: MI b (placeR m j k).2 :: old W :: Γ) (by rw [hp]; exact Ent.ownNil _ _) ?_
        exact S.fin (rs := [_, _, _]) (vs := [_, _, _]) Tryd.results27 (⟨rfl, rfl, rfl, trivial⟩)  (⟨SV.nil, by rw [hp]; rfl, by rw [hp]; rfl, rfl⟩) Sub.ent
      · refine S.miOpen b m fun mb tv l hok hpm htn => ?_
        refine S.seq fun K9 hK9 => ?_
        refine S.region rfl ?_
        refine S.op (S.q (q_move rfl) rfl rfl ?_)
        refine S.op (S.q (q_move rfl) rfl rfl ?_)
        refine S.op (S.q (q_nilCheck rfl) rfl rfl ?_)
        refine S.op (S.q (q_field Tryd.fo124_1 rfl) rfl rfl ?_)
        refine S.op (S.q (q_load Tryd.at3 rfl rfl) rfl rfl ?_)
        refine S.op (S.q (q_gt rfl rfl) rfl rfl ?_)
        refine S.op (S.q (q_assign rfl) rfl rfl ?_)
        first | with_reducible refine S.nilK ?_ | refine S.nil ?_
        refine hK9 _ _ ?_
        refine S.condD rfl (fun h4 => ?_) (fun h4 => ?_)
        · have hp : placeR m j k = ((0, [], 9), m) := by rw [placeR, if_neg (by omega), if_neg (by rw [h3]; decide), if_pos h4]
          refine S.seq fun K10 hK10 => ?_
          refine S.region rfl ?_
          refine S.op (S.q (q_assign rfl) rfl rfl ?_)
          refine S.op (S.q (q_assign rfl) rfl rfl ?_)
          refine S.op (S.q (q_assign rfl) rfl rfl ?_)
          first | with_reducible refine S.nilK ?_ | refine S.nil ?_
          refine hK10 _ _ ?_
          refine S.ret ?_
          with_reducible repeat (first | refine S.then_n ?_ | refine S.then_x ?_ | refine S.then_r ?_ | refine S.inBlock_n ?_ | refine S.inBlock_r ?_ | refine S.inBlock_x rfl ?_ | refine S.noGoto_r ?_ | refine S.noGoto_n ?_ | refine S.noGoto_x ?_)
          refine S.miClose (b := b) (m := m) (mb := mb) (tv := tv) rfl rfl rfl hok hpm htn ?_
          refine S.ent (Δ := own SV.nil 3 1 (nds (placeR m j k).1.2.1) :: MI b (placeR m j k).2 :: old W :: Γ) (by rw [hp]; exact Ent.ownNil _ _) ?_
          exact S.fin (rs := [_, _, _]) (vs := [_, _, _]) Tryd.results27 (⟨rfl, rfl, rfl, trivial⟩)  (⟨SV.nil, by rw [hp]; rfl, by rw [hp]; rfl, rfl⟩) Sub.ent
        · have hpl : placeR m j k = match placeRow m k.toNat m.R with
              | some r => (((r : Int), (lst (m.free r)).take k.toNat, 0), m.add ⟨j, r, leastK (m.free r) k.toNat⟩)
              | none => ((0, [], 8), m) := by rw [placeR, if_neg (by omega), if_neg (by rw [h3]; decide), if_neg h4]
          have hR8 := hok.R8
          have hlk : look m.js j = none := by cases h : look m.js j with | none => rfl | some x => rw [h] at h3; cases h3
          refine S.ownSome tv (by have := hok.R1; omega) fun tb tf hta hl1 hl2 hl3 => ?_
          refine S.skip ?_
          with_reducible repeat (first | refine S.then_n ?_ | refine S.then_x ?_ | refine S.then_r ?_ | refine S.inBlock_n ?_ | refine S.inBlock_r ?_ | refine S.inBlock_x rfl ?_ | refine S.noGoto_r ?_ | refine S.noGoto_n ?_ | refine S.noGoto_x ?_)
          with_reducible repeat (first | refine S.then_n ?_ | refine S.then_x ?_ | refine S.then_r ?_ | refine S.inBlock_n ?_ | refine S.inBlock_r ?_ | refine S.inBlock_x rfl ?_ | refine S.noGoto_r ?_ | refine S.noGoto_n ?_ | refine S.noGoto_x ?_)
          refine hK2 _ _ ?_
          refine S.seq fun K11 hK11 => ?_
          refine S.seq fun K12 hK12 => ?_
          refine S.region rfl ?_
          refine S.op (S.q (q_move rfl) rfl rfl ?_)
          refine S.op (S.q (q_nilCheck rfl) rfl rfl ?_)
          refine S.op (S.q (q_field Tryd.fo124_4 rfl) rfl rfl ?_)
          refine S.op (S.q (q_load Tryd.at122 rfl rfl) rfl rfl ?_)
          refine S.op (S.q (q_len Tryd.underlying122 rfl) rfl rfl ?_)
          refine S.op (S.q (q_move rfl) rfl rfl ?_)
          first | with_reducible refine S.nilK ?_ | refine S.nil ?_
          refine hK12 _ _ ?_
          refine S.block ?_
          refine S.loop (fun q ρ' Γ' => ∃ i : Nat, q = m.R - i ∧ i ≤ m.R ∧ placeRow m k.toNat i = none ∧ ρ' = [(0, .pointer (some ⟨b, 0, none⟩)), (1, .int .u32 (j : Int)), (2, .int .i64 k), (37, tv.v), (38, .int .i64 tv.n), (39, .int .i64 i)] ∧ Γ' = blk b 124 (mxC m mb tv).toArray :: mapL mb .u32 l :: own tv 120 1 (tks m) :: old W :: Γ) (m := _) (ρ0 := _) (Γ0 := _) (⟨0, rfl, by omega, rfl, rfl, rfl⟩) (by repeat (first | exact trivial | refine ⟨rfl, ?_⟩)) Sub.ent ?_
          rintro q ρ' Γ' ⟨i, hiq, hiR, hnp, rfl, rfl⟩
          refine S.seq fun K13 hK13 => ?_
          refine S.region rfl ?_
          refine S.op (S.q (q_lt rfl rfl) rfl rfl ?_)
          first | with_reducible refine S.nilK ?_ | refine S.nil ?_
          refine hK13 _ _ ?_
          refine S.seq fun K14 hK14 => ?_
          refine S.condD rfl (fun h5 => ?_) (fun h5 => ?_)
          · refine S.skip ?_
            with_reducible repeat (first | refine S.then_n ?_ | refine S.then_x ?_ | refine S.then_r ?_ | refine S.inBlock_n ?_ | refine S.inBlock_r ?_ | refine S.inBlock_x rfl ?_ | refine S.noGoto_r ?_ | refine S.noGoto_n ?_ | refine S.noGoto_x ?_)
            refine hK14 _ _ ?_
            refine S.seq fun K15 hK15 => ?_
            refine S.block ?_
            refine S.seq fun K16 hK16 => ?_
            refine S.region rfl ?_
            refine S.op (S.q (q_move rfl) rfl rfl ?_)
            refine S.op (S.q (q_indexO (i) Tryd.el122 rfl hta rfl rfl (by omega)) rfl rfl ?_)
            refine S.op (S.q (q_loadOw (tv) (i) Tryd.at120 rfl hta (by first | rfl | exact Nat.add_assoc _ _ _ | omega) (tks_get (show i < m.R by omega))) rfl rfl ?_)
            refine S.op (S.q (q_assign rfl) rfl rfl ?_)
            refine S.op (S.q (q_assign rfl) rfl rfl ?_)
            first | with_reducible refine S.nilK ?_ | refine S.nil ?_
            refine hK16 _ _ ?_
            refine S.seq fun K17 hK17 => ?_
            refine S.region rfl ?_
            refine S.op (S.q (q_move rfl) rfl rfl ?_)
            refine S.op (S.q (q_nilCheck rfl) rfl rfl ?_)
            refine S.op (S.q (q_field Tryd.fo124_2 rfl) rfl rfl ?_)
            refine S.op (S.q (q_load Tryd.at120 rfl rfl) rfl rfl ?_)
            refine S.op (S.q (q_move rfl) rfl rfl ?_)
            refine S.op (S.q (q_andNotB (m.up) (tk m.js i) rfl rfl (rfl) (rfl)) rfl rfl ?_)
            refine S.op (S.q (q_assign rfl) rfl rfl ?_)
            first | with_reducible refine S.nilK ?_ | refine S.nil ?_
            refine hK17 _ _ ?_
            refine S.seq fun K18 hK18 => ?_
            refine S.region rfl ?_
            refine S.op (S.q (q_move rfl) rfl rfl ?_)
            refine S.op (S.call Tryd.en59 (vs := [_]) ⟨rfl, trivial⟩ (count_S (m.free i)) rfl ?_)
            rintro v Θ ⟨rfl, rfl⟩
            refine S.op (S.q (q_move rfl) rfl rfl ?_)
            refine S.op (S.q (q_ge rfl rfl) rfl rfl ?_)
            first | with_reducible refine S.nilK ?_ | refine S.nil ?_
            refine hK18 _ _ ?_
            refine S.condD rfl (fun h6 => ?_) (fun h6 => ?_)
            · have hpr : placeRow m k.toNat m.R = some i := placeRow_mono (i := i + 1) (by rw [placeRow, hnp]; exact if_pos (by omega)) (by omega)
              rw [hpr] at hpl
              obtain ⟨p1, p2, p3⟩ := place_ok hok (r := i) (k := k.toNat) (by omega) (by omega)
              refine S.seq fun K19 hK19 => ?_
              refine S.region rfl ?_
              refine S.op (S.q (q_move rfl) rfl rfl ?_)
              refine S.op (S.q (q_move rfl) rfl rfl ?_)
              refine S.op (S.q (q_move rfl) rfl rfl ?_)
              refine S.op (S.call Tryd.en60 (vs := [_, _]) ⟨rfl, rfl, trivial⟩ (least_S (m.free i) k (by omega) hk) rfl ?_)
              rintro v Θ ⟨rfl, rfl⟩
              refine S.op (S.q (q_build (pvs := [(_, _), (_, _)]) [_, _] Tryd.z127 Tryd.p127 ⟨⟨rfl, rfl⟩, ⟨rfl, rfl⟩, trivial⟩ rfl) rfl rfl ?_)
              refine S.op (S.alloc Tryd.z127 rfl ?_)
              intro b12
              refine S.op (S.storeS (cs' := [_, _]) Tryd.ag127 rfl rfl rfl rfl rfl rfl ?_)
              first | with_reducible refine S.nilK ?_ | refine S.nil ?_
              refine hK19 _ _ ?_
              refine S.seq fun K20 hK20 => ?_
              refine S.region rfl ?_
              refine S.op (S.q (q_move rfl) rfl rfl ?_)
              refine S.op (S.q (q_move rfl) rfl rfl ?_)
              refine S.op (S.q (q_loadS [_, _] Tryd.ag127 rfl rfl ⟨rfl, rfl, trivial⟩) rfl rfl ?_)
              refine S.miClose (b := b) (m := m) (mb := mb) (tv := tv) rfl rfl rfl hok hpm htn ?_
              refine S.op (S.call Tryd.en61 (vs := [_, _, _]) ⟨rfl, rfl, rfl, trivial⟩ (put_S b m ⟨j, i, leastK (m.free i) k.toNat⟩ (look_none hlk) (show 1 ≤ j by omega) hj (show i < m.R by omega) p1 p2 p3) rfl ?_)
              rintro v Θ rfl
              first | with_reducible refine S.nilK ?_ | refine S.nil ?_
              refine hK20 _ _ ?_
              refine S.seq fun K21 hK21 => ?_
              refine S.region rfl ?_
              refine S.op (S.q (q_move rfl) rfl rfl ?_)
              refine S.op (S.q (q_field Tryd.fo127_1 rfl) rfl rfl ?_)
              refine S.op (S.q (q_load Tryd.at120 rfl rfl) rfl rfl ?_)
              refine S.op (S.call Tryd.en62 (vs := [_]) ⟨rfl, trivial⟩ (list_S (leastK (m.free i) k.toNat) hW) rfl ?_)
              rintro v Θ ⟨sv, rfl, hsv, rfl⟩
              rw [lst_leastK] at hsv ⊢
              refine S.op (S.q (q_assign rfl) rfl rfl ?_)
              refine S.op (S.q (q_assign rfl) rfl rfl ?_)
              refine S.op (S.q (q_assign rfl) rfl rfl ?_)
              first | with_reducible refine S.nilK ?_ | refine S.nil ?_
              refine hK21 _ _ ?_
              refine S.ret ?_
              with_reducible repeat (first | refine S.then_n ?_ | refine S.then_x ?_ | refine S.then_r ?_ | refine S.inBlock_n ?_ | refine S.inBlock_r ?_ | refine S.inBlock_x rfl ?_ | refine S.noGoto_r ?_ | refine S.noGoto_n ?_ | refine S.noGoto_x ?_)
              exact S.fin (rs := [_, _, _]) (vs := [_, _, _]) Tryd.results27 (⟨rfl, rfl, rfl, trivial⟩)  (⟨sv, by rw [hpl]; rfl, by rw [hpl]; exact hsv, by rw [hpl]⟩) Sub.ent
            · refine S.skip ?_
              with_reducible repeat (first | refine S.then_n ?_ | refine S.then_x ?_ | refine S.then_r ?_ | refine S.inBlock_n ?_ | refine S.inBlock_r ?_ | refine S.inBlock_x rfl ?_ | refine S.noGoto_r ?_ | refine S.noGoto_n ?_ | refine S.noGoto_x ?_)
              with_reducible repeat (first | refine S.then_n ?_ | refine S.then_x ?_ | refine S.then_r ?_ | refine S.inBlock_n ?_ | refine S.inBlock_r ?_ | refine S.inBlock_x rfl ?_ | refine S.noGoto_r ?_ | refine S.noGoto_n ?_ | refine S.noGoto_x ?_)
              refine hK15 _ _ ?_
              refine S.region rfl ?_
              refine S.op (S.q (q_add rfl rfl (inI64 (by omega) (by omega))) rfl rfl ?_)
              refine S.op (S.q (q_move rfl) rfl rfl ?_)
              first | with_reducible refine S.nilK ?_ | refine S.nil ?_
              with_reducible repeat (first | refine S.then_n ?_ | refine S.then_x ?_ | refine S.then_r ?_ | refine S.inBlock_n ?_ | refine S.inBlock_r ?_ | refine S.inBlock_x rfl ?_ | refine S.noGoto_r ?_ | refine S.noGoto_n ?_ | refine S.noGoto_x ?_)
              have hu : placeRow m k.toNat (i + 1) = none := by rw [placeRow, hnp]; exact if_neg (by omega)
              exact S.next (q - 1) (⟨i + 1, by omega, by omega, hu, rfl, rfl⟩) (by omega) (by repeat (first | exact trivial | refine ⟨rfl, ?_⟩)) Sub.ent
          · rw [show i = m.R by omega] at hnp
            rw [hnp] at hpl
            refine S.exit ?_
            with_reducible repeat (first | refine S.then_n ?_ | refine S.then_x ?_ | refine S.then_r ?_ | refine S.inBlock_n ?_ | refine S.inBlock_r ?_ | refine S.inBlock_x rfl ?_ | refine S.noGoto_r ?_ | refine S.noGoto_n ?_ | refine S.noGoto_x ?_)
            with_reducible refine S.inBlock_s ?_
            with_reducible repeat (first | refine S.then_n ?_ | refine S.then_x ?_ | refine S.then_r ?_ | refine S.inBlock_n ?_ | refine S.inBlock_r ?_ | refine S.inBlock_x rfl ?_ | refine S.noGoto_r ?_ | refine S.noGoto_n ?_ | refine S.noGoto_x ?_)
            refine hK11 _ _ ?_
            refine S.seq fun K22 hK22 => ?_
            refine S.region rfl ?_
            refine S.op (S.q (q_assign rfl) rfl rfl ?_)
            refine S.op (S.q (q_assign rfl) rfl rfl ?_)
            refine S.op (S.q (q_assign rfl) rfl rfl ?_)
            first | with_reducible refine S.nilK ?_ | refine S.nil ?_
            refine hK22 _ _ ?_
            refine S.ret ?_
            with_reducible repeat (first | refine S.then_n ?_ | refine S.then_x ?_ | refine S.then_r ?_ | refine S.inBlock_n ?_ | refine S.inBlock_r ?_ | refine S.inBlock_x rfl ?_ | refine S.noGoto_r ?_ | refine S.noGoto_n ?_ | refine S.noGoto_x ?_)
            refine S.miClose (b := b) (m := m) (mb := mb) (tv := tv) rfl rfl rfl hok hpm htn ?_
            refine S.ent (Δ := own SV.nil 3 1 (nds (placeR m j k).1.2.1) :: MI b (placeR m j k).2 :: old W :: Γ) (by rw [hpl]; exact Ent.ownNil _ _) ?_
            exact S.fin (rs := [_, _, _]) (vs := [_, _, _]) Tryd.results27 (⟨rfl, rfl, rfl, trivial⟩)  (⟨SV.nil, by rw [hpl]; rfl, by rw [hpl]; rfl, rfl⟩) Sub.ent
end Go.Proofs.YtegjmmocnffpiaaDoor
/- The matrix: Put. -/
namespace Go.Proofs.YtegjmmocnffpiaaDoor
open Go.RowKit
set_option maxRecDepth 20000
/-- Are the first i nodes in range, and rising? -/
def okUp (m : Mx) (l : List Int) : Nat → Bool
  | 0 => true
  | i + 1 => okUp m l i && nodeB m (l.getD i 0) && (decide (i = 0) || decide (l.getD (i - 1) 0 < l.getD i 0))
abbrev nats (l : List Int) : List Nat := l.map Int.toNat
theorem okUp_le {m : Mx} {l : List Int} : ∀ {k i : Nat}, okUp m l k = true → i ≤ k → okUp m l i = true
  | 0, i, h, hi => by rwa [show i = 0 by omega]
  | k + 1, i, h, hi => by
    by_cases e : i = k + 1
    · rwa [e]
    · rw [okUp, Bool.and_eq_true, Bool.and_eq_true] at h
      exact okUp_le h.1.1 (by omega)
theorem okUp_at {m : Mx} {l : List Int} {k i : Nat} (h : okUp m l k = true) (hi : i < k) : nodeB m (l.getD i 0) = true ∧ (0 < i → l.getD (i - 1) 0 < l.getD i 0) := by
  have := okUp_le h (show i + 1 ≤ k by omega)
  rw [okUp, Bool.and_eq_true, Bool.and_eq_true, Bool.or_eq_true, decide_eq_true_eq, decide_eq_true_eq] at this
  exact ⟨this.1.2, fun h0 => this.2.resolve_left (by omega)⟩
theorem okUp_rise {m : Mx} {l : List Int} (h : okUp m l l.length = true) : (nats l).Pairwise (· < ·) ∧ ∀ i ∈ nats l, i < m.N := by
  have hmono : ∀ d i, i + d < l.length → l.getD i 0 ≤ l.getD (i + d) 0 ∧ (0 < d → l.getD i 0 < l.getD (i + d) 0) := by
    intro d
    induction d with
    | zero => intro i _; exact ⟨Int.le_refl _, fun h => by omega⟩
    | succ d ih =>
      intro i hi
      have h1 := ih i (by omega)
      have h2 := (okUp_at h (i := i + d + 1) (by omega)).2 (by omega)
      rw [show i + d + 1 - 1 = i + d by omega] at h2
      show l.getD i 0 ≤ l.getD (i + d + 1) 0 ∧ (0 < d + 1 → l.getD i 0 < l.getD (i + d + 1) 0)
      exact ⟨by omega, fun _ => by omega⟩
  constructor
  · refine List.pairwise_iff_getElem.2 fun i j hi hj hij => ?_
    simp only [List.length_map] at hi hj
    have h1 := (hmono (j - i) i (by omega)).2 (by omega)
    rw [show i + (j - i) = j by omega] at h1
    have h2 := nodeB_iff.1 (okUp_at h (i := i) hi).1
    have h3 := nodeB_iff.1 (okUp_at h (i := j) hj).1
    simp only [List.getElem_map]
    simp only [List.getD, List.getElem?_eq_getElem hi, List.getElem?_eq_getElem hj, Option.getD_some] at h1 h2 h3
    omega
  · intro i hi
    obtain ⟨z, hz, rfl⟩ := List.mem_map.1 hi
    obtain ⟨q, hq, e⟩ := List.getElem_of_mem hz
    have h2 := nodeB_iff.1 (okUp_at h (i := q) hq).1
    simp only [List.getD, List.getElem?_eq_getElem hq, Option.getD_some, e] at h2
    omega
def putOk (m : Mx) (j : Nat) (z : Int) (l : List Int) : Bool := decide ((j : Int) ≠ 0) && rowB m z && decide ((l.length : Int) > 0)
def putR (m : Mx) (j : Nat) (z : Int) (l : List Int) : Int × Mx :=
  if (putOk m j z l && okUp m l l.length) = false then (1, m)
  else if (look m.js j).isSome then (7, m)
  else if tk m.js z.toNat &&& ofL (nats l) ≠ 0#16 then (15, m)
  else (0, m.add ⟨j, z.toNat, ofL (nats l)⟩)
theorem put_ok {m : Mx} (hm : MxOk m) {l : List Int} (h0 : 0 < l.length) (h : okUp m l l.length = true) : lst (ofL (nats l)) = nats l ∧ ofL (nats l) ≠ 0#16 ∧ ∀ i, (ofL (nats l)).getLsbD i = true → i < m.N := by
  obtain ⟨h1, h2⟩ := okUp_rise h
  have e : lst (ofL (nats l)) = nats l := lst_ofL h1 fun i hi => by have := h2 i hi; have := hm.N16; omega
  refine ⟨e, fun e2 => ?_, fun i hi => h2 i (by rw [← e]; exact mem_lst.2 hi)⟩
  rw [e2, lst_zero] at e
  have := congrArg List.length e
  simp at this
  omega
theorem putR_ok {m : Mx} (hm : MxOk m) {j : Nat} (hj : j ≤ 4294967295) (z : Int) (l : List Int) : MxOk (putR m j z l).2 := by
  unfold putR
  by_cases h1 : (putOk m j z l && okUp m l l.length) = false
  · rw [if_pos h1]; exact hm
  rw [if_neg h1]
  have h1 : (putOk m j z l && okUp m l l.length) = true := by simpa using h1
  rw [Bool.and_eq_true, putOk, Bool.and_eq_true, Bool.and_eq_true, decide_eq_true_eq, decide_eq_true_eq] at h1
  obtain ⟨⟨⟨q1, q2⟩, q3⟩, q4⟩ := h1
  cases h2 : look m.js j with
  | some x => exact hm
  | none =>
    simp only [Option.isSome_none, Bool.false_eq_true, if_false]
    by_cases h3 : tk m.js z.toNat &&& ofL (nats l) ≠ 0#16
    · rw [if_pos h3]; exact hm
    rw [if_neg h3]
    obtain ⟨p1, p2, p3⟩ := put_ok hm (by omega) q4
    have hr := rowB_iff.1 q2
    exact hm.add (look_none h2) (by show 1 ≤ j; omega) hj (by show z.toNat < m.R; omega) p2 p3 (Classical.byContradiction h3)
theorem Put_S (b : Nat) (m : Mx) (j : Nat) (z : Int) (R : Assn) (s : SV) (l : List Int) (hsn : s.n = l.length) (hR : RdS R s s.n 1 (ints l)) (hj : j ≤ 4294967295) : Spec Tryd.prog 30 [.pointer (some ⟨b, 0, none⟩), .int .u32 (j : Int), .int .i64 z, s.v] [MI b m, R] fun Γ v Θ =>
    v = .int .i64 (putR m j z l).1 ∧ Θ = MI b (putR m j z l).2 :: R :: Γ := by
  refine Spec.miOk fun hok => ?_
  refine Spec.of_body Tryd.func30 rfl Tryd.ntmps30 rfl ?_
  intro w0 Γ
  show S _ w0 [(0, .pointer (some ⟨b, 0, none⟩)), (1, .int .u32 (j : Int)), (2, .int .i64 z), (3, s.v)] (MI b m :: R :: Γ) _
  refine S.rCap hR fun _ hcap1 hcap2 => ?_
  have hN16 := hok.N16
  refine S.seq fun K1 hK1 => ?_
  refine S.region rfl ?_
  refine S.op (S.q (q_assign rfl) rfl rfl ?_)
  first | with_reducible refine S.nilK ?_ | refine S.nil ?_
  refine hK1 _ _ ?_
  refine S.seq fun K2 hK2 => ?_
  refine S.seq fun K3 hK3 => ?_
  refine S.region rfl ?_
  refine S.op (S.q (q_move rfl) rfl rfl ?_)
  refine S.op (S.q (q_eqN Tryd.underlying25 rfl rfl) rfl rfl ?_)
  first | with_reducible refine S.nilK ?_ | refine S.nil ?_
  refine hK3 _ _ ?_
  refine S.condF rfl ?_
  refine S.skip ?_
  with_reducible repeat (first | refine S.then_n ?_ | refine S.then_x ?_ | refine S.then_r ?_ | refine S.inBlock_n ?_ | refine S.inBlock_r ?_ | refine S.inBlock_x rfl ?_ | refine S.noGoto_r ?_ | refine S.noGoto_n ?_ | refine S.noGoto_x ?_)
  refine hK2 _ _ ?_
  refine S.seq fun K4 hK4 => ?_
  refine S.cut (fun ρ' Γ' => ∃ b9, ρ' = [(0, .pointer (some ⟨b, 0, none⟩)), (1, .int .u32 (j : Int)), (2, .int .i64 z), (3, s.v), (9, .pointer (some ⟨b9, 0, none⟩)), (10, .bool (putOk m j z l))] ∧ Γ' = blk b9 127 #[.int .i64 z, .int .u16 0] :: MI b m :: R :: Γ) ?_ ?_
  · refine S.regionG ?_
    refine S.g_op rfl (S.q (q_move rfl) rfl rfl ?_)
    refine S.g_op rfl (S.q (q_build (pvs := [(_, _)]) [_, _] Tryd.z127 Tryd.p127 ⟨⟨rfl, rfl⟩, trivial⟩ rfl) rfl rfl ?_)
    refine S.g_op rfl (S.q (q_move rfl) rfl rfl ?_)
    refine S.g_op rfl (S.q (q_ne rfl rfl) rfl rfl ?_)
    refine S.g_op rfl (S.q (q_move rfl) rfl rfl ?_)
    by_cases hg3_4 : ((j : Int) ≠ 0)
    · refine S.g_yes rfl rfl rfl (decide_eq_true hg3_4) (S.q (q_move rfl) rfl rfl ?_)
      refine S.g_yes rfl rfl rfl (decide_eq_true hg3_4) (S.q (q_move rfl) rfl rfl ?_)
      refine S.g_yes rfl rfl rfl (decide_eq_true hg3_4) (S.call Tryd.en63 (vs := [_, _]) ⟨rfl, rfl, trivial⟩ (row_S b m z) rfl ?_)
      rintro v Θ ⟨rfl, rfl⟩
      refine S.g_op rfl (S.q (q_pickT rfl (decide_eq_true hg3_4) rfl) rfl rfl ?_)
      refine S.g_op rfl (S.q (q_move rfl) rfl rfl ?_)
      rcases Bool.eq_false_or_eq_true (rowB m z) with hg3_9 | hg3_9
      · refine S.g_yes rfl rfl rfl (hg3_9) (S.q (q_move rfl) rfl rfl ?_)
        refine S.g_yes rfl rfl rfl (hg3_9) (S.q (q_len Tryd.underlying69 rfl) rfl rfl ?_)
        refine S.g_yes rfl rfl rfl (hg3_9) (S.q (q_gt rfl rfl) rfl rfl ?_)
        refine S.g_op rfl (S.q (q_pickT rfl (hg3_9) rfl) rfl rfl ?_)
        refine S.g_op rfl (S.alloc Tryd.z127 rfl ?_)
        intro b9
        refine S.g_op rfl (S.storeS (cs' := [_, _]) Tryd.ag127 rfl rfl rfl rfl rfl rfl ?_)
        refine S.g_op rfl (S.q (q_assign rfl) rfl rfl ?_)
        first | with_reducible refine S.g_nilK ?_ | refine S.g_nil ?_
        with_reducible repeat (first | refine S.then_n ?_ | refine S.then_x ?_ | refine S.then_r ?_ | refine S.inBlock_n ?_ | refine S.inBlock_r ?_ | refine S.inBlock_x rfl ?_ | refine S.noGoto_r ?_ | refine S.noGoto_n ?_ | refine S.noGoto_x ?_)
        have hpk : putOk m j z l = (decide ((j : Int) ≠ 0) && rowB m z && decide ((s.n : Int) > 0)) := by rw [putOk, hsn]
        first | (have e : putOk m j z l = decide ((0 : Int) < s.n) := (by rw [hpk, decide_eq_true hg3_4, hg3_9]; rfl) ; rw [e] ; exact S.meet ⟨b9, rfl, rfl⟩ ⟨rfl, rfl, rfl, rfl, rfl, rfl, trivial⟩ Sub.ent) | (have e : putOk m j z l = false := (by rw [hpk, hg3_9]; simp) ; rw [e] ; exact S.meet ⟨b9, rfl, rfl⟩ ⟨rfl, rfl, rfl, rfl, rfl, rfl, trivial⟩ Sub.ent) | (have e : putOk m j z l = false := (by rw [hpk, decide_eq_false hg3_4]; rfl) ; rw [e] ; exact S.meet ⟨b9, rfl, rfl⟩ ⟨rfl, rfl, rfl, rfl, rfl, rfl, trivial⟩ Sub.ent)
      · refine S.g_no rfl rfl rfl (hg3_9) rfl rfl ?_
        refine S.g_no rfl rfl rfl (hg3_9) rfl rfl ?_
        refine S.g_no rfl rfl rfl (hg3_9) rfl rfl ?_
        refine S.g_op rfl (S.q (q_pickF rfl (hg3_9) rfl) rfl rfl ?_)
        refine S.g_op rfl (S.alloc Tryd.z127 rfl ?_)
        intro b9
        refine S.g_op rfl (S.storeS (cs' := [_, _]) Tryd.ag127 rfl rfl rfl rfl rfl rfl ?_)
        refine S.g_op rfl (S.q (q_assign rfl) rfl rfl ?_)
        first | with_reducible refine S.g_nilK ?_ | refine S.g_nil ?_
        with_reducible repeat (first | refine S.then_n ?_ | refine S.then_x ?_ | refine S.then_r ?_ | refine S.inBlock_n ?_ | refine S.inBlock_r ?_ | refine S.inBlock_x rfl ?_ | refine S.noGoto_r ?_ | refine S.noGoto_n ?_ | refine S.noGoto_x ?_)
        have hpk : putOk m j z l = (decide ((j : Int) ≠ 0) && rowB m z && decide ((s.n : Int) > 0)) := by rw [putOk, hsn]
        first | (have e : putOk m j z l = decide ((0 : Int) < s.n) := (by rw [hpk, decide_eq_true hg3_4, hg3_9]; rfl) ; rw [e] ; exact S.meet ⟨b9, rfl, rfl⟩ ⟨rfl, rfl, rfl, rfl, rfl, rfl, trivial⟩ Sub.ent) | (have e : putOk m j z l = false := (by rw [hpk, hg3_9]; simp) ; rw [e] ; exact S.meet ⟨b9, rfl, rfl⟩ ⟨rfl, rfl, rfl, rfl, rfl, rfl, trivial⟩ Sub.ent) | (have e : putOk m j z l = false := (by rw [hpk, decide_eq_false hg3_4]; rfl) ; rw [e] ; exact S.meet ⟨b9, rfl, rfl⟩ ⟨rfl, rfl, rfl, rfl, rfl, rfl, trivial⟩ Sub.ent)
    · refine S.g_no rfl rfl rfl (decide_eq_false hg3_4) rfl rfl ?_
      refine S.g_no rfl rfl rfl (decide_eq_false hg3_4) rfl rfl ?_
      refine S.g_no rfl rfl rfl (decide_eq_false hg3_4) rfl rfl ?_
      refine S.g_op rfl (S.q (q_pickF rfl (decide_eq_false hg3_4) rfl) rfl rfl ?_)
      refine S.g_op rfl (S.q (q_move rfl) rfl rfl ?_)
      refine S.g_no rfl rfl rfl (rfl) rfl rfl ?_
      refine S.g_no rfl rfl rfl (rfl) rfl rfl ?_
      refine S.g_no rfl rfl rfl (rfl) rfl rfl ?_
      refine S.g_op rfl (S.q (q_pickF rfl (rfl) rfl) rfl rfl ?_)
      refine S.g_op rfl (S.alloc Tryd.z127 rfl ?_)
      intro b9
      refine S.g_op rfl (S.storeS (cs' := [_, _]) Tryd.ag127 rfl rfl rfl rfl rfl rfl ?_)
      refine S.g_op rfl (S.q (q_assign rfl) rfl rfl ?_)
      first | with_reducible refine S.g_nilK ?_ | refine S.g_nil ?_
      with_reducible repeat (first | refine S.then_n ?_ | refine S.then_x ?_ | refine S.then_r ?_ | refine S.inBlock_n ?_ | refine S.inBlock_r ?_ | refine S.inBlock_x rfl ?_ | refine S.noGoto_r ?_ | refine S.noGoto_n ?_ | refine S.noGoto_x ?_)
      have hpk : putOk m j z l = (decide ((j : Int) ≠ 0) && rowB m z && decide ((s.n : Int) > 0)) := by rw [putOk, hsn]
      first | (have e : putOk m j z l = decide ((0 : Int) < s.n) := (by rw [hpk, decide_eq_true hg3_4, hg3_9]; rfl) ; rw [e] ; exact S.meet ⟨b9, rfl, rfl⟩ ⟨rfl, rfl, rfl, rfl, rfl, rfl, trivial⟩ Sub.ent) | (have e : putOk m j z l = false := (by rw [hpk, hg3_9]; simp) ; rw [e] ; exact S.meet ⟨b9, rfl, rfl⟩ ⟨rfl, rfl, rfl, rfl, rfl, rfl, trivial⟩ Sub.ent) | (have e : putOk m j z l = false := (by rw [hpk, decide_eq_false hg3_4]; rfl) ; rw [e] ; exact S.meet ⟨b9, rfl, rfl⟩ ⟨rfl, rfl, rfl, rfl, rfl, rfl, trivial⟩ Sub.ent)
  · rintro ρ' Γ' ⟨b9, rfl, rfl⟩
    show S _ w0 _ (blk b9 127 #[.int .i64 z, bsv 0#16] :: MI b m :: R :: Γ) _
    refine hK4 _ _ ?_
    refine S.seq fun K5 hK5 => ?_
    refine S.seq fun K6 hK6 => ?_
    refine S.region rfl ?_
    refine S.op (S.q (q_move rfl) rfl rfl ?_)
    refine S.op (S.q (q_len Tryd.underlying69 rfl) rfl rfl ?_)
    refine S.op (S.q (q_move rfl) rfl rfl ?_)
    first | with_reducible refine S.nilK ?_ | refine S.nil ?_
    refine hK6 _ _ ?_
    refine S.block ?_
    refine S.loop (fun q ρ' Γ' => ∃ (i : Nat) (bs : Bs) (rt : Bool), q = l.length - i ∧ i ≤ l.length ∧ rt = (putOk m j z l && okUp m l i) ∧ (rt = true → bs = ofL (nats (l.take i))) ∧ ρ' = [(0, .pointer (some ⟨b, 0, none⟩)), (1, .int .u32 (j : Int)), (2, .int .i64 z), (3, s.v), (9, .pointer (some ⟨b9, 0, none⟩)), (10, .bool rt), (29, s.v), (30, .int .i64 s.n), (31, .int .i64 i)] ∧ Γ' = blk b9 127 #[.int .i64 z, bsv bs] :: MI b m :: R :: Γ) (m := _) (ρ0 := _) (Γ0 := _) (⟨0, 0#16, putOk m j z l, rfl, by omega, (Bool.and_true _).symm, fun _ => rfl, rfl, rfl⟩) (by repeat (first | exact trivial | refine ⟨rfl, ?_⟩)) Sub.ent ?_
    rintro q ρ' Γ' ⟨i, bs, rt, hiq, hil, hrt, hbs, rfl, rfl⟩
    refine S.seq fun K7 hK7 => ?_
    refine S.region rfl ?_
    refine S.op (S.q (q_lt rfl rfl) rfl rfl ?_)
    first | with_reducible refine S.nilK ?_ | refine S.nil ?_
    refine hK7 _ _ ?_
    refine S.seq fun K8 hK8 => ?_
    refine S.condD rfl (fun h2 => ?_) (fun h2 => ?_)
    · refine S.rSome hR (by omega) fun sb so hsa => ?_
      obtain ⟨x, hx⟩ := getE (show i < l.length by omega)
      have hxd : l.getD i 0 = x := by simp [List.getD, hx]
      refine S.skip ?_
      with_reducible repeat (first | refine S.then_n ?_ | refine S.then_x ?_ | refine S.then_r ?_ | refine S.inBlock_n ?_ | refine S.inBlock_r ?_ | refine S.inBlock_x rfl ?_ | refine S.noGoto_r ?_ | refine S.noGoto_n ?_ | refine S.noGoto_x ?_)
      refine hK8 _ _ ?_
      refine S.seq fun K9 hK9 => ?_
      refine S.block ?_
      refine S.seq fun K10 hK10 => ?_
      refine S.region rfl ?_
      refine S.op (S.q (q_move rfl) rfl rfl ?_)
      refine S.op (S.q (q_indexO (i) Tryd.el69 rfl hsa rfl rfl (by omega)) rfl rfl ?_)
      refine S.op (S.q (q_loadR hR i Tryd.at3 rfl hsa (by omega) (by omega) (ints_get hx)) rfl rfl ?_)
      refine S.op (S.q (q_assign rfl) rfl rfl ?_)
      refine S.op (S.q (q_assign rfl) rfl rfl ?_)
      first | with_reducible refine S.nilK ?_ | refine S.nil ?_
      refine hK10 _ _ ?_
      refine S.seq fun K11 hK11 => ?_
      refine S.cut (fun ρ' Γ' => ∃ r2, r2 = (putOk m j z l && okUp m l (i + 1)) ∧ ρ' = [(0, .pointer (some ⟨b, 0, none⟩)), (1, .int .u32 (j : Int)), (2, .int .i64 z), (3, s.v), (9, .pointer (some ⟨b9, 0, none⟩)), (10, .bool r2), (12, .int .i64 x), (29, s.v), (30, .int .i64 s.n), (31, .int .i64 i)] ∧ Γ' = blk b9 127 #[.int .i64 z, bsv bs] :: MI b m :: R :: Γ) ?_ ?_
      · refine S.regionG ?_
        refine S.g_op rfl (S.q (q_move rfl) rfl rfl ?_)
        refine S.g_op rfl (S.q (q_move rfl) rfl rfl ?_)
        rcases Bool.eq_false_or_eq_true (rt) with hg7_1 | hg7_1
        · refine S.g_yes rfl rfl rfl (hg7_1) (S.q (q_move rfl) rfl rfl ?_)
          refine S.g_yes rfl rfl rfl (hg7_1) (S.q (q_move rfl) rfl rfl ?_)
          refine S.g_yes rfl rfl rfl (hg7_1) (S.call Tryd.en64 (vs := [_, _]) ⟨rfl, rfl, trivial⟩ (node_S b m x) rfl ?_)
          rintro v Θ ⟨rfl, rfl⟩
          refine S.g_op rfl (S.q (q_pickT rfl (hg7_1) rfl) rfl rfl ?_)
          refine S.g_op rfl (S.q (q_move rfl) rfl rfl ?_)
          rcases Bool.eq_false_or_eq_true (nodeB m x) with hg7_6 | hg7_6
          · refine S.g_yes rfl rfl rfl (hg7_6) (S.q (q_move rfl) rfl rfl ?_)
            refine S.g_yes rfl rfl rfl (hg7_6) (S.q (q_eq rfl rfl) rfl rfl ?_)
            refine S.g_yes rfl rfl rfl (hg7_6) (S.q (q_move rfl) rfl rfl ?_)
            by_cases hg7_9 : (i : Int) = 0
            · refine S.g_no rfl rfl rfl (decide_eq_true hg7_9) rfl rfl ?_
              refine S.g_no rfl rfl rfl (decide_eq_true hg7_9) rfl rfl ?_
              refine S.g_no rfl rfl rfl (decide_eq_true hg7_9) rfl rfl ?_
              refine S.g_no rfl rfl rfl (decide_eq_true hg7_9) rfl rfl ?_
              refine S.g_no rfl rfl rfl (decide_eq_true hg7_9) rfl rfl ?_
              refine S.g_no rfl rfl rfl (decide_eq_true hg7_9) rfl rfl ?_
              refine S.g_no rfl rfl rfl (decide_eq_true hg7_9) rfl rfl ?_
              refine S.g_yes rfl rfl rfl (hg7_6) (S.q (q_pickT rfl (decide_eq_true hg7_9) rfl) rfl rfl ?_)
              refine S.g_op rfl (S.q (q_pickT rfl (hg7_6) rfl) rfl rfl ?_)
              refine S.g_op rfl (S.q (q_assign rfl) rfl rfl ?_)
              first | with_reducible refine S.g_nilK ?_ | refine S.g_nil ?_
              with_reducible repeat (first | refine S.then_n ?_ | refine S.then_x ?_ | refine S.then_r ?_ | refine S.inBlock_n ?_ | refine S.inBlock_r ?_ | refine S.inBlock_x rfl ?_ | refine S.noGoto_r ?_ | refine S.noGoto_n ?_ | refine S.noGoto_x ?_)
              have hok1 : (putOk m j z l && okUp m l (i + 1)) = (putOk m j z l && okUp m l i && nodeB m x && (decide ((i : Int) = 0) || decide (l.getD (i - 1) 0 < x))) := by
                rw [okUp, hxd, ← Bool.and_assoc, ← Bool.and_assoc]
                have e : decide (i = 0) = decide ((i : Int) = 0) := decide_eq_decide.2 (by omega)
                rw [e]
              first | exact S.meet ⟨_, (by rw [hok1, ← hrt, hg7_1, hg7_6, decide_eq_true hg7_9]; rfl), rfl, rfl⟩ ⟨rfl, rfl, rfl, rfl, rfl, rfl, rfl, rfl, rfl, rfl, trivial⟩ Sub.ent | exact S.meet ⟨_, (by rw [hok1, ← hrt, hg7_1, hg7_6, decide_eq_false hg7_9, hyd]; rfl), rfl, rfl⟩ ⟨rfl, rfl, rfl, rfl, rfl, rfl, rfl, rfl, rfl, rfl, trivial⟩ Sub.ent | exact S.meet ⟨_, (by rw [hok1, ← hrt, hg7_1, hg7_6]; rfl), rfl, rfl⟩ ⟨rfl, rfl, rfl, rfl, rfl, rfl, rfl, rfl, rfl, rfl, trivial⟩ Sub.ent | exact S.meet ⟨_, (by rw [hok1, ← hrt, hg7_1]; rfl), rfl, rfl⟩ ⟨rfl, rfl, rfl, rfl, rfl, rfl, rfl, rfl, rfl, rfl, trivial⟩ Sub.ent
            · obtain ⟨y, hy⟩ := getE (show i - 1 < l.length by omega)
              have hyd : l.getD (i - 1) 0 = y := by simp [List.getD, hy]
              refine S.g_yes rfl rfl rfl (decide_eq_false hg7_9) (S.q (q_move rfl) rfl rfl ?_)
              refine S.g_yes rfl rfl rfl (decide_eq_false hg7_9) (S.q (q_move rfl) rfl rfl ?_)
              refine S.g_yes rfl rfl rfl (decide_eq_false hg7_9) (S.q (q_move rfl) rfl rfl ?_)
              refine S.g_yes rfl rfl rfl (decide_eq_false hg7_9) (S.q (q_sub rfl rfl (inI64 (by omega) (by omega))) rfl rfl ?_)
              refine S.g_yes rfl rfl rfl (decide_eq_false hg7_9) (S.q (q_indexO (i - 1) Tryd.el69 rfl hsa rfl (by omega) (by omega)) rfl rfl ?_)
              refine S.g_yes rfl rfl rfl (decide_eq_false hg7_9) (S.q (q_loadR hR (i - 1) Tryd.at3 rfl hsa (by omega) (by omega) (ints_get hy)) rfl rfl ?_)
              refine S.g_yes rfl rfl rfl (decide_eq_false hg7_9) (S.q (q_gt rfl rfl) rfl rfl ?_)
              refine S.g_yes rfl rfl rfl (hg7_6) (S.q (q_pickF rfl (decide_eq_false hg7_9) rfl) rfl rfl ?_)
              refine S.g_op rfl (S.q (q_pickT rfl (hg7_6) rfl) rfl rfl ?_)
              refine S.g_op rfl (S.q (q_assign rfl) rfl rfl ?_)
              first | with_reducible refine S.g_nilK ?_ | refine S.g_nil ?_
              with_reducible repeat (first | refine S.then_n ?_ | refine S.then_x ?_ | refine S.then_r ?_ | refine S.inBlock_n ?_ | refine S.inBlock_r ?_ | refine S.inBlock_x rfl ?_ | refine S.noGoto_r ?_ | refine S.noGoto_n ?_ | refine S.noGoto_x ?_)
              have hok1 : (putOk m j z l && okUp m l (i + 1)) = (putOk m j z l && okUp m l i && nodeB m x && (decide ((i : Int) = 0) || decide (l.getD (i - 1) 0 < x))) := by
                rw [okUp, hxd, ← Bool.and_assoc, ← Bool.and_assoc]
                have e : decide (i = 0) = decide ((i : Int) = 0) := decide_eq_decide.2 (by omega)
                rw [e]
              first | exact S.meet ⟨_, (by rw [hok1, ← hrt, hg7_1, hg7_6, decide_eq_true hg7_9]; rfl), rfl, rfl⟩ ⟨rfl, rfl, rfl, rfl, rfl, rfl, rfl, rfl, rfl, rfl, trivial⟩ Sub.ent | exact S.meet ⟨_, (by rw [hok1, ← hrt, hg7_1, hg7_6, decide_eq_false hg7_9, hyd]; rfl), rfl, rfl⟩ ⟨rfl, rfl, rfl, rfl, rfl, rfl, rfl, rfl, rfl, rfl, trivial⟩ Sub.ent | exact S.meet ⟨_, (by rw [hok1, ← hrt, hg7_1, hg7_6]; rfl), rfl, rfl⟩ ⟨rfl, rfl, rfl, rfl, rfl, rfl, rfl, rfl, rfl, rfl, trivial⟩ Sub.ent | exact S.meet ⟨_, (by rw [hok1, ← hrt, hg7_1]; rfl), rfl, rfl⟩ ⟨rfl, rfl, rfl, rfl, rfl, rfl, rfl, rfl, rfl, rfl, trivial⟩ Sub.ent
          · refine S.g_no rfl rfl rfl (hg7_6) rfl rfl ?_
            refine S.g_no rfl rfl rfl (hg7_6) rfl rfl ?_
            refine S.g_no rfl rfl rfl (hg7_6) rfl rfl ?_
            refine S.g_noU rfl rfl rfl rfl rfl ?_
            refine S.g_noU rfl rfl rfl rfl rfl ?_
            refine S.g_noU rfl rfl rfl rfl rfl ?_
            refine S.g_noU rfl rfl rfl rfl rfl ?_
            refine S.g_noU rfl rfl rfl rfl rfl ?_
            refine S.g_noU rfl rfl rfl rfl rfl ?_
            refine S.g_noU rfl rfl rfl rfl rfl ?_
            refine S.g_no rfl rfl rfl (hg7_6) rfl rfl ?_
            refine S.g_op rfl (S.q (q_pickF rfl (hg7_6) rfl) rfl rfl ?_)
            refine S.g_op rfl (S.q (q_assign rfl) rfl rfl ?_)
            first | with_reducible refine S.g_nilK ?_ | refine S.g_nil ?_
            with_reducible repeat (first | refine S.then_n ?_ | refine S.then_x ?_ | refine S.then_r ?_ | refine S.inBlock_n ?_ | refine S.inBlock_r ?_ | refine S.inBlock_x rfl ?_ | refine S.noGoto_r ?_ | refine S.noGoto_n ?_ | refine S.noGoto_x ?_)
            have hok1 : (putOk m j z l && okUp m l (i + 1)) = (putOk m j z l && okUp m l i && nodeB m x && (decide ((i : Int) = 0) || decide (l.getD (i - 1) 0 < x))) := by
              rw [okUp, hxd, ← Bool.and_assoc, ← Bool.and_assoc]
              have e : decide (i = 0) = decide ((i : Int) = 0) := decide_eq_decide.2 (by omega)
              rw [e]
            first | exact S.meet ⟨_, (by rw [hok1, ← hrt, hg7_1, hg7_6, decide_eq_true hg7_9]; rfl), rfl, rfl⟩ ⟨rfl, rfl, rfl, rfl, rfl, rfl, rfl, rfl, rfl, rfl, trivial⟩ Sub.ent | exact S.meet ⟨_, (by rw [hok1, ← hrt, hg7_1, hg7_6, decide_eq_false hg7_9, hyd]; rfl), rfl, rfl⟩ ⟨rfl, rfl, rfl, rfl, rfl, rfl, rfl, rfl, rfl, rfl, trivial⟩ Sub.ent | exact S.meet ⟨_, (by rw [hok1, ← hrt, hg7_1, hg7_6]; rfl), rfl, rfl⟩ ⟨rfl, rfl, rfl, rfl, rfl, rfl, rfl, rfl, rfl, rfl, trivial⟩ Sub.ent | exact S.meet ⟨_, (by rw [hok1, ← hrt, hg7_1]; rfl), rfl, rfl⟩ ⟨rfl, rfl, rfl, rfl, rfl, rfl, rfl, rfl, rfl, rfl, trivial⟩ Sub.ent
        · refine S.g_no rfl rfl rfl (hg7_1) rfl rfl ?_
          refine S.g_no rfl rfl rfl (hg7_1) rfl rfl ?_
          refine S.g_no rfl rfl rfl (hg7_1) rfl rfl ?_
          refine S.g_op rfl (S.q (q_pickF rfl (hg7_1) rfl) rfl rfl ?_)
          refine S.g_op rfl (S.q (q_move rfl) rfl rfl ?_)
          refine S.g_no rfl rfl rfl (rfl) rfl rfl ?_
          refine S.g_no rfl rfl rfl (rfl) rfl rfl ?_
          refine S.g_no rfl rfl rfl (rfl) rfl rfl ?_
          refine S.g_noU rfl rfl rfl rfl rfl ?_
          refine S.g_noU rfl rfl rfl rfl rfl ?_
          refine S.g_noU rfl rfl rfl rfl rfl ?_
          refine S.g_noU rfl rfl rfl rfl rfl ?_
          refine S.g_noU rfl rfl rfl rfl rfl ?_
          refine S.g_noU rfl rfl rfl rfl rfl ?_
          refine S.g_noU rfl rfl rfl rfl rfl ?_
          refine S.g_no rfl rfl rfl (rfl) rfl rfl ?_
          refine S.g_op rfl (S.q (q_pickF rfl (rfl) rfl) rfl rfl ?_)
          refine S.g_op rfl (S.q (q_assign rfl) rfl rfl ?_)
          first | with_reducible refine S.g_nilK ?_ | refine S.g_nil ?_
          with_reducible repeat (first | refine S.then_n ?_ | refine S.then_x ?_ | refine S.then_r ?_ | refine S.inBlock_n ?_ | refine S.inBlock_r ?_ | refine S.inBlock_x rfl ?_ | refine S.noGoto_r ?_ | refine S.noGoto_n ?_ | refine S.noGoto_x ?_)
          have hok1 : (putOk m j z l && okUp m l (i + 1)) = (putOk m j z l && okUp m l i && nodeB m x && (decide ((i : Int) = 0) || decide (l.getD (i - 1) 0 < x))) := by
            rw [okUp, hxd, ← Bool.and_assoc, ← Bool.and_assoc]
            have e : decide (i = 0) = decide ((i : Int) = 0) := decide_eq_decide.2 (by omega)
            rw [e]
          first | exact S.meet ⟨_, (by rw [hok1, ← hrt, hg7_1, hg7_6, decide_eq_true hg7_9]; rfl), rfl, rfl⟩ ⟨rfl, rfl, rfl, rfl, rfl, rfl, rfl, rfl, rfl, rfl, trivial⟩ Sub.ent | exact S.meet ⟨_, (by rw [hok1, ← hrt, hg7_1, hg7_6, decide_eq_false hg7_9, hyd]; rfl), rfl, rfl⟩ ⟨rfl, rfl, rfl, rfl, rfl, rfl, rfl, rfl, rfl, rfl, trivial⟩ Sub.ent | exact S.meet ⟨_, (by rw [hok1, ← hrt, hg7_1, hg7_6]; rfl), rfl, rfl⟩ ⟨rfl, rfl, rfl, rfl, rfl, rfl, rfl, rfl, rfl, rfl, trivial⟩ Sub.ent | exact S.meet ⟨_, (by rw [hok1, ← hrt, hg7_1]; rfl), rfl, rfl⟩ ⟨rfl, rfl, rfl, rfl, rfl, rfl, rfl, rfl, rfl, rfl, trivial⟩ Sub.ent
      · rintro ρ' Γ' ⟨r2, hr2, rfl, rfl⟩
        refine hK11 _ _ ?_
        refine S.seq fun K12 hK12 => ?_
        refine S.region rfl ?_
        refine S.op (S.q (q_move rfl) rfl rfl ?_)
        first | with_reducible refine S.nilK ?_ | refine S.nil ?_
        refine hK12 _ _ ?_
        refine S.cond rfl (fun h3 => ?_) (fun h3 => ?_)
        · subst h3
          have h3 := hr2.symm
          rw [Bool.and_eq_true] at h3
          have hnb := nodeB_iff.1 (okUp_at h3.2 (show i < i + 1 by omega)).1
          rw [hxd] at hnb
          have hbs2 := hbs (by rw [hrt, h3.1, okUp_le h3.2 (show i ≤ i + 1 by omega)]; rfl)
          refine S.draw ([blk b9 127 #[.int .i64 z, bsv bs]]) [6] Tryd.mixed ?_
          refine S.dr_take 0 [1, 4, 5, 6] rfl (by kernel_rfl) rfl rfl rfl (q_field Tryd.fo127_1 rfl) Sub.ent ?_
          refine S.dr_take 1 [4, 5, 6] rfl (by kernel_rfl) rfl rfl rfl (q_load Tryd.at120 rfl rfl) Sub.ent ?_
          refine S.dr_take 2 [3, 4, 5, 6] rfl (by kernel_rfl) rfl rfl rfl (q_move rfl) Sub.ent ?_
          refine S.dr_take 3 [4, 5, 6] rfl (by kernel_rfl) rfl rfl rfl (q_shlB (x.toNat) rfl rfl (by omega) (by omega)) Sub.ent ?_
          refine S.dr_take 4 [5, 6] rfl (by kernel_rfl) rfl rfl rfl (q_orB (bs) (BitVec.twoPow 16 x.toNat) rfl rfl (rfl) (rfl)) Sub.ent ?_
          refine S.dr_take 5 [6] rfl (by kernel_rfl) rfl rfl rfl (q_field Tryd.fo127_1 rfl) Sub.ent ?_
          refine S.dr_1 (i := 6) (by kernel_rfl) rfl rfl ?_
          refine  (S.store (cs' := [_, _]) Tryd.at120 rfl rfl rfl rfl rfl ?_)
          refine S.dr_late ([]) [] rfl ?_
          first | with_reducible refine S.dr_doneK (by kernel_rfl) ?_ | refine S.dr_done (by kernel_rfl) ?_
          with_reducible repeat (first | refine S.then_n ?_ | refine S.then_x ?_ | refine S.then_r ?_ | refine S.inBlock_n ?_ | refine S.inBlock_r ?_ | refine S.inBlock_x rfl ?_ | refine S.noGoto_r ?_ | refine S.noGoto_n ?_ | refine S.noGoto_x ?_)
          refine hK9 _ _ ?_
          refine S.region rfl ?_
          refine S.op (S.q (q_add rfl rfl (inI64 (by omega) (by omega))) rfl rfl ?_)
          refine S.op (S.q (q_move rfl) rfl rfl ?_)
          first | with_reducible refine S.nilK ?_ | refine S.nil ?_
          with_reducible repeat (first | refine S.then_n ?_ | refine S.then_x ?_ | refine S.then_r ?_ | refine S.inBlock_n ?_ | refine S.inBlock_r ?_ | refine S.inBlock_x rfl ?_ | refine S.noGoto_r ?_ | refine S.noGoto_n ?_ | refine S.noGoto_x ?_)
          first | (have hnew : bs ||| BitVec.twoPow 16 x.toNat = ofL (nats (l.take (i + 1))) := (by rw [List.take_add_one, hx, hbs2]; simp only [Option.toList_some, List.map_append, ofL_append]; simp [ofL]) ; exact S.next (q - 1) ⟨i + 1, bs ||| BitVec.twoPow 16 x.toNat, true, by omega, by omega, hr2, fun _ => hnew, rfl, rfl⟩ (by omega) (by repeat (first | exact trivial | refine ⟨rfl, ?_⟩)) Sub.ent) | exact S.next (q - 1) ⟨i + 1, bs, r2, by omega, by omega, hr2, fun h => (by rw [h3] at h; cases h), rfl, rfl⟩ (by omega) (by repeat (first | exact trivial | refine ⟨rfl, ?_⟩)) Sub.ent
        · refine S.skip ?_
          with_reducible repeat (first | refine S.then_n ?_ | refine S.then_x ?_ | refine S.then_r ?_ | refine S.inBlock_n ?_ | refine S.inBlock_r ?_ | refine S.inBlock_x rfl ?_ | refine S.noGoto_r ?_ | refine S.noGoto_n ?_ | refine S.noGoto_x ?_)
          with_reducible repeat (first | refine S.then_n ?_ | refine S.then_x ?_ | refine S.then_r ?_ | refine S.inBlock_n ?_ | refine S.inBlock_r ?_ | refine S.inBlock_x rfl ?_ | refine S.noGoto_r ?_ | refine S.noGoto_n ?_ | refine S.noGoto_x ?_)
          refine hK9 _ _ ?_
          refine S.region rfl ?_
          refine S.op (S.q (q_add rfl rfl (inI64 (by omega) (by omega))) rfl rfl ?_)
          refine S.op (S.q (q_move rfl) rfl rfl ?_)
          first | with_reducible refine S.nilK ?_ | refine S.nil ?_
          with_reducible repeat (first | refine S.then_n ?_ | refine S.then_x ?_ | refine S.then_r ?_ | refine S.inBlock_n ?_ | refine S.inBlock_r ?_ | refine S.inBlock_x rfl ?_ | refine S.noGoto_r ?_ | refine S.noGoto_n ?_ | refine S.noGoto_x ?_)
          first | (have hnew : bs ||| BitVec.twoPow 16 x.toNat = ofL (nats (l.take (i + 1))) := (by rw [List.take_add_one, hx, hbs2]; simp only [Option.toList_some, List.map_append, ofL_append]; simp [ofL]) ; exact S.next (q - 1) ⟨i + 1, bs ||| BitVec.twoPow 16 x.toNat, true, by omega, by omega, hr2, fun _ => hnew, rfl, rfl⟩ (by omega) (by repeat (first | exact trivial | refine ⟨rfl, ?_⟩)) Sub.ent) | exact S.next (q - 1) ⟨i + 1, bs, r2, by omega, by omega, hr2, fun h => (by rw [h3] at h; cases h), rfl, rfl⟩ (by omega) (by repeat (first | exact trivial | refine ⟨rfl, ?_⟩)) Sub.ent
    · have hie : i = l.length := by omega
      subst hie
      refine S.exit ?_
      with_reducible repeat (first | refine S.then_n ?_ | refine S.then_x ?_ | refine S.then_r ?_ | refine S.inBlock_n ?_ | refine S.inBlock_r ?_ | refine S.inBlock_x rfl ?_ | refine S.noGoto_r ?_ | refine S.noGoto_n ?_ | refine S.noGoto_x ?_)
      with_reducible refine S.inBlock_s ?_
      with_reducible repeat (first | refine S.then_n ?_ | refine S.then_x ?_ | refine S.then_r ?_ | refine S.inBlock_n ?_ | refine S.inBlock_r ?_ | refine S.inBlock_x rfl ?_ | refine S.noGoto_r ?_ | refine S.noGoto_n ?_ | refine S.noGoto_x ?_)
      refine hK5 _ _ ?_
      refine S.seq fun K13 hK13 => ?_
      refine S.block ?_
      refine S.seq fun K14 hK14 => ?_
      refine S.region rfl ?_
      refine S.op (S.q (q_move rfl) rfl rfl ?_)
      refine S.op (S.q (q_not rfl) rfl rfl ?_)
      refine S.op (S.q (q_assign rfl) rfl rfl ?_)
      first | with_reducible refine S.nilK ?_ | refine S.nil ?_
      refine hK14 _ _ ?_
      refine S.cond rfl (fun h4 => ?_) (fun h4 => ?_)
      · have hp : putR m j z l = (1, m) := by rw [putR, ← hrt, if_pos (by simpa using h4)]
        refine S.seq fun K15 hK15 => ?_
        refine S.region rfl ?_
        refine S.op (S.q (q_assign rfl) rfl rfl ?_)
        first | with_reducible refine S.nilK ?_ | refine S.nil ?_
        refine hK15 _ _ ?_
        refine S.ret ?_
        with_reducible repeat (first | refine S.then_n ?_ | refine S.then_x ?_ | refine S.then_r ?_ | refine S.inBlock_n ?_ | refine S.inBlock_r ?_ | refine S.inBlock_x rfl ?_ | refine S.noGoto_r ?_ | refine S.noGoto_n ?_ | refine S.noGoto_x ?_)
        exact S.fin (rs := [_]) (vs := [_]) Tryd.results30 (⟨rfl, trivial⟩)  (⟨by rw [hp]; rfl, by rw [hp]⟩) Sub.ent
      · have hpt : (putOk m j z l && okUp m l l.length) = true := by rw [← hrt]; simpa using h4
        have hbs2 := hbs (by simpa using h4)
        have hpt' := hpt
        rw [List.take_length] at hbs2
        rw [Bool.and_eq_true, putOk, Bool.and_eq_true, Bool.and_eq_true, decide_eq_true_eq, decide_eq_true_eq] at hpt
        obtain ⟨⟨⟨q1, q2⟩, q3⟩, q4⟩ := hpt
        have hr := rowB_iff.1 q2
        obtain ⟨r, rfl⟩ : ∃ r : Nat, z = r := ⟨z.toNat, by omega⟩
        obtain ⟨p1, p2, p3⟩ := put_ok hok (show 0 < l.length by omega) q4
        rw [← hbs2] at p1 p2 p3
        have hpn : putR m j r l = if (look m.js j).isSome then (7, m) else if tk m.js r &&& bs ≠ 0#16 then (15, m) else (0, m.add ⟨j, r, bs⟩) := by
          rw [putR, hpt', if_neg (by decide), ← hbs2, Int.toNat_natCast]
        refine S.seq fun K16 hK16 => ?_
        refine S.region rfl ?_
        refine S.op (S.q (q_move rfl) rfl rfl ?_)
        refine S.op (S.q (q_move rfl) rfl rfl ?_)
        refine S.op (S.call Tryd.en58 (vs := [_, _]) ⟨rfl, rfl, trivial⟩ (stands_S b m j) rfl ?_)
        rintro v Θ ⟨rfl, rfl⟩
        refine S.op (S.q (q_assign rfl) rfl rfl ?_)
        first | with_reducible refine S.nilK ?_ | refine S.nil ?_
        refine hK16 _ _ ?_
        refine S.cond rfl (fun h5 => ?_) (fun h5 => ?_)
        · rw [if_pos h5] at hpn
          refine S.seq fun K17 hK17 => ?_
          refine S.region rfl ?_
          refine S.op (S.q (q_assign rfl) rfl rfl ?_)
          first | with_reducible refine S.nilK ?_ | refine S.nil ?_
          refine hK17 _ _ ?_
          refine S.ret ?_
          with_reducible repeat (first | refine S.then_n ?_ | refine S.then_x ?_ | refine S.then_r ?_ | refine S.inBlock_n ?_ | refine S.inBlock_r ?_ | refine S.inBlock_x rfl ?_ | refine S.noGoto_r ?_ | refine S.noGoto_n ?_ | refine S.noGoto_x ?_)
          exact S.fin (rs := [_]) (vs := [_]) Tryd.results30 (⟨rfl, trivial⟩)  (⟨by rw [hpn]; rfl, by rw [hpn]⟩) Sub.ent
        · rw [if_neg (by rw [h5]; decide)] at hpn
          have hlk : look m.js j = none := by cases h : look m.js j with | none => rfl | some x => rw [h] at h5; cases h5
          refine S.miOpen b m fun mb tv lm hok2 hpm htn => ?_
          have hR8 := hok.R8
          refine S.ownSome tv (by omega) fun tb tf hta hl1 hl2 hl3 => ?_
          refine S.seq fun K18 hK18 => ?_
          refine S.draw ([blk b9 127 #[.int .i64 (r : Int), bsv bs], blk b 124 (mxC m mb tv).toArray, own tv 120 1 (tks m)]) [] Tryd.mixed ?_
          refine S.dr_take 0 [] rfl (by kernel_rfl) rfl rfl rfl (q_move rfl) Sub.ent ?_
          refine S.dr_take 1 [] rfl (by kernel_rfl) rfl rfl rfl (q_nilCheck rfl) Sub.ent ?_
          refine S.dr_take 2 [] rfl (by kernel_rfl) rfl rfl rfl (q_field Tryd.fo124_4 rfl) Sub.ent ?_
          refine S.dr_take 3 [] rfl (by kernel_rfl) rfl rfl rfl (q_load Tryd.at122 rfl rfl) Sub.ent ?_
          refine S.dr_take 4 [] rfl (by kernel_rfl) rfl rfl rfl (q_move rfl) Sub.ent ?_
          refine S.dr_take 5 [] rfl (by kernel_rfl) rfl rfl rfl (q_indexO (r) Tryd.el122 rfl hta rfl rfl (by omega)) Sub.ent ?_
          refine S.dr_take 6 [] rfl (by kernel_rfl) rfl rfl rfl (q_loadOw (tv) (r) Tryd.at120 rfl hta (by first | rfl | exact Nat.add_assoc _ _ _ | omega) (tks_get (show r < m.R by omega))) Sub.ent ?_
          refine S.dr_take 7 [] rfl (by kernel_rfl) rfl rfl rfl (q_field Tryd.fo127_1 rfl) Sub.ent ?_
          refine S.dr_take 8 [] rfl (by kernel_rfl) rfl rfl rfl (q_load Tryd.at120 rfl rfl) Sub.ent ?_
          refine S.dr_take 9 [] rfl (by kernel_rfl) rfl rfl rfl (q_andB (tk m.js r) (bs) rfl rfl (rfl) (rfl)) Sub.ent ?_
          refine S.dr_take 10 [] rfl (by kernel_rfl) rfl rfl rfl (q_ne rfl rfl) Sub.ent ?_
          refine S.dr_take 11 [] rfl (by kernel_rfl) rfl rfl rfl (q_assign rfl) Sub.ent ?_
          first | with_reducible refine S.dr_doneK (by kernel_rfl) ?_ | refine S.dr_done (by kernel_rfl) ?_
          refine hK18 _ _ ?_
          refine S.condD rfl (fun h6 => ?_) (fun h6 => ?_)
          · rw [if_pos (fun e => h6 (bs_zero.2 e))] at hpn
            refine S.seq fun K19 hK19 => ?_
            refine S.region rfl ?_
            refine S.op (S.q (q_assign rfl) rfl rfl ?_)
            first | with_reducible refine S.nilK ?_ | refine S.nil ?_
            refine hK19 _ _ ?_
            refine S.ret ?_
            with_reducible repeat (first | refine S.then_n ?_ | refine S.then_x ?_ | refine S.then_r ?_ | refine S.inBlock_n ?_ | refine S.inBlock_r ?_ | refine S.inBlock_x rfl ?_ | refine S.noGoto_r ?_ | refine S.noGoto_n ?_ | refine S.noGoto_x ?_)
            refine S.miClose (b := b) (m := m) (mb := mb) (tv := tv) rfl rfl rfl hok2 hpm htn ?_
            exact S.fin (rs := [_]) (vs := [_]) Tryd.results30 (⟨rfl, trivial⟩)  (⟨by rw [hpn]; rfl, by rw [hpn]⟩) Sub.ent
          · have hz0 : tk m.js r &&& bs = 0#16 := bs_zero.1 (Classical.byContradiction h6)
            rw [if_neg (fun h => h hz0)] at hpn
            refine S.miClose (b := b) (m := m) (mb := mb) (tv := tv) rfl rfl rfl hok2 hpm htn ?_
            refine S.skip ?_
            with_reducible repeat (first | refine S.then_n ?_ | refine S.then_x ?_ | refine S.then_r ?_ | refine S.inBlock_n ?_ | refine S.inBlock_r ?_ | refine S.inBlock_x rfl ?_ | refine S.noGoto_r ?_ | refine S.noGoto_n ?_ | refine S.noGoto_x ?_)
            with_reducible repeat (first | refine S.then_n ?_ | refine S.then_x ?_ | refine S.then_r ?_ | refine S.inBlock_n ?_ | refine S.inBlock_r ?_ | refine S.inBlock_x rfl ?_ | refine S.noGoto_r ?_ | refine S.noGoto_n ?_ | refine S.noGoto_x ?_)
            refine hK13 _ _ ?_
            refine S.seq fun K20 hK20 => ?_
            refine S.region rfl ?_
            refine S.op (S.q (q_move rfl) rfl rfl ?_)
            refine S.op (S.q (q_move rfl) rfl rfl ?_)
            refine S.op (S.q (q_loadS [_, _] Tryd.ag127 rfl rfl ⟨rfl, rfl, trivial⟩) rfl rfl ?_)
            refine S.op (S.call Tryd.en61 (vs := [_, _, _]) ⟨rfl, rfl, rfl, trivial⟩ (put_S b m ⟨j, r, bs⟩ (look_none hlk) (show 1 ≤ j by omega) hj (show r < m.R by omega) p2 p3 hz0) rfl ?_)
            rintro v Θ rfl
            first | with_reducible refine S.nilK ?_ | refine S.nil ?_
            refine hK20 _ _ ?_
            refine S.seq fun K21 hK21 => ?_
            refine S.region rfl ?_
            refine S.op (S.q (q_assign rfl) rfl rfl ?_)
            first | with_reducible refine S.nilK ?_ | refine S.nil ?_
            refine hK21 _ _ ?_
            refine S.ret ?_
            with_reducible repeat (first | refine S.then_n ?_ | refine S.then_x ?_ | refine S.then_r ?_ | refine S.inBlock_n ?_ | refine S.inBlock_r ?_ | refine S.inBlock_x rfl ?_ | refine S.noGoto_r ?_ | refine S.noGoto_n ?_ | refine S.noGoto_x ?_)
            exact S.fin (rs := [_]) (vs := [_]) Tryd.results30 (⟨rfl, trivial⟩)  (⟨by rw [hpn]; rfl, by rw [hpn]⟩) Sub.ent
end Go.Proofs.YtegjmmocnffpiaaDoor
/- slices.SortFunc at records, as a contract of the states. Of no program: the laying is handed in. -/
namespace Go.Proofs.YtegjmmocnffpiaaDoor
open Go.RowKit
open Go.Sort (SWO putCells putRow mapBlock grow onCells flatK HoldsK putRowK)
theorem world_grow {w w' : World} (h1 : Below w.heap.size w w') (h2 : w.drawn ≤ w'.drawn) : ∃ q os', w' = Sort.grow (w.drewN q) os' := by
  refine ⟨w'.drawn - w.drawn, w'.heap.extract w.heap.size w'.heap.size, ?_⟩
  have hh : w'.heap = w.heap ++ w'.heap.extract w.heap.size w'.heap.size := by
    apply Array.ext_getElem?
    intro i
    by_cases hi : i < w.heap.size
    · rw [Array.getElem?_append_left hi]
      exact h1.block i hi
    · rw [Array.getElem?_append_right (by omega), Array.getElem?_extract]
      have := h1.size
      by_cases hi2 : i < w'.heap.size
      · rw [if_pos (by omega)]
        congr 1
        omega
      · rw [if_neg (by omega), Array.getElem?_eq_none (by omega)]
  have e1 := h1.os
  have e2 := h1.tape
  have e3 := h1.output
  obtain ⟨hp, tp, dr, os, out⟩ := w
  obtain ⟨hp', tp', dr', os', out'⟩ := w'
  simp only at e1 e2 e3 h2 hh
  subst e1 e2 e3
  simp only [Sort.grow, World.drewN, World.mk.injEq, true_and, and_true]
  exact ⟨hh, by omega⟩
theorem flatK_list {α : Type} [Inhabited α] {enc : α → List Value} {k : Nat} (hk : ∀ x, (enc x).length = k) (h0 : 0 < k) (d : Array α) : (flatK enc k d).toList = d.toList.flatMap enc := by
  refine List.ext_getElem? fun j => ?_
  by_cases hj : j < d.size * k
  · have hd : j / k < d.size := Nat.div_lt_of_lt_mul (by rw [Nat.mul_comm]; exact hj)
    have hm : j % k < k := Nat.mod_lt _ h0
    have h1 : d.toList[j / k]? = some d[j / k]! := by
      rw [getElem!_pos d _ hd, Array.getElem?_toList]
      exact Array.getElem?_eq_getElem hd
    have h2 : (enc d[j / k]!)[j % k]? = some (enc d[j / k]!)[j % k]! := by
      rw [getElem!_pos (enc d[j / k]!) (j % k) (by rw [hk]; exact hm)]
      exact List.getElem?_eq_getElem _
    have h3 := flat_get hk h1 h2
    rw [Nat.mul_comm, Nat.div_add_mod] at h3
    rw [h3, Array.getElem?_toList]
    have h4 := Go.Sort.get_flatK enc k d j hj
    rw [← h4, getElem!_pos _ _ (by simpa using hj)]
    exact Array.getElem?_eq_getElem _
  · rw [List.getElem?_eq_none (by simp; omega), List.getElem?_eq_none (by rw [flat_length hk]; simp; omega)]
theorem putCells_list {off : Nat} {F cur : Array Value} (h : off + F.size ≤ cur.size) : ((putCells id off F cur).toList.drop off).take F.size = F.toList := by
  refine List.ext_getElem? fun j => ?_
  by_cases hj : j < F.size
  · rw [List.getElem?_take_of_lt hj, List.getElem?_drop, Array.getElem?_toList, Array.getElem?_toList]
    unfold putCells
    rw [Array.getElem?_mapIdx, Array.getElem?_eq_getElem (show off + j < cur.size by omega)]
    simp only [Option.map_some]
    rw [if_pos (by omega), Nat.add_sub_cancel_left, getElem!_pos F j hj]
    exact (Array.getElem?_eq_getElem hj).symm
  · rw [List.getElem?_eq_none (by simp; omega), List.getElem?_eq_none (by simp; omega)]
/-- A row's block behind a sort. -/
theorem sortWorld_heap {α : Type} [Inhabited α] {enc : α → List Value} {k : Nat} {w : World} {b off n : Nat} {d : Array α} {os : Array Obj} {cur : Array Value} {e : TypeId} (hb : Blk w b e cur) : Blk (sortWorldK enc k w b off n d os) b e (putCells id off (flatK enc k d) cur) ∧
    Keeps (fun i => i = b) w (sortWorldK enc k w b off n d os) := by
  have hlt := hb.lt
  have hsz : (putRowK enc k (Sort.ahead w n) b off d).heap.size = w.heap.size := by simp [putRowK, putRow, mapBlock]
  have hold : ∀ i, i < w.heap.size → (sortWorldK enc k w b off n d os).heap[i]? = (w.heap.modify b (onCells (putCells id off (flatK enc k d))))[i]? := fun i hi => by
    show ((putRowK enc k (Sort.ahead w n) b off d).heap ++ os)[i]? = _
    rw [Array.getElem?_append_left (by rw [hsz]; exact hi)]
    rfl
  refine ⟨?_, rfl, rfl, rfl, ?_, fun i hi hne => ?_, ?_⟩
  · unfold Blk
    rw [hold b hlt, Array.getElem?_modify, if_pos rfl, show w.heap[b]? = some (.cells cur e (0, 0)) from hb]
    rfl
  · show w.heap.size ≤ ((putRowK enc k (Sort.ahead w n) b off d).heap ++ os).size
    rw [Array.size_append, hsz]
    omega
  · rw [hold i hi, Array.getElem?_modify, if_neg (fun e => hne e.symm)]
  · show w.drawn ≤ w.drawn + n
    omega
/-- slices.SortFunc at records. -/
theorem SortFunc_S {P : Program} {ρ : Go.Shelf.Ren} (L : SlLaysF0.n6 P ρ) {α : Type} [Inhabited α] (k : Nat) (aE : ∀ w, (isAgg (ρ.t 24)).run P w = .ok true w) (zE : ∀ w, (Go.sizeOf (ρ.t 24)).run P w = .ok k w) (enc : α → List Value) (hk : ∀ x, (enc x).length = k) (h0 : 0 < k) (h1 : ∀ x, ∀ v ∈ enc x, v.oneCell' = true)
    (cf : α → α → Int) (hO : SWO (Go.Proofs.ltOf cf)) (g : Nat) (eg : ∀ args w, (callFunc g args).run P w = .ok (.enter g args) w) (hcmp : ∀ x y W, PureS P g [.agg (enc x).toArray, .agg (enc y).toArray] W (.int .i64 (cf x y))) (e : TypeId) (s : SV) (l : List α) (hl : l.length < 4611686018427387904) :
    Spec P (ρ.f 6) [s.v, .func (.func g) #[] #[]] [own s e k (l.flatMap enc)] fun Γ _ Θ => ∃ l' : List α, l'.Perm l ∧ l'.Pairwise (fun a b => Go.Proofs.ltOf cf b a = false) ∧ Θ = own s e k (l'.flatMap enc) :: Γ := by
  intro Γ w hs
  obtain ⟨x0, le0, p0⟩ := hs.head
  have hO0 := (p0.mono le0).toOwn
  have hlen := hO0.1
  rw [flat_length hk] at hlen
  have hn : l.length = s.n := Nat.eq_of_mul_eq_mul_right h0 hlen
  by_cases hz : s.n = 0
  · refine (show Calls P (ρ.f 6) #[.slice s.a s.n s.c, .func (.func g) #[] #[]] w _ from ?_)
    rw [hz]
    refine (AnyF.slices_SortFunc_none L s.a s.c _ w).mono ?_
    rintro e' w' ⟨rfl, rfl⟩
    obtain rfl : l = [] := List.eq_nil_of_length_eq_zero (by omega)
    exact ⟨_, _, rfl, ⟨[], .refl _, List.Pairwise.nil, rfl⟩, hs, Ext.refl _⟩
  · rcases hO0.2 with ⟨_, h3, _⟩ | ⟨b, off, c, cur, q1, q2, hB, q4, q5, q6, q7⟩
    · omega
    · simp only [SV.v, Value.slice.injEq, true_and] at q1
      obtain ⟨q1, rfl⟩ := q1
      have hsz : l.toArray.size = l.length := by simp
      have hfs : (flatK enc k l.toArray).toList = l.flatMap enc := by rw [flatK_list hk h0]
      have hfz : (flatK enc k l.toArray).size = s.n * k := by rw [Go.Sort.size_flatK, hsz, hn]
      have hcm : s.n * k ≤ s.c * k := Nat.mul_le_mul_right _ q4
      have hH : HoldsK enc k w b off l.toArray := by
        intro j hj
        rw [hfz] at hj
        refine ⟨?_, hB.frozen _⟩
        rw [hB.cell]
        have e1 : (l.flatMap enc)[j]? = cur[off + j]? := by
          rw [← q7, List.getElem?_take_of_lt hj, List.getElem?_drop, Array.getElem?_toList]
        rw [← e1, ← hfs, Array.getElem?_toList, getElem!_pos _ _ (by rw [hfz]; exact hj)]
        exact Array.getElem?_eq_getElem _
      have hcl : CmpLays P g #[] enc k cf b off l.toArray.size w := fun m os dk _ x y => by
        refine (pure_run (hcmp x y (sortWorldK enc k w b off m dk os))).mono ?_
        rintro e' w' ⟨rfl, hb, hd⟩
        obtain ⟨q, os', e2⟩ := world_grow hb hd
        exact ⟨rfl, q, os', e2⟩
      have hc := AnyQ.slices_SortFunc L k aE zE enc hk h1 cf hO g #[] b off s.c l.toArray w eg hcl hH hB.lt (by rw [hsz]; exact hl)
      refine (show Calls P (ρ.f 6) #[.slice s.a s.n s.c, .func (.func g) #[] #[]] w _ from ?_)
      rw [q1]
      rw [hsz, hn] at hc
      refine hc.mono ?_
      rintro e' w' ⟨rfl, d', nn, os, hp, hsd, rfl⟩
      obtain ⟨k1, k2⟩ := sortWorld_heap (enc := enc) (k := k) (off := off) (n := nn) (d := d') (os := os) hB
      have hd'z : d'.size = s.n := by rw [hp.1, hsz, hn]
      have hF : (flatK enc k d').size = s.n * k := by rw [Go.Sort.size_flatK, hd'z]
      refine ⟨_, _, rfl, ⟨d'.toList, ?_, ?_, rfl⟩, ?_, k2.os, k2.tape, k2.output, k2.size, fun _ => k2.drawn⟩
      · have := hp.2.2
        rw [← hd'z, Array.extract_size, hd'z, show s.n = l.toArray.size by rw [hsz, hn], Array.extract_size] at this
        simpa using this
      · rw [List.pairwise_iff_getElem]
        intro i j hi hj hij
        have := hsd i j (Nat.zero_le _) hij (by simpa [hd'z] using hj)
        rw [getElem!_pos d' i (by simpa using hi), getElem!_pos d' j (by simpa using hj)] at this
        simpa using this
      · refine hs.ownUpd (b := b) ⟨?_, .inr ⟨b, off, s.c, _, by simp only [SV.v, q1], rfl, k1, q4, q5, ?_, ?_⟩⟩ (by rw [q1]; rfl) k2
        · rw [flat_length hk]
          simp [hd'z]
        · simp only [putCells, Array.size_mapIdx]
          exact q6
        · have := putCells_list (off := off) (F := flatK enc k d') (cur := cur) (by rw [hF]; omega)
          rw [hF, flatK_list hk h0] at this
          exact this
end Go.Proofs.YtegjmmocnffpiaaDoor
/- slices.SortFunc at elements of one cell, with a comparison that reads memory. Of no program: the laying is handed in. -/
namespace Go.Proofs.YtegjmmocnffpiaaDoor
open Go.RowKit
open Go.Sort (SWO putCells putRow mapBlock grow onCells Holds)
theorem putCells_enc {α : Type} [Inhabited α] (enc : α → Value) (off : Nat) (d : List α) (cur : Array Value) : putCells enc off d.toArray cur = putCells id off (d.map enc).toArray cur := by
  unfold putCells
  refine congrArg (fun f => Array.mapIdx f cur) ?_
  funext k x
  have hs : (d.map enc).toArray.size = d.toArray.size := by simp
  rw [hs]
  split
  · rename_i h
    have hk : k - off < d.length := by have := h.2; simp at this; omega
    rw [getElem!_pos d.toArray (k - off) (by simpa using hk), getElem!_pos (d.map enc).toArray (k - off) (by simpa using hk)]
    simp
  · rfl
theorem sortWorld1_heap {α : Type} [Inhabited α] {enc : α → Value} {w : World} {b off n : Nat} {d : Array α} {os : Array Obj} {cur : Array Value} {e : TypeId} (hb : Blk w b e cur) : Blk (sortWorld enc w b off n d os) b e (putCells enc off d cur) ∧
    Keeps (fun i => i = b) w (sortWorld enc w b off n d os) := by
  have hlt := hb.lt
  have hsz : (putRow enc (Sort.ahead w n) b off d).heap.size = w.heap.size := by simp [putRow, mapBlock]
  have hold : ∀ i, i < w.heap.size → (sortWorld enc w b off n d os).heap[i]? = (w.heap.modify b (onCells (putCells enc off d)))[i]? := fun i hi => by
    show ((putRow enc (Sort.ahead w n) b off d).heap ++ os)[i]? = _
    rw [Array.getElem?_append_left (by rw [hsz]; exact hi)]
    rfl
  refine ⟨?_, rfl, rfl, rfl, ?_, fun i hi hne => ?_, ?_⟩
  · unfold Blk
    rw [hold b hlt, Array.getElem?_modify, if_pos rfl, show w.heap[b]? = some (.cells cur e (0, 0)) from hb]
    rfl
  · show w.heap.size ≤ ((putRow enc (Sort.ahead w n) b off d).heap ++ os).size
    rw [Array.size_append, hsz]
    omega
  · rw [hold i hi, Array.getElem?_modify, if_neg (fun e => hne e.symm)]
  · show w.drawn ≤ w.drawn + n
    omega
/-- slices.SortFunc at elements of one cell; pre: what the comparison reads. -/
theorem SortFunc1_S {P : Program} {ρ : Go.Shelf.Ren} (L : SlLaysF.n6 P ρ) (L0 : SlLaysF0.n6 P ρ) {α : Type} [Inhabited α] (enc : α → Value) (h1 : ∀ x, (enc x).oneCell' = true)
    (cf : α → α → Int) (hO : SWO (Go.Proofs.ltOf cf)) (g : Nat) (cb : List Value) (eg : ∀ args w, (callFunc g args).run P w = .ok (.enter g args) w) (pre : List Assn)
    (hcmp : ∀ x y W Γ, Sat W (pre ++ Γ) → PureS P g ([enc x, enc y] ++ cb) W (.int .i64 (cf x y))) (e : TypeId) (s : SV) (l : List α) (hl : l.length < 4611686018427387904) :
    Spec P (ρ.f 6) [s.v, .func (.func g) #[] cb.toArray] (own s e 1 (l.map enc) :: pre) fun Γ _ Θ => ∃ l' : List α, l'.Perm l ∧ l'.Pairwise (fun a b => Go.Proofs.ltOf cf b a = false) ∧ Θ = own s e 1 (l'.map enc) :: (pre ++ Γ) := by
  intro Γ w hs
  obtain ⟨x0, le0, p0⟩ := hs.head
  have hO0 := (p0.mono le0).toOwn
  have hlen := hO0.1
  rw [List.length_map, Nat.mul_one] at hlen
  by_cases hz : s.n = 0
  · refine (show Calls P (ρ.f 6) #[.slice s.a s.n s.c, .func (.func g) #[] cb.toArray] w _ from ?_)
    rw [hz]
    refine (AnyF.slices_SortFunc_none L0 s.a s.c _ w).mono ?_
    rintro e' w' ⟨rfl, rfl⟩
    obtain rfl : l = [] := List.eq_nil_of_length_eq_zero (by omega)
    exact ⟨_, _, rfl, ⟨[], .refl _, List.Pairwise.nil, rfl⟩, hs, Ext.refl _⟩
  · rcases hO0.2 with ⟨_, h3, _⟩ | ⟨b, off, c, cur, q1, q2, hB, q4, q5, q6, q7⟩
    · omega
    · simp only [SV.v, Value.slice.injEq, true_and] at q1
      obtain ⟨q1, rfl⟩ := q1
      rw [Nat.mul_one] at q6 q7
      have hsz : l.toArray.size = l.length := by simp
      have hown : ∀ (m : Nat) (os : Array Obj) (dk : Array α), dk.size = l.toArray.size → Sat (sortWorld enc w b off m dk os) (own s e 1 (dk.toList.map enc) :: (pre ++ Γ)) := fun m os dk hdk => by
        obtain ⟨k1, k2⟩ := sortWorld1_heap (enc := enc) (off := off) (n := m) (d := dk) (os := os) hB
        have hF : (dk.toList.map enc).toArray.size = s.n := by simp [hdk]; omega
        refine Sat.ownUpd (s := s) (xs := l.map enc) hs (b := b) ⟨?_, .inr ⟨b, off, s.c, _, by simp only [SV.v, q1], rfl, k1, q4, q5, ?_, ?_⟩⟩ (by rw [q1]; rfl) k2
        · simpa using hF
        · simp only [putCells, Array.size_mapIdx]
          omega
        · have e2 := putCells_enc enc off dk.toList cur
          rw [Array.toArray_toList] at e2
          have := putCells_list (off := off) (F := (dk.toList.map enc).toArray) (cur := cur) (by rw [hF]; omega)
          rw [hF] at this
          rw [e2, Nat.mul_one]
          exact this
      have hH : Holds enc w b off l.toArray := by
        intro j hj
        rw [hsz] at hj
        refine ⟨?_, hB.frozen _⟩
        rw [hB.cell]
        have e1 : (l.map enc)[j]? = cur[off + j]? := by
          rw [← q7, List.getElem?_take_of_lt (by omega), List.getElem?_drop, Array.getElem?_toList]
        rw [← e1, List.getElem?_map, List.getElem?_eq_getElem hj, getElem!_pos l.toArray j (by simpa using hj)]
        simp
      have hcl : CmpLays1 P g cb.toArray enc cf b off l.toArray.size w := fun m os dk hdk x y => by
        have hs2 := (hown m os dk hdk).ent (Ent.drop _ _)
        have ea : #[enc x, enc y] ++ cb.toArray = ([enc x, enc y] ++ cb).toArray := by simp
        rw [ea]
        refine ((pure_run (hcmp x y (sortWorld enc w b off m dk os) Γ hs2)).mono ?_)
        rintro e' w' ⟨rfl, hb, hd⟩
        obtain ⟨q, os', e2⟩ := world_grow hb hd
        exact ⟨rfl, q, os', e2⟩
      have hc := Any.slices_SortFunc L enc h1 cf hO g cb.toArray b off s.c l.toArray w eg hcl hH hB.lt (by rw [hsz]; exact hl)
      refine (show Calls P (ρ.f 6) #[.slice s.a s.n s.c, .func (.func g) #[] cb.toArray] w _ from ?_)
      rw [q1]
      rw [hsz, show l.length = s.n by omega] at hc
      refine hc.mono ?_
      rintro e' w' ⟨rfl, d', nn, os, hp, hsd, rfl⟩
      have hd'z : d'.size = l.toArray.size := hp.1
      obtain ⟨_, k2⟩ := sortWorld1_heap (enc := enc) (off := off) (n := nn) (d := d') (os := os) hB
      refine ⟨_, _, rfl, ⟨d'.toList, ?_, ?_, rfl⟩, hown nn os d' hd'z, k2.os, k2.tape, k2.output, k2.size, fun _ => k2.drawn⟩
      · have := hp.2.2
        rw [show s.n = d'.size by rw [hd'z, hsz]; omega, Array.extract_size, hd'z, Array.extract_size] at this
        simpa using this
      · rw [List.pairwise_iff_getElem]
        intro i j hi hj hij
        have := hsd i j (Nat.zero_le _) hij (by simp at hj; rw [hd'z, hsz] at hj; omega)
        rw [getElem!_pos d' i (by simpa using hi), getElem!_pos d' j (by simpa using hj)] at this
        simpa using this
end Go.Proofs.YtegjmmocnffpiaaDoor
/-
  DERIVED: THE SHELF's CONTRACTS AT THIS DUMP, IN PLAIN WORDS (tools/lay-plain.mjs out of 'TryShelf.lean', which tools/lay-shelf.mjs wrote): THE SAME DECLARATIONS UNDER THE SAME NAMES: 'import', 'namespace', 'open', 'def', 'theorem' AND NOTHING ELSE: no command of the shelf's: FOR A HAND-IN. Each laying: the table of numbers ('.._ren') and one theorem, a field a fact of the dump's own or the kernel's comparison; each contract: ONE APPLICATION.
-/
namespace Go.Proofs
open Go.Shelf
def Tryd.sort76_ren : Go.Shelf.Ren := ⟨fun | 6 => 76 | 15 => 89 | 14 => 88 | 28 => 104 | 29 => 105 | 20 => 96 | 21 => 97 | 22 => 98 | 23 => 99 | 24 => 100 | 25 => 101 | 26 => 102 | 27 => 103 | 46 => 116 | 47 => 117 | 48 => 118 | 49 => 119 | 50 => 120 | 57 => 133 | n => n, fun | 22 => 31 | 24 => 68 | 25 => 144 | 3 => 3 | 39 => 160 | 0 => 0 | 53 => 68 | 55 => 174 | 4 => 4 | 46 => 167 | 45 => 166 | 50 => 118 | 5 => 5 | 9 => 9 | 66 => 182 | 70 => 186 | 76 => 196 | 77 => 90 | n => n, fun | n => n⟩
theorem Tryd.sort76 : Go.Proofs.SlLaysF.n6 Tryd.prog Tryd.sort76_ren := {
  mixed := by kernel_rfl
  f6 := ⟨Tryd.f76.name, by decide, Tryd.func76.trans (congrArg some (by kernel_rfl))⟩
  f14 := ⟨Tryd.f88.name, by decide, Tryd.func88.trans (congrArg some (by kernel_rfl))⟩
  f15 := Tryd.func89.trans (congrArg some (by kernel_rfl))
  f20 := ⟨Tryd.f96.name, by decide, Tryd.func96.trans (congrArg some (by kernel_rfl))⟩
  f21 := ⟨Tryd.f97.name, by decide, Tryd.func97.trans (congrArg some (by kernel_rfl))⟩
  f22 := ⟨Tryd.f98.name, by decide, Tryd.func98.trans (congrArg some (by kernel_rfl))⟩
  f23 := ⟨Tryd.f99.name, by decide, Tryd.func99.trans (congrArg some (by kernel_rfl))⟩
  f24 := ⟨Tryd.f100.name, by decide, Tryd.func100.trans (congrArg some (by kernel_rfl))⟩
  f25 := ⟨Tryd.f101.name, by decide, Tryd.func101.trans (congrArg some (by kernel_rfl))⟩
  f26 := ⟨Tryd.f102.name, by decide, Tryd.func102.trans (congrArg some (by kernel_rfl))⟩
  f27 := ⟨Tryd.f103.name, by decide, Tryd.func103.trans (congrArg some (by kernel_rfl))⟩
  f28 := Tryd.func104.trans (congrArg some (by kernel_rfl))
  f29 := Tryd.func105.trans (congrArg some (by kernel_rfl))
  f46 := ⟨Tryd.f116.name, by decide, Tryd.func116.trans (congrArg some (by kernel_rfl))⟩
  f47 := Tryd.func117.trans (congrArg some (by kernel_rfl))
  f48 := Tryd.func118.trans (congrArg some (by kernel_rfl))
  f49 := ⟨Tryd.f119.name, by decide, Tryd.func119.trans (congrArg some (by kernel_rfl))⟩
  f50 := ⟨Tryd.f120.name, by decide, Tryd.func120.trans (congrArg some (by kernel_rfl))⟩
  f57 := ⟨Tryd.f133.name, by decide, Tryd.func133.trans (congrArg some (by kernel_rfl))⟩
  t0 := Tryd.underlying0
  a0 := Tryd.isAgg0
  z0 := Tryd.sizeOf0
  v0 := Tryd.zeroValue0
  t3 := Tryd.underlying3
  a3 := Tryd.isAgg3
  z3 := Tryd.sizeOf3
  v3 := Tryd.zeroValue3
  t4 := Tryd.underlying4
  a4 := Tryd.isAgg4
  z4 := Tryd.sizeOf4
  v4 := Tryd.zeroValue4
  t5 := Tryd.underlying5
  a5 := Tryd.isAgg5
  z5 := Tryd.sizeOf5
  v5 := Tryd.zeroValue5
  t9 := Tryd.underlying9
  a9 := Tryd.isAgg9
  z9 := Tryd.sizeOf9
  v9 := Tryd.zeroValue9
  t22 := Tryd.underlying31
  a22 := Tryd.isAgg31
  z22 := Tryd.sizeOf31
  v22 := Tryd.zeroValue31
  a24 := Tryd.isAgg68
  z24 := Tryd.sizeOf68
  t25 := Tryd.underlying144
  a25 := Tryd.isAgg144
  z25 := Tryd.sizeOf144
  v25 := Tryd.zeroValue144
  t39 := Tryd.underlying160
  a39 := Tryd.isAgg160
  z39 := Tryd.sizeOf160
  v39 := Tryd.zeroValue160
  t45 := Tryd.underlying166
  a45 := Tryd.isAgg166
  z45 := Tryd.sizeOf166
  v45 := Tryd.zeroValue166
  t46 := Tryd.underlying167
  a46 := Tryd.isAgg167
  z46 := Tryd.sizeOf167
  v46 := Tryd.zeroValue167
  t50 := Tryd.underlying118
  a50 := Tryd.isAgg118
  z50 := Tryd.sizeOf118
  v50 := Tryd.zeroValue118
  t53 := Tryd.underlying68
  a53 := Tryd.isAgg68
  z53 := Tryd.sizeOf68
  v53 := Tryd.zeroValue68
  t55 := Tryd.underlying174
  a55 := Tryd.isAgg174
  z55 := Tryd.sizeOf174
  v55 := Tryd.zeroValue174
  t66 := Tryd.underlying182
  a66 := Tryd.isAgg182
  z66 := Tryd.sizeOf182
  v66 := Tryd.zeroValue182
  t70 := Tryd.underlying186
  a70 := Tryd.isAgg186
  z70 := Tryd.sizeOf186
  v70 := Tryd.zeroValue186
  t76 := Tryd.underlying196
  a76 := Tryd.isAgg196
  z76 := Tryd.sizeOf196
  v76 := Tryd.zeroValue196
  t77 := Tryd.underlying90
  a77 := Tryd.isAgg90
  z77 := Tryd.sizeOf90
  v77 := Tryd.zeroValue90 }
def Tryd.sort84_ren : Go.Shelf.Ren := ⟨fun | 6 => 84 | 15 => 89 | 14 => 93 | 28 => 104 | 29 => 105 | 20 => 108 | 21 => 109 | 22 => 110 | 23 => 111 | 24 => 112 | 25 => 113 | 26 => 114 | 27 => 115 | 46 => 130 | 47 => 117 | 48 => 118 | 49 => 131 | 50 => 132 | 57 => 137 | n => n, fun | 22 => 27 | 24 => 86 | 25 => 157 | 3 => 3 | 39 => 160 | 0 => 0 | 53 => 68 | 55 => 174 | 4 => 4 | 46 => 167 | 45 => 166 | 50 => 118 | 5 => 5 | 9 => 9 | 66 => 182 | 70 => 186 | 76 => 196 | 77 => 90 | n => n, fun | n => n⟩
theorem Tryd.sort84 : Go.Proofs.SlLaysF0.n6 Tryd.prog Tryd.sort84_ren := {
  mixed := by kernel_rfl
  f6 := ⟨Tryd.f84.name, by decide, Tryd.func84.trans (congrArg some (by kernel_rfl))⟩
  f14 := ⟨Tryd.f93.name, by decide, Tryd.func93.trans (congrArg some (by kernel_rfl))⟩
  f15 := Tryd.func89.trans (congrArg some (by kernel_rfl))
  f20 := ⟨Tryd.f108.name, by decide, Tryd.func108.trans (congrArg some (by kernel_rfl))⟩
  f21 := ⟨Tryd.f109.name, by decide, Tryd.func109.trans (congrArg some (by kernel_rfl))⟩
  f22 := ⟨Tryd.f110.name, by decide, Tryd.func110.trans (congrArg some (by kernel_rfl))⟩
  f23 := ⟨Tryd.f111.name, by decide, Tryd.func111.trans (congrArg some (by kernel_rfl))⟩
  f24 := ⟨Tryd.f112.name, by decide, Tryd.func112.trans (congrArg some (by kernel_rfl))⟩
  f25 := ⟨Tryd.f113.name, by decide, Tryd.func113.trans (congrArg some (by kernel_rfl))⟩
  f26 := ⟨Tryd.f114.name, by decide, Tryd.func114.trans (congrArg some (by kernel_rfl))⟩
  f27 := ⟨Tryd.f115.name, by decide, Tryd.func115.trans (congrArg some (by kernel_rfl))⟩
  f28 := Tryd.func104.trans (congrArg some (by kernel_rfl))
  f29 := Tryd.func105.trans (congrArg some (by kernel_rfl))
  f46 := ⟨Tryd.f130.name, by decide, Tryd.func130.trans (congrArg some (by kernel_rfl))⟩
  f47 := Tryd.func117.trans (congrArg some (by kernel_rfl))
  f48 := Tryd.func118.trans (congrArg some (by kernel_rfl))
  f49 := ⟨Tryd.f131.name, by decide, Tryd.func131.trans (congrArg some (by kernel_rfl))⟩
  f50 := ⟨Tryd.f132.name, by decide, Tryd.func132.trans (congrArg some (by kernel_rfl))⟩
  f57 := ⟨Tryd.f137.name, by decide, Tryd.func137.trans (congrArg some (by kernel_rfl))⟩
  t0 := Tryd.underlying0
  a0 := Tryd.isAgg0
  z0 := Tryd.sizeOf0
  v0 := Tryd.zeroValue0
  t3 := Tryd.underlying3
  a3 := Tryd.isAgg3
  z3 := Tryd.sizeOf3
  v3 := Tryd.zeroValue3
  t4 := Tryd.underlying4
  a4 := Tryd.isAgg4
  z4 := Tryd.sizeOf4
  v4 := Tryd.zeroValue4
  t5 := Tryd.underlying5
  a5 := Tryd.isAgg5
  z5 := Tryd.sizeOf5
  v5 := Tryd.zeroValue5
  t9 := Tryd.underlying9
  a9 := Tryd.isAgg9
  z9 := Tryd.sizeOf9
  v9 := Tryd.zeroValue9
  t22 := Tryd.underlying27
  a22 := Tryd.isAgg27
  z22 := Tryd.sizeOf27
  v22 := Tryd.zeroValue27
  t25 := Tryd.underlying157
  a25 := Tryd.isAgg157
  z25 := Tryd.sizeOf157
  v25 := Tryd.zeroValue157
  t39 := Tryd.underlying160
  a39 := Tryd.isAgg160
  z39 := Tryd.sizeOf160
  v39 := Tryd.zeroValue160
  t45 := Tryd.underlying166
  a45 := Tryd.isAgg166
  z45 := Tryd.sizeOf166
  v45 := Tryd.zeroValue166
  t46 := Tryd.underlying167
  a46 := Tryd.isAgg167
  z46 := Tryd.sizeOf167
  v46 := Tryd.zeroValue167
  t50 := Tryd.underlying118
  a50 := Tryd.isAgg118
  z50 := Tryd.sizeOf118
  v50 := Tryd.zeroValue118
  t53 := Tryd.underlying68
  a53 := Tryd.isAgg68
  z53 := Tryd.sizeOf68
  v53 := Tryd.zeroValue68
  t55 := Tryd.underlying174
  a55 := Tryd.isAgg174
  z55 := Tryd.sizeOf174
  v55 := Tryd.zeroValue174
  t66 := Tryd.underlying182
  a66 := Tryd.isAgg182
  z66 := Tryd.sizeOf182
  v66 := Tryd.zeroValue182
  t70 := Tryd.underlying186
  a70 := Tryd.isAgg186
  z70 := Tryd.sizeOf186
  v70 := Tryd.zeroValue186
  t76 := Tryd.underlying196
  a76 := Tryd.isAgg196
  z76 := Tryd.sizeOf196
  v76 := Tryd.zeroValue196
  t77 := Tryd.underlying90
  a77 := Tryd.isAgg90
  z77 := Tryd.sizeOf90
  v77 := Tryd.zeroValue90 }
end Go.Proofs
/- The matrix: Row, by least nodes. -/
namespace Go.Proofs.YtegjmmocnffpiaaDoor
open Go.RowKit
set_option maxRecDepth 20000
def nsOf (js : List Jb) (j : Nat) : Bs := ((look js j).map (·.ns)).getD 0#16
/-- Who stands in a row, by least nodes. -/
def rowJ (m : Mx) (r : Nat) : List Jb := (List.range 16).filterMap fun i => m.js.find? fun x => decide (x.row = r) && decide (tz x.ns = i)
theorem mem_rowJ {m : Mx} (hm : MxOk m) {r : Nat} {x : Jb} : x ∈ rowJ m r ↔ x ∈ m.js ∧ x.row = r := by
  simp only [rowJ, List.mem_filterMap, List.mem_range]
  constructor
  · rintro ⟨i, _, hf⟩
    have h1 := List.mem_of_find?_eq_some hf
    have h2 := List.find?_some hf
    rw [Bool.and_eq_true, decide_eq_true_eq] at h2
    exact ⟨h1, h2.1⟩
  · rintro ⟨h1, h2⟩
    have ht := tz_mem (hm.some x h1)
    refine ⟨tz x.ns, lst_lt ht, ?_⟩
    cases hf : m.js.find? fun y => decide (y.row = r) && decide (tz y.ns = tz x.ns) with
    | none =>
      have := List.find?_eq_none.1 hf x h1
      simp [h2] at this
    | some y =>
      have h3 := List.mem_of_find?_eq_some hf
      have h4 := List.find?_some hf
      rw [Bool.and_eq_true, decide_eq_true_eq, decide_eq_true_eq] at h4
      refine congrArg some (Classical.byContradiction fun hne => ?_)
      exact hm.dis y h3 x h1 (fun e => hne (id_inj hm.srt h3 h1 e)) (h4.1.trans h2.symm) (tz x.ns) (by rw [← h4.2]; exact mem_lst.1 (tz_mem (hm.some y h3))) (mem_lst.1 ht)
theorem rowJ_srt {m : Mx} {r : Nat} : (rowJ m r).Pairwise fun a b => tz a.ns < tz b.ns := by
  rw [rowJ, List.pairwise_filterMap]
  refine List.pairwise_lt_range.imp fun h x hx y hy => ?_
  have h1 := List.find?_some hx
  have h2 := List.find?_some hy
  rw [Bool.and_eq_true, decide_eq_true_eq, decide_eq_true_eq] at h1 h2
  rw [h1.2, h2.2]
  exact h
theorem rowJ_nodup {m : Mx} {r : Nat} : (rowJ m r).Nodup := rowJ_srt.imp fun h e => by rw [e] at h; omega
def rowIds (m : Mx) (z : Int) : List Nat := if rowB m z then (rowJ m z.toNat).map (·.id) else []
abbrev idsV (l : List Nat) : List Value := l.map fun j : Nat => Value.int .u32 (j : Int)
def cmpR (js : List Jb) (a b : Nat) : Int := (tz (nsOf js a) : Int) - tz (nsOf js b)
theorem ltR (js : List Jb) (a b : Nat) : Go.Proofs.ltOf (cmpR js) a b = decide (tz (nsOf js a) < tz (nsOf js b)) := by
  rw [Go.Proofs.ltOf]
  exact decide_eq_decide.2 (by unfold cmpR; omega)
theorem cmpR_swo (js : List Jb) : Go.Sort.SWO (Go.Proofs.ltOf (cmpR js)) where
  irrefl := fun x => by rw [ltR]; exact decide_eq_false (by omega)
  trans := fun x y z h1 h2 => by rw [ltR] at *; have h1 := of_decide_eq_true h1; have h2 := of_decide_eq_true h2; exact decide_eq_true (by omega)
  ntrans := fun x y z h1 h2 => by rw [ltR] at *; have h1 := of_decide_eq_false h1; have h2 := of_decide_eq_false h2; exact decide_eq_false (by omega)
theorem cmpR_P (t2 b mb : Nat) (m : Mx) (tv : SV) (l : List (Int × Value)) (hok : MxOk m) (hp : l.Perm (m.js.map jbE)) (x y : Nat) {W0 : World} (hW0 : TabW W0) (W : World) (Γ : List Assn) (hs : Sat W ([blk t2 25 #[.pointer (some ⟨b, 0, none⟩)], blk b 124 (mxC m mb tv).toArray, mapL mb .u32 l, old W0] ++ Γ)) :
    PureS Tryd.prog 77 ([.int .u32 (x : Int), .int .u32 (y : Int)] ++ [.pointer (some ⟨t2, 0, none⟩)]) W (.int .i64 (cmpR m.js x y)) := by
  have h2 : W.cell? ⟨t2, 0, none⟩ = some (.pointer (some ⟨b, 0, none⟩)) := by rw [(hs.isBlk).cell]; rfl
  have hs1 := hs.ent (Ent.drop _ _)
  have h3 : W.cell? ⟨b, 0 + 3, none⟩ = some (.map (some mb)) := by rw [(hs1.isBlk).cell]; rfl
  have hs2 := hs1.ent (Ent.drop _ _)
  obtain ⟨es, clock, h4, h5⟩ := hs2.isMap
  have hs3 := hs2.ent (Ent.drop _ _)
  have hW : TabW W := fun i hi => (HasOld.head (Γ := [] ++ Γ) (W := W0)).cell hs3 (hW0 i hi)
  have hg := fun j => get_look hok.srt hp j
  have hns : ∀ j : Nat, ∃ r : Int, (alGet (j : Int) l).getD (.agg #[.int .i64 0, .int .u16 0]) = .agg #[.int .i64 r, bsv (nsOf m.js j)] := fun j => by
    rw [hg j, nsOf]
    cases look m.js j with
    | none => exact ⟨0, rfl⟩
    | some x => exact ⟨_, rfl⟩
  obtain ⟨rx, hrx⟩ := hns x
  obtain ⟨ry, hry⟩ := hns y
  have t1 := tz_le (nsOf m.js x)
  have t2' := tz_le (nsOf m.js y)
  refine Spec.of_body Tryd.func77 rfl Tryd.ntmps77 rfl ?_
  intro w0 Γ'
  show S _ w0 [(0, .int .u32 (x : Int)), (1, .int .u32 (y : Int)), (2, .pointer (some ⟨t2, 0, none⟩))] (old W :: Γ') _
  refine S.seq fun K1 hK1 => ?_
  refine S.region rfl ?_
  refine S.op (S.q (q_assign rfl) rfl rfl ?_)
  first | with_reducible refine S.nilK ?_ | refine S.nil ?_
  refine hK1 _ _ ?_
  refine S.seq fun K2 hK2 => ?_
  refine S.draw ([old W]) [] Tryd.mixed ?_
  refine S.dr_take 0 [] rfl (by kernel_rfl) rfl rfl rfl (q_loadW Tryd.at25 rfl h2) Sub.ent ?_
  refine S.dr_take 1 [] rfl (by kernel_rfl) rfl rfl rfl (q_nilCheck rfl) Sub.ent ?_
  refine S.dr_take 2 [] rfl (by kernel_rfl) rfl rfl rfl (q_field Tryd.fo124_3 rfl) Sub.ent ?_
  refine S.dr_take 3 [] rfl (by kernel_rfl) rfl rfl rfl (q_loadW Tryd.at121 rfl h3) Sub.ent ?_
  refine S.dr_take 4 [] rfl (by kernel_rfl) rfl rfl rfl (q_move rfl) Sub.ent ?_
  refine S.dr_take 5 [] rfl (by kernel_rfl) rfl rfl rfl (q_lookup1W l (.agg #[.int .i64 rx, bsv (nsOf m.js x)]) Tryd.underlying121 Tryd.underlying68 Tryd.zv127 rfl rfl rfl h4 h5 hrx.symm) Sub.ent ?_
  refine S.dr_take 6 [] rfl (by kernel_rfl) rfl rfl rfl (q_fieldV Tryd.underlying127 rfl Tryd.at120 rfl rfl) Sub.ent ?_
  refine S.dr_take 8 [] rfl (by kernel_rfl) rfl rfl rfl (q_loadW Tryd.at25 rfl h2) Sub.ent ?_
  refine S.dr_take 9 [] rfl (by kernel_rfl) rfl rfl rfl (q_nilCheck rfl) Sub.ent ?_
  refine S.dr_take 10 [] rfl (by kernel_rfl) rfl rfl rfl (q_field Tryd.fo124_3 rfl) Sub.ent ?_
  refine S.dr_take 11 [] rfl (by kernel_rfl) rfl rfl rfl (q_loadW Tryd.at121 rfl h3) Sub.ent ?_
  refine S.dr_take 12 [] rfl (by kernel_rfl) rfl rfl rfl (q_move rfl) Sub.ent ?_
  refine S.dr_take 13 [] rfl (by kernel_rfl) rfl rfl rfl (q_lookup1W l (.agg #[.int .i64 ry, bsv (nsOf m.js y)]) Tryd.underlying121 Tryd.underlying68 Tryd.zv127 rfl rfl rfl h4 h5 hry.symm) Sub.ent ?_
  refine S.dr_take 14 [] rfl (by kernel_rfl) rfl rfl rfl (q_fieldV Tryd.underlying127 rfl Tryd.at120 rfl rfl) Sub.ent ?_
  refine S.dr_1 (i := 7) (by kernel_rfl) rfl rfl ?_
  refine  (S.call Tryd.en78 (vs := [_]) ⟨rfl, trivial⟩ (tz16_S (nsOf m.js x) hW) rfl ?_)
  rintro v Θ ⟨rfl, rfl⟩
  refine S.dr_k rfl Sub.ent ?_
  refine S.dr_1 (i := 15) (by kernel_rfl) rfl rfl ?_
  refine  (S.call Tryd.en78 (vs := [_]) ⟨rfl, trivial⟩ (tz16_S (nsOf m.js y) hW) rfl ?_)
  rintro v Θ ⟨rfl, rfl⟩
  refine S.dr_k rfl Sub.ent ?_
  refine S.dr_take 16 [] rfl (by kernel_rfl) rfl rfl rfl (q_sub rfl rfl (inI64 (by omega) (by omega))) Sub.ent ?_
  refine S.dr_take 17 [] rfl (by kernel_rfl) rfl rfl rfl (q_assign rfl) Sub.ent ?_
  first | with_reducible refine S.dr_doneK (by kernel_rfl) ?_ | refine S.dr_done (by kernel_rfl) ?_
  refine hK2 _ _ ?_
  refine S.ret ?_
  with_reducible repeat (first | refine S.then_n ?_ | refine S.then_x ?_ | refine S.then_r ?_ | refine S.inBlock_n ?_ | refine S.inBlock_r ?_ | refine S.inBlock_x rfl ?_ | refine S.noGoto_r ?_ | refine S.noGoto_n ?_ | refine S.noGoto_x ?_)
  exact S.fin (rs := [_]) (vs := [_]) Tryd.results77 (⟨rfl, trivial⟩)  (⟨rfl, rfl⟩) Sub.ent
theorem nsOf_mem {m : Mx} (hm : MxOk m) {x : Jb} (hx : x ∈ m.js) : nsOf m.js x.id = x.ns := by rw [nsOf, look_mem hm.srt hx]; rfl
/-- What is sorted by least nodes is the row. -/
theorem sorted_rowJ {m : Mx} (hm : MxOk m) {r : Nat} {ks l' : List Nat} (hp : l'.Perm ks) (hk : ks.Perm ((rowJ m r).map (·.id))) (hs : l'.Pairwise fun a b => Go.Proofs.ltOf (cmpR m.js) b a = false) : l' = (rowJ m r).map (·.id) := by
  have hp2 := hp.trans hk
  have hmem : ∀ j ∈ l', ∃ x ∈ rowJ m r, x.id = j := fun j hj => List.mem_map.1 (hp2.mem_iff.1 hj)
  have hnd : ((rowJ m r).map (·.id)).Nodup := List.pairwise_map.2 (rowJ_srt.imp_of_mem fun {a b} ha hb h e => by
    rw [id_inj hm.srt ((mem_rowJ hm).1 ha).1 ((mem_rowJ hm).1 hb).1 e] at h; omega)
  have hnd' : l'.Nodup := hp2.nodup_iff.2 hnd
  refine List.Perm.eq_of_pairwise (le := fun a b => tz (nsOf m.js a) < tz (nsOf m.js b)) (fun a b _ _ h1 h2 => by omega) ?_ ?_ hp2
  · refine (hs.and hnd').imp_of_mem fun {a b} ha hb h => ?_
    obtain ⟨h1, h2⟩ := h
    rw [ltR] at h1
    have h1 := of_decide_eq_false h1
    obtain ⟨x, hx, rfl⟩ := hmem a ha
    obtain ⟨y, hy, rfl⟩ := hmem b hb
    obtain ⟨x1, x2⟩ := (mem_rowJ hm).1 hx
    obtain ⟨y1, y2⟩ := (mem_rowJ hm).1 hy
    rw [nsOf_mem hm x1, nsOf_mem hm y1] at h1 ⊢
    refine Classical.byContradiction fun h3 => ?_
    have e : tz x.ns = tz y.ns := by omega
    exact hm.dis x x1 y y1 h2 (x2.trans y2.symm) (tz x.ns) (mem_lst.1 (tz_mem (hm.some x x1))) (by rw [e]; exact mem_lst.1 (tz_mem (hm.some y y1)))
  · refine List.pairwise_map.2 (rowJ_srt.imp_of_mem fun {a b} ha hb h => ?_)
    rw [nsOf_mem hm ((mem_rowJ hm).1 ha).1, nsOf_mem hm ((mem_rowJ hm).1 hb).1]
    exact h
theorem filter_rowJ {m : Mx} (hm : MxOk m) (r : Nat) : (m.js.filter fun x => decide (x.row = r)).Perm (rowJ m r) :=
  (List.perm_ext_iff_of_nodup ((hm.srt.imp fun h e => by rw [e] at h; omega : m.js.Nodup).filter _) rowJ_nodup).2 fun x => by rw [mem_rowJ hm, List.mem_filter, decide_eq_true_eq]
theorem perm_unmap {α β : Type} {f : α → β} {l m : List β} (h : l.Perm m) : ∀ {js : List α}, js.map f = m → ∃ jl : List α, jl.Perm js ∧ l = jl.map f := by
  induction h with
  | nil => intro js hm; exact ⟨[], by rw [List.map_eq_nil_iff.1 hm], rfl⟩
  | cons x _ ih =>
    intro js hm
    cases js with
    | nil => cases hm
    | cons j js =>
      simp only [List.map_cons, List.cons.injEq] at hm
      obtain ⟨jl, h1, h2⟩ := ih hm.2
      exact ⟨j :: jl, h1.cons _, by rw [List.map_cons, hm.1, h2]⟩
  | swap x y l =>
    intro js hm
    match js, hm with
    | a :: b :: js, hm =>
      simp only [List.map_cons, List.cons.injEq] at hm
      exact ⟨b :: a :: js, .swap _ _ _, by rw [List.map_cons, List.map_cons, hm.1, hm.2.1, hm.2.2]⟩
  | trans _ _ ih1 ih2 =>
    intro js hm
    obtain ⟨jl, h1, h2⟩ := ih2 hm
    obtain ⟨jl', h3, h4⟩ := ih1 h2.symm
    exact ⟨jl', h3.trans h1, h4⟩
theorem erase_perm {α : Type} {l : List α} {i : Nat} {x : α} (h : l[i]? = some x) : l.Perm (x :: l.eraseIdx i) := by
  induction l generalizing i with
  | nil => simp at h
  | cons y l ih =>
    cases i with
    | zero => simp only [List.getElem?_cons_zero, Option.some.injEq] at h; subst h; exact .refl _
    | succ i => exact ((ih (by simpa using h)).cons y).trans (.swap _ _ _)
abbrev rowPre (b2 b mb : Nat) (m : Mx) (tv : SV) (l : List (Int × Value)) (W : World) : List Assn := [blk b2 25 #[.pointer (some ⟨b, 0, none⟩)], blk b 124 (mxC m mb tv).toArray, mapL mb .u32 l, old W]
theorem RowSort_S (b2 b mb : Nat) (m : Mx) (tv : SV) (l : List (Int × Value)) (hok : MxOk m) (hp : l.Perm (m.js.map jbE)) {W : World} (hW : TabW W) (s : SV) (ks : List Nat) (hl : ks.length < 4611686018427387904) :
    Spec Tryd.prog 76 [s.v, .func (.func 77) #[] #[.pointer (some ⟨b2, 0, none⟩)]] (own s 68 1 (idsV ks) :: rowPre b2 b mb m tv l W) fun Γ _ Θ => ∃ l' : List Nat, l'.Perm ks ∧ l'.Pairwise (fun a b => Go.Proofs.ltOf (cmpR m.js) b a = false) ∧ Θ = own s 68 1 (idsV l') :: blk b2 25 #[.pointer (some ⟨b, 0, none⟩)] :: blk b 124 (mxC m mb tv).toArray :: mapL mb .u32 l :: old W :: Γ :=
  SortFunc1_S Tryd.sort76 { Tryd.sort76 with } (fun j : Nat => Value.int .u32 (j : Int)) (fun _ => rfl) (cmpR m.js) (cmpR_swo m.js) 77 [.pointer (some ⟨b2, 0, none⟩)]
    (enters_of Tryd.func77 (by kernel_rfl) rfl) (rowPre b2 b mb m tv l W) (fun x y W1 Γ hs => cmpR_P b2 b mb m tv l hok hp x y hW W1 Γ hs) 68 s ks hl
theorem Row_S (b : Nat) (m : Mx) (z : Int) {W : World} (hW : TabW W) : Spec Tryd.prog 52 [.pointer (some ⟨b, 0, none⟩), .int .i64 z] [MI b m, old W] fun Γ v Θ => ∃ sv : SV, v = sv.v ∧ sv.n = (rowIds m z).length ∧ Θ = own sv 68 1 (idsV (rowIds m z)) :: MI b m :: old W :: Γ := by
  refine Spec.of_body Tryd.func52 rfl Tryd.ntmps52 rfl ?_
  intro w0 Γ
  show S _ w0 [(0, .pointer (some ⟨b, 0, none⟩)), (1, .int .i64 z)] (MI b m :: old W :: Γ) _
  refine S.seq fun K1 hK1 => ?_
  refine S.region rfl ?_
  refine S.op (S.box (cs := [_]) rfl rfl rfl ?_)
  intro b2
  refine S.op (S.q (q_assign rfl) rfl rfl ?_)
  first | with_reducible refine S.nilK ?_ | refine S.nil ?_
  refine hK1 _ _ ?_
  refine S.seq fun K2 hK2 => ?_
  refine S.seq fun K3 hK3 => ?_
  refine S.region rfl ?_
  refine S.op (S.q (q_load Tryd.at25 rfl rfl) rfl rfl ?_)
  refine S.op (S.q (q_move rfl) rfl rfl ?_)
  refine S.op (S.call Tryd.en63 (vs := [_, _]) ⟨rfl, rfl, trivial⟩ (row_S b m z) rfl ?_)
  rintro v Θ ⟨rfl, rfl⟩
  refine S.op (S.q (q_not rfl) rfl rfl ?_)
  first | with_reducible refine S.nilK ?_ | refine S.nil ?_
  refine hK3 _ _ ?_
  refine S.cond rfl (fun h1 => ?_) (fun h1 => ?_)
  · have hn : rowIds m z = [] := by rw [rowIds, show rowB m z = false by simpa using h1]; rfl
    refine S.seq fun K4 hK4 => ?_
    refine S.region rfl ?_
    refine S.op (S.q (q_assign rfl) rfl rfl ?_)
    first | with_reducible refine S.nilK ?_ | refine S.nil ?_
    refine hK4 _ _ ?_
    refine S.ret ?_
    with_reducible repeat (first | refine S.then_n ?_ | refine S.then_x ?_ | refine S.then_r ?_ | refine S.inBlock_n ?_ | refine S.inBlock_r ?_ | refine S.inBlock_x rfl ?_ | refine S.noGoto_r ?_ | refine S.noGoto_n ?_ | refine S.noGoto_x ?_)
    refine S.ent (Δ := own SV.nil 68 1 (idsV (rowIds m z)) :: MI b m :: old W :: Γ) (by rw [hn]; exact Sub.ent.trans (Ent.ownNil _ _)) ?_
    exact S.fin (rs := [_]) (vs := [_]) Tryd.results52 (⟨rfl, trivial⟩)  (⟨SV.nil, rfl, by rw [hn]; rfl, rfl⟩) Sub.ent
  · have hrb : rowB m z = true := by simpa using h1
    obtain ⟨r, rfl⟩ : ∃ r : Nat, z = r := ⟨z.toNat, by have := rowB_iff.1 hrb; omega⟩
    have hn : rowIds m r = (rowJ m r).map (·.id) := by rw [rowIds, if_pos hrb, Int.toNat_natCast]
    refine S.miOpen b m fun mb tv l hok hp htn => ?_
    have h128 := sum_lens m hok
    obtain ⟨jl0, hj0, hl0⟩ := perm_unmap hp rfl
    have hll : l.length = m.js.length := by rw [hp.length_eq, List.length_map]
    refine S.skip ?_
    with_reducible repeat (first | refine S.then_n ?_ | refine S.then_x ?_ | refine S.then_r ?_ | refine S.inBlock_n ?_ | refine S.inBlock_r ?_ | refine S.inBlock_x rfl ?_ | refine S.noGoto_r ?_ | refine S.noGoto_n ?_ | refine S.noGoto_x ?_)
    refine hK2 _ _ ?_
    refine S.seq fun K5 hK5 => ?_
    refine S.region rfl ?_
    refine S.ent (Ent.ownNil 68 1) ?_
    refine S.op (S.q (q_assign rfl) rfl rfl ?_)
    first | with_reducible refine S.nilK ?_ | refine S.nil ?_
    refine hK5 _ _ ?_
    refine S.seq fun K6 hK6 => ?_
    refine S.seq fun K7 hK7 => ?_
    refine S.region rfl ?_
    refine S.op (S.q (q_load Tryd.at25 rfl rfl) rfl rfl ?_)
    refine S.op (S.q (q_nilCheck rfl) rfl rfl ?_)
    refine S.op (S.q (q_field Tryd.fo124_3 rfl) rfl rfl ?_)
    refine S.op (S.q (q_load Tryd.at121 rfl rfl) rfl rfl ?_)
    refine S.op (S.range Tryd.underlying121 rfl rfl ?_)
    intro r16
    first | with_reducible refine S.nilK ?_ | refine S.nil ?_
    refine hK7 _ _ ?_
    refine S.block ?_
    refine S.loop (fun k ρ' Γ' => ∃ (left : List (Int × Value)) (cur : Option (Int × Value)) (jl dn : List Jb) (sv : SV) (dv : List Value), k = left.length ∧ left = jl.map jbE ∧ (dn ++ jl.filter fun x => decide (x.row = r)).Perm (m.js.filter fun x => decide (x.row = r)) ∧ jl.length + dn.length ≤ m.js.length ∧ sv.n = dn.length ∧ dv = idsV (dn.map (·.id)) ∧   ρ' = [(1, .int .i64 (r : Int)), (2, .pointer (some ⟨b2, 0, none⟩)), (5, sv.v), (16, .pointer (some ⟨r16, 0, none⟩))] ∧ Γ' = rngM r16 mb .u32 l left cur :: own sv 68 1 dv :: blk b2 25 #[.pointer (some ⟨b, 0, none⟩)] :: blk b 124 (mxC m mb tv).toArray :: own tv 120 1 (tks m) :: old W :: Γ) (m := _) (ρ0 := _) (Γ0 := _) (⟨l, none, jl0, [], SV.nil, [], rfl, hl0, by simpa using hj0.filter _, by rw [hj0.length_eq]; simp, rfl, rfl, rfl, rfl⟩) (by repeat (first | exact trivial | refine ⟨rfl, ?_⟩)) Sub.ent ?_
    rintro k ρ' Γ' ⟨left, cur, jl, dn, sv, dv, hk, hleft, hdn, hlen, hsv, hdv, rfl, rfl⟩
    refine S.seq fun K8 hK8 => ?_
    refine S.region rfl ?_
    refine S.op (S.nextR rfl rfl (fun hl17 => ?_) (fun i17 z17 v17 hi17 => ?_))
    · have hj : jl = [] := List.map_eq_nil_iff.1 (hleft.symm.trans hl17)
      subst hj
      rw [List.filter_nil, List.append_nil] at hdn
      subst hdv
      refine S.conv (rngM r16 mb .u32 l left cur) (Ent.rngM _) ?_
      refine S.op (S.q (q_extract rfl rfl) rfl rfl ?_)
      first | with_reducible refine S.nilK ?_ | refine S.nil ?_
      refine hK8 _ _ ?_
      refine S.seq fun K9 hK9 => ?_
      refine S.condF rfl ?_
      refine S.exit ?_
      with_reducible repeat (first | refine S.then_n ?_ | refine S.then_x ?_ | refine S.then_r ?_ | refine S.inBlock_n ?_ | refine S.inBlock_r ?_ | refine S.inBlock_x rfl ?_ | refine S.noGoto_r ?_ | refine S.noGoto_n ?_ | refine S.noGoto_x ?_)
      with_reducible refine S.inBlock_s ?_
      with_reducible repeat (first | refine S.then_n ?_ | refine S.then_x ?_ | refine S.then_r ?_ | refine S.inBlock_n ?_ | refine S.inBlock_r ?_ | refine S.inBlock_x rfl ?_ | refine S.noGoto_r ?_ | refine S.noGoto_n ?_ | refine S.noGoto_x ?_)
      refine hK6 _ _ ?_
      refine S.seq fun K10 hK10 => ?_
      refine S.region rfl ?_
      refine S.op (S.q (q_move rfl) rfl rfl ?_)
      refine S.op (S.q (q_makeFunc (vs := []) (us := [_]) trivial ⟨rfl, trivial⟩) rfl rfl ?_)
      refine S.op (S.call Tryd.en76 (vs := [_, _]) ⟨rfl, rfl, trivial⟩ (RowSort_S b2 b mb m tv l hok hp hW sv (dn.map (·.id)) (by simp; omega)) rfl ?_)
      rintro v Θ ⟨l', hl1, hl2, rfl⟩
      have hfin := sorted_rowJ hok (r := r) hl1 ((hdn.trans (filter_rowJ hok r)).map _) hl2
      have hlen2 : sv.n = (rowIds m r).length := by rw [hn, ← hfin, hl1.length_eq, List.length_map, hsv]
      rw [hfin, ← hn]
      first | with_reducible refine S.nilK ?_ | refine S.nil ?_
      refine hK10 _ _ ?_
      refine S.seq fun K11 hK11 => ?_
      refine S.region rfl ?_
      refine S.op (S.q (q_move rfl) rfl rfl ?_)
      refine S.op (S.q (q_assign rfl) rfl rfl ?_)
      first | with_reducible refine S.nilK ?_ | refine S.nil ?_
      refine hK11 _ _ ?_
      refine S.ret ?_
      with_reducible repeat (first | refine S.then_n ?_ | refine S.then_x ?_ | refine S.then_r ?_ | refine S.inBlock_n ?_ | refine S.inBlock_r ?_ | refine S.inBlock_x rfl ?_ | refine S.noGoto_r ?_ | refine S.noGoto_n ?_ | refine S.noGoto_x ?_)
      refine S.miClose (b := b) (m := m) (mb := mb) (tv := tv) rfl rfl rfl hok hp htn ?_
      exact S.fin (rs := [_]) (vs := [_]) Tryd.results52 (⟨rfl, trivial⟩)  (⟨sv, rfl, hlen2, rfl⟩) Sub.ent
    · obtain ⟨x, hx, hxe⟩ : ∃ x, jl[i17]? = some x ∧ jbE x = (z17, v17) := by
        rw [hleft, List.getElem?_map] at hi17
        exact Option.map_eq_some_iff.1 hi17
      simp only [jbE, Prod.mk.injEq] at hxe
      obtain ⟨rfl, rfl⟩ := hxe
      have hpe := erase_perm hx
      have hel := hpe.length_eq
      rw [List.length_cons] at hel
      have hle : (left.eraseIdx i17) = (jl.eraseIdx i17).map jbE := by rw [hleft, map_eraseIdx']
      have hlt : (left.eraseIdx i17).length < k := by rw [hle, hk, hleft, List.length_map, List.length_map]; omega
      refine S.op (S.q (q_extract rfl rfl) rfl rfl ?_)
      first | with_reducible refine S.nilK ?_ | refine S.nil ?_
      refine hK8 _ _ ?_
      refine S.seq fun K12 hK12 => ?_
      refine S.condT rfl ?_
      refine S.skip ?_
      with_reducible repeat (first | refine S.then_n ?_ | refine S.then_x ?_ | refine S.then_r ?_ | refine S.inBlock_n ?_ | refine S.inBlock_r ?_ | refine S.inBlock_x rfl ?_ | refine S.noGoto_r ?_ | refine S.noGoto_n ?_ | refine S.noGoto_x ?_)
      refine hK12 _ _ ?_
      refine S.block ?_
      refine S.seq fun K13 hK13 => ?_
      refine S.region rfl ?_
      refine S.op (S.q (q_entryR rfl) rfl rfl ?_)
      refine S.op (S.q (q_extract rfl rfl) rfl rfl ?_)
      refine S.op (S.q (q_extract rfl rfl) rfl rfl ?_)
      refine S.op (S.alloc Tryd.z127 rfl ?_)
      intro b7
      refine S.op (S.q (q_assign rfl) rfl rfl ?_)
      refine S.op (S.storeS (cs' := [_, _]) Tryd.ag127 rfl rfl rfl rfl rfl rfl ?_)
      first | with_reducible refine S.nilK ?_ | refine S.nil ?_
      refine hK13 _ _ ?_
      refine S.seq fun K14 hK14 => ?_
      refine S.region rfl ?_
      refine S.op (S.q (q_field Tryd.fo127_0 rfl) rfl rfl ?_)
      refine S.op (S.q (q_load Tryd.at3 rfl rfl) rfl rfl ?_)
      refine S.op (S.q (q_move rfl) rfl rfl ?_)
      refine S.op (S.q (q_eq rfl rfl) rfl rfl ?_)
      first | with_reducible refine S.nilK ?_ | refine S.nil ?_
      refine hK14 _ _ ?_
      refine S.condD rfl (fun h3 => ?_) (fun h3 => ?_)
      · have hxr : x.row = r := by omega
        have h9 := hpe.filter (fun x => decide (x.row = r))
        rw [List.filter_cons_of_pos (by simpa using hxr)] at h9
        have hdn2 : ((dn ++ [x]) ++ (jl.eraseIdx i17).filter fun x => decide (x.row = r)).Perm (m.js.filter fun x => decide (x.row = r)) := by
          rw [List.append_assoc]
          exact (List.Perm.append_left dn h9.symm).trans hdn
        have hdl : (dn ++ [x]).length = dn.length + 1 := by simp
        have hdv2 : dv ++ [.int .u32 (x.id : Int)] = idsV ((dn ++ [x]).map (·.id)) := by rw [hdv]; simp
        refine S.region rfl ?_
        refine S.op (S.q (q_move rfl) rfl rfl ?_)
        refine S.op (S.q (q_move rfl) rfl rfl ?_)
        refine S.op (S.buildSlice (pvs := [(_, _)]) [_] Tryd.underlying31 Tryd.inf68 rfl rfl ⟨⟨rfl, rfl⟩, trivial⟩ rfl rfl ?_)
        intro b28
        refine S.op (S.appendOw (s := sv) (1) ([.int .u32 (x.id : Int)]) Tryd.underlying31 Tryd.inf68 rfl rfl rfl (blk_slAt (b := b28) rfl (by unfold maxLen; omega)) (by first | rfl | exact allOne_bcells _) (⟨by omega, by omega⟩) rfl ?_)
        intro s2 hs2
        refine S.op (S.q (q_assign rfl) rfl rfl ?_)
        first | with_reducible refine S.nilK ?_ | refine S.nil ?_
        with_reducible repeat (first | refine S.then_n ?_ | refine S.then_x ?_ | refine S.then_r ?_ | refine S.inBlock_n ?_ | refine S.inBlock_r ?_ | refine S.inBlock_x rfl ?_ | refine S.noGoto_r ?_ | refine S.noGoto_n ?_ | refine S.noGoto_x ?_)
        with_reducible repeat (first | refine S.then_n ?_ | refine S.then_x ?_ | refine S.then_r ?_ | refine S.inBlock_n ?_ | refine S.inBlock_r ?_ | refine S.inBlock_x rfl ?_ | refine S.noGoto_r ?_ | refine S.noGoto_n ?_ | refine S.noGoto_x ?_)
        first | exact S.next (left.eraseIdx i17).length ⟨left.eraseIdx i17, some ((x.id : Int), jbV x), jl.eraseIdx i17, dn ++ [x], s2, _, rfl, hle, hdn2, by omega, by omega, hdv2, rfl, rfl⟩ hlt (by repeat (first | exact trivial | refine ⟨rfl, ?_⟩)) Sub.ent | exact S.next (left.eraseIdx i17).length ⟨left.eraseIdx i17, some ((x.id : Int), jbV x), jl.eraseIdx i17, dn, sv, dv, rfl, hle, hdn2, by omega, hsv, hdv, rfl, rfl⟩ hlt (by repeat (first | exact trivial | refine ⟨rfl, ?_⟩)) Sub.ent
      · have hxr : ¬ x.row = r := by omega
        have h9 := hpe.filter (fun x => decide (x.row = r))
        rw [List.filter_cons_of_neg (by simpa using hxr)] at h9
        have hdn2 := (List.Perm.append_left dn h9.symm).trans hdn
        refine S.skip ?_
        with_reducible repeat (first | refine S.then_n ?_ | refine S.then_x ?_ | refine S.then_r ?_ | refine S.inBlock_n ?_ | refine S.inBlock_r ?_ | refine S.inBlock_x rfl ?_ | refine S.noGoto_r ?_ | refine S.noGoto_n ?_ | refine S.noGoto_x ?_)
        with_reducible repeat (first | refine S.then_n ?_ | refine S.then_x ?_ | refine S.then_r ?_ | refine S.inBlock_n ?_ | refine S.inBlock_r ?_ | refine S.inBlock_x rfl ?_ | refine S.noGoto_r ?_ | refine S.noGoto_n ?_ | refine S.noGoto_x ?_)
        with_reducible repeat (first | refine S.then_n ?_ | refine S.then_x ?_ | refine S.then_r ?_ | refine S.inBlock_n ?_ | refine S.inBlock_r ?_ | refine S.inBlock_x rfl ?_ | refine S.noGoto_r ?_ | refine S.noGoto_n ?_ | refine S.noGoto_x ?_)
        first | exact S.next (left.eraseIdx i17).length ⟨left.eraseIdx i17, some ((x.id : Int), jbV x), jl.eraseIdx i17, dn ++ [x], s2, _, rfl, hle, hdn2, by omega, by omega, hdv2, rfl, rfl⟩ hlt (by repeat (first | exact trivial | refine ⟨rfl, ?_⟩)) Sub.ent | exact S.next (left.eraseIdx i17).length ⟨left.eraseIdx i17, some ((x.id : Int), jbV x), jl.eraseIdx i17, dn, sv, dv, rfl, hle, hdn2, by omega, hsv, hdv, rfl, rfl⟩ hlt (by repeat (first | exact trivial | refine ⟨rfl, ?_⟩)) Sub.ent
end Go.Proofs.YtegjmmocnffpiaaDoor
/- The matrix: At, Copy. -/
namespace Go.Proofs.YtegjmmocnffpiaaDoor
open Go.RowKit
set_option maxRecDepth 20000
/-- Who stands there; 0: nobody. -/
def atJ (js : List Jb) (r i : Nat) : Nat := ((js.find? fun x => decide (x.row = r) && x.ns.getLsbD i).map (·.id)).getD 0
def atR (m : Mx) (z y : Int) : Nat := if rowB m z && nodeB m y then atJ m.js z.toNat y.toNat else 0
theorem atJ_some {m : Mx} (hm : MxOk m) {r i : Nat} {x : Jb} (hx : x ∈ m.js) (h1 : x.row = r) (h2 : x.ns.getLsbD i = true) : atJ m.js r i = x.id := by
  unfold atJ
  cases hf : m.js.find? fun x => decide (x.row = r) && x.ns.getLsbD i with
  | none =>
    have := List.find?_eq_none.1 hf x hx
    simp [h1, h2] at this
  | some y =>
    have h3 := List.mem_of_find?_eq_some hf
    have h4 := List.find?_some hf
    rw [Bool.and_eq_true, decide_eq_true_eq] at h4
    refine Classical.byContradiction fun hne => ?_
    exact hm.dis y h3 x hx hne (h4.1.trans h1.symm) i h4.2 h2
theorem atJ_none {js : List Jb} {r i : Nat} (h : ∀ x ∈ js, x.row = r → x.ns.getLsbD i = false) : atJ js r i = 0 := by
  unfold atJ
  rw [List.find?_eq_none.2 fun x hx => ?_]
  · rfl
  · by_cases e : x.row = r
    · simp [h x hx e]
    · simp [e]
theorem At_S (b : Nat) (m : Mx) (z y : Int) : Spec Tryd.prog 47 [.pointer (some ⟨b, 0, none⟩), .int .i64 z, .int .i64 y] [MI b m] fun Γ v Θ => v = .int .u32 (atR m z y : Nat) ∧ Θ = MI b m :: Γ := by
  refine Spec.of_body Tryd.func47 rfl Tryd.ntmps47 rfl ?_
  intro w0 Γ
  show S _ w0 [(0, .pointer (some ⟨b, 0, none⟩)), (1, .int .i64 z), (2, .int .i64 y)] (MI b m :: Γ) _
  refine S.seq fun K1 hK1 => ?_
  refine S.region rfl ?_
  refine S.op (S.q (q_assign rfl) rfl rfl ?_)
  first | with_reducible refine S.nilK ?_ | refine S.nil ?_
  refine hK1 _ _ ?_
  refine S.seq fun K2 hK2 => ?_
  refine S.seq fun K3 hK3 => ?_
  refine S.regionG ?_
  refine S.g_op rfl (S.q (q_move rfl) rfl rfl ?_)
  refine S.g_op rfl (S.q (q_move rfl) rfl rfl ?_)
  refine S.g_op rfl (S.call Tryd.en63 (vs := [_, _]) ⟨rfl, rfl, trivial⟩ (row_S b m z) rfl ?_)
  rintro v Θ ⟨rfl, rfl⟩
  refine S.g_op rfl (S.q (q_move rfl) rfl rfl ?_)
  rcases Bool.eq_false_or_eq_true (rowB m z) with hg1_3 | hg1_3
  · refine S.g_yes rfl rfl rfl (hg1_3) (S.q (q_move rfl) rfl rfl ?_)
    refine S.g_yes rfl rfl rfl (hg1_3) (S.q (q_move rfl) rfl rfl ?_)
    refine S.g_yes rfl rfl rfl (hg1_3) (S.call Tryd.en64 (vs := [_, _]) ⟨rfl, rfl, trivial⟩ (node_S b m y) rfl ?_)
    rintro v Θ ⟨rfl, rfl⟩
    refine S.g_op rfl (S.q (q_pickT rfl (hg1_3) rfl) rfl rfl ?_)
    first | with_reducible refine S.g_nilK ?_ | refine S.g_nil ?_
    refine hK3 _ _ ?_
    refine S.cond rfl (fun h1 => ?_) (fun h1 => ?_)
    · have hrr := rowB_iff.1 hg1_3
      have hnn := nodeB_iff.1 h1
      obtain ⟨r, rfl⟩ : ∃ r : Nat, z = r := ⟨z.toNat, by omega⟩
      obtain ⟨i, rfl⟩ : ∃ i : Nat, y = i := ⟨y.toNat, by omega⟩
      have hat : atR m r i = atJ m.js r i := by rw [atR, hg1_3, h1]; rfl
      refine S.miOpen b m fun mb tv l hok hp htn => ?_
      have hN16 := hok.N16
      obtain ⟨jl0, hj0, hl0⟩ := perm_unmap hp rfl
      refine S.seq fun K4 hK4 => ?_
      refine S.region rfl ?_
      refine S.op (S.q (q_move rfl) rfl rfl ?_)
      refine S.op (S.q (q_nilCheck rfl) rfl rfl ?_)
      refine S.op (S.q (q_field Tryd.fo124_3 rfl) rfl rfl ?_)
      refine S.op (S.q (q_load Tryd.at121 rfl rfl) rfl rfl ?_)
      refine S.op (S.range Tryd.underlying121 rfl rfl ?_)
      intro r21
      first | with_reducible refine S.nilK ?_ | refine S.nil ?_
      refine hK4 _ _ ?_
      refine S.block ?_
      refine S.loop (fun k ρ' Γ' => ∃ (left : List (Int × Value)) (cur : Option (Int × Value)) (jl : List Jb), k = left.length ∧ left = jl.map jbE ∧ (∀ x ∈ jl, x ∈ m.js) ∧ (∀ x ∈ m.js, x ∈ jl ∨ (x.row = r → x.ns.getLsbD i = false)) ∧   ρ' = [(1, .int .i64 (r : Int)), (2, .int .i64 (i : Int)), (21, .pointer (some ⟨r21, 0, none⟩))] ∧ Γ' = rngM r21 mb .u32 l left cur :: blk b 124 (mxC m mb tv).toArray :: own tv 120 1 (tks m) :: Γ) (m := _) (ρ0 := _) (Γ0 := _) (⟨l, none, jl0, rfl, hl0, fun x hx => hj0.mem_iff.1 hx, fun x hx => .inl (hj0.mem_iff.2 hx), rfl, rfl⟩) (by repeat (first | exact trivial | refine ⟨rfl, ?_⟩)) Sub.ent ?_
      rintro k ρ' Γ' ⟨left, cur, jl, hk, hleft, hsub, hall, rfl, rfl⟩
      refine S.seq fun K5 hK5 => ?_
      refine S.region rfl ?_
      refine S.op (S.nextR rfl rfl (fun hl22 => ?_) (fun i22 z22 v22 hi22 => ?_))
      · have hj : jl = [] := List.map_eq_nil_iff.1 (hleft.symm.trans hl22)
        subst hj
        have hfin : atR m r i = 0 := by rw [hat]; exact atJ_none fun x hx => (hall x hx).resolve_left (by simp)
        refine S.conv (rngM r21 mb .u32 l left cur) (Ent.rngM _) ?_
        refine S.miClose (b := b) (m := m) (mb := mb) (tv := tv) rfl rfl rfl hok hp htn ?_
        refine S.op (S.q (q_extract rfl rfl) rfl rfl ?_)
        first | with_reducible refine S.nilK ?_ | refine S.nil ?_
        refine hK5 _ _ ?_
        refine S.seq fun K6 hK6 => ?_
        refine S.condF rfl ?_
        refine S.exit ?_
        with_reducible repeat (first | refine S.then_n ?_ | refine S.then_x ?_ | refine S.then_r ?_ | refine S.inBlock_n ?_ | refine S.inBlock_r ?_ | refine S.inBlock_x rfl ?_ | refine S.noGoto_r ?_ | refine S.noGoto_n ?_ | refine S.noGoto_x ?_)
        with_reducible refine S.inBlock_s ?_
        with_reducible repeat (first | refine S.then_n ?_ | refine S.then_x ?_ | refine S.then_r ?_ | refine S.inBlock_n ?_ | refine S.inBlock_r ?_ | refine S.inBlock_x rfl ?_ | refine S.noGoto_r ?_ | refine S.noGoto_n ?_ | refine S.noGoto_x ?_)
        refine hK2 _ _ ?_
        refine S.seq fun K7 hK7 => ?_
        refine S.region rfl ?_
        refine S.op (S.q (q_assign rfl) rfl rfl ?_)
        first | with_reducible refine S.nilK ?_ | refine S.nil ?_
        refine hK7 _ _ ?_
        refine S.ret ?_
        with_reducible repeat (first | refine S.then_n ?_ | refine S.then_x ?_ | refine S.then_r ?_ | refine S.inBlock_n ?_ | refine S.inBlock_r ?_ | refine S.inBlock_x rfl ?_ | refine S.noGoto_r ?_ | refine S.noGoto_n ?_ | refine S.noGoto_x ?_)
        exact S.fin (rs := [_]) (vs := [_]) Tryd.results47 (⟨rfl, trivial⟩)  (⟨by rw [hfin]; rfl, rfl⟩) Sub.ent
      · obtain ⟨x, hx, hxe⟩ : ∃ x, jl[i22]? = some x ∧ jbE x = (z22, v22) := by
          rw [hleft, List.getElem?_map] at hi22
          exact Option.map_eq_some_iff.1 hi22
        simp only [jbE, Prod.mk.injEq] at hxe
        obtain ⟨rfl, rfl⟩ := hxe
        have hpe := erase_perm hx
        have hel := hpe.length_eq
        rw [List.length_cons] at hel
        have hle : (left.eraseIdx i22) = (jl.eraseIdx i22).map jbE := by rw [hleft, map_eraseIdx']
        have hlt : (left.eraseIdx i22).length < k := by rw [hle, hk, hleft, List.length_map, List.length_map]; omega
        have hxm := hsub x (List.mem_of_getElem? hx)
        refine S.op (S.q (q_extract rfl rfl) rfl rfl ?_)
        first | with_reducible refine S.nilK ?_ | refine S.nil ?_
        refine hK5 _ _ ?_
        refine S.seq fun K8 hK8 => ?_
        refine S.condT rfl ?_
        refine S.skip ?_
        with_reducible repeat (first | refine S.then_n ?_ | refine S.then_x ?_ | refine S.then_r ?_ | refine S.inBlock_n ?_ | refine S.inBlock_r ?_ | refine S.inBlock_x rfl ?_ | refine S.noGoto_r ?_ | refine S.noGoto_n ?_ | refine S.noGoto_x ?_)
        refine hK8 _ _ ?_
        refine S.block ?_
        refine S.seq fun K9 hK9 => ?_
        refine S.region rfl ?_
        refine S.op (S.q (q_entryR rfl) rfl rfl ?_)
        refine S.op (S.q (q_extract rfl rfl) rfl rfl ?_)
        refine S.op (S.q (q_extract rfl rfl) rfl rfl ?_)
        refine S.op (S.alloc Tryd.z127 rfl ?_)
        intro b8
        refine S.op (S.q (q_assign rfl) rfl rfl ?_)
        refine S.op (S.storeS (cs' := [_, _]) Tryd.ag127 rfl rfl rfl rfl rfl rfl ?_)
        first | with_reducible refine S.nilK ?_ | refine S.nil ?_
        refine hK9 _ _ ?_
        refine S.seq fun K10 hK10 => ?_
        refine S.regionG ?_
        refine S.g_op rfl (S.q (q_field Tryd.fo127_0 rfl) rfl rfl ?_)
        refine S.g_op rfl (S.q (q_load Tryd.at3 rfl rfl) rfl rfl ?_)
        refine S.g_op rfl (S.q (q_move rfl) rfl rfl ?_)
        refine S.g_op rfl (S.q (q_eq rfl rfl) rfl rfl ?_)
        refine S.g_op rfl (S.q (q_move rfl) rfl rfl ?_)
        by_cases hg5_4 : (x.row : Int) = r
        · refine S.g_yes rfl rfl rfl (decide_eq_true hg5_4) (S.q (q_field Tryd.fo127_1 rfl) rfl rfl ?_)
          refine S.g_yes rfl rfl rfl (decide_eq_true hg5_4) (S.q (q_load Tryd.at120 rfl rfl) rfl rfl ?_)
          refine S.g_yes rfl rfl rfl (decide_eq_true hg5_4) (S.q (q_move rfl) rfl rfl ?_)
          refine S.g_yes rfl rfl rfl (decide_eq_true hg5_4) (S.call Tryd.en65 (vs := [_, _]) ⟨rfl, rfl, trivial⟩ (has_S x.ns i i rfl (by omega)) rfl ?_)
          rintro v Θ ⟨rfl, rfl⟩
          refine S.g_op rfl (S.q (q_pickT rfl (decide_eq_true hg5_4) rfl) rfl rfl ?_)
          first | with_reducible refine S.g_nilK ?_ | refine S.g_nil ?_
          refine hK10 _ _ ?_
          refine S.cond rfl (fun h3 => ?_) (fun h3 => ?_)
          · have hfin : atR m r i = x.id := by rw [hat]; exact atJ_some hok hxm (by omega) h3
            refine S.conv (rngM r21 mb .u32 l (left.eraseIdx i22) (some ((x.id : Int), jbV x))) (Ent.rngM _) ?_
            refine S.miClose (b := b) (m := m) (mb := mb) (tv := tv) rfl rfl rfl hok hp htn ?_
            refine S.seq fun K11 hK11 => ?_
            refine S.region rfl ?_
            refine S.op (S.q (q_move rfl) rfl rfl ?_)
            refine S.op (S.q (q_assign rfl) rfl rfl ?_)
            first | with_reducible refine S.nilK ?_ | refine S.nil ?_
            refine hK11 _ _ ?_
            refine S.ret ?_
            with_reducible repeat (first | refine S.then_n ?_ | refine S.then_x ?_ | refine S.then_r ?_ | refine S.inBlock_n ?_ | refine S.inBlock_r ?_ | refine S.inBlock_x rfl ?_ | refine S.noGoto_r ?_ | refine S.noGoto_n ?_ | refine S.noGoto_x ?_)
            exact S.fin (rs := [_]) (vs := [_]) Tryd.results47 (⟨rfl, trivial⟩)  (⟨by rw [hfin]; rfl, rfl⟩) Sub.ent
          · refine S.skip ?_
            with_reducible repeat (first | refine S.then_n ?_ | refine S.then_x ?_ | refine S.then_r ?_ | refine S.inBlock_n ?_ | refine S.inBlock_r ?_ | refine S.inBlock_x rfl ?_ | refine S.noGoto_r ?_ | refine S.noGoto_n ?_ | refine S.noGoto_x ?_)
            with_reducible repeat (first | refine S.then_n ?_ | refine S.then_x ?_ | refine S.then_r ?_ | refine S.inBlock_n ?_ | refine S.inBlock_r ?_ | refine S.inBlock_x rfl ?_ | refine S.noGoto_r ?_ | refine S.noGoto_n ?_ | refine S.noGoto_x ?_)
            with_reducible repeat (first | refine S.then_n ?_ | refine S.then_x ?_ | refine S.then_r ?_ | refine S.inBlock_n ?_ | refine S.inBlock_r ?_ | refine S.inBlock_x rfl ?_ | refine S.noGoto_r ?_ | refine S.noGoto_n ?_ | refine S.noGoto_x ?_)
            have hall2 : ∀ y ∈ m.js, y ∈ jl.eraseIdx i22 ∨ (y.row = r → y.ns.getLsbD i = false) := fun y hy => by
              rcases hall y hy with h9 | h9
              · rcases List.mem_cons.1 (hpe.mem_iff.1 h9) with e9 | h9
                · exact .inr fun e8 => by rw [e9] at e8 ⊢; first | exact h3 | exact absurd e8 (by omega)
                · exact .inl h9
              · exact .inr h9
            exact S.next ((left.eraseIdx i22).length) (⟨left.eraseIdx i22, some ((x.id : Int), jbV x), jl.eraseIdx i22, rfl, hle, fun y hy => hsub y (hpe.mem_iff.2 (List.mem_cons_of_mem _ hy)), hall2, rfl, rfl⟩) (hlt) (by repeat (first | exact trivial | refine ⟨rfl, ?_⟩)) Sub.ent
        · refine S.g_no rfl rfl rfl (decide_eq_false hg5_4) rfl rfl ?_
          refine S.g_no rfl rfl rfl (decide_eq_false hg5_4) rfl rfl ?_
          refine S.g_no rfl rfl rfl (decide_eq_false hg5_4) rfl rfl ?_
          refine S.g_no rfl rfl rfl (decide_eq_false hg5_4) rfl rfl ?_
          refine S.g_op rfl (S.q (q_pickF rfl (decide_eq_false hg5_4) rfl) rfl rfl ?_)
          first | with_reducible refine S.g_nilK ?_ | refine S.g_nil ?_
          refine hK10 _ _ ?_
          refine S.condF rfl ?_
          refine S.skip ?_
          with_reducible repeat (first | refine S.then_n ?_ | refine S.then_x ?_ | refine S.then_r ?_ | refine S.inBlock_n ?_ | refine S.inBlock_r ?_ | refine S.inBlock_x rfl ?_ | refine S.noGoto_r ?_ | refine S.noGoto_n ?_ | refine S.noGoto_x ?_)
          with_reducible repeat (first | refine S.then_n ?_ | refine S.then_x ?_ | refine S.then_r ?_ | refine S.inBlock_n ?_ | refine S.inBlock_r ?_ | refine S.inBlock_x rfl ?_ | refine S.noGoto_r ?_ | refine S.noGoto_n ?_ | refine S.noGoto_x ?_)
          with_reducible repeat (first | refine S.then_n ?_ | refine S.then_x ?_ | refine S.then_r ?_ | refine S.inBlock_n ?_ | refine S.inBlock_r ?_ | refine S.inBlock_x rfl ?_ | refine S.noGoto_r ?_ | refine S.noGoto_n ?_ | refine S.noGoto_x ?_)
          have hall2 : ∀ y ∈ m.js, y ∈ jl.eraseIdx i22 ∨ (y.row = r → y.ns.getLsbD i = false) := fun y hy => by
            rcases hall y hy with h9 | h9
            · rcases List.mem_cons.1 (hpe.mem_iff.1 h9) with e9 | h9
              · exact .inr fun e8 => by rw [e9] at e8 ⊢; first | exact h3 | exact absurd e8 (by omega)
              · exact .inl h9
            · exact .inr h9
          exact S.next ((left.eraseIdx i22).length) (⟨left.eraseIdx i22, some ((x.id : Int), jbV x), jl.eraseIdx i22, rfl, hle, fun y hy => hsub y (hpe.mem_iff.2 (List.mem_cons_of_mem _ hy)), hall2, rfl, rfl⟩) (hlt) (by repeat (first | exact trivial | refine ⟨rfl, ?_⟩)) Sub.ent
    · have hfin : atR m z y = 0 := by rw [atR, h1, Bool.and_false]; rfl
      refine S.skip ?_
      with_reducible repeat (first | refine S.then_n ?_ | refine S.then_x ?_ | refine S.then_r ?_ | refine S.inBlock_n ?_ | refine S.inBlock_r ?_ | refine S.inBlock_x rfl ?_ | refine S.noGoto_r ?_ | refine S.noGoto_n ?_ | refine S.noGoto_x ?_)
      refine hK2 _ _ ?_
      refine S.seq fun K12 hK12 => ?_
      refine S.region rfl ?_
      refine S.op (S.q (q_assign rfl) rfl rfl ?_)
      first | with_reducible refine S.nilK ?_ | refine S.nil ?_
      refine hK12 _ _ ?_
      refine S.ret ?_
      with_reducible repeat (first | refine S.then_n ?_ | refine S.then_x ?_ | refine S.then_r ?_ | refine S.inBlock_n ?_ | refine S.inBlock_r ?_ | refine S.inBlock_x rfl ?_ | refine S.noGoto_r ?_ | refine S.noGoto_n ?_ | refine S.noGoto_x ?_)
      exact S.fin (rs := [_]) (vs := [_]) Tryd.results47 (⟨rfl, trivial⟩)  (⟨by rw [hfin]; rfl, rfl⟩) Sub.ent
  · have hfin : atR m z y = 0 := by rw [atR, hg1_3]; rfl
    refine S.g_no rfl rfl rfl (hg1_3) rfl rfl ?_
    refine S.g_no rfl rfl rfl (hg1_3) rfl rfl ?_
    refine S.g_no rfl rfl rfl (hg1_3) rfl rfl ?_
    refine S.g_op rfl (S.q (q_pickF rfl (hg1_3) rfl) rfl rfl ?_)
    first | with_reducible refine S.g_nilK ?_ | refine S.g_nil ?_
    refine hK3 _ _ ?_
    refine S.condF rfl ?_
    refine S.skip ?_
    with_reducible repeat (first | refine S.then_n ?_ | refine S.then_x ?_ | refine S.then_r ?_ | refine S.inBlock_n ?_ | refine S.inBlock_r ?_ | refine S.inBlock_x rfl ?_ | refine S.noGoto_r ?_ | refine S.noGoto_n ?_ | refine S.noGoto_x ?_)
    refine hK2 _ _ ?_
    refine S.seq fun K13 hK13 => ?_
    refine S.region rfl ?_
    refine S.op (S.q (q_assign rfl) rfl rfl ?_)
    first | with_reducible refine S.nilK ?_ | refine S.nil ?_
    refine hK13 _ _ ?_
    refine S.ret ?_
    with_reducible repeat (first | refine S.then_n ?_ | refine S.then_x ?_ | refine S.then_r ?_ | refine S.inBlock_n ?_ | refine S.inBlock_r ?_ | refine S.inBlock_x rfl ?_ | refine S.noGoto_r ?_ | refine S.noGoto_n ?_ | refine S.noGoto_x ?_)
    exact S.fin (rs := [_]) (vs := [_]) Tryd.results47 (⟨rfl, trivial⟩)  (⟨by rw [hfin]; rfl, rfl⟩) Sub.ent
set_option maxHeartbeats 1000000 in
theorem mapsClone_S (mb : Nat) (l : List (Int × Value)) : Spec Tryd.prog 56 [.map (some mb)] [mapL mb .u32 l] fun Γ v Θ => ∃ c, v = .map (some c) ∧ Θ = mapL c .u32 l :: mapL mb .u32 l :: Γ := by
  refine Spec.of_body Tryd.func56 rfl Tryd.ntmps56 rfl ?_
  intro w0 Γ
  show S _ w0 [(0, .map (some mb))] (mapL mb .u32 l :: Γ) _
  refine S.seq fun K1 hK1 => ?_
  refine S.region rfl ?_
  refine S.op (S.q (q_assign rfl) rfl rfl ?_)
  first | with_reducible refine S.nilK ?_ | refine S.nil ?_
  refine hK1 _ _ ?_
  refine S.seq fun K2 hK2 => ?_
  refine S.seq fun K3 hK3 => ?_
  refine S.region rfl ?_
  refine S.op (S.q (q_move rfl) rfl rfl ?_)
  refine S.op (S.q (q_eqMN Tryd.underlying121 rfl rfl) rfl rfl ?_)
  first | with_reducible refine S.nilK ?_ | refine S.nil ?_
  refine hK3 _ _ ?_
  refine S.condF rfl ?_
  refine S.skip ?_
  with_reducible repeat (first | refine S.then_n ?_ | refine S.then_x ?_ | refine S.then_r ?_ | refine S.inBlock_n ?_ | refine S.inBlock_r ?_ | refine S.inBlock_x rfl ?_ | refine S.noGoto_r ?_ | refine S.noGoto_n ?_ | refine S.noGoto_x ?_)
  refine hK2 _ _ ?_
  refine S.seq fun K4 hK4 => ?_
  refine S.region rfl ?_
  refine S.op (S.q (q_move rfl) rfl rfl ?_)
  refine S.op (S.q (q_makeInterface (by rw [Tryd.underlying121]) rfl) rfl rfl ?_)
  refine S.op (S.clone Tryd.func79 (by kernel_rfl) (by kernel_rfl) (by kernel_rfl) (by kernel_rfl) rfl rfl ?_)
  intro c
  refine S.op (S.q (q_assert Tryd.underlying121 rfl) rfl rfl ?_)
  refine S.op (S.q (q_assign rfl) rfl rfl ?_)
  first | with_reducible refine S.nilK ?_ | refine S.nil ?_
  refine hK4 _ _ ?_
  refine S.ret ?_
  with_reducible repeat (first | refine S.then_n ?_ | refine S.then_x ?_ | refine S.then_r ?_ | refine S.inBlock_n ?_ | refine S.inBlock_r ?_ | refine S.inBlock_x rfl ?_ | refine S.noGoto_r ?_ | refine S.noGoto_n ?_ | refine S.noGoto_x ?_)
  exact S.fin (rs := [_]) (vs := [_]) Tryd.results56 (⟨rfl, trivial⟩)  (⟨c, rfl, rfl⟩) Sub.ent
theorem setsClone_S (s : SV) (xs : List Value) (hone : allOne xs = true) (hs : s.n ≤ 1000 ∧ 0 < s.n) : Spec Tryd.prog 57 [s.v] [own s 120 1 xs] fun Γ v Θ => ∃ s2 : SV, v = s2.v ∧ s2.n = s.n ∧ Θ = own s2 120 1 xs :: own s 120 1 xs :: Γ := by
  refine Spec.of_body Tryd.func57 rfl Tryd.ntmps57 rfl ?_
  intro w0 Γ
  show S _ w0 [(0, s.v)] (own s 120 1 xs :: Γ) _
  refine S.ownSome s hs.2 fun sb so hsa hl1 hl2 hl3 => ?_
  refine S.seq fun K1 hK1 => ?_
  refine S.region rfl ?_
  refine S.op (S.q (q_assign rfl) rfl rfl ?_)
  first | with_reducible refine S.nilK ?_ | refine S.nil ?_
  refine hK1 _ _ ?_
  refine S.seq fun K2 hK2 => ?_
  refine S.seq fun K3 hK3 => ?_
  refine S.region rfl ?_
  refine S.op (S.q (q_move rfl) rfl rfl ?_)
  refine S.op (S.q (q_eqSN Tryd.underlying122 rfl rfl) rfl rfl ?_)
  first | with_reducible refine S.nilK ?_ | refine S.nil ?_
  refine hK3 _ _ ?_
  refine S.cond rfl (fun h1 => ?_) (fun h1 => ?_)
  · rw [hsa] at h1; cases h1
  · refine S.skip ?_
    with_reducible repeat (first | refine S.then_n ?_ | refine S.then_x ?_ | refine S.then_r ?_ | refine S.inBlock_n ?_ | refine S.inBlock_r ?_ | refine S.inBlock_x rfl ?_ | refine S.noGoto_r ?_ | refine S.noGoto_n ?_ | refine S.noGoto_x ?_)
    refine hK2 _ _ ?_
    refine S.seq fun K4 hK4 => ?_
    refine S.region rfl ?_
    refine S.op (S.buildSlice0 Tryd.underlying122 Tryd.inf120 rfl ?_)
    intro s5 hs5
    refine S.op (S.q (q_move rfl) rfl rfl ?_)
    refine S.op (S.appendOw (s := s5) (s.n) (xs) Tryd.underlying122 Tryd.inf120 rfl rfl rfl (fun w hs => (HasOw.head).slAt (hs.ent (Ent.drop _ _))) (hone) (⟨by omega, by omega⟩) rfl ?_)
    intro s2 hs2
    rw [List.nil_append]
    refine S.op (S.q (q_assign rfl) rfl rfl ?_)
    first | with_reducible refine S.nilK ?_ | refine S.nil ?_
    refine hK4 _ _ ?_
    refine S.ret ?_
    with_reducible repeat (first | refine S.then_n ?_ | refine S.then_x ?_ | refine S.then_r ?_ | refine S.inBlock_n ?_ | refine S.inBlock_r ?_ | refine S.inBlock_x rfl ?_ | refine S.noGoto_r ?_ | refine S.noGoto_n ?_ | refine S.noGoto_x ?_)
    exact S.fin (rs := [_]) (vs := [_]) Tryd.results57 (⟨rfl, trivial⟩)  (⟨s2, rfl, by omega, rfl⟩) Sub.ent
theorem tks_one (m : Mx) : allOne (tks m) = true := List.all_eq_true.2 fun v hv => by
  obtain ⟨r, _, rfl⟩ := List.mem_map.1 hv
  rfl
theorem Copy_S (b : Nat) (m : Mx) : Spec Tryd.prog 25 [.pointer (some ⟨b, 0, none⟩)] [MI b m] fun Γ v Θ => ∃ c, v = .pointer (some ⟨c, 0, none⟩) ∧ Θ = MI c m :: MI b m :: Γ := by
  refine Spec.of_body Tryd.func25 rfl Tryd.ntmps25 rfl ?_
  intro w0 Γ
  show S _ w0 [(0, .pointer (some ⟨b, 0, none⟩))] (MI b m :: Γ) _
  refine S.miOpen b m fun mb tv l hok hp htn => ?_
  have hR8 := hok.R8
  have hR1 := hok.R1
  refine S.seq fun K1 hK1 => ?_
  refine S.region rfl ?_
  refine S.op (S.q (q_assign rfl) rfl rfl ?_)
  first | with_reducible refine S.nilK ?_ | refine S.nil ?_
  refine hK1 _ _ ?_
  refine S.seq fun K2 hK2 => ?_
  refine S.seq fun K3 hK3 => ?_
  refine S.region rfl ?_
  refine S.op (S.q (q_move rfl) rfl rfl ?_)
  refine S.op (S.q (q_eqN Tryd.underlying25 rfl rfl) rfl rfl ?_)
  first | with_reducible refine S.nilK ?_ | refine S.nil ?_
  refine hK3 _ _ ?_
  refine S.condF rfl ?_
  refine S.skip ?_
  with_reducible repeat (first | refine S.then_n ?_ | refine S.then_x ?_ | refine S.then_r ?_ | refine S.inBlock_n ?_ | refine S.inBlock_r ?_ | refine S.inBlock_x rfl ?_ | refine S.noGoto_r ?_ | refine S.noGoto_n ?_ | refine S.noGoto_x ?_)
  refine hK2 _ _ ?_
  refine S.seq fun K4 hK4 => ?_
  refine S.region rfl ?_
  refine S.op (S.q (q_move rfl) rfl rfl ?_)
  refine S.op (S.q (q_nilCheck rfl) rfl rfl ?_)
  refine S.op (S.q (q_loadS [_, _, _, _, _] Tryd.ag124 rfl rfl ⟨rfl, rfl, rfl, rfl, rfl, trivial⟩) rfl rfl ?_)
  refine S.op (S.alloc Tryd.z124 rfl ?_)
  intro b3
  refine S.op (S.storeS (cs' := [_, _, _, _, _]) Tryd.ag124 rfl rfl rfl rfl rfl rfl ?_)
  first | with_reducible refine S.nilK ?_ | refine S.nil ?_
  refine hK4 _ _ ?_
  refine S.seq fun K5 hK5 => ?_
  refine S.draw ([blk b 124 (mxC m mb tv).toArray]) [11, 13] Tryd.mixed ?_
  refine S.dr_take 0 [1, 2, 3, 4, 9, 10, 11, 12, 13] rfl (by kernel_rfl) rfl rfl rfl (q_move rfl) Sub.ent ?_
  refine S.dr_take 1 [2, 3, 4, 9, 10, 11, 12, 13] rfl (by kernel_rfl) rfl rfl rfl (q_nilCheck rfl) Sub.ent ?_
  refine S.dr_take 2 [3, 4, 9, 10, 11, 12, 13] rfl (by kernel_rfl) rfl rfl rfl (q_field Tryd.fo124_3 rfl) Sub.ent ?_
  refine S.dr_take 3 [4, 9, 10, 11, 12, 13] rfl (by kernel_rfl) rfl rfl rfl (q_load Tryd.at121 rfl rfl) Sub.ent ?_
  refine S.dr_take 5 [6, 7, 8, 9, 10, 11, 12, 13] rfl (by kernel_rfl) rfl rfl rfl (q_move rfl) Sub.ent ?_
  refine S.dr_take 6 [7, 8, 9, 10, 11, 12, 13] rfl (by kernel_rfl) rfl rfl rfl (q_nilCheck rfl) Sub.ent ?_
  refine S.dr_take 7 [8, 9, 10, 11, 12, 13] rfl (by kernel_rfl) rfl rfl rfl (q_field Tryd.fo124_4 rfl) Sub.ent ?_
  refine S.dr_take 8 [9, 10, 11, 12, 13] rfl (by kernel_rfl) rfl rfl rfl (q_load Tryd.at122 rfl rfl) Sub.ent ?_
  refine S.dr_1 (i := 4) (by kernel_rfl) rfl rfl ?_
  refine  (S.call Tryd.en56 (vs := [_]) ⟨rfl, trivial⟩ (mapsClone_S mb l) rfl ?_)
  rintro v Θ ⟨mc, rfl, rfl⟩
  refine S.dr_k rfl Sub.ent ?_
  refine S.dr_1 (i := 9) (by kernel_rfl) rfl rfl ?_
  refine  (S.call Tryd.en57 (vs := [_]) ⟨rfl, trivial⟩ (setsClone_S tv (tks m) (tks_one m) ⟨by omega, by omega⟩) rfl ?_)
  rintro v Θ ⟨s2, rfl, hs2, rfl⟩
  refine S.dr_k rfl Sub.ent ?_
  refine S.dr_take 10 [11, 12, 13] rfl (by kernel_rfl) rfl rfl rfl (q_field Tryd.fo124_3 rfl) Sub.ent ?_
  refine S.dr_1 (i := 11) (by kernel_rfl) rfl rfl ?_
  refine  (S.store (cs' := [_, _, _, _, _]) Tryd.at121 rfl rfl rfl rfl rfl ?_)
  refine S.dr_late ([blk b 124 (mxC m mb tv).toArray]) [] rfl ?_
  refine S.dr_take 12 [] rfl (by kernel_rfl) rfl rfl rfl (q_field Tryd.fo124_4 rfl) Sub.ent ?_
  refine S.dr_1 (i := 13) (by kernel_rfl) rfl rfl ?_
  refine  (S.store (cs' := [_, _, _, _, _]) Tryd.at122 rfl rfl rfl rfl rfl ?_)
  refine S.dr_k rfl Sub.ent ?_
  first | with_reducible refine S.dr_doneK (by kernel_rfl) ?_ | refine S.dr_done (by kernel_rfl) ?_
  refine hK5 _ _ ?_
  refine S.seq fun K6 hK6 => ?_
  refine S.region rfl ?_
  refine S.op (S.q (q_assign rfl) rfl rfl ?_)
  first | with_reducible refine S.nilK ?_ | refine S.nil ?_
  refine hK6 _ _ ?_
  refine S.ret ?_
  with_reducible repeat (first | refine S.then_n ?_ | refine S.then_x ?_ | refine S.then_r ?_ | refine S.inBlock_n ?_ | refine S.inBlock_r ?_ | refine S.inBlock_x rfl ?_ | refine S.noGoto_r ?_ | refine S.noGoto_n ?_ | refine S.noGoto_x ?_)
  refine S.miClose (b := b) (m := m) (mb := mb) (tv := tv) rfl rfl rfl hok hp htn ?_
  refine S.miClose (b := b3) (m := m) (mb := mc) (tv := s2) rfl rfl rfl hok hp (by omega) ?_
  exact S.fin (rs := [_]) (vs := [_]) Tryd.results25 (⟨rfl, trivial⟩)  (⟨b3, rfl, rfl⟩) Sub.ent
end Go.Proofs.YtegjmmocnffpiaaDoor
/- The matrix: Fill; lists held against lists. -/
namespace Go.Proofs.YtegjmmocnffpiaaDoor
open Go.RowKit
set_option maxRecDepth 20000
def fillStep (a : Bs × List Jb) (x : Jb) : Bs × List Jb := if x.ns &&& a.1 = 0#16 then (a.1 ||| x.ns, a.2 ++ [x]) else a
def fillUp (m : Mx) (r : Nat) : Nat → Bs × List Jb
  | 0 => (tk m.js r, [])
  | o + 1 => if o = r then fillUp m r o else (rowJ m o).foldl fillStep (fillUp m r o)
def fillIds (m : Mx) (z : Int) : List Nat := if rowB m z then (fillUp m z.toNat m.R).2.map (·.id) else []
theorem rowJ_len (m : Mx) (r : Nat) : (rowJ m r).length ≤ 16 := by
  have := List.length_filterMap_le (fun i => m.js.find? fun x => decide (x.row = r) && decide (tz x.ns = i)) (List.range 16)
  rw [List.length_range] at this
  exact this
theorem fold_len (l : List Jb) : ∀ a : Bs × List Jb, (l.foldl fillStep a).2.length ≤ a.2.length + l.length := by
  induction l with
  | nil => intro a; exact Nat.le_refl _
  | cons x l ih =>
    intro a
    have h1 := ih (fillStep a x)
    have h2 : (fillStep a x).2.length ≤ a.2.length + 1 := by
      unfold fillStep
      split
      · simp
      · omega
    rw [List.foldl_cons, List.length_cons]
    omega
theorem fillUp_len (m : Mx) (r : Nat) : ∀ o, (fillUp m r o).2.length ≤ 16 * o
  | 0 => Nat.le_refl _
  | o + 1 => by
    have h := fillUp_len m r o
    unfold fillUp
    split
    · omega
    · have h1 := fold_len (rowJ m o) (fillUp m r o)
      have h2 := rowJ_len m o
      omega
theorem idsV_at {js : List Jb} {q : Nat} {x : Jb} (h : js[q]? = some x) : (idsV (js.map (·.id)))[q]? = some (.int .u32 (x.id : Int)) := by
  show ((js.map (·.id)).map _)[q]? = _
  rw [List.getElem?_map, List.getElem?_map, h]
  rfl
theorem Fill_S (b : Nat) (m : Mx) (z : Int) {W : World} (hW : TabW W) : Spec Tryd.prog 55 [.pointer (some ⟨b, 0, none⟩), .int .i64 z] [MI b m, old W] fun Γ v Θ => ∃ sv : SV, v = sv.v ∧ sv.n = (fillIds m z).length ∧ Θ = own sv 68 1 (idsV (fillIds m z)) :: MI b m :: old W :: Γ := by
  refine Spec.miOk fun hok => ?_
  refine Spec.of_body Tryd.func55 rfl Tryd.ntmps55 rfl ?_
  intro w0 Γ
  show S _ w0 [(0, .pointer (some ⟨b, 0, none⟩)), (1, .int .i64 z)] (MI b m :: old W :: Γ) _
  have hR8 := hok.R8
  refine S.seq fun K1 hK1 => ?_
  refine S.region rfl ?_
  refine S.op (S.q (q_assign rfl) rfl rfl ?_)
  first | with_reducible refine S.nilK ?_ | refine S.nil ?_
  refine hK1 _ _ ?_
  refine S.seq fun K2 hK2 => ?_
  refine S.seq fun K3 hK3 => ?_
  refine S.region rfl ?_
  refine S.op (S.q (q_move rfl) rfl rfl ?_)
  refine S.op (S.q (q_move rfl) rfl rfl ?_)
  refine S.op (S.call Tryd.en63 (vs := [_, _]) ⟨rfl, rfl, trivial⟩ (row_S b m z) rfl ?_)
  rintro v Θ ⟨rfl, rfl⟩
  refine S.op (S.q (q_not rfl) rfl rfl ?_)
  first | with_reducible refine S.nilK ?_ | refine S.nil ?_
  refine hK3 _ _ ?_
  refine S.cond rfl (fun h1 => ?_) (fun h1 => ?_)
  · have hn : fillIds m z = [] := by rw [fillIds, show rowB m z = false by simpa using h1]; rfl
    refine S.seq fun K4 hK4 => ?_
    refine S.region rfl ?_
    refine S.op (S.q (q_assign rfl) rfl rfl ?_)
    first | with_reducible refine S.nilK ?_ | refine S.nil ?_
    refine hK4 _ _ ?_
    refine S.ret ?_
    with_reducible repeat (first | refine S.then_n ?_ | refine S.then_x ?_ | refine S.then_r ?_ | refine S.inBlock_n ?_ | refine S.inBlock_r ?_ | refine S.inBlock_x rfl ?_ | refine S.noGoto_r ?_ | refine S.noGoto_n ?_ | refine S.noGoto_x ?_)
    refine S.ent (Δ := own SV.nil 68 1 (idsV (fillIds m z)) :: MI b m :: old W :: Γ) (by rw [hn]; exact Ent.ownNil _ _) ?_
    exact S.fin (rs := [_]) (vs := [_]) Tryd.results55 (⟨rfl, trivial⟩)  (⟨SV.nil, rfl, by rw [hn]; rfl, rfl⟩) Sub.ent
  · have hrb : rowB m z = true := by simpa using h1
    have hrr := rowB_iff.1 hrb
    obtain ⟨r, rfl⟩ : ∃ r : Nat, z = r := ⟨z.toNat, by omega⟩
    have hn : fillIds m r = (fillUp m r m.R).2.map (·.id) := by rw [fillIds, if_pos hrb, Int.toNat_natCast]
    refine S.miOpen b m fun mb tv l _ hp htn => ?_
    refine S.ownSome tv (by omega) fun tb tf hta hl1 hl2 hl3 => ?_
    refine S.skip ?_
    with_reducible repeat (first | refine S.then_n ?_ | refine S.then_x ?_ | refine S.then_r ?_ | refine S.inBlock_n ?_ | refine S.inBlock_r ?_ | refine S.inBlock_x rfl ?_ | refine S.noGoto_r ?_ | refine S.noGoto_n ?_ | refine S.noGoto_x ?_)
    refine hK2 _ _ ?_
    refine S.seq fun K5 hK5 => ?_
    refine S.region rfl ?_
    refine S.op (S.q (q_assign rfl) rfl rfl ?_)
    first | with_reducible refine S.nilK ?_ | refine S.nil ?_
    refine hK5 _ _ ?_
    refine S.seq fun K6 hK6 => ?_
    refine S.region rfl ?_
    refine S.op (S.q (q_move rfl) rfl rfl ?_)
    refine S.op (S.q (q_nilCheck rfl) rfl rfl ?_)
    refine S.op (S.q (q_field Tryd.fo124_4 rfl) rfl rfl ?_)
    refine S.op (S.q (q_load Tryd.at122 rfl rfl) rfl rfl ?_)
    refine S.op (S.q (q_move rfl) rfl rfl ?_)
    refine S.op (S.q (q_indexO (r) Tryd.el122 rfl hta rfl rfl (by omega)) rfl rfl ?_)
    refine S.op (S.q (q_loadOw (tv) (r) Tryd.at120 rfl hta (by first | rfl | exact Nat.add_assoc _ _ _ | omega) (tks_get (show r < m.R by omega))) rfl rfl ?_)
    refine S.op (S.q (q_assign rfl) rfl rfl ?_)
    first | with_reducible refine S.nilK ?_ | refine S.nil ?_
    refine hK6 _ _ ?_
    refine S.seq fun K7 hK7 => ?_
    refine S.seq fun K8 hK8 => ?_
    refine S.region rfl ?_
    refine S.op (S.q (q_move rfl) rfl rfl ?_)
    refine S.op (S.q (q_nilCheck rfl) rfl rfl ?_)
    refine S.op (S.q (q_field Tryd.fo124_0 rfl) rfl rfl ?_)
    refine S.op (S.q (q_load Tryd.at3 rfl rfl) rfl rfl ?_)
    refine S.miClose (b := b) (m := m) (mb := mb) (tv := tv) rfl rfl rfl hok hp htn ?_
    refine S.ent (Ent.ownNil 68 1) ?_
    refine S.op (S.q (q_move rfl) rfl rfl ?_)
    first | with_reducible refine S.nilK ?_ | refine S.nil ?_
    refine hK8 _ _ ?_
    refine S.block ?_
    refine S.loop (fun k ρ' Γ' => ∃ (o : Nat) (tn : Bs) (out : List Jb) (sv : SV) (dv : List Value), k = m.R - o ∧ o ≤ m.R ∧ fillUp m r o = (tn, out) ∧ sv.n = out.length ∧ dv = idsV (out.map (·.id)) ∧   ρ' = [(0, .pointer (some ⟨b, 0, none⟩)), (1, .int .i64 (r : Int)), (5, sv.v), (6, bsv tn), (25, .int .i64 (m.R : Int)), (26, .int .i64 (o : Int))] ∧ Γ' = own sv 68 1 dv :: MI b m :: old W :: Γ) (m := _) (ρ0 := _) (Γ0 := _) (⟨0, tk m.js r, [], SV.nil, [], rfl, by omega, rfl, rfl, rfl, rfl, rfl⟩) (by repeat (first | exact trivial | refine ⟨rfl, ?_⟩)) Sub.ent ?_
    rintro k ρ' Γ' ⟨o, tn, out, sv, dv, hk, hoR, hfu, hsv, hdv, rfl, rfl⟩
    have hol := fillUp_len m r o
    rw [hfu] at hol
    simp only at hol
    refine S.seq fun K9 hK9 => ?_
    refine S.region rfl ?_
    skip
    refine S.op (S.q (q_lt rfl rfl) rfl rfl ?_)
    first | with_reducible refine S.nilK ?_ | refine S.nil ?_
    refine hK9 _ _ ?_
    refine S.seq fun K10 hK10 => ?_
    refine S.condD rfl (fun h2 => ?_) (fun h2 => ?_)
    · refine S.skip ?_
      with_reducible repeat (first | refine S.then_n ?_ | refine S.then_x ?_ | refine S.then_r ?_ | refine S.inBlock_n ?_ | refine S.inBlock_r ?_ | refine S.inBlock_x rfl ?_ | refine S.noGoto_r ?_ | refine S.noGoto_n ?_ | refine S.noGoto_x ?_)
      refine hK10 _ _ ?_
      refine S.seq fun K11 hK11 => ?_
      refine S.block ?_
      refine S.seq fun K12 hK12 => ?_
      refine S.region rfl ?_
      refine S.op (S.q (q_move rfl) rfl rfl ?_)
      refine S.op (S.q (q_assign rfl) rfl rfl ?_)
      first | with_reducible refine S.nilK ?_ | refine S.nil ?_
      refine hK12 _ _ ?_
      refine S.seq fun K13 hK13 => ?_
      refine S.seq fun K14 hK14 => ?_
      refine S.region rfl ?_
      refine S.op (S.q (q_move rfl) rfl rfl ?_)
      refine S.op (S.q (q_move rfl) rfl rfl ?_)
      refine S.op (S.q (q_eq rfl rfl) rfl rfl ?_)
      first | with_reducible refine S.nilK ?_ | refine S.nil ?_
      refine hK14 _ _ ?_
      refine S.condD rfl (fun h3 => ?_) (fun h3 => ?_)
      · have hor : o = r := by omega
        have hfu2 : fillUp m r (o + 1) = (tn, out) := by rw [fillUp, if_pos hor]; exact hfu
        refine S.exit ?_
        with_reducible repeat (first | refine S.then_n ?_ | refine S.then_x ?_ | refine S.then_r ?_ | refine S.inBlock_n ?_ | refine S.inBlock_r ?_ | refine S.inBlock_x rfl ?_ | refine S.noGoto_r ?_ | refine S.noGoto_n ?_ | refine S.noGoto_x ?_)
        with_reducible refine S.inBlock_s ?_
        with_reducible repeat (first | refine S.then_n ?_ | refine S.then_x ?_ | refine S.then_r ?_ | refine S.inBlock_n ?_ | refine S.inBlock_r ?_ | refine S.inBlock_x rfl ?_ | refine S.noGoto_r ?_ | refine S.noGoto_n ?_ | refine S.noGoto_x ?_)
        refine hK11 _ _ ?_
        refine S.region rfl ?_
        refine S.op (S.q (q_add rfl rfl (inI64 (by omega) (by omega))) rfl rfl ?_)
        refine S.op (S.q (q_move rfl) rfl rfl ?_)
        first | with_reducible refine S.nilK ?_ | refine S.nil ?_
        with_reducible repeat (first | refine S.then_n ?_ | refine S.then_x ?_ | refine S.then_r ?_ | refine S.inBlock_n ?_ | refine S.inBlock_r ?_ | refine S.inBlock_x rfl ?_ | refine S.noGoto_r ?_ | refine S.noGoto_n ?_ | refine S.noGoto_x ?_)
        first | exact S.next (k - 1) ⟨o + 1, tn, out, sv, dv, by omega, by omega, hfu2, hsv, hdv, rfl, rfl⟩ (by omega) (by repeat (first | exact trivial | refine ⟨rfl, ?_⟩)) Sub.ent | exact S.next (k - 1) ⟨o + 1, tn2, out2, s2, dv2, by omega, by omega, hfu2.trans hfo, hs2, hdv2, rfl, rfl⟩ (by omega) (by repeat (first | exact trivial | refine ⟨rfl, ?_⟩)) Sub.ent
      · have hor : ¬ o = r := by omega
        have hfu2 : fillUp m r (o + 1) = (rowJ m o).foldl fillStep (tn, out) := by rw [fillUp, if_neg hor, hfu]
        refine S.skip ?_
        with_reducible repeat (first | refine S.then_n ?_ | refine S.then_x ?_ | refine S.then_r ?_ | refine S.inBlock_n ?_ | refine S.inBlock_r ?_ | refine S.inBlock_x rfl ?_ | refine S.noGoto_r ?_ | refine S.noGoto_n ?_ | refine S.noGoto_x ?_)
        refine hK13 _ _ ?_
        refine S.seq fun K15 hK15 => ?_
        refine S.region rfl ?_
        refine S.op (S.q (q_move rfl) rfl rfl ?_)
        refine S.op (S.q (q_move rfl) rfl rfl ?_)
        refine S.op (S.call Tryd.en52 (vs := [_, _]) ⟨rfl, rfl, trivial⟩ (Row_S b m o hW) rfl ?_)
        rintro v Θ ⟨rv, rfl, hrv, rfl⟩
        have hro : rowIds m o = (rowJ m o).map (·.id) := by rw [rowIds, if_pos (rowB_iff.2 (by omega)), Int.toNat_natCast]
        rw [hro] at hrv ⊢
        rw [List.length_map] at hrv
        have hj16 := rowJ_len m o
        refine S.miOpen b m fun mb tv l _ hp htn => ?_
        refine S.ownLen rv fun hrl1 hrl2 hrl3 => ?_
        refine S.op (S.q (q_len Tryd.underlying31 rfl) rfl rfl ?_)
        refine S.op (S.q (q_move rfl) rfl rfl ?_)
        first | with_reducible refine S.nilK ?_ | refine S.nil ?_
        refine hK15 _ _ ?_
        refine S.block ?_
        refine S.loop (fun k2 ρ' Γ' => ∃ (q : Nat) (tn2 : Bs) (out2 : List Jb) (s2 : SV) (dv2 : List Value), k2 = (rowJ m o).length - q ∧ q ≤ (rowJ m o).length ∧ ((rowJ m o).take q).foldl fillStep (tn, out) = (tn2, out2) ∧ s2.n = out2.length ∧ dv2 = idsV (out2.map (·.id)) ∧   ρ' = [(0, .pointer (some ⟨b, 0, none⟩)), (1, .int .i64 (r : Int)), (5, s2.v), (6, bsv tn2), (25, .int .i64 (m.R : Int)), (26, .int .i64 (o : Int)), (34, rv.v), (35, .int .i64 rv.n), (36, .int .i64 (q : Int))] ∧   Γ' = own s2 68 1 dv2 :: own rv 68 1 (idsV ((rowJ m o).map (·.id))) :: blk b 124 (mxC m mb tv).toArray :: mapL mb .u32 l :: own tv 120 1 (tks m) :: old W :: Γ) (m := _) (ρ0 := _) (Γ0 := _) (⟨0, tn, out, sv, dv, rfl, by omega, rfl, hsv, hdv, rfl, rfl⟩) (by repeat (first | exact trivial | refine ⟨rfl, ?_⟩)) Sub.ent ?_
        rintro k2 ρ' Γ' ⟨q, tn2, out2, s2, dv2, hk2, hq, hfo, hs2, hdv2, rfl, rfl⟩
        have hfl := fold_len ((rowJ m o).take q) (tn, out)
        rw [hfo] at hfl
        rw [List.length_take] at hfl
        simp only at hfl
        refine S.seq fun K16 hK16 => ?_
        refine S.region rfl ?_
        refine S.op (S.q (q_lt rfl rfl) rfl rfl ?_)
        first | with_reducible refine S.nilK ?_ | refine S.nil ?_
        refine hK16 _ _ ?_
        refine S.seq fun K17 hK17 => ?_
        refine S.condD rfl (fun h4 => ?_) (fun h4 => ?_)
        · obtain ⟨x, hx⟩ := getE (show q < (rowJ m o).length by omega)
          have hxm := ((mem_rowJ hok).1 (List.mem_of_getElem? hx)).1
          refine S.ownSome rv (by omega) fun rb rf hra _ _ _ => ?_
          have hgx : alGet (x.id : Int) l = some (jbV x) := by rw [get_look hok.srt hp, look_mem hok.srt hxm]; rfl
          have hstep : ((rowJ m o).take (q + 1)).foldl fillStep (tn, out) = fillStep (tn2, out2) x := by rw [List.take_add_one, hx, List.foldl_append, hfo]; rfl
          refine S.skip ?_
          with_reducible repeat (first | refine S.then_n ?_ | refine S.then_x ?_ | refine S.then_r ?_ | refine S.inBlock_n ?_ | refine S.inBlock_r ?_ | refine S.inBlock_x rfl ?_ | refine S.noGoto_r ?_ | refine S.noGoto_n ?_ | refine S.noGoto_x ?_)
          refine hK17 _ _ ?_
          refine S.seq fun K18 hK18 => ?_
          refine S.block ?_
          refine S.seq fun K19 hK19 => ?_
          refine S.region rfl ?_
          refine S.op (S.q (q_indexO (q) Tryd.el31 rfl hra rfl rfl (by omega)) rfl rfl ?_)
          refine S.op (S.q (q_loadOw (rv) (q) Tryd.at68 rfl hra (by first | rfl | exact Nat.add_assoc _ _ _ | omega) (idsV_at hx)) rfl rfl ?_)
          refine S.op (S.q (q_assign rfl) rfl rfl ?_)
          first | with_reducible refine S.nilK ?_ | refine S.nil ?_
          refine hK19 _ _ ?_
          refine S.seq fun K20 hK20 => ?_
          refine S.region rfl ?_
          refine S.op (S.q (q_move rfl) rfl rfl ?_)
          refine S.op (S.q (q_nilCheck rfl) rfl rfl ?_)
          refine S.op (S.q (q_field Tryd.fo124_3 rfl) rfl rfl ?_)
          refine S.op (S.q (q_load Tryd.at121 rfl rfl) rfl rfl ?_)
          refine S.op (S.q (q_move rfl) rfl rfl ?_)
          refine S.op (S.q (q_lookup1 (jbV x) Tryd.underlying121 Tryd.underlying68 Tryd.zv127 rfl rfl rfl (by rw [hgx]; rfl)) rfl rfl ?_)
          refine S.op (S.alloc Tryd.z127 rfl ?_)
          intro b10
          refine S.op (S.storeS (cs' := [_, _]) Tryd.ag127 rfl rfl rfl rfl rfl rfl ?_)
          first | with_reducible refine S.nilK ?_ | refine S.nil ?_
          refine hK20 _ _ ?_
          refine S.seq fun K21 hK21 => ?_
          refine S.region rfl ?_
          refine S.op (S.q (q_field Tryd.fo127_1 rfl) rfl rfl ?_)
          refine S.op (S.q (q_load Tryd.at120 rfl rfl) rfl rfl ?_)
          refine S.op (S.q (q_move rfl) rfl rfl ?_)
          refine S.op (S.q (q_andB (x.ns) (tn2) rfl rfl (rfl) (rfl)) rfl rfl ?_)
          refine S.op (S.q (q_eq rfl rfl) rfl rfl ?_)
          first | with_reducible refine S.nilK ?_ | refine S.nil ?_
          refine hK21 _ _ ?_
          refine S.condD rfl (fun h5 => ?_) (fun h5 => ?_)
          · have hz : x.ns &&& tn2 = 0#16 := bs_zero.1 h5
            have hfs : fillStep (tn2, out2) x = (tn2 ||| x.ns, out2 ++ [x]) := if_pos hz
            have hdv3 : dv2 ++ [.int .u32 (x.id : Int)] = idsV ((out2 ++ [x]).map (·.id)) := by rw [hdv2]; simp
            have hlen3 : (out2 ++ [x]).length = out2.length + 1 := by simp
            refine S.seq fun K22 hK22 => ?_
            refine S.region rfl ?_
            refine S.op (S.q (q_move rfl) rfl rfl ?_)
            refine S.op (S.q (q_field Tryd.fo127_1 rfl) rfl rfl ?_)
            refine S.op (S.q (q_load Tryd.at120 rfl rfl) rfl rfl ?_)
            refine S.op (S.q (q_orB (tn2) (x.ns) rfl rfl (rfl) (rfl)) rfl rfl ?_)
            refine S.op (S.q (q_assign rfl) rfl rfl ?_)
            first | with_reducible refine S.nilK ?_ | refine S.nil ?_
            refine hK22 _ _ ?_
            refine S.region rfl ?_
            refine S.op (S.q (q_move rfl) rfl rfl ?_)
            refine S.op (S.q (q_move rfl) rfl rfl ?_)
            refine S.op (S.buildSlice (pvs := [(_, _)]) [_] Tryd.underlying31 Tryd.inf68 rfl rfl ⟨⟨rfl, rfl⟩, trivial⟩ rfl rfl ?_)
            intro b57
            refine S.op (S.appendOw (s := s2) (1) ([.int .u32 (x.id : Int)]) Tryd.underlying31 Tryd.inf68 rfl rfl rfl (blk_slAt (b := b57) rfl (by unfold maxLen; omega)) (by first | rfl | exact allOne_bcells _) (⟨by omega, by omega⟩) rfl ?_)
            intro s3 hs3
            refine S.op (S.q (q_assign rfl) rfl rfl ?_)
            first | with_reducible refine S.nilK ?_ | refine S.nil ?_
            with_reducible repeat (first | refine S.then_n ?_ | refine S.then_x ?_ | refine S.then_r ?_ | refine S.inBlock_n ?_ | refine S.inBlock_r ?_ | refine S.inBlock_x rfl ?_ | refine S.noGoto_r ?_ | refine S.noGoto_n ?_ | refine S.noGoto_x ?_)
            refine hK18 _ _ ?_
            refine S.region rfl ?_
            refine S.op (S.q (q_add rfl rfl (inI64 (by omega) (by omega))) rfl rfl ?_)
            refine S.op (S.q (q_move rfl) rfl rfl ?_)
            first | with_reducible refine S.nilK ?_ | refine S.nil ?_
            with_reducible repeat (first | refine S.then_n ?_ | refine S.then_x ?_ | refine S.then_r ?_ | refine S.inBlock_n ?_ | refine S.inBlock_r ?_ | refine S.inBlock_x rfl ?_ | refine S.noGoto_r ?_ | refine S.noGoto_n ?_ | refine S.noGoto_x ?_)
            first | exact S.next (k2 - 1) ⟨q + 1, tn2 ||| x.ns, out2 ++ [x], s3, dv2 ++ [.int .u32 (x.id : Int)], by omega, by omega, hstep.trans hfs, by omega, hdv3, rfl, rfl⟩ (by omega) (by repeat (first | exact trivial | refine ⟨rfl, ?_⟩)) Sub.ent | exact S.next (k2 - 1) ⟨q + 1, tn2, out2, s2, dv2, by omega, by omega, hstep.trans hfs, hs2, hdv2, rfl, rfl⟩ (by omega) (by repeat (first | exact trivial | refine ⟨rfl, ?_⟩)) Sub.ent
          · have hz : ¬ x.ns &&& tn2 = 0#16 := fun e => h5 (bs_zero.2 e)
            have hfs : fillStep (tn2, out2) x = (tn2, out2) := if_neg hz
            refine S.skip ?_
            with_reducible repeat (first | refine S.then_n ?_ | refine S.then_x ?_ | refine S.then_r ?_ | refine S.inBlock_n ?_ | refine S.inBlock_r ?_ | refine S.inBlock_x rfl ?_ | refine S.noGoto_r ?_ | refine S.noGoto_n ?_ | refine S.noGoto_x ?_)
            with_reducible repeat (first | refine S.then_n ?_ | refine S.then_x ?_ | refine S.then_r ?_ | refine S.inBlock_n ?_ | refine S.inBlock_r ?_ | refine S.inBlock_x rfl ?_ | refine S.noGoto_r ?_ | refine S.noGoto_n ?_ | refine S.noGoto_x ?_)
            refine hK18 _ _ ?_
            refine S.region rfl ?_
            refine S.op (S.q (q_add rfl rfl (inI64 (by omega) (by omega))) rfl rfl ?_)
            refine S.op (S.q (q_move rfl) rfl rfl ?_)
            first | with_reducible refine S.nilK ?_ | refine S.nil ?_
            with_reducible repeat (first | refine S.then_n ?_ | refine S.then_x ?_ | refine S.then_r ?_ | refine S.inBlock_n ?_ | refine S.inBlock_r ?_ | refine S.inBlock_x rfl ?_ | refine S.noGoto_r ?_ | refine S.noGoto_n ?_ | refine S.noGoto_x ?_)
            first | exact S.next (k2 - 1) ⟨q + 1, tn2 ||| x.ns, out2 ++ [x], s3, dv2 ++ [.int .u32 (x.id : Int)], by omega, by omega, hstep.trans hfs, by omega, hdv3, rfl, rfl⟩ (by omega) (by repeat (first | exact trivial | refine ⟨rfl, ?_⟩)) Sub.ent | exact S.next (k2 - 1) ⟨q + 1, tn2, out2, s2, dv2, by omega, by omega, hstep.trans hfs, hs2, hdv2, rfl, rfl⟩ (by omega) (by repeat (first | exact trivial | refine ⟨rfl, ?_⟩)) Sub.ent
        · have hq2 : q = (rowJ m o).length := by omega
          rw [hq2, List.take_length] at hfo
          refine S.miClose (b := b) (m := m) (mb := mb) (tv := tv) rfl rfl rfl hok hp htn ?_
          refine S.exit ?_
          with_reducible repeat (first | refine S.then_n ?_ | refine S.then_x ?_ | refine S.then_r ?_ | refine S.inBlock_n ?_ | refine S.inBlock_r ?_ | refine S.inBlock_x rfl ?_ | refine S.noGoto_r ?_ | refine S.noGoto_n ?_ | refine S.noGoto_x ?_)
          with_reducible refine S.inBlock_s ?_
          with_reducible repeat (first | refine S.then_n ?_ | refine S.then_x ?_ | refine S.then_r ?_ | refine S.inBlock_n ?_ | refine S.inBlock_r ?_ | refine S.inBlock_x rfl ?_ | refine S.noGoto_r ?_ | refine S.noGoto_n ?_ | refine S.noGoto_x ?_)
          with_reducible repeat (first | refine S.then_n ?_ | refine S.then_x ?_ | refine S.then_r ?_ | refine S.inBlock_n ?_ | refine S.inBlock_r ?_ | refine S.inBlock_x rfl ?_ | refine S.noGoto_r ?_ | refine S.noGoto_n ?_ | refine S.noGoto_x ?_)
          refine hK11 _ _ ?_
          refine S.region rfl ?_
          refine S.op (S.q (q_add rfl rfl (inI64 (by omega) (by omega))) rfl rfl ?_)
          refine S.op (S.q (q_move rfl) rfl rfl ?_)
          first | with_reducible refine S.nilK ?_ | refine S.nil ?_
          with_reducible repeat (first | refine S.then_n ?_ | refine S.then_x ?_ | refine S.then_r ?_ | refine S.inBlock_n ?_ | refine S.inBlock_r ?_ | refine S.inBlock_x rfl ?_ | refine S.noGoto_r ?_ | refine S.noGoto_n ?_ | refine S.noGoto_x ?_)
          first | exact S.next (k - 1) ⟨o + 1, tn, out, sv, dv, by omega, by omega, hfu2, hsv, hdv, rfl, rfl⟩ (by omega) (by repeat (first | exact trivial | refine ⟨rfl, ?_⟩)) Sub.ent | exact S.next (k - 1) ⟨o + 1, tn2, out2, s2, dv2, by omega, by omega, hfu2.trans hfo, hs2, hdv2, rfl, rfl⟩ (by omega) (by repeat (first | exact trivial | refine ⟨rfl, ?_⟩)) Sub.ent
    · have hoR2 : o = m.R := by omega
      have hfin : fillIds m r = out.map (·.id) := by rw [hn, ← hoR2, hfu]
      rw [hdv, ← hfin]
      refine S.exit ?_
      with_reducible repeat (first | refine S.then_n ?_ | refine S.then_x ?_ | refine S.then_r ?_ | refine S.inBlock_n ?_ | refine S.inBlock_r ?_ | refine S.inBlock_x rfl ?_ | refine S.noGoto_r ?_ | refine S.noGoto_n ?_ | refine S.noGoto_x ?_)
      with_reducible refine S.inBlock_s ?_
      with_reducible repeat (first | refine S.then_n ?_ | refine S.then_x ?_ | refine S.then_r ?_ | refine S.inBlock_n ?_ | refine S.inBlock_r ?_ | refine S.inBlock_x rfl ?_ | refine S.noGoto_r ?_ | refine S.noGoto_n ?_ | refine S.noGoto_x ?_)
      refine hK7 _ _ ?_
      refine S.seq fun K23 hK23 => ?_
      refine S.region rfl ?_
      refine S.op (S.q (q_move rfl) rfl rfl ?_)
      refine S.op (S.q (q_assign rfl) rfl rfl ?_)
      first | with_reducible refine S.nilK ?_ | refine S.nil ?_
      refine hK23 _ _ ?_
      refine S.ret ?_
      with_reducible repeat (first | refine S.then_n ?_ | refine S.then_x ?_ | refine S.then_r ?_ | refine S.inBlock_n ?_ | refine S.inBlock_r ?_ | refine S.inBlock_x rfl ?_ | refine S.noGoto_r ?_ | refine S.noGoto_n ?_ | refine S.noGoto_x ?_)
      exact S.fin (rs := [_]) (vs := [_]) Tryd.results55 (⟨rfl, trivial⟩)  (⟨sv, rfl, by rw [hfin, List.length_map]; exact hsv, rfl⟩) Sub.ent
/-! Lists held against lists. -/
theorem rdBlk {b : Nat} {e : TypeId} {cs : List Value} {m sz : Nat} (hl : cs.length = m * sz) (hm : m ≤ maxLen) : RdS (blk b e cs.toArray) ⟨some ⟨b, 0, none⟩, m, m⟩ m sz cs := fun Γ w hs => blk_slAt (b := b) (Γ := blk b e cs.toArray :: Γ) hl hm w hs
def sameUp (k l : List Int) : Nat → Bool
  | 0 => true
  | i + 1 => sameUp k l i && decide (k.getD i 0 = l.getD i 0)
theorem sameUp_eq {k l : List Int} (h : k.length = l.length) : sameUp k l k.length = decide (k = l) := by
  have : ∀ i, i ≤ k.length → (sameUp k l i = true ↔ k.take i = l.take i) := by
    intro i
    induction i with
    | zero => simp [sameUp]
    | succ i ih =>
      intro hi
      have h1 := List.getElem?_eq_getElem (show i < k.length by omega)
      have h2 := List.getElem?_eq_getElem (show i < l.length by omega)
      rw [sameUp, Bool.and_eq_true, ih (by omega), decide_eq_true_eq, List.take_add_one, List.take_add_one, List.getD, List.getD, h1, h2]
      simp only [Option.getD_some, Option.toList_some]
      constructor
      · rintro ⟨e1, e2⟩
        rw [e1, e2]
      · intro e
        have := List.append_inj e (by simp; omega)
        exact ⟨this.1, by simpa using this.2⟩
  rw [Bool.eq_iff_iff, this _ (Nat.le_refl _), decide_eq_true_eq, List.take_length, h, List.take_length]
end Go.Proofs.YtegjmmocnffpiaaDoor
