/- The matrix: Up, IsUp, put, Of, Free, Size, Remove. -/
import Derived.Test.YtbhnbnecaejjiaaDoorMatM
namespace Go.Proofs.YtbhnbnecaejjiaaDoor
open Go.RowKit
set_option maxRecDepth 20000
def Mx.setUp (m : Mx) (i : Nat) (on : Bool) : Mx := { m with up := if on then m.up ||| BitVec.twoPow 16 i else m.up &&& ~~~BitVec.twoPow 16 i }
theorem MxOk.setUp {m : Mx} (h : MxOk m) {i : Nat} (hi : i < m.N) (on : Bool) : MxOk (m.setUp i on) := by
  refine ⟨h.R1, h.R8, h.N1, h.N16, fun q hq => ?_, h.srt, h.id1, h.id2, h.row, h.some, h.ns, h.dis⟩
  simp only [Mx.setUp] at hq ⊢
  cases on with
  | true =>
    rw [if_pos rfl, BitVec.getLsbD_or, Bool.or_eq_true, BitVec.getLsbD_twoPow, Bool.and_eq_true, decide_eq_true_eq, decide_eq_true_eq] at hq
    rcases hq with hq | ⟨_, hq⟩
    · exact h.up q hq
    · omega
  | false =>
    rw [if_neg (by decide), BitVec.getLsbD_and, Bool.and_eq_true] at hq
    exact h.up q hq.1
def upR (m : Mx) (z : Int) (on : Bool) : Int × Mx := if nodeB m z then (0, m.setUp z.toNat on) else (1, m)
theorem nodeB_iff {m : Mx} {z : Int} : nodeB m z = true ↔ 0 ≤ z ∧ z < m.N := by simp [nodeB]
theorem rowB_iff {m : Mx} {z : Int} : rowB m z = true ↔ 0 ≤ z ∧ z < m.R := by simp [rowB]
theorem Up_S (b : Nat) (m : Mx) (z : Int) (on : Bool) : Spec Tryd.prog 41 [.pointer (some ⟨b, 0, none⟩), .int .i64 z, .bool on] [MI b m] fun Γ v Θ => v = .int .i64 (upR m z on).1 ∧ Θ = MI b (upR m z on).2 :: Γ := by
  refine Spec.of_body Tryd.func41 rfl Tryd.ntmps41 rfl ?_
  intro w0 Γ
  show S _ w0 [(0, .pointer (some ⟨b, 0, none⟩)), (1, .int .i64 z), (2, .bool on)] (MI b m :: Γ) _
  refine S.seq fun K1 hK1 => ?_
  refine S.region rfl ?_
  refine S.op (S.q (q_assign rfl) rfl rfl ?_)
  first | with_reducible refine S.nilK ?_ | refine S.nil ?_
  refine hK1 _ _ ?_
  refine S.seq fun K2 hK2 => ?_
  refine S.block ?_
  refine S.seq fun K3 hK3 => ?_
  refine S.region rfl ?_
  refine S.op (S.q (q_move rfl) rfl rfl ?_)
  refine S.op (S.q (q_eqN Tryd.underlying24 rfl rfl) rfl rfl ?_)
  refine S.op (S.q (q_assign rfl) rfl rfl ?_)
  first | with_reducible refine S.nilK ?_ | refine S.nil ?_
  refine hK3 _ _ ?_
  refine S.condF rfl ?_
  refine S.seq fun K4 hK4 => ?_
  refine S.region rfl ?_
  refine S.op (S.q (q_move rfl) rfl rfl ?_)
  refine S.op (S.q (q_move rfl) rfl rfl ?_)
  refine S.op (S.call Tryd.en49 (vs := [_, _]) ⟨rfl, rfl, trivial⟩ (node_S b m z) rfl ?_)
  rintro v Θ ⟨rfl, rfl⟩
  refine S.op (S.q (q_not rfl) rfl rfl ?_)
  refine S.op (S.q (q_assign rfl) rfl rfl ?_)
  first | with_reducible refine S.nilK ?_ | refine S.nil ?_
  refine hK4 _ _ ?_
  refine S.cond rfl (fun h2 => ?_) (fun h2 => ?_)
  · have hn : nodeB m z = false := by simpa using h2
    have hu : upR m z on = (1, m) := by simp [upR, hn]
    refine S.seq fun K5 hK5 => ?_
    refine S.region rfl ?_
    refine S.op (S.q (q_assign rfl) rfl rfl ?_)
    first | with_reducible refine S.nilK ?_ | refine S.nil ?_
    refine hK5 _ _ ?_
    refine S.ret ?_
    with_reducible repeat (first | refine S.then_n ?_ | refine S.then_x ?_ | refine S.then_r ?_ | refine S.inBlock_n ?_ | refine S.inBlock_r ?_ | refine S.inBlock_x rfl ?_ | refine S.noGoto_r ?_ | refine S.noGoto_n ?_ | refine S.noGoto_x ?_)
    exact S.fin (rs := [_]) (vs := [_]) Tryd.results41 (⟨rfl, trivial⟩)  (⟨by rw [hu]; rfl, by rw [hu]⟩) Sub.ent
  · have hn : nodeB m z = true := by simpa using h2
    have hr := nodeB_iff.1 hn
    refine S.miOpen b m fun mb tv l hok hp htn => ?_
    have hN := hok.N16
    refine S.seq fun K6 hK6 => ?_
    refine S.region rfl ?_
    refine S.op (S.q (q_move rfl) rfl rfl ?_)
    refine S.op (S.q (q_assign rfl) rfl rfl ?_)
    first | with_reducible refine S.nilK ?_ | refine S.nil ?_
    refine hK6 _ _ ?_
    refine S.cond rfl (fun h3 => ?_) (fun h3 => ?_)
    · subst h3
      have hu : upR m z true = (0, m.setUp z.toNat true) := by simp [upR, hn]
      refine S.draw ([blk b 99 (mxC m mb tv).toArray]) [9] Tryd.mixed ?_
      refine S.dr_take 0 [1, 2, 3, 6, 7, 8, 9] rfl (by kernel_rfl) rfl rfl rfl (q_move rfl) Sub.ent ?_
      refine S.dr_take 1 [2, 3, 6, 7, 8, 9] rfl (by kernel_rfl) rfl rfl rfl (q_nilCheck rfl) Sub.ent ?_
      refine S.dr_take 2 [3, 6, 7, 8, 9] rfl (by kernel_rfl) rfl rfl rfl (q_field Tryd.fo99_2 rfl) Sub.ent ?_
      refine S.dr_take 3 [6, 7, 8, 9] rfl (by kernel_rfl) rfl rfl rfl (q_load Tryd.at95 rfl rfl) Sub.ent ?_
      refine S.dr_take 4 [5, 6, 7, 8, 9] rfl (by kernel_rfl) rfl rfl rfl (q_move rfl) Sub.ent ?_
      refine S.dr_take 5 [6, 7, 8, 9] rfl (by kernel_rfl) rfl rfl rfl (q_shlB (z.toNat) rfl rfl (by omega) (by omega)) Sub.ent ?_
      refine S.dr_take 6 [7, 8, 9] rfl (by kernel_rfl) rfl rfl rfl (q_orB (m.up) (BitVec.twoPow 16 z.toNat) rfl rfl (rfl) (rfl)) Sub.ent ?_
      refine S.dr_take 7 [8, 9] rfl (by kernel_rfl) rfl rfl rfl (q_nilCheck rfl) Sub.ent ?_
      refine S.dr_take 8 [9] rfl (by kernel_rfl) rfl rfl rfl (q_field Tryd.fo99_2 rfl) Sub.ent ?_
      refine S.dr_1 (i := 9) (by kernel_rfl) rfl rfl ?_
      refine  (S.store (cs' := [_, _, _, _, _]) Tryd.at95 rfl rfl rfl rfl rfl ?_)
      refine S.dr_late ([]) [] rfl ?_
      first | with_reducible refine S.dr_doneK (by kernel_rfl) ?_ | refine S.dr_done (by kernel_rfl) ?_
      with_reducible repeat (first | refine S.then_n ?_ | refine S.then_x ?_ | refine S.then_r ?_ | refine S.inBlock_n ?_ | refine S.inBlock_r ?_ | refine S.inBlock_x rfl ?_ | refine S.noGoto_r ?_ | refine S.noGoto_n ?_ | refine S.noGoto_x ?_)
      refine hK2 _ _ ?_
      refine S.seq fun K7 hK7 => ?_
      refine S.region rfl ?_
      refine S.op (S.q (q_assign rfl) rfl rfl ?_)
      first | with_reducible refine S.nilK ?_ | refine S.nil ?_
      refine hK7 _ _ ?_
      refine S.ret ?_
      with_reducible repeat (first | refine S.then_n ?_ | refine S.then_x ?_ | refine S.then_r ?_ | refine S.inBlock_n ?_ | refine S.inBlock_r ?_ | refine S.inBlock_x rfl ?_ | refine S.noGoto_r ?_ | refine S.noGoto_n ?_ | refine S.noGoto_x ?_)
      first | refine S.miClose (b := b) (m := m.setUp z.toNat true) (mb := mb) (tv := tv) rfl rfl rfl (hok.setUp (by omega) _) hp htn ?_ | refine S.miClose (b := b) (m := m.setUp z.toNat false) (mb := mb) (tv := tv) rfl rfl rfl (hok.setUp (by omega) _) hp htn ?_
      exact S.fin (rs := [_]) (vs := [_]) Tryd.results41 (⟨rfl, trivial⟩)  (⟨by rw [hu]; rfl, by rw [hu]⟩) Sub.ent
    · subst h3
      have hu : upR m z false = (0, m.setUp z.toNat false) := by simp [upR, hn]
      refine S.draw ([blk b 99 (mxC m mb tv).toArray]) [9] Tryd.mixed ?_
      refine S.dr_take 0 [1, 2, 3, 6, 7, 8, 9] rfl (by kernel_rfl) rfl rfl rfl (q_move rfl) Sub.ent ?_
      refine S.dr_take 1 [2, 3, 6, 7, 8, 9] rfl (by kernel_rfl) rfl rfl rfl (q_nilCheck rfl) Sub.ent ?_
      refine S.dr_take 2 [3, 6, 7, 8, 9] rfl (by kernel_rfl) rfl rfl rfl (q_field Tryd.fo99_2 rfl) Sub.ent ?_
      refine S.dr_take 3 [6, 7, 8, 9] rfl (by kernel_rfl) rfl rfl rfl (q_load Tryd.at95 rfl rfl) Sub.ent ?_
      refine S.dr_take 4 [5, 6, 7, 8, 9] rfl (by kernel_rfl) rfl rfl rfl (q_move rfl) Sub.ent ?_
      refine S.dr_take 5 [6, 7, 8, 9] rfl (by kernel_rfl) rfl rfl rfl (q_shlB (z.toNat) rfl rfl (by omega) (by omega)) Sub.ent ?_
      refine S.dr_take 6 [7, 8, 9] rfl (by kernel_rfl) rfl rfl rfl (q_andNotB (m.up) (BitVec.twoPow 16 z.toNat) rfl rfl (rfl) (rfl)) Sub.ent ?_
      refine S.dr_take 7 [8, 9] rfl (by kernel_rfl) rfl rfl rfl (q_nilCheck rfl) Sub.ent ?_
      refine S.dr_take 8 [9] rfl (by kernel_rfl) rfl rfl rfl (q_field Tryd.fo99_2 rfl) Sub.ent ?_
      refine S.dr_1 (i := 9) (by kernel_rfl) rfl rfl ?_
      refine  (S.store (cs' := [_, _, _, _, _]) Tryd.at95 rfl rfl rfl rfl rfl ?_)
      refine S.dr_late ([]) [] rfl ?_
      first | with_reducible refine S.dr_doneK (by kernel_rfl) ?_ | refine S.dr_done (by kernel_rfl) ?_
      with_reducible repeat (first | refine S.then_n ?_ | refine S.then_x ?_ | refine S.then_r ?_ | refine S.inBlock_n ?_ | refine S.inBlock_r ?_ | refine S.inBlock_x rfl ?_ | refine S.noGoto_r ?_ | refine S.noGoto_n ?_ | refine S.noGoto_x ?_)
      refine hK2 _ _ ?_
      refine S.seq fun K8 hK8 => ?_
      refine S.region rfl ?_
      refine S.op (S.q (q_assign rfl) rfl rfl ?_)
      first | with_reducible refine S.nilK ?_ | refine S.nil ?_
      refine hK8 _ _ ?_
      refine S.ret ?_
      with_reducible repeat (first | refine S.then_n ?_ | refine S.then_x ?_ | refine S.then_r ?_ | refine S.inBlock_n ?_ | refine S.inBlock_r ?_ | refine S.inBlock_x rfl ?_ | refine S.noGoto_r ?_ | refine S.noGoto_n ?_ | refine S.noGoto_x ?_)
      first | refine S.miClose (b := b) (m := m.setUp z.toNat true) (mb := mb) (tv := tv) rfl rfl rfl (hok.setUp (by omega) _) hp htn ?_ | refine S.miClose (b := b) (m := m.setUp z.toNat false) (mb := mb) (tv := tv) rfl rfl rfl (hok.setUp (by omega) _) hp htn ?_
      exact S.fin (rs := [_]) (vs := [_]) Tryd.results41 (⟨rfl, trivial⟩)  (⟨by rw [hu]; rfl, by rw [hu]⟩) Sub.ent
def isUpB (m : Mx) (z : Int) : Bool := nodeB m z && m.up.getLsbD z.toNat
theorem IsUp_S (b : Nat) (m : Mx) (z : Int) : Spec Tryd.prog 56 [.pointer (some ⟨b, 0, none⟩), .int .i64 z] [MI b m] fun Γ v Θ => v = .bool (isUpB m z) ∧ Θ = MI b m :: Γ := by
  refine Spec.miOk fun hok => ?_
  refine Spec.of_body Tryd.func56 rfl Tryd.ntmps56 rfl ?_
  intro w0 Γ
  show S _ w0 [(0, .pointer (some ⟨b, 0, none⟩)), (1, .int .i64 z)] (MI b m :: Γ) _
  have hN := hok.N16
  refine S.seq fun K1 hK1 => ?_
  refine S.region rfl ?_
  refine S.op (S.q (q_assign rfl) rfl rfl ?_)
  first | with_reducible refine S.nilK ?_ | refine S.nil ?_
  refine hK1 _ _ ?_
  refine S.seq fun K2 hK2 => ?_
  refine S.regionG ?_
  refine S.g_op rfl (S.q (q_move rfl) rfl rfl ?_)
  refine S.g_op rfl (S.q (q_move rfl) rfl rfl ?_)
  refine S.g_op rfl (S.call Tryd.en49 (vs := [_, _]) ⟨rfl, rfl, trivial⟩ (node_S b m z) rfl ?_)
  rintro v Θ ⟨rfl, rfl⟩
  refine S.g_op rfl (S.q (q_move rfl) rfl rfl ?_)
  rcases Bool.eq_false_or_eq_true (nodeB m z) with hg1_3 | hg1_3
  · have hr := nodeB_iff.1 hg1_3
    refine S.miOpen b m fun mb tv l hok hp htn => ?_
    refine S.g_yes rfl rfl rfl (hg1_3) (S.q (q_move rfl) rfl rfl ?_)
    refine S.g_yes rfl rfl rfl (hg1_3) (S.q (q_nilCheck rfl) rfl rfl ?_)
    refine S.g_yes rfl rfl rfl (hg1_3) (S.q (q_field Tryd.fo99_2 rfl) rfl rfl ?_)
    refine S.g_yes rfl rfl rfl (hg1_3) (S.q (q_load Tryd.at95 rfl rfl) rfl rfl ?_)
    refine S.g_yes rfl rfl rfl (hg1_3) (S.q (q_move rfl) rfl rfl ?_)
    refine S.g_yes rfl rfl rfl (hg1_3) (S.call Tryd.en50 (vs := [_, _]) ⟨rfl, rfl, trivial⟩ (has_S m.up z.toNat z (by omega) (by omega)) rfl ?_)
    rintro v Θ ⟨rfl, rfl⟩
    refine S.miClose (b := b) (m := m) (mb := mb) (tv := tv) rfl rfl rfl hok hp htn ?_
    refine S.g_op rfl (S.q (q_pickT rfl (hg1_3) rfl) rfl rfl ?_)
    refine S.g_op rfl (S.q (q_assign rfl) rfl rfl ?_)
    first | with_reducible refine S.g_nilK ?_ | refine S.g_nil ?_
    refine hK2 _ _ ?_
    refine S.ret ?_
    with_reducible repeat (first | refine S.then_n ?_ | refine S.then_x ?_ | refine S.then_r ?_ | refine S.inBlock_n ?_ | refine S.inBlock_r ?_ | refine S.inBlock_x rfl ?_ | refine S.noGoto_r ?_ | refine S.noGoto_n ?_ | refine S.noGoto_x ?_)
    exact S.fin (rs := [_]) (vs := [_]) Tryd.results56 (⟨rfl, trivial⟩)  (⟨by simp only [resV, isUpB, hg1_3]; rfl, rfl⟩) Sub.ent
  · refine S.g_no rfl rfl rfl (hg1_3) rfl rfl ?_
    refine S.g_no rfl rfl rfl (hg1_3) rfl rfl ?_
    refine S.g_no rfl rfl rfl (hg1_3) rfl rfl ?_
    refine S.g_no rfl rfl rfl (hg1_3) rfl rfl ?_
    refine S.g_no rfl rfl rfl (hg1_3) rfl rfl ?_
    refine S.g_no rfl rfl rfl (hg1_3) rfl rfl ?_
    refine S.g_op rfl (S.q (q_pickF rfl (hg1_3) rfl) rfl rfl ?_)
    refine S.g_op rfl (S.q (q_assign rfl) rfl rfl ?_)
    first | with_reducible refine S.g_nilK ?_ | refine S.g_nil ?_
    refine hK2 _ _ ?_
    refine S.ret ?_
    with_reducible repeat (first | refine S.then_n ?_ | refine S.then_x ?_ | refine S.then_r ?_ | refine S.inBlock_n ?_ | refine S.inBlock_r ?_ | refine S.inBlock_x rfl ?_ | refine S.noGoto_r ?_ | refine S.noGoto_n ?_ | refine S.noGoto_x ?_)
    exact S.fin (rs := [_]) (vs := [_]) Tryd.results56 (⟨rfl, trivial⟩)  (⟨by simp only [resV, isUpB, hg1_3]; rfl, rfl⟩) Sub.ent
theorem put_S (b : Nat) (m : Mx) (x : Jb) (hn : ∀ y ∈ m.js, y.id ≠ x.id) (h1 : 1 ≤ x.id) (h2 : x.id ≤ 4294967295) (h3 : x.row < m.R) (h4 : x.ns ≠ 0#16) (h5 : ∀ i, x.ns.getLsbD i = true → i < m.N) (h6 : tk m.js x.row &&& x.ns = 0#16) :
    Spec Tryd.prog 61 [.pointer (some ⟨b, 0, none⟩), .int .u32 (x.id : Int), jbV x] [MI b m] fun Γ _ Θ => Θ = MI b (m.add x) :: Γ := by
  refine Spec.of_body Tryd.func61 rfl Tryd.ntmps61 rfl ?_
  intro w0 Γ
  show S _ w0 [(0, .pointer (some ⟨b, 0, none⟩)), (1, .int .u32 (x.id : Int)), (2, jbV x)] (MI b m :: Γ) _
  refine S.miOpen b m fun mb tv l hok hp htn => ?_
  refine S.ownSome tv (by have := hok.R1; omega) fun tb tf hta hl1 hl2 hl3 => ?_
  have hR8 := hok.R8
  have hadd := tk_addJ x m.js
  have hset : (tks m).set x.row (bsv (tk m.js x.row ||| x.ns)) = tks (m.add x) := by
    have := tks_set (m := m) (m' := m.add x) (r := x.row) rfl fun q _ => by
      show tk (addJ x m.js) q = _
      rw [hadd]
      by_cases e : x.row = q
      · subst e; rw [if_pos rfl, if_pos rfl]; exact (hadd _).trans (if_pos rfl) |>.symm
      · rw [if_neg e, if_neg e]
    rw [← this]
    show _ = (tks m).set x.row (bsv (tk (addJ x m.js) x.row))
    rw [hadd, if_pos rfl]
  refine S.seq fun K1 hK1 => ?_
  refine S.region rfl ?_
  refine S.op (S.box (cs := [_, _]) rfl rfl rfl ?_)
  intro b5
  first | with_reducible refine S.nilK ?_ | refine S.nil ?_
  refine hK1 _ _ ?_
  refine S.seq fun K2 hK2 => ?_
  refine S.draw ([blk b 99 (mxC m mb tv).toArray, blk b5 102 #[.int .i64 (x.row : Int), bsv x.ns], mapL mb .u32 l]) [6] Tryd.mixed ?_
  refine S.dr_take 0 [1, 2, 3, 6] rfl (by kernel_rfl) rfl rfl rfl (q_move rfl) Sub.ent ?_
  refine S.dr_take 1 [2, 3, 6] rfl (by kernel_rfl) rfl rfl rfl (q_nilCheck rfl) Sub.ent ?_
  refine S.dr_take 2 [3, 6] rfl (by kernel_rfl) rfl rfl rfl (q_field Tryd.fo99_3 rfl) Sub.ent ?_
  refine S.dr_take 3 [6] rfl (by kernel_rfl) rfl rfl rfl (q_load Tryd.at96 rfl rfl) Sub.ent ?_
  refine S.dr_take 4 [6] rfl (by kernel_rfl) rfl rfl rfl (q_move rfl) Sub.ent ?_
  refine S.dr_take 5 [6] rfl (by kernel_rfl) rfl rfl rfl (q_loadS [_, _] Tryd.ag102 rfl rfl ⟨rfl, rfl, trivial⟩) Sub.ent ?_
  refine S.dr_1 (i := 6) (by kernel_rfl) rfl rfl ?_
  refine  (S.mapUpdate Tryd.underlying96 Tryd.underlying36 rfl rfl rfl rfl ?_)
  refine S.dr_late ([]) [] rfl ?_
  first | with_reducible refine S.dr_doneK (by kernel_rfl) ?_ | refine S.dr_done (by kernel_rfl) ?_
  refine hK2 _ _ ?_
  refine S.draw ([blk b 99 (mxC m mb tv).toArray, blk b5 102 #[.int .i64 (x.row : Int), bsv x.ns], own tv 95 1 (tks m)]) [12] Tryd.mixed ?_
  refine S.dr_take 0 [1, 2, 3, 6, 7, 10, 11, 12] rfl (by kernel_rfl) rfl rfl rfl (q_move rfl) Sub.ent ?_
  refine S.dr_take 1 [2, 3, 6, 7, 10, 11, 12] rfl (by kernel_rfl) rfl rfl rfl (q_nilCheck rfl) Sub.ent ?_
  refine S.dr_take 2 [3, 6, 7, 10, 11, 12] rfl (by kernel_rfl) rfl rfl rfl (q_field Tryd.fo99_4 rfl) Sub.ent ?_
  refine S.dr_take 3 [6, 7, 10, 11, 12] rfl (by kernel_rfl) rfl rfl rfl (q_load Tryd.at97 rfl rfl) Sub.ent ?_
  refine S.dr_take 4 [5, 6, 7, 10, 11, 12] rfl (by kernel_rfl) rfl rfl rfl (q_field Tryd.fo102_0 rfl) Sub.ent ?_
  refine S.dr_take 5 [6, 7, 10, 11, 12] rfl (by kernel_rfl) rfl rfl rfl (q_load Tryd.at3 rfl rfl) Sub.ent ?_
  refine S.dr_take 6 [7, 10, 11, 12] rfl (by kernel_rfl) rfl rfl rfl (q_indexO (x.row) Tryd.el97 rfl hta rfl rfl (by omega)) Sub.ent ?_
  refine S.dr_take 7 [10, 11, 12] rfl (by kernel_rfl) rfl rfl rfl (q_loadOw (tv) (x.row) Tryd.at95 rfl hta (by first | rfl | exact Nat.add_assoc _ _ _ | omega) (tks_get h3)) Sub.ent ?_
  refine S.dr_take 8 [9, 10, 11, 12] rfl (by kernel_rfl) rfl rfl rfl (q_field Tryd.fo102_1 rfl) Sub.ent ?_
  refine S.dr_take 9 [10, 11, 12] rfl (by kernel_rfl) rfl rfl rfl (q_load Tryd.at95 rfl rfl) Sub.ent ?_
  refine S.dr_take 10 [11, 12] rfl (by kernel_rfl) rfl rfl rfl (q_orB (tk m.js x.row) (x.ns) rfl rfl (rfl) (rfl)) Sub.ent ?_
  refine S.dr_take 11 [12] rfl (by kernel_rfl) rfl rfl rfl (q_indexO (x.row) Tryd.el97 rfl hta rfl rfl (by omega)) Sub.ent ?_
  refine S.dr_1 (i := 12) (by kernel_rfl) rfl rfl ?_
  refine  (S.storeOw (tv) (x.row) Tryd.at95 rfl rfl rfl hta (by first | rfl | exact Nat.add_assoc _ _ _ | omega) (by rw [tks_len]; omega) (hset) ?_)
  refine S.dr_late ([]) [] rfl ?_
  first | with_reducible refine S.dr_doneK (by kernel_rfl) ?_ | refine S.dr_done (by kernel_rfl) ?_
  with_reducible repeat (first | refine S.then_n ?_ | refine S.then_x ?_ | refine S.then_r ?_ | refine S.inBlock_n ?_ | refine S.inBlock_r ?_ | refine S.inBlock_x rfl ?_ | refine S.noGoto_r ?_ | refine S.noGoto_n ?_ | refine S.noGoto_x ?_)
  refine S.miClose (b := b) (m := m.add x) (mb := mb) (tv := tv) rfl rfl rfl (hok.add hn h1 h2 h3 h4 h5 h6) (put_perm hp hn) htn ?_
  exact S.finN (rs := []) (vs := []) Tryd.results61 (trivial)  (rfl) Sub.ent
end Go.Proofs.YtbhnbnecaejjiaaDoor
