/- RowsRound: going from row to row each row that has anybody comes once, and then the first again. -/
import Derived.Test.YtdmfjjogpmddoaaDoorRowsA
namespace Go.Proofs.YtdmfjjogpmddoaaDoor
open Go.RowKit
set_option maxRecDepth 20000
/-! Eight rows, each busy or not. -/
def nx (l : List Bool) (R s : Nat) : Nat → Option Nat
  | 0 => none
  | i + 1 => match nx l R s i with
    | some r => some r
    | none => if l.getD ((s + i) % R) false then some ((s + i) % R) else none
def nxR (l : List Bool) (R s : Nat) : Nat := (nx l R s R).getD 0
def cntB (l : List Bool) : Nat → Nat
  | 0 => 0
  | i + 1 => if l.getD i false then cntB l i + 1 else cntB l i
def runB (l : List Bool) (R s : Nat) : Nat → List Nat × Nat
  | 0 => ([], nxR l R s)
  | i + 1 => ((runB l R s i).2 :: (runB l R s i).1, nxR l R ((runB l R s i).2 + 1))
def chk1 (l : List Bool) (R s : Nat) : Bool :=
  ((nx l R s R).isSome == decide (0 < cntB l R)) && ((List.range (cntB l R)).all fun i => !((runB l R s i).1.contains (runB l R s i).2) && l.getD (runB l R s i).2 false && Nat.blt (runB l R s i).2 R) && (decide (cntB l R = 0) || decide ((runB l R s (cntB l R)).2 = nxR l R s))
def chk (l : List Bool) : Bool := (List.range 9).all fun R => R == 0 || (List.range (R + 1)).all fun s => chk1 l R s
theorem chk_all : ∀ b0 b1 b2 b3 b4 b5 b6 b7 : Bool, chk [b0, b1, b2, b3, b4, b5, b6, b7] = true := by
  have h : (∀ b0 b1 b2 b3 b4 b5 b6 b7 : Bool, chk [b0, b1, b2, b3, b4, b5, b6, b7] = true) := of_decide_eq_true (by kernel_rfl)
  exact h
def busyL (m : Mx) : List Bool := (List.range 8).map fun r => decide (tk m.js r ≠ 0#16)
theorem busyL_get {m : Mx} {r : Nat} (h : r < 8) : (busyL m).getD r false = decide (tk m.js r ≠ 0#16) := by simp [busyL, h]
theorem chk_busy {m : Mx} (hm : MxOk m) {s : Nat} (hs : s ≤ m.R) : chk1 (busyL m) m.R s = true := by
  have h : chk (busyL m) = true := chk_all _ _ _ _ _ _ _ _
  have h1 := List.all_eq_true.1 h m.R (List.mem_range.2 (by have := hm.R8; omega))
  have h2 := hm.R1
  have e : (m.R == 0) = false := by simp; omega
  rw [e, Bool.false_or] at h1
  exact List.all_eq_true.1 h1 s (List.mem_range.2 (by omega))
theorem nextUp_nx {m : Mx} (hm : MxOk m) {z : Int} {s : Nat} (hz : z + 1 = s) : ∀ i, i ≤ m.R → nextUp m z i = nx (busyL m) m.R s i
  | 0, _ => rfl
  | i + 1, hi => by
    have h8 := hm.R8
    have h1 := hm.R1
    have e : ((z + 1 + i) % m.R).toNat = (s + i) % m.R := by
      rw [hz]
      have : (((s + i) % m.R : Nat) : Int) = ((s : Int) + i) % m.R := by norm_cast
      omega
    have hlt := Nat.mod_lt (s + i) (show m.R > 0 by omega)
    rw [nextUp, nx, nextUp_nx hm hz i (by omega), e, busyL_get (by omega)]
    cases nx (busyL m) m.R s i with
    | some r => rfl
    | none =>
      by_cases h : tk m.js ((s + i) % m.R) = 0#16
      · simp [h]
      · simp [h]
theorem rowJ_tk {m : Mx} (hm : MxOk m) (r : Nat) : 0 < (rowJ m r).length ↔ tk m.js r ≠ 0#16 := by
  constructor
  · intro h e
    obtain ⟨x, hx⟩ := getE h
    obtain ⟨h1, h2⟩ := (mem_rowJ hm).1 (List.mem_of_getElem? hx)
    have h3 := mem_lst.1 (tz_mem (hm.some x h1))
    have h4 := (tk_bit m.js r (tz x.ns)).2 ⟨x, h1, h2, h3⟩
    rw [e] at h4
    simp at h4
  · intro h
    have h3 := mem_lst.1 (tz_mem h)
    obtain ⟨x, h1, h2, _⟩ := (tk_bit m.js r _).1 h3
    exact List.length_pos_of_mem ((mem_rowJ hm).2 ⟨h1, h2⟩)
theorem rowIds_len {m : Mx} {r : Nat} (h : r < m.R) : (rowIds m r).length = (rowJ m r).length := by
  rw [rowIds, if_pos (rowB_iff.2 ⟨by omega, by omega⟩), List.length_map, Int.toNat_natCast]
theorem buildR_ok (r n : Int) (ws gs : List Int) : MxOk (buildR r n ws gs) := by
  have : ∀ (m : Mx) i, MxOk m → MxOk (delUp m gs i) := fun m i hm => by
    induction i with
    | zero => exact hm
    | succ i ih => exact removeR_ok ih _
  exact this _ _ (addUp_ok (mx0_ok (by omega) (by omega) (by omega) (by omega)) ws _ (by omega))
theorem RowsRound_S (r n z : Int) (ws gs : List Int) (s t : SV) (hr : 0 ≤ r ∧ r ≤ 255) (hn : 0 ≤ n ∧ n ≤ 255) {W : World} (hW : TabW W) (hs : BW W s ws) (ht : BW W t gs) : LawS 3 [.int .u8 r, .int .u8 n, s.v, t.v, .int .i64 z] W := by
  refine Spec.of_body Tryd.func3 rfl Tryd.ntmps3 rfl ?_
  intro w0 Γ
  show S _ w0 [(0, .int .u8 r), (1, .int .u8 n), (2, s.v), (3, t.v), (4, .int .i64 z)] (old W :: Γ) _
  obtain ⟨m, hm⟩ : ∃ m, m = buildR r n ws gs := ⟨_, rfl⟩
  have hok : MxOk m := by rw [hm]; exact buildR_ok r n ws gs
  have hR8 := hok.R8
  have hR1 := hok.R1
  obtain ⟨sz, hsz⟩ : ∃ sz : Nat, (if rowB m z then z else -1) + 1 = (sz : Int) := ⟨((if rowB m z then z else -1) + 1).toNat, by
    by_cases h : rowB m z = true
    · rw [if_pos h]; have := rowB_iff.1 h; omega
    · rw [if_neg h]; rfl⟩
  have hszR : sz ≤ m.R := by
    by_cases h : rowB m z = true
    · rw [if_pos h] at hsz; have := rowB_iff.1 h; omega
    · rw [if_neg h] at hsz; omega
  have hnext : nextR m z = (((nxR (busyL m) m.R sz : Nat) : Int), (nx (busyL m) m.R sz m.R).isSome) := by
    rw [nextR, nextUp_nx hok hsz m.R (Nat.le_refl _), nxR]
    cases nx (busyL m) m.R sz m.R <;> rfl
  have hchk := chk_busy hok hszR
  rw [chk1, Bool.and_eq_true, Bool.and_eq_true] at hchk
  obtain ⟨⟨hc1, hc2⟩, hc3⟩ := hchk
  refine S.seq fun K1 hK1 => ?_
  refine S.region rfl ?_
  refine S.op (S.q (q_assign rfl) rfl rfl ?_)
  first | with_reducible refine S.nilK ?_ | refine S.nil ?_
  refine hK1 _ _ ?_
  refine S.seq fun K2 hK2 => ?_
  refine S.seq fun K3 hK3 => ?_
  refine S.region rfl ?_
  refine S.op (S.call Tryd.en10 (vs := []) trivial (awake_S hW) rfl ?_)
  rintro v Θ ⟨rfl, rfl⟩
  refine S.op (S.q (q_not rfl) rfl rfl ?_)
  first | with_reducible refine S.nilK ?_ | refine S.nil ?_
  refine hK3 _ _ ?_
  refine S.condF rfl ?_
  refine S.skip ?_
  with_reducible repeat (first | refine S.then_n ?_ | refine S.then_x ?_ | refine S.then_r ?_ | refine S.inBlock_n ?_ | refine S.inBlock_r ?_ | refine S.inBlock_x rfl ?_ | refine S.noGoto_r ?_ | refine S.noGoto_n ?_ | refine S.noGoto_x ?_)
  refine hK2 _ _ ?_
  refine S.seq fun K4 hK4 => ?_
  refine S.region rfl ?_
  refine S.op (S.q (q_move rfl) rfl rfl ?_)
  refine S.op (S.q (q_move rfl) rfl rfl ?_)
  refine S.op (S.q (q_move rfl) rfl rfl ?_)
  refine S.op (S.q (q_move rfl) rfl rfl ?_)
  refine S.op (S.call Tryd.en11 (vs := [_, _, _, _]) ⟨rfl, rfl, rfl, rfl, trivial⟩ (build_S r n ws gs s t hr hn hW hs ht) rfl ?_)
  rintro v Θ ⟨b, k, rfl, rfl⟩
  rw [← hm]
  refine S.op (S.q (q_move rfl) rfl rfl ?_)
  refine S.op (S.q (q_extract rfl rfl) rfl rfl ?_)
  refine S.op (S.q (q_extract rfl rfl) rfl rfl ?_)
  refine S.op (S.q (q_assign rfl) rfl rfl ?_)
  refine S.op (S.q (q_assign rfl) rfl rfl ?_)
  first | with_reducible refine S.nilK ?_ | refine S.nil ?_
  refine hK4 _ _ ?_
  refine S.seq fun K5 hK5 => ?_
  refine S.region rfl ?_
  refine S.op (S.q (q_move rfl) rfl rfl ?_)
  refine S.op (S.call Tryd.en12 (vs := [_]) ⟨rfl, trivial⟩ (Size_S b m) rfl ?_)
  rintro v Θ ⟨rfl, rfl⟩
  refine S.op (S.q (q_move rfl) rfl rfl ?_)
  refine S.op (S.q (q_extract rfl rfl) rfl rfl ?_)
  refine S.op (S.q (q_extract rfl rfl) rfl rfl ?_)
  refine S.op (S.q (q_assign rfl) rfl rfl ?_)
  refine S.op (S.q (q_assign rfl) rfl rfl ?_)
  first | with_reducible refine S.nilK ?_ | refine S.nil ?_
  refine hK5 _ _ ?_
  refine S.seq fun K6 hK6 => ?_
  refine S.region rfl ?_
  refine S.op (S.q (q_assign rfl) rfl rfl ?_)
  first | with_reducible refine S.nilK ?_ | refine S.nil ?_
  refine hK6 _ _ ?_
  refine S.seq fun K7 hK7 => ?_
  refine S.seq fun K8 hK8 => ?_
  refine S.region rfl ?_
  refine S.op (S.q (q_move rfl) rfl rfl ?_)
  refine S.op (S.q (q_move rfl) rfl rfl ?_)
  first | with_reducible refine S.nilK ?_ | refine S.nil ?_
  refine hK8 _ _ ?_
  refine S.block ?_
  refine S.loop (fun q ρ' Γ' => ∃ i : Nat, q = m.R - i ∧ i ≤ m.R ∧ ρ' = [(4, .int .i64 z), (11, .pointer (some ⟨b, 0, none⟩)), (15, .int .i64 (cntB (busyL m) i : Nat)), (36, .int .i64 (m.R : Int)), (37, .int .i64 (i : Int))] ∧ Γ' = MI b m :: old W :: Γ) (m := _) (ρ0 := _) (Γ0 := _) (⟨0, rfl, by omega, rfl, rfl⟩) (by repeat (first | exact trivial | refine ⟨rfl, ?_⟩)) Sub.ent ?_
  rintro q ρ' Γ' ⟨i, hq, hi, rfl, rfl⟩
  have hcb : cntB (busyL m) i ≤ i := by
    clear hq hi
    induction i with
    | zero => exact Nat.le_refl _
    | succ i ih => rw [cntB]; split <;> omega
  refine S.seq fun K9 hK9 => ?_
  refine S.region rfl ?_
  refine S.op (S.q (q_lt rfl rfl) rfl rfl ?_)
  first | with_reducible refine S.nilK ?_ | refine S.nil ?_
  refine hK9 _ _ ?_
  refine S.seq fun K10 hK10 => ?_
  refine S.condD rfl (fun h2 => ?_) (fun h2 => ?_)
  · refine S.skip ?_
    with_reducible repeat (first | refine S.then_n ?_ | refine S.then_x ?_ | refine S.then_r ?_ | refine S.inBlock_n ?_ | refine S.inBlock_r ?_ | refine S.inBlock_x rfl ?_ | refine S.noGoto_r ?_ | refine S.noGoto_n ?_ | refine S.noGoto_x ?_)
    refine hK10 _ _ ?_
    refine S.seq fun K11 hK11 => ?_
    refine S.block ?_
    refine S.seq fun K12 hK12 => ?_
    refine S.region rfl ?_
    refine S.op (S.q (q_move rfl) rfl rfl ?_)
    refine S.op (S.q (q_assign rfl) rfl rfl ?_)
    first | with_reducible refine S.nilK ?_ | refine S.nil ?_
    refine hK12 _ _ ?_
    refine S.seq fun K13 hK13 => ?_
    refine S.region rfl ?_
    refine S.op (S.q (q_move rfl) rfl rfl ?_)
    refine S.op (S.q (q_move rfl) rfl rfl ?_)
    refine S.op (S.call Tryd.en13 (vs := [_, _]) ⟨rfl, rfl, trivial⟩ (Row_S b m i hW) rfl ?_)
    rintro v Θ ⟨rv, rfl, hrv, rfl⟩
    refine S.op (S.q (q_len Tryd.underlying29 rfl) rfl rfl ?_)
    refine S.op (S.q (q_gt rfl rfl) rfl rfl ?_)
    first | with_reducible refine S.nilK ?_ | refine S.nil ?_
    refine hK13 _ _ ?_
    refine S.condD rfl (fun h3 => ?_) (fun h3 => ?_)
    · have hbi : (busyL m).getD i false = true := by
        rw [busyL_get (by omega)]
        exact decide_eq_true ((rowJ_tk hok i).1 (by rw [← rowIds_len (by omega)]; omega))
      have hcs : cntB (busyL m) (i + 1) = cntB (busyL m) i + 1 := by rw [cntB, if_pos hbi]
      refine S.region rfl ?_
      refine S.op (S.q (q_move rfl) rfl rfl ?_)
      refine S.op (S.q (q_add rfl rfl (inI64 (by omega) (by omega))) rfl rfl ?_)
      refine S.op (S.q (q_assign rfl) rfl rfl ?_)
      first | with_reducible refine S.nilK ?_ | refine S.nil ?_
      with_reducible repeat (first | refine S.then_n ?_ | refine S.then_x ?_ | refine S.then_r ?_ | refine S.inBlock_n ?_ | refine S.inBlock_r ?_ | refine S.inBlock_x rfl ?_ | refine S.noGoto_r ?_ | refine S.noGoto_n ?_ | refine S.noGoto_x ?_)
      refine hK11 _ _ ?_
      refine S.region rfl ?_
      refine S.op (S.q (q_add rfl rfl (inI64 (by omega) (by omega))) rfl rfl ?_)
      refine S.op (S.q (q_move rfl) rfl rfl ?_)
      first | with_reducible refine S.nilK ?_ | refine S.nil ?_
      with_reducible repeat (first | refine S.then_n ?_ | refine S.then_x ?_ | refine S.then_r ?_ | refine S.inBlock_n ?_ | refine S.inBlock_r ?_ | refine S.inBlock_x rfl ?_ | refine S.noGoto_r ?_ | refine S.noGoto_n ?_ | refine S.noGoto_x ?_)
      first | exact S.next (q - 1) ⟨i + 1, by omega, by omega, by rw [hcs], rfl⟩ (by omega) (by repeat (first | exact trivial | refine ⟨rfl, ?_⟩)) Sub.ent
    · have hbi : ¬ (busyL m).getD i false = true := by
        rw [busyL_get (by omega), decide_eq_true_eq]
        intro h9
        have := (rowJ_tk hok i).2 h9
        rw [← rowIds_len (by omega)] at this
        omega
      have hcs : cntB (busyL m) (i + 1) = cntB (busyL m) i := by rw [cntB, if_neg hbi]
      refine S.skip ?_
      with_reducible repeat (first | refine S.then_n ?_ | refine S.then_x ?_ | refine S.then_r ?_ | refine S.inBlock_n ?_ | refine S.inBlock_r ?_ | refine S.inBlock_x rfl ?_ | refine S.noGoto_r ?_ | refine S.noGoto_n ?_ | refine S.noGoto_x ?_)
      with_reducible repeat (first | refine S.then_n ?_ | refine S.then_x ?_ | refine S.then_r ?_ | refine S.inBlock_n ?_ | refine S.inBlock_r ?_ | refine S.inBlock_x rfl ?_ | refine S.noGoto_r ?_ | refine S.noGoto_n ?_ | refine S.noGoto_x ?_)
      refine hK11 _ _ ?_
      refine S.region rfl ?_
      refine S.op (S.q (q_add rfl rfl (inI64 (by omega) (by omega))) rfl rfl ?_)
      refine S.op (S.q (q_move rfl) rfl rfl ?_)
      first | with_reducible refine S.nilK ?_ | refine S.nil ?_
      with_reducible repeat (first | refine S.then_n ?_ | refine S.then_x ?_ | refine S.then_r ?_ | refine S.inBlock_n ?_ | refine S.inBlock_r ?_ | refine S.inBlock_x rfl ?_ | refine S.noGoto_r ?_ | refine S.noGoto_n ?_ | refine S.noGoto_x ?_)
      first | exact S.next (q - 1) ⟨i + 1, by omega, by omega, by rw [hcs], rfl⟩ (by omega) (by repeat (first | exact trivial | refine ⟨rfl, ?_⟩)) Sub.ent
  · have hiR : i = m.R := by omega
    subst hiR
    have hx1 : (nextR m z).2 = decide ((0 : Int) < cntB (busyL m) m.R) := by
      rw [hnext]
      have := eq_of_beq hc1
      rw [this]
      exact decide_eq_decide.2 (by omega)
    have hx2 : (nextR m z).1 = ((runB (busyL m) m.R sz 0).2 : Nat) := by rw [hnext]; rfl
    refine S.exit ?_
    with_reducible repeat (first | refine S.then_n ?_ | refine S.then_x ?_ | refine S.then_r ?_ | refine S.inBlock_n ?_ | refine S.inBlock_r ?_ | refine S.inBlock_x rfl ?_ | refine S.noGoto_r ?_ | refine S.noGoto_n ?_ | refine S.noGoto_x ?_)
    with_reducible refine S.inBlock_s ?_
    with_reducible repeat (first | refine S.then_n ?_ | refine S.then_x ?_ | refine S.then_r ?_ | refine S.inBlock_n ?_ | refine S.inBlock_r ?_ | refine S.inBlock_x rfl ?_ | refine S.noGoto_r ?_ | refine S.noGoto_n ?_ | refine S.noGoto_x ?_)
    refine hK7 _ _ ?_
    refine S.seq fun K14 hK14 => ?_
    refine S.region rfl ?_
    refine S.op (S.q (q_move rfl) rfl rfl ?_)
    refine S.op (S.q (q_move rfl) rfl rfl ?_)
    refine S.op (S.call Tryd.en14 (vs := [_, _]) ⟨rfl, rfl, trivial⟩ (Next_S b m z) rfl ?_)
    rintro v Θ ⟨rfl, rfl⟩
    rw [hx1, hx2]
    refine S.op (S.q (q_move rfl) rfl rfl ?_)
    refine S.op (S.q (q_extract rfl rfl) rfl rfl ?_)
    refine S.op (S.q (q_extract rfl rfl) rfl rfl ?_)
    refine S.op (S.q (q_assign rfl) rfl rfl ?_)
    refine S.op (S.q (q_assign rfl) rfl rfl ?_)
    first | with_reducible refine S.nilK ?_ | refine S.nil ?_
    refine hK14 _ _ ?_
    refine S.seq fun K15 hK15 => ?_
    refine S.seq fun K16 hK16 => ?_
    refine S.region rfl ?_
    refine S.op (S.q (q_move rfl) rfl rfl ?_)
    refine S.op (S.q (q_move rfl) rfl rfl ?_)
    refine S.op (S.q (q_gt rfl rfl) rfl rfl ?_)
    refine S.op (S.q (q_neB Tryd.underlying4 rfl rfl) rfl rfl ?_)
    first | with_reducible refine S.nilK ?_ | refine S.nil ?_
    refine hK16 _ _ ?_
    refine S.cond rfl (fun h4 => ?_) (fun h4 => ?_)
    · exact absurd h4 (by simp)
    · refine S.skip ?_
      with_reducible repeat (first | refine S.then_n ?_ | refine S.then_x ?_ | refine S.then_r ?_ | refine S.inBlock_n ?_ | refine S.inBlock_r ?_ | refine S.inBlock_x rfl ?_ | refine S.noGoto_r ?_ | refine S.noGoto_n ?_ | refine S.noGoto_x ?_)
      refine hK15 _ _ ?_
      refine S.seq fun K17 hK17 => ?_
      refine S.region rfl ?_
      refine S.op (S.makeMap .i64 rfl ?_)
      intro b58
      refine S.op (S.q (q_assign rfl) rfl rfl ?_)
      first | with_reducible refine S.nilK ?_ | refine S.nil ?_
      refine hK17 _ _ ?_
      refine S.seq fun K18 hK18 => ?_
      refine S.region rfl ?_
      refine S.op (S.q (q_move rfl) rfl rfl ?_)
      refine S.op (S.q (q_assign rfl) rfl rfl ?_)
      first | with_reducible refine S.nilK ?_ | refine S.nil ?_
      refine hK18 _ _ ?_
      refine S.seq fun K19 hK19 => ?_
      refine S.seq fun K20 hK20 => ?_
      refine S.region rfl ?_
      refine S.op (S.q (q_move rfl) rfl rfl ?_)
      refine S.op (S.q (q_move rfl) rfl rfl ?_)
      first | with_reducible refine S.nilK ?_ | refine S.nil ?_
      refine hK20 _ _ ?_
      refine S.block ?_
      refine S.loop (fun q ρ' Γ' => ∃ (i : Nat) (row : Nat) (seen : List Nat) (ml : List (Int × Value)), q = cntB (busyL m) m.R - i ∧ i ≤ cntB (busyL m) m.R ∧ runB (busyL m) m.R sz i = (seen, row) ∧ (∀ j : Nat, alGet (j : Int) ml = if j ∈ seen then some (.bool true) else none) ∧   ρ' = [(11, .pointer (some ⟨b, 0, none⟩)), (15, .int .i64 (cntB (busyL m) m.R : Nat)), (17, .int .i64 ((runB (busyL m) m.R sz 0).2 : Nat)), (19, .map (some b58)), (20, .int .i64 (row : Nat)), (60, .int .i64 (cntB (busyL m) m.R : Nat)), (61, .int .i64 (i : Int))] ∧ Γ' = mapL b58 .i64 ml :: MI b m :: old W :: Γ) (m := _) (ρ0 := _) (Γ0 := _) (⟨0, _, [], [], rfl, by omega, rfl, fun _ => rfl, rfl, rfl⟩) (by repeat (first | exact trivial | refine ⟨rfl, ?_⟩)) Sub.ent ?_
      rintro q ρ' Γ' ⟨i, row, seen, ml, hq, hi, hrun, hml, rfl, rfl⟩
      refine S.seq fun K21 hK21 => ?_
      refine S.region rfl ?_
      refine S.op (S.q (q_lt rfl rfl) rfl rfl ?_)
      first | with_reducible refine S.nilK ?_ | refine S.nil ?_
      refine hK21 _ _ ?_
      refine S.seq fun K22 hK22 => ?_
      refine S.condD rfl (fun h5 => ?_) (fun h5 => ?_)
      · have hci := List.all_eq_true.1 hc2 i (List.mem_range.2 (by omega))
        rw [hrun] at hci
        simp only [Bool.and_eq_true, Bool.not_eq_true', List.contains_eq_mem, decide_eq_false_iff_not] at hci
        obtain ⟨⟨hci1, hci2⟩, hci3⟩ := hci
        have hrR : row < m.R := by simp [Nat.blt] at hci3; omega
        rw [busyL_get (by omega)] at hci2
        have hci2 := of_decide_eq_true hci2
        have hrl := (rowJ_tk hok row).2 hci2
        rw [← rowIds_len hrR] at hrl
        refine S.skip ?_
        with_reducible repeat (first | refine S.then_n ?_ | refine S.then_x ?_ | refine S.then_r ?_ | refine S.inBlock_n ?_ | refine S.inBlock_r ?_ | refine S.inBlock_x rfl ?_ | refine S.noGoto_r ?_ | refine S.noGoto_n ?_ | refine S.noGoto_x ?_)
        refine hK22 _ _ ?_
        refine S.seq fun K23 hK23 => ?_
        refine S.block ?_
        refine S.seq fun K24 hK24 => ?_
        refine S.seq fun K25 hK25 => ?_
        refine S.regionG ?_
        refine S.g_op rfl (S.q (q_move rfl) rfl rfl ?_)
        refine S.g_op rfl (S.q (q_move rfl) rfl rfl ?_)
        refine S.g_op rfl (S.q (q_lookup1 (.bool false) Tryd.underlying33 Tryd.underlying3 Tryd.zv4 rfl rfl rfl (by rw [hml row, if_neg hci1]; rfl)) rfl rfl ?_)
        refine S.g_op rfl (S.q (q_move rfl) rfl rfl ?_)
        refine S.g_yes rfl rfl rfl (rfl) (S.q (q_move rfl) rfl rfl ?_)
        refine S.g_yes rfl rfl rfl (rfl) (S.q (q_move rfl) rfl rfl ?_)
        refine S.g_yes rfl rfl rfl (rfl) (S.call Tryd.en13 (vs := [_, _]) ⟨rfl, rfl, trivial⟩ (Row_S b m row hW) rfl ?_)
        rintro v Θ ⟨rv, rfl, hrv, rfl⟩
        refine S.g_yes rfl rfl rfl (rfl) (S.q (q_len Tryd.underlying29 rfl) rfl rfl ?_)
        refine S.g_yes rfl rfl rfl (rfl) (S.q (q_eq rfl rfl) rfl rfl ?_)
        refine S.g_op rfl (S.q (q_pickF rfl (rfl) rfl) rfl rfl ?_)
        first | with_reducible refine S.g_nilK ?_ | refine S.g_nil ?_
        refine hK25 _ _ ?_
        refine S.condD rfl (fun h6 => ?_) (fun h6 => ?_)
        · omega
        · refine S.skip ?_
          with_reducible repeat (first | refine S.then_n ?_ | refine S.then_x ?_ | refine S.then_r ?_ | refine S.inBlock_n ?_ | refine S.inBlock_r ?_ | refine S.inBlock_x rfl ?_ | refine S.noGoto_r ?_ | refine S.noGoto_n ?_ | refine S.noGoto_x ?_)
          refine hK24 _ _ ?_
          refine S.seq fun K26 hK26 => ?_
          refine S.region rfl ?_
          refine S.op (S.q (q_move rfl) rfl rfl ?_)
          refine S.op (S.q (q_move rfl) rfl rfl ?_)
          refine S.op (S.mapUpdate Tryd.underlying33 Tryd.underlying3 rfl rfl rfl rfl ?_)
          first | with_reducible refine S.nilK ?_ | refine S.nil ?_
          refine hK26 _ _ ?_
          refine S.region rfl ?_
          refine S.op (S.q (q_move rfl) rfl rfl ?_)
          refine S.op (S.q (q_move rfl) rfl rfl ?_)
          refine S.op (S.call Tryd.en14 (vs := [_, _]) ⟨rfl, rfl, trivial⟩ (Next_S b m row) rfl ?_)
          rintro v Θ ⟨rfl, rfl⟩
          have hz2 : (if rowB m (row : Int) then (row : Int) else -1) + 1 = ((row + 1 : Nat) : Int) := by rw [if_pos (rowB_iff.2 (by omega))]; rfl
          have hn2 : (nextR m row).1 = (nxR (busyL m) m.R (row + 1) : Nat) := by
            rw [nextR, nextUp_nx hok hz2 m.R (Nat.le_refl _), nxR]
            cases nx (busyL m) m.R (row + 1) m.R <;> rfl
          rw [hn2]
          refine S.op (S.q (q_move rfl) rfl rfl ?_)
          refine S.op (S.q (q_extract rfl rfl) rfl rfl ?_)
          refine S.op (S.q (q_extract rfl rfl) rfl rfl ?_)
          refine S.op (S.q (q_assign rfl) rfl rfl ?_)
          first | with_reducible refine S.nilK ?_ | refine S.nil ?_
          with_reducible repeat (first | refine S.then_n ?_ | refine S.then_x ?_ | refine S.then_r ?_ | refine S.inBlock_n ?_ | refine S.inBlock_r ?_ | refine S.inBlock_x rfl ?_ | refine S.noGoto_r ?_ | refine S.noGoto_n ?_ | refine S.noGoto_x ?_)
          refine hK23 _ _ ?_
          refine S.region rfl ?_
          refine S.op (S.q (q_add rfl rfl (inI64 (by omega) (by omega))) rfl rfl ?_)
          refine S.op (S.q (q_move rfl) rfl rfl ?_)
          first | with_reducible refine S.nilK ?_ | refine S.nil ?_
          with_reducible repeat (first | refine S.then_n ?_ | refine S.then_x ?_ | refine S.then_r ?_ | refine S.inBlock_n ?_ | refine S.inBlock_r ?_ | refine S.inBlock_x rfl ?_ | refine S.noGoto_r ?_ | refine S.noGoto_n ?_ | refine S.noGoto_x ?_)
          have hml2 : ∀ j : Nat, alGet (j : Int) (alPut (row : Int) (.bool true) ml) = if j ∈ row :: seen then some (.bool true) else none := fun j => by
            rw [alGet_put, hml j]
            by_cases e : j = row
            · subst e; simp
            · rw [if_neg (by omega)]; simp [e]
          exact S.next (q - 1) (⟨i + 1, nxR (busyL m) m.R (row + 1), row :: seen, _, by omega, by omega, by rw [runB, hrun], hml2, rfl, rfl⟩) (by omega) (by repeat (first | exact trivial | refine ⟨rfl, ?_⟩)) Sub.ent
      · have hic : i = cntB (busyL m) m.R := by omega
        rw [hic] at hrun
        refine S.exit ?_
        with_reducible repeat (first | refine S.then_n ?_ | refine S.then_x ?_ | refine S.then_r ?_ | refine S.inBlock_n ?_ | refine S.inBlock_r ?_ | refine S.inBlock_x rfl ?_ | refine S.noGoto_r ?_ | refine S.noGoto_n ?_ | refine S.noGoto_x ?_)
        with_reducible refine S.inBlock_s ?_
        with_reducible repeat (first | refine S.then_n ?_ | refine S.then_x ?_ | refine S.then_r ?_ | refine S.inBlock_n ?_ | refine S.inBlock_r ?_ | refine S.inBlock_x rfl ?_ | refine S.noGoto_r ?_ | refine S.noGoto_n ?_ | refine S.noGoto_x ?_)
        refine hK19 _ _ ?_
        refine S.seq fun K27 hK27 => ?_
        refine S.regionG ?_
        refine S.g_op rfl (S.q (q_move rfl) rfl rfl ?_)
        refine S.g_op rfl (S.q (q_eq rfl rfl) rfl rfl ?_)
        refine S.g_op rfl (S.q (q_move rfl) rfl rfl ?_)
        by_cases hg24_2 : ((cntB (busyL m) m.R : Nat) : Int) = 0
        · refine S.g_no rfl rfl rfl (decide_eq_true hg24_2) rfl rfl ?_
          refine S.g_no rfl rfl rfl (decide_eq_true hg24_2) rfl rfl ?_
          refine S.g_no rfl rfl rfl (decide_eq_true hg24_2) rfl rfl ?_
          refine S.g_op rfl (S.q (q_pickT rfl (decide_eq_true hg24_2) rfl) rfl rfl ?_)
          refine S.g_op rfl (S.q (q_assign rfl) rfl rfl ?_)
          first | with_reducible refine S.g_nilK ?_ | refine S.g_nil ?_
          refine hK27 _ _ ?_
          refine S.ret ?_
          with_reducible repeat (first | refine S.then_n ?_ | refine S.then_x ?_ | refine S.then_r ?_ | refine S.inBlock_n ?_ | refine S.inBlock_r ?_ | refine S.inBlock_x rfl ?_ | refine S.noGoto_r ?_ | refine S.noGoto_n ?_ | refine S.noGoto_x ?_)
          exact S.fin (rs := [_]) (vs := [_]) Tryd.results3 (⟨rfl, trivial⟩)  (⟨by first | rfl | (simp only [resV]; rw [decide_eq_true hrow]), rfl⟩) Sub.ent
        · have hrow : (row : Int) = ((runB (busyL m) m.R sz 0).2 : Nat) := by
            rw [hrun, Bool.or_eq_true, decide_eq_true_eq, decide_eq_true_eq] at hc3
            have := hc3.resolve_left (by omega)
            exact congrArg _ this
          refine S.g_yes rfl rfl rfl (decide_eq_false hg24_2) (S.q (q_move rfl) rfl rfl ?_)
          refine S.g_yes rfl rfl rfl (decide_eq_false hg24_2) (S.q (q_move rfl) rfl rfl ?_)
          refine S.g_yes rfl rfl rfl (decide_eq_false hg24_2) (S.q (q_eq rfl rfl) rfl rfl ?_)
          refine S.g_op rfl (S.q (q_pickF rfl (decide_eq_false hg24_2) rfl) rfl rfl ?_)
          refine S.g_op rfl (S.q (q_assign rfl) rfl rfl ?_)
          first | with_reducible refine S.g_nilK ?_ | refine S.g_nil ?_
          refine hK27 _ _ ?_
          refine S.ret ?_
          with_reducible repeat (first | refine S.then_n ?_ | refine S.then_x ?_ | refine S.then_r ?_ | refine S.inBlock_n ?_ | refine S.inBlock_r ?_ | refine S.inBlock_x rfl ?_ | refine S.noGoto_r ?_ | refine S.noGoto_n ?_ | refine S.noGoto_x ?_)
          exact S.fin (rs := [_]) (vs := [_]) Tryd.results3 (⟨rfl, trivial⟩)  (⟨by first | rfl | (simp only [resV]; rw [decide_eq_true hrow]), rfl⟩) Sub.ent
open Go.ChangeShapes Go.WideShapes Go.ChangeAt
theorem RowsRound_law {H : Type} (enc : TypeId × Value → H) : LawWalkT enc Rows.rowsRoundRow.laid 3 Tryd.f3 := by
  intro W base args ds before hval hA _ _ hL
  rw [Tryd.params3] at hA hval
  obtain ⟨v0, vs0, d0, ds0, p0, q0, hargs, rfl, rfl, h0, r0⟩ := trodAll_cons hA
  obtain ⟨v1, vs1, d1, ds1, p1, q1, rfl, rfl, rfl, h1, r1⟩ := trodAll_cons r0
  obtain ⟨v2, vs2, d2, ds2, p2, q2, rfl, rfl, rfl, h2, r2⟩ := trodAll_cons r1
  obtain ⟨v3, vs3, d3, ds3, p3, q3, rfl, rfl, rfl, h3, r3⟩ := trodAll_cons r2
  obtain ⟨v4, vs4, d4, ds4, p4, q4, rfl, rfl, rfl, h4, r4⟩ := trodAll_cons r3
  obtain ⟨rfl, rfl, rfl⟩ := trodAll_nil r4
  obtain rfl : args = #[v0, v1, v2, v3, v4] := by cases args; simp_all
  obtain ⟨r, rfl, hr⟩ := arg_int Tryd.underlying5 (hval 0 5 v0 rfl rfl) h0
  obtain ⟨n, rfl, hn⟩ := arg_int Tryd.underlying5 (hval 1 5 v1 rfl rfl) h1
  obtain ⟨s, ws, e2, hs⟩ := rd_bytes (arg_slice 4 Tryd.underlying22 (by kernel_rfl) (hval 2 22 v2 rfl rfl) h2)
  simp only [List.cons.injEq, and_true] at e2
  subst e2
  obtain ⟨t, gs, e3, ht⟩ := rd_bytes (arg_slice 4 Tryd.underlying22 (by kernel_rfl) (hval 3 22 v3 rfl rfl) h3)
  simp only [List.cons.injEq, and_true] at e3
  subst e3
  obtain ⟨z, rfl, hz⟩ := arg_int Tryd.underlying3 (hval 4 3 v4 rfl rfl) h4
  exact law_run (RowsRound_S r n z ws gs s t (u8_rng hr) (u8_rng hn) (tabW_of rfl hL) hs ht)
set_option maxRecDepth 100000 in
theorem RowsRound_met (os : Os) (args : Array Value) : laidMetH Tryd.prog Rows.rowsRoundRow.laid ((World.doorLaid Tryd.prog 14 os).forCall (fun _ _ => 0) ⟨#[], args, []⟩).memory :=
  laidMetH_of_parts3 (fuel := 8) (laidMet_of_run' 8 (by kernel_rfl) (by kernel_rfl)) (by kernel_rfl) (by kernel_rfl)
set_option maxRecDepth 100000 in
theorem RowsRound_lifted (os : Os) (started : os.Started) (H : Type) (enc : TypeId × Value → H) :
    ReturnsInHanded {} Tryd.checked os 3 .any (fun w args => (Rows.rowsRoundSpec.pre enc Tryd.prog Tryd.f3 [] false w args ∧ laidMetH Tryd.prog Rows.rowsRoundRow.laid w) ∧ sizedMet enc Tryd.prog Tryd.f3 (OpenSpec.ofChange Rows.rowsRoundSpec) false w args) (Rows.rowsRoundSpec.post enc Tryd.prog Tryd.f3 false true false false) :=
  lift_trueT started Tryd.func3 (by kernel_rfl)
    (ChangeSpec.witness_shaped (enc := enc) (C := Tryd.checked) (os := os) (X := fun w _ => laidMetH Tryd.prog Rows.rowsRoundRow.laid w) false (World.doorLaid Tryd.prog 14 os) #[.int .u8 0, .int .u8 0, .slice none 0 0, .slice none 0 0, .int .i64 0] 8 rfl (World.shaped_of_RefB (by kernel_rfl) (by kernel_rfl)) (by kernel_rfl) (by kernel_rfl) (by kernel_rfl) (RowsRound_met os _))
    rfl rfl (by kernel_rfl) (fun ds h => by match ds, h with | [a0, a1, a2, a3, a4], _ => rfl) (RowsRound_law enc)
theorem RowsRound_over : Rows.rowsRoundRow.holds Tryd.pinned (OpenSpec.ofChange Rows.rowsRoundSpec) :=
  OpenClaim.holds_of_wide 3 Tryd.f3 rfl rfl rfl rfl rfl rfl rfl ⟨rfl, rfl, rfl, rfl, rfl⟩ rfl rfl rfl rfl rfl (by kernel_rfl) Tryd.func3 (by kernel_rfl)
    (of_decide_eq_true (by kernel_rfl)) (by unfold Func.isWrapper; first | (rw [if_pos (by decide +kernel)]; kernel_rfl) | (rw [if_neg (by decide +kernel)]; exact ⟨rfl, rfl⟩))
    (fun os started H enc _ => RowsRound_lifted os started H enc)
theorem RowsRound_holds : Rows.RowsRoundCardSaid :=
  Claim7.holds_tied_plain_at .later [] [.data] true (true, "86a1950679c6e302df567596b1ce70534988441a199adcc810f44d25cfbe767f") true
    RowsRound_over (fun _ h => by cases h) (by kernel_rfl) (fun _ h => by cases h) rowsRound_row_tie rfl ⟨rfl, rfl⟩ (by kernel_rfl) rfl
    (fun f fn hf hfn => by
      obtain rfl : f = 3 := Option.some.inj ((show Tryd.prog.funcNamed "quadrille/quadrillelaw12.RowsRound" = some 3 by kernel_rfl).symm.trans hf) |>.symm
      obtain rfl : fn = Tryd.f3 := (Option.some.inj (Tryd.func3.symm.trans hfn)).symm
      exact ⟨by kernel_rfl, fun j t ht => by
        rw [Tryd.params3] at ht
        have hm : t ∈ [5, 5, 22, 22, 3] := by simpa using Array.mem_of_getElem? ht
        have hall : ([5, 5, 22, 22, 3].all fun u => !Tryd.prog.wantsStandIn u) = true := by kernel_rfl
        exact (show Tryd.prog.wantsStandIn t = false by simpa using List.all_eq_true.1 hall t hm)⟩)
    (by kernel_rfl)
#print axioms RowsRound_holds
end Go.Proofs.YtdmfjjogpmddoaaDoor
