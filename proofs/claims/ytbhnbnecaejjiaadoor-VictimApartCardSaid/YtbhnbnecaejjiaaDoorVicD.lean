/- Who has to make room: Choose. -/
import Derived.Test.YtbhnbnecaejjiaaDoorVicC
namespace Go.Proofs.YtbhnbnecaejjiaaDoor
open Go.RowKit
set_option maxRecDepth 20000
def cmpV (v w : List Cd) : Int := orI [cmpI (v.length : Int) (w.length : Int), cmpI (topR v) (topR w)]
def chUp (m : Mx) (tier k : Int) (l : List Cd) : Nat → List Cd × Nat × Bool
  | 0 => ([], 0, false)
  | i + 1 => if ((ofV m (i : Nat) tier k l).2 && (!(chUp m tier k l i).2.2 || decide (cmpV (ofV m (i : Nat) tier k l).1 (chUp m tier k l i).1 < 0))) = true then ((ofV m (i : Nat) tier k l).1, i, true) else chUp m tier k l i
def choR (m : Mx) (tier k : Int) (l : List Cd) : List Cd × Nat × Bool := chUp m tier k l m.R
theorem lesR_mem {m : Mx} {row tier : Int} {l : List Cd} {x : Cd} (h : x ∈ lesR m row tier l) : x ∈ l := by
  have h1 := (srtC_perm _).mem_iff.1 h
  exact List.mem_of_mem_take (lesUp_mem (Nat.le_refl _) h1)
theorem ofV_mem {m : Mx} {row tier k : Int} {l : List Cd} {x : Cd} (h : x ∈ (ofV m row tier k l).1) : x ∈ l := by
  unfold ofV at h
  split at h
  · cases h
  · split at h
    · exact lesR_mem (List.mem_of_mem_take h)
    · cases h
theorem ofV_len (m : Mx) (row tier k : Int) (l : List Cd) : (ofV m row tier k l).1.length ≤ l.length := by
  have := lesR_len m row tier l
  unfold ofV
  split
  · simp
  · split
    · simp only [List.length_take]; omega
    · simp
set_option maxHeartbeats 1000000 in
theorem Choose_S (b : Nat) (m : Mx) (tier k : Int) (R : Assn) (s : SV) (l : List Cd) (hsn : s.n = l.length) (hl : l.length ≤ 1000) (ht : ∀ x ∈ l, 0 ≤ x.2 ∧ x.2 ≤ 255) (hR : RdS R s s.n 2 (l.flatMap cdC)) {W : World} (hW : TabW W) : Spec Tryd.prog 34 [.pointer (some ⟨b, 0, none⟩), s.v, .int .u8 tier, .int .i64 k] [MI b m, R, old W] fun Γ v Θ =>
    ∃ u : SV, v = .tuple #[.agg #[.int .i64 ((choR m tier k l).2.1 : Nat), u.v], .bool (choR m tier k l).2.2] ∧ u.n = (choR m tier k l).1.length ∧ Θ = own u 36 1 (idsV (jobsR (choR m tier k l).1)) :: MI b m :: R :: old W :: Γ := by
  refine Spec.miOk fun hok => ?_
  refine Spec.of_body Tryd.func34 rfl Tryd.ntmps34 rfl ?_
  intro w0 Γ
  show S _ w0 [(0, .pointer (some ⟨b, 0, none⟩)), (1, s.v), (2, .int .u8 tier), (3, .int .i64 k)] (MI b m :: R :: old W :: Γ) _
  have hR8 := hok.R8
  refine S.seq fun K1 hK1 => ?_
  refine S.region rfl ?_
  refine S.op (S.alloc Tryd.z70 rfl ?_)
  intro b8
  refine S.op (S.q (q_assign rfl) rfl rfl ?_)
  first | with_reducible refine S.nilK ?_ | refine S.nil ?_
  refine hK1 _ _ ?_
  refine S.seq fun K2 hK2 => ?_
  refine S.region rfl ?_
  refine S.op (S.q (q_assign rfl) rfl rfl ?_)
  first | with_reducible refine S.nilK ?_ | refine S.nil ?_
  refine hK2 _ _ ?_
  refine S.seq fun K3 hK3 => ?_
  refine S.region rfl ?_
  refine S.op (S.q (q_assign rfl) rfl rfl ?_)
  refine S.op (S.q (q_assign rfl) rfl rfl ?_)
  first | with_reducible refine S.nilK ?_ | refine S.nil ?_
  refine hK3 _ _ ?_
  refine S.seq fun K4 hK4 => ?_
  refine S.region rfl ?_
  refine S.op (S.q (q_move rfl) rfl rfl ?_)
  refine S.op (S.call Tryd.en16 (vs := [_]) ⟨rfl, trivial⟩ (Size_S b m) rfl ?_)
  rintro v Θ ⟨rfl, rfl⟩
  refine S.op (S.q (q_move rfl) rfl rfl ?_)
  refine S.op (S.q (q_extract rfl rfl) rfl rfl ?_)
  refine S.op (S.q (q_extract rfl rfl) rfl rfl ?_)
  refine S.op (S.q (q_assign rfl) rfl rfl ?_)
  refine S.op (S.q (q_assign rfl) rfl rfl ?_)
  first | with_reducible refine S.nilK ?_ | refine S.nil ?_
  refine hK4 _ _ ?_
  refine S.seq fun K5 hK5 => ?_
  refine S.seq fun K6 hK6 => ?_
  refine S.region rfl ?_
  refine S.ent (Ent.ownNil 75 2) ?_
  show S _ w0 _ (own SV.nil 75 2 (([] : List Cd).flatMap cdC) :: _) _
  refine S.op (S.q (q_move rfl) rfl rfl ?_)
  refine S.op (S.q (q_move rfl) rfl rfl ?_)
  first | with_reducible refine S.nilK ?_ | refine S.nil ?_
  refine hK6 _ _ ?_
  refine S.block ?_
  refine S.loop (fun q ρ' Γ' => ∃ (i : Nat) (bu : SV) (best : List Cd) (row : Nat) (found : Bool), q = m.R - i ∧ i ≤ m.R ∧ chUp m tier k l i = (best, row, found) ∧ bu.n = best.length ∧ best.length ≤ 1000 ∧ (∀ x ∈ best, x ∈ l) ∧   ρ' = [(0, .pointer (some ⟨b, 0, none⟩)), (1, s.v), (2, .int .u8 tier), (3, .int .i64 k), (8, .pointer (some ⟨b8, 0, none⟩)), (10, bu.v), (11, .int .i64 (row : Int)), (12, .bool found), (23, .int .i64 (m.R : Int)), (24, .int .i64 (i : Int))] ∧   Γ' = own bu 75 2 (best.flatMap cdC) :: blk b8 70 #[.int .i64 0, .slice none 0 0] :: MI b m :: R :: old W :: Γ) (m := _) (ρ0 := _) (Γ0 := _) (⟨0, SV.nil, [], 0, false, rfl, by omega, rfl, rfl, by simp, fun _ h => (by cases h), rfl, rfl⟩) (by repeat (first | exact trivial | refine ⟨rfl, ?_⟩)) Sub.ent ?_
  rintro q ρ' Γ' ⟨i, bu, best, row, found, hq, hi, hch, hbu, hbl, hbm, rfl, rfl⟩
  obtain ⟨vl, ok, hv⟩ : ∃ vl ok, ofV m (i : Nat) tier k l = (vl, ok) := ⟨_, _, rfl⟩
  have hvl := ofV_len m (i : Nat) tier k l
  have hvm : ∀ x ∈ vl, x ∈ l := fun x hx => ofV_mem (m := m) (row := (i : Nat)) (tier := tier) (k := k) (by rw [hv]; exact hx)
  rw [hv] at hvl
  have hvl : vl.length ≤ l.length := hvl
  obtain ⟨c, hc⟩ : ∃ c, c = (ok && (!found || decide (cmpV vl best < 0))) := ⟨_, rfl⟩
  have hstep : chUp m tier k l (i + 1) = if c = true then (vl, i, true) else (best, row, found) := by rw [chUp, hch, hv, hc]
  refine S.seq fun K7 hK7 => ?_
  refine S.region rfl ?_
  refine S.op (S.q (q_lt rfl rfl) rfl rfl ?_)
  first | with_reducible refine S.nilK ?_ | refine S.nil ?_
  refine hK7 _ _ ?_
  refine S.seq fun K8 hK8 => ?_
  refine S.condD rfl (fun h1 => ?_) (fun h1 => ?_)
  · refine S.skip ?_
    with_reducible repeat (first | refine S.then_n ?_ | refine S.then_x ?_ | refine S.then_r ?_ | refine S.inBlock_n ?_ | refine S.inBlock_r ?_ | refine S.inBlock_x rfl ?_ | refine S.noGoto_r ?_ | refine S.noGoto_n ?_ | refine S.noGoto_x ?_)
    refine hK8 _ _ ?_
    refine S.seq fun K9 hK9 => ?_
    refine S.block ?_
    refine S.seq fun K10 hK10 => ?_
    refine S.region rfl ?_
    refine S.op (S.q (q_move rfl) rfl rfl ?_)
    refine S.op (S.q (q_assign rfl) rfl rfl ?_)
    first | with_reducible refine S.nilK ?_ | refine S.nil ?_
    refine hK10 _ _ ?_
    refine S.seq fun K11 hK11 => ?_
    refine S.region rfl ?_
    refine S.op (S.q (q_move rfl) rfl rfl ?_)
    refine S.op (S.q (q_move rfl) rfl rfl ?_)
    refine S.op (S.q (q_move rfl) rfl rfl ?_)
    refine S.op (S.q (q_move rfl) rfl rfl ?_)
    refine S.op (S.q (q_move rfl) rfl rfl ?_)
    refine S.op (S.call Tryd.en63 (vs := [_, _, _, _, _]) ⟨rfl, rfl, rfl, rfl, rfl, trivial⟩ (of_S b m (i : Nat) tier k R s l hsn hl hR hW) rfl ?_)
    rintro v Θ ⟨u, rfl, hun, rfl⟩
    rw [hv] at hun ⊢
    simp only at hun ⊢
    refine S.op (S.q (q_move rfl) rfl rfl ?_)
    refine S.op (S.q (q_extract rfl rfl) rfl rfl ?_)
    refine S.op (S.q (q_extract rfl rfl) rfl rfl ?_)
    refine S.op (S.q (q_assign rfl) rfl rfl ?_)
    refine S.op (S.q (q_assign rfl) rfl rfl ?_)
    first | with_reducible refine S.nilK ?_ | refine S.nil ?_
    refine hK11 _ _ ?_
    refine S.seq fun K12 hK12 => ?_
    refine S.cut (fun ρ' Γ' => ρ' = [(0, .pointer (some ⟨b, 0, none⟩)), (1, s.v), (2, .int .u8 tier), (3, .int .i64 k), (8, .pointer (some ⟨b8, 0, none⟩)), (10, bu.v), (11, .int .i64 (row : Int)), (12, .bool found), (15, .int .i64 (i : Int)), (16, u.v), (23, .int .i64 (m.R : Int)), (24, .int .i64 (i : Int)), (55, .bool c)] ∧   Γ' = own u 75 2 (vl.flatMap cdC) :: own bu 75 2 (best.flatMap cdC) :: blk b8 70 #[.int .i64 0, .slice none 0 0] :: MI b m :: R :: old W :: Γ) ?_ ?_
    · refine S.regionG ?_
      refine S.g_op rfl (S.q (q_move rfl) rfl rfl ?_)
      refine S.g_op rfl (S.q (q_move rfl) rfl rfl ?_)
      rcases Bool.eq_false_or_eq_true (ok) with hg8_1 | hg8_1
      · refine S.g_yes rfl rfl rfl (hg8_1) (S.q (q_move rfl) rfl rfl ?_)
        refine S.g_yes rfl rfl rfl (hg8_1) (S.q (q_not rfl) rfl rfl ?_)
        refine S.g_yes rfl rfl rfl (hg8_1) (S.q (q_move rfl) rfl rfl ?_)
        rcases Bool.eq_false_or_eq_true (!found) with hg8_4 | hg8_4
        · refine S.g_no rfl rfl rfl (hg8_4) rfl rfl ?_
          refine S.g_no rfl rfl rfl (hg8_4) rfl rfl ?_
          refine S.g_no rfl rfl rfl (hg8_4) rfl rfl ?_
          refine S.g_no rfl rfl rfl (hg8_4) rfl rfl ?_
          refine S.g_no rfl rfl rfl (hg8_4) rfl rfl ?_
          refine S.g_no rfl rfl rfl (hg8_4) rfl rfl ?_
          refine S.g_no rfl rfl rfl (hg8_4) rfl rfl ?_
          refine S.g_no rfl rfl rfl (hg8_4) rfl rfl ?_
          refine S.g_no rfl rfl rfl (hg8_4) rfl rfl ?_
          refine S.g_no rfl rfl rfl (hg8_4) rfl rfl ?_
          refine S.g_no rfl rfl rfl (hg8_4) rfl rfl ?_
          refine S.g_no rfl rfl rfl (hg8_4) rfl rfl ?_
          refine S.g_no rfl rfl rfl (hg8_4) rfl rfl ?_
          refine S.g_yes rfl rfl rfl (hg8_1) (S.q (q_pickT rfl (hg8_4) rfl) rfl rfl ?_)
          refine S.g_op rfl (S.q (q_pickT rfl (hg8_1) rfl) rfl rfl ?_)
          first | with_reducible refine S.g_nilK ?_ | refine S.g_nil ?_
          with_reducible repeat (first | refine S.then_n ?_ | refine S.then_x ?_ | refine S.then_r ?_ | refine S.inBlock_n ?_ | refine S.inBlock_r ?_ | refine S.inBlock_x rfl ?_ | refine S.noGoto_r ?_ | refine S.noGoto_n ?_ | refine S.noGoto_x ?_)
          first | (have e : c = decide (orI [cmpI u.n bu.n, cmpI (topR vl) (topR best)] < 0) := (by rw [hc, hg8_1, hg8_4, cmpV, hun, hbu]; rfl) ; rw [e] ; exact S.meet ⟨rfl, rfl⟩ ⟨rfl, rfl, rfl, rfl, rfl, rfl, rfl, rfl, rfl, rfl, rfl, rfl, rfl, trivial⟩ Sub.ent) | (have e : c = true := (by rw [hc, hg8_1, hg8_4]; rfl) ; rw [e] ; exact S.meet ⟨rfl, rfl⟩ ⟨rfl, rfl, rfl, rfl, rfl, rfl, rfl, rfl, rfl, rfl, rfl, rfl, rfl, trivial⟩ Sub.ent) | (have e : c = false := (by rw [hc, hg8_1]; rfl) ; rw [e] ; exact S.meet ⟨rfl, rfl⟩ ⟨rfl, rfl, rfl, rfl, rfl, rfl, rfl, rfl, rfl, rfl, rfl, rfl, rfl, trivial⟩ Sub.ent)
        · refine S.g_yes rfl rfl rfl (hg8_4) (S.q (q_move rfl) rfl rfl ?_)
          refine S.g_yes rfl rfl rfl (hg8_4) (S.q (q_len Tryd.underlying64 rfl) rfl rfl ?_)
          refine S.g_yes rfl rfl rfl (hg8_4) (S.q (q_move rfl) rfl rfl ?_)
          refine S.g_yes rfl rfl rfl (hg8_4) (S.q (q_len Tryd.underlying64 rfl) rfl rfl ?_)
          refine S.g_yes rfl rfl rfl (hg8_4) (S.call Tryd.en65 (vs := [_, _]) ⟨rfl, rfl, trivial⟩ (Compare64_S u.n bu.n) rfl ?_)
          rintro v Θ ⟨rfl, rfl⟩
          refine S.g_yes rfl rfl rfl (hg8_4) (S.q (q_move rfl) rfl rfl ?_)
          refine S.g_yes rfl rfl rfl (hg8_4) (S.call Tryd.en66 (vs := [_]) ⟨rfl, trivial⟩ (top_S (own u 75 2 (vl.flatMap cdC)) u vl hun RdS.own (fun x hx => ht x (hvm x hx))) rfl ?_)
          rintro v Θ ⟨rfl, rfl⟩
          refine S.g_yes rfl rfl rfl (hg8_4) (S.q (q_move rfl) rfl rfl ?_)
          refine S.g_yes rfl rfl rfl (hg8_4) (S.call Tryd.en66 (vs := [_]) ⟨rfl, trivial⟩ (top_S (own bu 75 2 (best.flatMap cdC)) bu best hbu RdS.own (fun x hx => ht x (hbm x hx))) rfl ?_)
          rintro v Θ ⟨rfl, rfl⟩
          refine S.g_yes rfl rfl rfl (hg8_4) (S.call Tryd.en65 (vs := [_, _]) ⟨rfl, rfl, trivial⟩ (Compare64_S (topR vl) (topR best)) rfl ?_)
          rintro v Θ ⟨rfl, rfl⟩
          refine S.g_yes rfl rfl rfl (hg8_4) (S.buildSlice (pvs := [(_, _), (_, _)]) [_, _] Tryd.underlying52 Tryd.inf3 rfl rfl ⟨⟨rfl, rfl⟩, ⟨rfl, rfl⟩, trivial⟩ rfl rfl ?_)
          intro b51
          refine S.g_yes rfl rfl rfl (hg8_4) (S.call Tryd.en64 (vs := [_]) ⟨rfl, trivial⟩ (Or_S (blk b51 3 #[.int .i64 (cmpI u.n bu.n), .int .i64 (cmpI (topR vl) (topR best))]) ⟨some ⟨b51, 0, none⟩, 2, 2⟩ [cmpI u.n bu.n, cmpI (topR vl) (topR best)] rfl (rdBlk (cs := [.int .i64 (cmpI u.n bu.n), .int .i64 (cmpI (topR vl) (topR best))]) rfl (by unfold maxLen; omega))) rfl ?_)
          rintro v Θ ⟨rfl, rfl⟩
          refine S.g_yes rfl rfl rfl (hg8_4) (S.q (q_lt rfl rfl) rfl rfl ?_)
          refine S.g_yes rfl rfl rfl (hg8_1) (S.q (q_pickF rfl (hg8_4) rfl) rfl rfl ?_)
          refine S.g_op rfl (S.q (q_pickT rfl (hg8_1) rfl) rfl rfl ?_)
          first | with_reducible refine S.g_nilK ?_ | refine S.g_nil ?_
          with_reducible repeat (first | refine S.then_n ?_ | refine S.then_x ?_ | refine S.then_r ?_ | refine S.inBlock_n ?_ | refine S.inBlock_r ?_ | refine S.inBlock_x rfl ?_ | refine S.noGoto_r ?_ | refine S.noGoto_n ?_ | refine S.noGoto_x ?_)
          first | (have e : c = decide (orI [cmpI u.n bu.n, cmpI (topR vl) (topR best)] < 0) := (by rw [hc, hg8_1, hg8_4, cmpV, hun, hbu]; rfl) ; rw [e] ; exact S.meet ⟨rfl, rfl⟩ ⟨rfl, rfl, rfl, rfl, rfl, rfl, rfl, rfl, rfl, rfl, rfl, rfl, rfl, trivial⟩ Sub.ent) | (have e : c = true := (by rw [hc, hg8_1, hg8_4]; rfl) ; rw [e] ; exact S.meet ⟨rfl, rfl⟩ ⟨rfl, rfl, rfl, rfl, rfl, rfl, rfl, rfl, rfl, rfl, rfl, rfl, rfl, trivial⟩ Sub.ent) | (have e : c = false := (by rw [hc, hg8_1]; rfl) ; rw [e] ; exact S.meet ⟨rfl, rfl⟩ ⟨rfl, rfl, rfl, rfl, rfl, rfl, rfl, rfl, rfl, rfl, rfl, rfl, rfl, trivial⟩ Sub.ent)
      · refine S.g_no rfl rfl rfl (hg8_1) rfl rfl ?_
        refine S.g_no rfl rfl rfl (hg8_1) rfl rfl ?_
        refine S.g_no rfl rfl rfl (hg8_1) rfl rfl ?_
        refine S.g_noU rfl rfl rfl rfl rfl ?_
        refine S.g_noU rfl rfl rfl rfl rfl ?_
        refine S.g_noU rfl rfl rfl rfl rfl ?_
        refine S.g_noU rfl rfl rfl rfl rfl ?_
        refine S.g_noU rfl rfl rfl rfl rfl ?_
        refine S.g_noU rfl rfl rfl rfl rfl ?_
        refine S.g_noU rfl rfl rfl rfl rfl ?_
        refine S.g_noU rfl rfl rfl rfl rfl ?_
        refine S.g_noU rfl rfl rfl rfl rfl ?_
        refine S.g_noU rfl rfl rfl rfl rfl ?_
        refine S.g_noU rfl rfl rfl rfl rfl ?_
        refine S.g_noU rfl rfl rfl rfl rfl ?_
        refine S.g_noU rfl rfl rfl rfl rfl ?_
        refine S.g_no rfl rfl rfl (hg8_1) rfl rfl ?_
        refine S.g_op rfl (S.q (q_pickF rfl (hg8_1) rfl) rfl rfl ?_)
        first | with_reducible refine S.g_nilK ?_ | refine S.g_nil ?_
        with_reducible repeat (first | refine S.then_n ?_ | refine S.then_x ?_ | refine S.then_r ?_ | refine S.inBlock_n ?_ | refine S.inBlock_r ?_ | refine S.inBlock_x rfl ?_ | refine S.noGoto_r ?_ | refine S.noGoto_n ?_ | refine S.noGoto_x ?_)
        first | (have e : c = decide (orI [cmpI u.n bu.n, cmpI (topR vl) (topR best)] < 0) := (by rw [hc, hg8_1, hg8_4, cmpV, hun, hbu]; rfl) ; rw [e] ; exact S.meet ⟨rfl, rfl⟩ ⟨rfl, rfl, rfl, rfl, rfl, rfl, rfl, rfl, rfl, rfl, rfl, rfl, rfl, trivial⟩ Sub.ent) | (have e : c = true := (by rw [hc, hg8_1, hg8_4]; rfl) ; rw [e] ; exact S.meet ⟨rfl, rfl⟩ ⟨rfl, rfl, rfl, rfl, rfl, rfl, rfl, rfl, rfl, rfl, rfl, rfl, rfl, trivial⟩ Sub.ent) | (have e : c = false := (by rw [hc, hg8_1]; rfl) ; rw [e] ; exact S.meet ⟨rfl, rfl⟩ ⟨rfl, rfl, rfl, rfl, rfl, rfl, rfl, rfl, rfl, rfl, rfl, rfl, rfl, trivial⟩ Sub.ent)
    · rintro ρ' Γ' ⟨rfl, rfl⟩
      refine hK12 _ _ ?_
      refine S.cond rfl (fun h2 => ?_) (fun h2 => ?_)
      · rw [if_pos h2] at hstep
        refine S.region rfl ?_
        refine S.op (S.q (q_move rfl) rfl rfl ?_)
        refine S.op (S.q (q_move rfl) rfl rfl ?_)
        refine S.op (S.q (q_assign rfl) rfl rfl ?_)
        refine S.op (S.q (q_assign rfl) rfl rfl ?_)
        refine S.op (S.q (q_assign rfl) rfl rfl ?_)
        first | with_reducible refine S.nilK ?_ | refine S.nil ?_
        with_reducible repeat (first | refine S.then_n ?_ | refine S.then_x ?_ | refine S.then_r ?_ | refine S.inBlock_n ?_ | refine S.inBlock_r ?_ | refine S.inBlock_x rfl ?_ | refine S.noGoto_r ?_ | refine S.noGoto_n ?_ | refine S.noGoto_x ?_)
        refine hK9 _ _ ?_
        refine S.region rfl ?_
        refine S.op (S.q (q_add rfl rfl (inI64 (by omega) (by omega))) rfl rfl ?_)
        refine S.op (S.q (q_move rfl) rfl rfl ?_)
        first | with_reducible refine S.nilK ?_ | refine S.nil ?_
        with_reducible repeat (first | refine S.then_n ?_ | refine S.then_x ?_ | refine S.then_r ?_ | refine S.inBlock_n ?_ | refine S.inBlock_r ?_ | refine S.inBlock_x rfl ?_ | refine S.noGoto_r ?_ | refine S.noGoto_n ?_ | refine S.noGoto_x ?_)
        first | exact S.next (q - 1) ⟨i + 1, u, vl, i, true, by omega, by omega, hstep, hun, by omega, hvm, rfl, rfl⟩ (by omega) (by repeat (first | exact trivial | refine ⟨rfl, ?_⟩)) Sub.ent | exact S.next (q - 1) ⟨i + 1, bu, best, row, found, by omega, by omega, hstep, hbu, hbl, hbm, rfl, rfl⟩ (by omega) (by repeat (first | exact trivial | refine ⟨rfl, ?_⟩)) Sub.ent
      · rw [if_neg (by rw [h2]; simp)] at hstep
        refine S.skip ?_
        with_reducible repeat (first | refine S.then_n ?_ | refine S.then_x ?_ | refine S.then_r ?_ | refine S.inBlock_n ?_ | refine S.inBlock_r ?_ | refine S.inBlock_x rfl ?_ | refine S.noGoto_r ?_ | refine S.noGoto_n ?_ | refine S.noGoto_x ?_)
        with_reducible repeat (first | refine S.then_n ?_ | refine S.then_x ?_ | refine S.then_r ?_ | refine S.inBlock_n ?_ | refine S.inBlock_r ?_ | refine S.inBlock_x rfl ?_ | refine S.noGoto_r ?_ | refine S.noGoto_n ?_ | refine S.noGoto_x ?_)
        refine hK9 _ _ ?_
        refine S.region rfl ?_
        refine S.op (S.q (q_add rfl rfl (inI64 (by omega) (by omega))) rfl rfl ?_)
        refine S.op (S.q (q_move rfl) rfl rfl ?_)
        first | with_reducible refine S.nilK ?_ | refine S.nil ?_
        with_reducible repeat (first | refine S.then_n ?_ | refine S.then_x ?_ | refine S.then_r ?_ | refine S.inBlock_n ?_ | refine S.inBlock_r ?_ | refine S.inBlock_x rfl ?_ | refine S.noGoto_r ?_ | refine S.noGoto_n ?_ | refine S.noGoto_x ?_)
        first | exact S.next (q - 1) ⟨i + 1, u, vl, i, true, by omega, by omega, hstep, hun, by omega, hvm, rfl, rfl⟩ (by omega) (by repeat (first | exact trivial | refine ⟨rfl, ?_⟩)) Sub.ent | exact S.next (q - 1) ⟨i + 1, bu, best, row, found, by omega, by omega, hstep, hbu, hbl, hbm, rfl, rfl⟩ (by omega) (by repeat (first | exact trivial | refine ⟨rfl, ?_⟩)) Sub.ent
  · have hfin : choR m tier k l = (best, row, found) := by rw [choR, ← hch, show i = m.R by omega]
    refine S.exit ?_
    with_reducible repeat (first | refine S.then_n ?_ | refine S.then_x ?_ | refine S.then_r ?_ | refine S.inBlock_n ?_ | refine S.inBlock_r ?_ | refine S.inBlock_x rfl ?_ | refine S.noGoto_r ?_ | refine S.noGoto_n ?_ | refine S.noGoto_x ?_)
    with_reducible refine S.inBlock_s ?_
    with_reducible repeat (first | refine S.then_n ?_ | refine S.then_x ?_ | refine S.then_r ?_ | refine S.inBlock_n ?_ | refine S.inBlock_r ?_ | refine S.inBlock_x rfl ?_ | refine S.noGoto_r ?_ | refine S.noGoto_n ?_ | refine S.noGoto_x ?_)
    refine hK5 _ _ ?_
    refine S.seq fun K13 hK13 => ?_
    refine S.region rfl ?_
    refine S.op (S.q (q_move rfl) rfl rfl ?_)
    refine S.op (S.q (q_move rfl) rfl rfl ?_)
    refine S.op (S.call Tryd.en67 (vs := [_]) ⟨rfl, trivial⟩ (jobs_S (own bu 75 2 (best.flatMap cdC)) bu best hbu hbl RdS.own) rfl ?_)
    rintro v Θ ⟨u2, rfl, hu2, rfl⟩
    refine S.op (S.q (q_build (pvs := [(_, _), (_, _)]) [_, _] Tryd.z70 Tryd.p70 ⟨⟨rfl, rfl⟩, ⟨rfl, rfl⟩, trivial⟩ rfl) rfl rfl ?_)
    refine S.op (S.q (q_move rfl) rfl rfl ?_)
    refine S.op (S.storeS (cs' := [_, _]) Tryd.ag70 rfl rfl rfl rfl rfl rfl ?_)
    refine S.op (S.q (q_assign rfl) rfl rfl ?_)
    first | with_reducible refine S.nilK ?_ | refine S.nil ?_
    refine hK13 _ _ ?_
    refine S.ret ?_
    with_reducible repeat (first | refine S.then_n ?_ | refine S.then_x ?_ | refine S.then_r ?_ | refine S.inBlock_n ?_ | refine S.inBlock_r ?_ | refine S.inBlock_x rfl ?_ | refine S.noGoto_r ?_ | refine S.noGoto_n ?_ | refine S.noGoto_x ?_)
    exact S.fin (rs := [_, _]) (vs := [_, _]) Tryd.results34 (⟨⟨_, _, rfl, lod_agg [_, _] Tryd.ag70 rfl ⟨rfl, rfl, trivial⟩⟩, rfl, trivial⟩)  (⟨u2, by rw [hfin]; rfl, by rw [hfin]; exact hu2, by rw [hfin]⟩) Sub.ent
end Go.Proofs.YtbhnbnecaejjiaaDoor
