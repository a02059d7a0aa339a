/- The laws of victim: awake; who is chosen. -/
import Derived.Test.YtbhnbnecaejjiaaDoorVicE
namespace Go.Proofs.YtbhnbnecaejjiaaDoor
open Go.RowKit
set_option maxRecDepth 20000
def vw1 : Mx := (putR (mx0 1 3) 1 0 [0, 1]).2
def vw2 : Mx := (putR vw1 2 0 [2]).2
def vwL : List Cd := [(1, 0), (2, 1)]
theorem vwf : freeR vw2 (0 : Nat) = 0 ∧ lesUp vw2 (0 : Nat) 2 vwL 2 = vwL ∧ lesUp vw2 (0 : Nat) 0 vwL 2 = [] ∧ vicUp vw2 vwL 0 1 3 = some 1 ∧ vicUp vw2 vwL 0 3 3 = some 2 ∧ vicUp vw2 [] 0 1 1 = none ∧ vw2.R = 1 :=
  ⟨by kernel_rfl, by kernel_rfl, by kernel_rfl, by kernel_rfl, by kernel_rfl, by kernel_rfl, by kernel_rfl⟩
theorem choR_one {m : Mx} (h : m.R = 1) (tier k : Int) (l : List Cd) : choR m tier k l = if (ofV m (0 : Nat) tier k l).2 = true then ((ofV m (0 : Nat) tier k l).1, 0, true) else ([], 0, false) := by
  rw [choR, h, chUp, chUp]
  simp
theorem vw_sorted : lesR vw2 (0 : Nat) 2 vwL = vwL := by
  rw [lesR, show vwL.length = 2 from rfl, vwf.2.1]
  exact (srtC_eq (by unfold vwL; decide) (.refl _) (by unfold vwL; decide)).symm
theorem vw_none : lesR vw2 (0 : Nat) 0 vwL = [] := by
  rw [lesR, show vwL.length = 2 from rfl, vwf.2.2.1]
  exact List.eq_nil_of_length_eq_zero (srtC_perm []).length_eq
theorem vw_a : choR vw2 2 1 vwL = ([(1, 0)], 0, true) ∧ choR vw2 2 3 vwL = (vwL, 0, true) ∧ choR vw2 0 1 vwL = ([], 0, false) := by
  obtain ⟨f1, _, _, f4, f5, f6, f7⟩ := vwf
  have a1 : ofV vw2 (0 : Nat) 2 1 vwL = ([(1, 0)], true) := by
    rw [ofV, if_neg (by rw [f7]; decide), vw_sorted, f1, show vwL.length + 1 = 3 from rfl, f4]; rfl
  have a2 : ofV vw2 (0 : Nat) 2 3 vwL = (vwL, true) := by
    rw [ofV, if_neg (by rw [f7]; decide), vw_sorted, f1, show vwL.length + 1 = 3 from rfl, f5]; rfl
  have a3 : ofV vw2 (0 : Nat) 0 1 vwL = ([], false) := by
    rw [ofV, if_neg (by rw [f7]; decide), vw_none, f1, show ([] : List Cd).length + 1 = 1 from rfl, f6]
  exact ⟨by rw [choR_one f7, a1]; rfl, by rw [choR_one f7, a2]; rfl, by rw [choR_one f7, a3]; rfl⟩
theorem awake_S {W : World} (hW : TabW W) : Spec Tryd.prog 31 [] [old W] fun Γ v Θ => v = .bool true ∧ Θ = old W :: Γ := by
  refine Spec.of_body Tryd.func31 rfl Tryd.ntmps31 rfl ?_
  intro w0 Γ
  obtain ⟨f1, f2, f3⟩ := vw_a
  have ht : ∀ x ∈ vwL, 0 ≤ x.2 ∧ x.2 ≤ 255 := by unfold vwL; decide
  show S _ w0 [] (old W :: Γ) _
  refine S.seq fun K1 hK1 => ?_
  refine S.region rfl ?_
  refine S.op (S.q (q_assign rfl) rfl rfl ?_)
  first | with_reducible refine S.nilK ?_ | refine S.nil ?_
  refine hK1 _ _ ?_
  refine S.seq fun K2 hK2 => ?_
  refine S.region rfl ?_
  refine S.op (S.call Tryd.en38 (vs := [_, _]) ⟨rfl, rfl, trivial⟩ (New_S 1 3 (by omega) (by omega) (by omega) (by omega)) rfl ?_)
  rintro v Θ ⟨b, rfl, rfl⟩
  refine S.op (S.q (q_move rfl) rfl rfl ?_)
  refine S.op (S.q (q_extract rfl rfl) rfl rfl ?_)
  refine S.op (S.q (q_extract rfl rfl) rfl rfl ?_)
  refine S.op (S.q (q_assign rfl) rfl rfl ?_)
  refine S.op (S.q (q_assign rfl) rfl rfl ?_)
  first | with_reducible refine S.nilK ?_ | refine S.nil ?_
  refine hK2 _ _ ?_
  refine S.seq fun K3 hK3 => ?_
  refine S.region rfl ?_
  refine S.op (S.q (q_move rfl) rfl rfl ?_)
  refine S.op (S.buildSlice (pvs := [(_, _), (_, _)]) [_, _] Tryd.underlying52 Tryd.inf3 rfl rfl ⟨⟨rfl, rfl⟩, ⟨rfl, rfl⟩, trivial⟩ rfl rfl ?_)
  intro b15
  refine S.op (S.call Tryd.en30 (vs := [_, _, _, _]) ⟨rfl, rfl, rfl, rfl, trivial⟩ (Put_S b (mx0 1 3) 1 0 (blk b15 3 #[.int .i64 0, .int .i64 1]) ⟨some ⟨b15, 0, none⟩, 2, 2⟩ [0, 1] rfl (rdBlk (cs := [.int .i64 0, .int .i64 1]) rfl (by unfold maxLen; omega)) (by omega)) rfl ?_)
  rintro v Θ ⟨rfl, rfl⟩
  rw [show (putR (mx0 1 3) 1 0 [0, 1]).2 = vw1 from rfl]
  first | with_reducible refine S.nilK ?_ | refine S.nil ?_
  refine hK3 _ _ ?_
  refine S.seq fun K4 hK4 => ?_
  refine S.region rfl ?_
  refine S.op (S.q (q_move rfl) rfl rfl ?_)
  refine S.op (S.buildSlice (pvs := [(_, _)]) [_] Tryd.underlying52 Tryd.inf3 rfl rfl ⟨⟨rfl, rfl⟩, trivial⟩ rfl rfl ?_)
  intro b18
  refine S.op (S.call Tryd.en30 (vs := [_, _, _, _]) ⟨rfl, rfl, rfl, rfl, trivial⟩ (Put_S b vw1 2 0 (blk b18 3 #[.int .i64 2]) ⟨some ⟨b18, 0, none⟩, 1, 1⟩ [2] rfl (rdBlk (cs := [.int .i64 2]) rfl (by unfold maxLen; omega)) (by omega)) rfl ?_)
  rintro v Θ ⟨rfl, rfl⟩
  rw [show (putR vw1 2 0 [2]).2 = vw2 from rfl]
  first | with_reducible refine S.nilK ?_ | refine S.nil ?_
  refine hK4 _ _ ?_
  refine S.seq fun K5 hK5 => ?_
  refine S.region rfl ?_
  refine S.op (S.q (q_build (pvs := [(_, _)]) [_, _] Tryd.z75 Tryd.p75 ⟨⟨rfl, rfl⟩, trivial⟩ rfl) rfl rfl ?_)
  refine S.op (S.q (q_build (pvs := [(_, _), (_, _)]) [_, _] Tryd.z75 Tryd.p75 ⟨⟨rfl, rfl⟩, ⟨rfl, rfl⟩, trivial⟩ rfl) rfl rfl ?_)
  refine S.op (S.buildSlice (pvs := [(_, _), (_, _)]) [_, _, _, _] Tryd.underlying64 Tryd.inf75 rfl rfl ⟨⟨rfl, rfl⟩, ⟨rfl, rfl⟩, trivial⟩ rfl rfl ?_)
  intro b22
  refine S.op (S.q (q_assign rfl) rfl rfl ?_)
  first | with_reducible refine S.nilK ?_ | refine S.nil ?_
  refine hK5 _ _ ?_
  refine S.seq fun K6 hK6 => ?_
  refine S.region rfl ?_
  have hR : RdS (blk b22 75 #[.int .u32 1, .int .u8 0, .int .u32 2, .int .u8 1]) ⟨some ⟨b22, 0, none⟩, 2, 2⟩ 2 2 (vwL.flatMap cdC) := rdBlk (cs := [.int .u32 1, .int .u8 0, .int .u32 2, .int .u8 1]) rfl (by unfold maxLen; omega)
  refine S.op (S.q (q_move rfl) rfl rfl ?_)
  refine S.op (S.q (q_move rfl) rfl rfl ?_)
  refine S.op (S.call Tryd.en34 (vs := [_, _, _, _]) ⟨rfl, rfl, rfl, rfl, trivial⟩ (Choose_S b vw2 2 1 (blk b22 75 #[.int .u32 1, .int .u8 0, .int .u32 2, .int .u8 1]) ⟨some ⟨b22, 0, none⟩, 2, 2⟩ vwL rfl (by decide) ht hR hW) rfl ?_)
  rintro v Θ ⟨u1, rfl, hu1, rfl⟩
  rw [f1] at hu1 ⊢
  simp only at hu1 ⊢
  rw [show jobsR [((1 : Nat), (0 : Int))] = [1] from rfl]
  refine S.op (S.q (q_move rfl) rfl rfl ?_)
  refine S.op (S.q (q_extract rfl rfl) rfl rfl ?_)
  refine S.op (S.q (q_extract rfl rfl) rfl rfl ?_)
  refine S.op (S.alloc Tryd.z70 rfl ?_)
  intro b4
  refine S.op (S.storeS (cs' := [_, _]) Tryd.ag70 rfl rfl rfl rfl rfl rfl ?_)
  refine S.op (S.q (q_assign rfl) rfl rfl ?_)
  first | with_reducible refine S.nilK ?_ | refine S.nil ?_
  refine hK6 _ _ ?_
  refine S.seq fun K7 hK7 => ?_
  refine S.region rfl ?_
  refine S.op (S.q (q_move rfl) rfl rfl ?_)
  refine S.op (S.q (q_move rfl) rfl rfl ?_)
  refine S.op (S.call Tryd.en34 (vs := [_, _, _, _]) ⟨rfl, rfl, rfl, rfl, trivial⟩ (Choose_S b vw2 2 3 (blk b22 75 #[.int .u32 1, .int .u8 0, .int .u32 2, .int .u8 1]) ⟨some ⟨b22, 0, none⟩, 2, 2⟩ vwL rfl (by decide) ht hR hW) rfl ?_)
  rintro v Θ ⟨u2, rfl, hu2, rfl⟩
  rw [f2] at hu2 ⊢
  simp only at hu2 ⊢
  rw [show jobsR vwL = [1, 2] from rfl]
  refine S.op (S.q (q_move rfl) rfl rfl ?_)
  refine S.op (S.q (q_extract rfl rfl) rfl rfl ?_)
  refine S.op (S.q (q_extract rfl rfl) rfl rfl ?_)
  refine S.op (S.alloc Tryd.z70 rfl ?_)
  intro b6
  refine S.op (S.storeS (cs' := [_, _]) Tryd.ag70 rfl rfl rfl rfl rfl rfl ?_)
  refine S.op (S.q (q_assign rfl) rfl rfl ?_)
  first | with_reducible refine S.nilK ?_ | refine S.nil ?_
  refine hK7 _ _ ?_
  refine S.seq fun K8 hK8 => ?_
  refine S.region rfl ?_
  refine S.op (S.q (q_move rfl) rfl rfl ?_)
  refine S.op (S.q (q_move rfl) rfl rfl ?_)
  refine S.op (S.call Tryd.en34 (vs := [_, _, _, _]) ⟨rfl, rfl, rfl, rfl, trivial⟩ (Choose_S b vw2 0 1 (blk b22 75 #[.int .u32 1, .int .u8 0, .int .u32 2, .int .u8 1]) ⟨some ⟨b22, 0, none⟩, 2, 2⟩ vwL rfl (by decide) ht hR hW) rfl ?_)
  rintro v Θ ⟨u3, rfl, hu3, rfl⟩
  rw [f3] at hu3 ⊢
  simp only at hu3 ⊢
  refine S.op (S.q (q_move rfl) rfl rfl ?_)
  refine S.op (S.q (q_extract rfl rfl) rfl rfl ?_)
  refine S.op (S.q (q_extract rfl rfl) rfl rfl ?_)
  refine S.op (S.alloc Tryd.z70 rfl ?_)
  intro b8
  refine S.op (S.storeS (cs' := [_, _]) Tryd.ag70 rfl rfl rfl rfl rfl rfl ?_)
  refine S.op (S.q (q_assign rfl) rfl rfl ?_)
  first | with_reducible refine S.nilK ?_ | refine S.nil ?_
  refine hK8 _ _ ?_
  refine S.seq fun K9 hK9 => ?_
  refine S.regionG ?_
  refine S.g_op rfl (S.q (q_move rfl) rfl rfl ?_)
  refine S.g_op rfl (S.q (q_move rfl) rfl rfl ?_)
  refine S.g_yes rfl rfl rfl (rfl) (S.q (q_move rfl) rfl rfl ?_)
  refine S.g_op rfl (S.q (q_pickT rfl (rfl) rfl) rfl rfl ?_)
  refine S.g_op rfl (S.q (q_move rfl) rfl rfl ?_)
  refine S.g_yes rfl rfl rfl (rfl) (S.q (q_move rfl) rfl rfl ?_)
  refine S.g_yes rfl rfl rfl (rfl) (S.q (q_not rfl) rfl rfl ?_)
  refine S.g_op rfl (S.q (q_pickT rfl (rfl) rfl) rfl rfl ?_)
  refine S.g_op rfl (S.q (q_move rfl) rfl rfl ?_)
  refine S.g_yes rfl rfl rfl (rfl) (S.q (q_field Tryd.fo70_1 rfl) rfl rfl ?_)
  refine S.g_yes rfl rfl rfl (rfl) (S.q (q_load Tryd.at34 rfl rfl) rfl rfl ?_)
  refine S.g_yes rfl rfl rfl (rfl) (S.buildSlice (pvs := [(_, _)]) [_] Tryd.underlying34 Tryd.inf36 rfl rfl ⟨⟨rfl, rfl⟩, trivial⟩ rfl rfl ?_)
  intro b52
  refine S.g_yes rfl rfl rfl (rfl) (S.call Tryd.en25 (vs := [_, _]) ⟨rfl, rfl, trivial⟩ (Same_S (own u1 36 1 (idsV [1])) (blk b52 36 #[.int .u32 1]) u1 ⟨some ⟨b52, 0, none⟩, 1, 1⟩ (casts [1]) [1] (rdIds u1 36 [1]) (rdBlk (cs := [.int .u32 1]) rfl (by unfold maxLen; omega)) hu1 rfl) rfl ?_)
  rintro v Θ ⟨rfl, rfl⟩
  refine S.g_op rfl (S.q (q_pickT rfl (rfl) rfl) rfl rfl ?_)
  refine S.g_op rfl (S.q (q_move rfl) rfl rfl ?_)
  refine S.g_yes rfl rfl rfl ((decide_eq_true rfl)) (S.q (q_field Tryd.fo70_1 rfl) rfl rfl ?_)
  refine S.g_yes rfl rfl rfl ((decide_eq_true rfl)) (S.q (q_load Tryd.at34 rfl rfl) rfl rfl ?_)
  refine S.g_yes rfl rfl rfl ((decide_eq_true rfl)) (S.buildSlice (pvs := [(_, _), (_, _)]) [_, _] Tryd.underlying34 Tryd.inf36 rfl rfl ⟨⟨rfl, rfl⟩, ⟨rfl, rfl⟩, trivial⟩ rfl rfl ?_)
  intro b58
  refine S.g_yes rfl rfl rfl ((decide_eq_true rfl)) (S.call Tryd.en25 (vs := [_, _]) ⟨rfl, rfl, trivial⟩ (Same_S (own u2 36 1 (idsV [1, 2])) (blk b58 36 #[.int .u32 1, .int .u32 2]) u2 ⟨some ⟨b58, 0, none⟩, 2, 2⟩ (casts [1, 2]) [1, 2] (rdIds u2 36 [1, 2]) (rdBlk (cs := [.int .u32 1, .int .u32 2]) rfl (by unfold maxLen; omega)) hu2 rfl) rfl ?_)
  rintro v Θ ⟨rfl, rfl⟩
  refine S.g_op rfl (S.q (q_pickT rfl ((decide_eq_true rfl)) rfl) rfl rfl ?_)
  refine S.g_op rfl (S.q (q_assign rfl) rfl rfl ?_)
  first | with_reducible refine S.g_nilK ?_ | refine S.g_nil ?_
  refine hK9 _ _ ?_
  refine S.ret ?_
  with_reducible repeat (first | refine S.then_n ?_ | refine S.then_x ?_ | refine S.then_r ?_ | refine S.inBlock_n ?_ | refine S.inBlock_r ?_ | refine S.inBlock_x rfl ?_ | refine S.noGoto_r ?_ | refine S.noGoto_n ?_ | refine S.noGoto_x ?_)
  exact S.fin (rs := [_]) (vs := [_]) Tryd.results31 (⟨rfl, trivial⟩)  (⟨rfl, rfl⟩) Sub.ent
/-- What is true of who is chosen. -/
theorem chUp_inv (m : Mx) (tier k : Int) (l : List Cd) : ∀ i, ((chUp m tier k l i).2.2 = true → (chUp m tier k l i).2.1 < i ∧ ofV m ((chUp m tier k l i).2.1 : Nat) tier k l = ((chUp m tier k l i).1, true)) ∧ ((chUp m tier k l i).2.2 = false → (chUp m tier k l i).1 = [] ∧ ∀ r, r < i → (ofV m (r : Nat) tier k l).2 = false)
  | 0 => ⟨fun h => (by cases h), fun _ => ⟨rfl, fun r hr => by omega⟩⟩
  | i + 1 => by
    obtain ⟨h1, h2⟩ := chUp_inv m tier k l i
    rw [chUp]
    by_cases h : ((ofV m (i : Nat) tier k l).2 && (!(chUp m tier k l i).2.2 || decide (cmpV (ofV m (i : Nat) tier k l).1 (chUp m tier k l i).1 < 0))) = true
    · rw [if_pos h]
      rw [Bool.and_eq_true] at h
      refine ⟨fun _ => ⟨by show i < i + 1; omega, ?_⟩, fun h => by cases h⟩
      show ofV m (i : Nat) tier k l = ((ofV m (i : Nat) tier k l).1, true)
      rw [← h.1]
    · rw [if_neg h]
      refine ⟨fun hf => ⟨by have := (h1 hf).1; omega, (h1 hf).2⟩, fun hf => ⟨(h2 hf).1, fun r hr => ?_⟩⟩
      by_cases e : r = i
      · subst e
        rw [hf] at h
        simpa using h
      · exact (h2 hf).2 r (by omega)
theorem ofV_free {m : Mx} {row tier k : Int} {l : List Cd} (hk : 1 ≤ k) (hr : 0 ≤ row ∧ row < m.R) (h : k ≤ (freeR m row : Nat)) : ofV m row tier k l = ([], true) := by
  have hv : vicUp m (lesR m row tier l) (freeR m row) k 1 = some 0 := by rw [vicUp, vicUp]; exact if_pos h
  rw [ofV, if_neg (by omega), vicUp_mono hv (by omega)]
  rfl
theorem vicUp_some {m : Mx} {al : List Cd} {h0 : Nat} {k : Int} {r : Nat} : ∀ {i : Nat}, vicUp m al h0 k i = some r → r < i ∧ k ≤ (haveUp m al h0 r : Nat)
  | 0, h => by cases h
  | i + 1, h => by
    rw [vicUp] at h
    cases hv : vicUp m al h0 k i with
    | some q =>
      rw [hv] at h
      simp only [Option.some.injEq] at h
      subst h
      have := vicUp_some hv
      exact ⟨by omega, this.2⟩
    | none =>
      rw [hv] at h
      simp only at h
      by_cases e : k ≤ (haveUp m al h0 i : Nat)
      · rw [if_pos e] at h
        cases h
        exact ⟨by omega, e⟩
      · rw [if_neg e] at h; cases h
theorem ofV_true {m : Mx} {row tier k : Int} {l v : List Cd} (h : ofV m row tier k l = (v, true)) : ∃ i, v = (lesR m row tier l).take i ∧ i ≤ (lesR m row tier l).length ∧ k ≤ (haveUp m (lesR m row tier l) (freeR m row) i : Nat) ∧ (1 ≤ k ∧ 0 ≤ row ∧ row < m.R) := by
  unfold ofV at h
  by_cases h1 : k < 1 ∨ row < 0 ∨ (m.R : Int) ≤ row
  · rw [if_pos h1] at h; cases h
  · rw [if_neg h1] at h
    cases hv : vicUp m (lesR m row tier l) (freeR m row) k ((lesR m row tier l).length + 1) with
    | none => rw [hv] at h; cases h
    | some i =>
      rw [hv] at h
      simp only [Prod.mk.injEq, and_true] at h
      obtain ⟨q1, q2⟩ := vicUp_some hv
      exact ⟨i, h.symm, by omega, q2, by omega⟩
theorem ofV_nil {m : Mx} {row tier k : Int} {l : List Cd} (h : ofV m row tier k l = ([], true)) : k ≤ (freeR m row : Nat) := by
  obtain ⟨i, h1, h2, h3, _⟩ := ofV_true h
  have : i = 0 := by
    have h5 := congrArg List.length h1
    rw [List.length_take] at h5
    have h6 : min i (lesR m row tier l).length = 0 := h5.symm
    omega
  subst this
  exact h3
theorem cmpV_nil (v : List Cd) : ¬ cmpV v [] < 0 := by
  unfold cmpV orI orI orI cmpI
  cases v with
  | nil => simp [topR]
  | cons a l => simp; omega
theorem cmpV_less {v w : List Cd} (h : v.length < w.length) : cmpV v w < 0 := by
  unfold cmpV orI cmpI
  rw [if_pos (show (v.length : Int) < w.length by omega)]
  simp
/-- Where there is room nobody has to go. -/
theorem chUp_free {m : Mx} {tier k : Int} {l : List Cd} (hk : 1 ≤ k) : ∀ i, i ≤ m.R → (∃ r, r < i ∧ k ≤ (freeR m (r : Nat) : Nat)) → (chUp m tier k l i).2.2 = true ∧ (chUp m tier k l i).1 = []
  | 0, _, h => by obtain ⟨r, hr, _⟩ := h; omega
  | i + 1, hi, h => by
    obtain ⟨i1, i2⟩ := chUp_inv m tier k l i
    rw [chUp]
    by_cases h0 : ∃ r, r < i ∧ k ≤ (freeR m (r : Nat) : Nat)
    · obtain ⟨f1, f2⟩ := chUp_free hk i (by omega) h0
      rw [if_neg]
      · exact ⟨f1, f2⟩
      · rw [f1, f2, decide_eq_false (cmpV_nil _)]
        simp
    · obtain ⟨r, hr, hfr⟩ := h
      have hri : r = i := by
        by_cases e : r = i
        · exact e
        · exact absurd ⟨r, by omega, hfr⟩ h0
      subst hri
      have hv := ofV_free (m := m) (row := (r : Nat)) (tier := tier) (l := l) hk ⟨by omega, by omega⟩ hfr
      rw [if_pos]
      · rw [hv]; exact ⟨rfl, rfl⟩
      · rw [hv]
        cases hf : (chUp m tier k l r).2.2 with
        | false => rfl
        | true =>
          obtain ⟨q1, q2⟩ := i1 hf
          have hne : 0 < (chUp m tier k l r).1.length := by
            rcases Nat.eq_zero_or_pos (chUp m tier k l r).1.length with e | e
            · exfalso
              rw [List.eq_nil_of_length_eq_zero e] at q2
              exact h0 ⟨_, q1, ofV_nil q2⟩
            · exact e
          rw [decide_eq_true (cmpV_less (v := []) hne)]
          rfl
def rmUp (m : Mx) (k : Int) : Nat → Bool
  | 0 => false
  | i + 1 => rmUp m k i || decide (k ≤ (freeR m (i : Nat) : Nat))
theorem rmUp_ex {m : Mx} {k : Int} : ∀ {i : Nat}, rmUp m k i = true → ∃ r, r < i ∧ k ≤ (freeR m (r : Nat) : Nat)
  | 0, h => by cases h
  | i + 1, h => by
    rw [rmUp, Bool.or_eq_true, decide_eq_true_eq] at h
    rcases h with h | h
    · obtain ⟨r, h1, h2⟩ := rmUp_ex h
      exact ⟨r, by omega, h2⟩
    · exact ⟨i, by omega, h⟩
end Go.Proofs.YtbhnbnecaejjiaaDoor
