/- VictimPlays: of any matrix, any who may have to go, any ask, it is told who goes, row by row and in all. -/
import Derived.Test.YtegjmmocnffpiaaDoorMI5
/- Who the document picks: ref15's functions. -/
namespace Go.Proofs.YtegjmmocnffpiaaDoor
open Go.RowKit
set_option maxRecDepth 20000
namespace VP
theorem tierR_cons (x : Cd) (l : List Cd) (j : Nat) : tierR (x :: l) j = if x.1 = j then (x.2, true) else tierR l j := by
  unfold tierR
  rw [List.find?_cons]
  by_cases h : x.1 = j
  · rw [if_pos h, decide_eq_true h]
  · rw [if_neg h, decide_eq_false h]
theorem tierR_rng {l : List Cd} (ht : ∀ x ∈ l, 0 ≤ x.2 ∧ x.2 ≤ 255) (j : Nat) : 0 ≤ (tierR l j).1 ∧ (tierR l j).1 ≤ 255 := by
  unfold tierR
  cases hf : l.find? (fun c => decide (c.1 = j)) with
  | none => exact ⟨Int.le_refl _, by show (0 : Int) ≤ 255; omega⟩
  | some c => exact ht c (List.mem_of_find?_eq_some hf)
theorem tierOf_S (R : Assn) (s : SV) (l : List Cd) (j : Nat) (hsn : s.n = l.length) (hR : RdS R s s.n 2 (l.flatMap cdC)) : Spec Tryd.prog 45 [s.v, .int .u32 (j : Int)] [R] fun Γ v Θ => v = .tuple #[.int .u8 (tierR l j).1, .bool (tierR l j).2] ∧ Θ = R :: Γ := by
  refine Spec.of_body Tryd.func45 rfl Tryd.ntmps45 rfl ?_
  intro w0 Γ
  show S _ w0 [(0, s.v), (1, .int .u32 (j : Int))] (R :: Γ) _
  refine S.rCap hR fun _ hc1 hc2 => ?_
  refine S.seq fun K1 hK1 => ?_
  refine S.region rfl ?_
  refine S.op (S.q (q_assign rfl) rfl rfl ?_)
  refine S.op (S.q (q_assign rfl) rfl rfl ?_)
  first | with_reducible refine S.nilK ?_ | refine S.nil ?_
  refine hK1 _ _ ?_
  refine S.seq fun K2 hK2 => ?_
  refine S.seq fun K3 hK3 => ?_
  refine S.region rfl ?_
  refine S.op (S.q (q_move rfl) rfl rfl ?_)
  refine S.op (S.q (q_len Tryd.underlying28 rfl) rfl rfl ?_)
  refine S.op (S.q (q_move rfl) rfl rfl ?_)
  first | with_reducible refine S.nilK ?_ | refine S.nil ?_
  refine hK3 _ _ ?_
  refine S.block ?_
  refine S.loop (fun q ρ' Γ' => ∃ i : Nat, q = l.length - i ∧ i ≤ l.length ∧ tierR l j = tierR (l.drop i) j ∧ ρ' = [(1, .int .u32 (j : Int)), (8, s.v), (9, .int .i64 (s.n : Int)), (10, .int .i64 (i : Int))] ∧ Γ' = R :: Γ) (m := _) (ρ0 := _) (Γ0 := _) (⟨0, rfl, by omega, rfl, rfl, rfl⟩) (by repeat (first | exact trivial | refine ⟨rfl, ?_⟩)) Sub.ent ?_
  rintro q ρ' Γ' ⟨i, hq, hi, htr, rfl, rfl⟩
  refine S.seq fun K4 hK4 => ?_
  refine S.region rfl ?_
  refine S.op (S.q (q_lt rfl rfl) rfl rfl ?_)
  first | with_reducible refine S.nilK ?_ | refine S.nil ?_
  refine hK4 _ _ ?_
  refine S.seq fun K5 hK5 => ?_
  refine S.condD rfl (fun h1 => ?_) (fun h1 => ?_)
  · refine S.rSome hR (by omega) fun sb so hsa => ?_
    obtain ⟨x, hx⟩ := getE (show i < l.length by omega)
    have hxd : l.drop i = x :: l.drop (i + 1) := by
      have hkl := List.getElem?_eq_some_iff.1 hx
      rw [List.drop_eq_getElem_cons hkl.1, hkl.2]
    rw [hxd, tierR_cons] at htr
    refine S.skip ?_
    with_reducible repeat (first | refine S.then_n ?_ | refine S.then_x ?_ | refine S.then_r ?_ | refine S.inBlock_n ?_ | refine S.inBlock_r ?_ | refine S.inBlock_x rfl ?_ | refine S.noGoto_r ?_ | refine S.noGoto_n ?_ | refine S.noGoto_x ?_)
    refine hK5 _ _ ?_
    refine S.seq fun K6 hK6 => ?_
    refine S.block ?_
    refine S.seq fun K7 hK7 => ?_
    refine S.region rfl ?_
    refine S.op (S.q (q_indexO (i) Tryd.el28 rfl hsa rfl rfl (by omega)) rfl rfl ?_)
    refine S.op (S.q (q_loadRS hR (i * 2) (cdC x) Tryd.ag89 rfl hsa (by omega) rfl rfl (flat_seg (enc := cdC) (sz := 2) (fun _ => rfl) hx)) rfl rfl ?_)
    refine S.op (S.alloc Tryd.z89 rfl ?_)
    intro b7
    refine S.op (S.storeS (cs' := [_, _]) Tryd.ag89 rfl rfl rfl rfl rfl rfl ?_)
    first | with_reducible refine S.nilK ?_ | refine S.nil ?_
    refine hK7 _ _ ?_
    refine S.seq fun K8 hK8 => ?_
    refine S.region rfl ?_
    refine S.op (S.q (q_field Tryd.fo89_0 rfl) rfl rfl ?_)
    refine S.op (S.q (q_load Tryd.at68 rfl rfl) rfl rfl ?_)
    refine S.op (S.q (q_move rfl) rfl rfl ?_)
    refine S.op (S.q (q_eq rfl rfl) rfl rfl ?_)
    first | with_reducible refine S.nilK ?_ | refine S.nil ?_
    refine hK8 _ _ ?_
    refine S.condD rfl (fun h2 => ?_) (fun h2 => ?_)
    · rw [if_pos (by omega)] at htr
      refine S.seq fun K9 hK9 => ?_
      refine S.region rfl ?_
      refine S.op (S.q (q_field Tryd.fo89_1 rfl) rfl rfl ?_)
      refine S.op (S.q (q_load Tryd.at5 rfl rfl) rfl rfl ?_)
      refine S.op (S.q (q_assign rfl) rfl rfl ?_)
      refine S.op (S.q (q_assign rfl) rfl rfl ?_)
      first | with_reducible refine S.nilK ?_ | refine S.nil ?_
      refine hK9 _ _ ?_
      refine S.ret ?_
      with_reducible repeat (first | refine S.then_n ?_ | refine S.then_x ?_ | refine S.then_r ?_ | refine S.inBlock_n ?_ | refine S.inBlock_r ?_ | refine S.inBlock_x rfl ?_ | refine S.noGoto_r ?_ | refine S.noGoto_n ?_ | refine S.noGoto_x ?_)
      exact S.fin (rs := [_, _]) (vs := [_, _]) Tryd.results45 (⟨rfl, rfl, trivial⟩)  (⟨by rw [htr]; rfl, rfl⟩) Sub.ent
    · rw [if_neg (by omega)] at htr
      refine S.skip ?_
      with_reducible repeat (first | refine S.then_n ?_ | refine S.then_x ?_ | refine S.then_r ?_ | refine S.inBlock_n ?_ | refine S.inBlock_r ?_ | refine S.inBlock_x rfl ?_ | refine S.noGoto_r ?_ | refine S.noGoto_n ?_ | refine S.noGoto_x ?_)
      with_reducible repeat (first | refine S.then_n ?_ | refine S.then_x ?_ | refine S.then_r ?_ | refine S.inBlock_n ?_ | refine S.inBlock_r ?_ | refine S.inBlock_x rfl ?_ | refine S.noGoto_r ?_ | refine S.noGoto_n ?_ | refine S.noGoto_x ?_)
      refine hK6 _ _ ?_
      refine S.region rfl ?_
      refine S.op (S.q (q_add rfl rfl (inI64 (by omega) (by omega))) rfl rfl ?_)
      refine S.op (S.q (q_move rfl) rfl rfl ?_)
      first | with_reducible refine S.nilK ?_ | refine S.nil ?_
      with_reducible repeat (first | refine S.then_n ?_ | refine S.then_x ?_ | refine S.then_r ?_ | refine S.inBlock_n ?_ | refine S.inBlock_r ?_ | refine S.inBlock_x rfl ?_ | refine S.noGoto_r ?_ | refine S.noGoto_n ?_ | refine S.noGoto_x ?_)
      exact S.next (q - 1) (⟨i + 1, by omega, by omega, htr, rfl, rfl⟩) (by omega) (by repeat (first | exact trivial | refine ⟨rfl, ?_⟩)) Sub.ent
  · rw [show i = l.length by omega, List.drop_length] at htr
    refine S.exit ?_
    with_reducible repeat (first | refine S.then_n ?_ | refine S.then_x ?_ | refine S.then_r ?_ | refine S.inBlock_n ?_ | refine S.inBlock_r ?_ | refine S.inBlock_x rfl ?_ | refine S.noGoto_r ?_ | refine S.noGoto_n ?_ | refine S.noGoto_x ?_)
    with_reducible refine S.inBlock_s ?_
    with_reducible repeat (first | refine S.then_n ?_ | refine S.then_x ?_ | refine S.then_r ?_ | refine S.inBlock_n ?_ | refine S.inBlock_r ?_ | refine S.inBlock_x rfl ?_ | refine S.noGoto_r ?_ | refine S.noGoto_n ?_ | refine S.noGoto_x ?_)
    refine hK2 _ _ ?_
    refine S.seq fun K10 hK10 => ?_
    refine S.region rfl ?_
    refine S.op (S.q (q_assign rfl) rfl rfl ?_)
    refine S.op (S.q (q_assign rfl) rfl rfl ?_)
    first | with_reducible refine S.nilK ?_ | refine S.nil ?_
    refine hK10 _ _ ?_
    refine S.ret ?_
    with_reducible repeat (first | refine S.then_n ?_ | refine S.then_x ?_ | refine S.then_r ?_ | refine S.inBlock_n ?_ | refine S.inBlock_r ?_ | refine S.inBlock_x rfl ?_ | refine S.noGoto_r ?_ | refine S.noGoto_n ?_ | refine S.noGoto_x ?_)
    exact S.fin (rs := [_, _]) (vs := [_, _]) Tryd.results45 (⟨rfl, rfl, trivial⟩)  (⟨by rw [htr]; rfl, rfl⟩) Sub.ent
/-- The greatest tier of jobs. -/
def dtUp (l : List Cd) (js : List Nat) : Nat → Int
  | 0 => -1
  | i + 1 => if dtUp l js i < (tierR l (js.getD i 0)).1 then (tierR l (js.getD i 0)).1 else dtUp l js i
theorem dtUp_rng {l : List Cd} (ht : ∀ x ∈ l, 0 ≤ x.2 ∧ x.2 ≤ 255) (js : List Nat) : ∀ i, -1 ≤ dtUp l js i ∧ dtUp l js i ≤ 255
  | 0 => by rw [dtUp]; omega
  | i + 1 => by
    have h1 := dtUp_rng ht js i
    have h2 := tierR_rng ht (js.getD i 0)
    rw [dtUp]
    split <;> omega
theorem dtop_S (R Q : Assn) (s u : SV) (l : List Cd) (js : List Nat) (hsn : s.n = l.length) (hun : u.n = js.length) (ht : ∀ x ∈ l, 0 ≤ x.2 ∧ x.2 ≤ 255) (hR : RdS R s s.n 2 (l.flatMap cdC)) (hQ : RdS Q u u.n 1 (idsV js)) : Spec Tryd.prog 43 [.agg #[s.v], u.v] [R, Q] fun Γ v Θ => v = .int .i64 (dtUp l js js.length) ∧ Θ = R :: Q :: Γ := by
  refine Spec.of_body Tryd.func43 rfl Tryd.ntmps43 rfl ?_
  intro w0 Γ
  show S _ w0 [(0, .agg #[s.v]), (1, u.v)] (R :: Q :: Γ) _
  refine S.rCap hQ fun _ hc1 hc2 => ?_
  refine S.seq fun K1 hK1 => ?_
  refine S.region rfl ?_
  refine S.op (S.box (cs := [_]) rfl rfl rfl ?_)
  intro b2
  refine S.op (S.q (q_assign rfl) rfl rfl ?_)
  first | with_reducible refine S.nilK ?_ | refine S.nil ?_
  refine hK1 _ _ ?_
  refine S.seq fun K2 hK2 => ?_
  refine S.region rfl ?_
  refine S.op (S.q (q_assign rfl) rfl rfl ?_)
  first | with_reducible refine S.nilK ?_ | refine S.nil ?_
  refine hK2 _ _ ?_
  refine S.seq fun K3 hK3 => ?_
  refine S.seq fun K4 hK4 => ?_
  refine S.region rfl ?_
  refine S.op (S.q (q_move rfl) rfl rfl ?_)
  refine S.op (S.q (q_len Tryd.underlying31 rfl) rfl rfl ?_)
  refine S.op (S.q (q_move rfl) rfl rfl ?_)
  first | with_reducible refine S.nilK ?_ | refine S.nil ?_
  refine hK4 _ _ ?_
  refine S.block ?_
  refine S.loop (fun q ρ' Γ' => ∃ i : Nat, q = js.length - i ∧ i ≤ js.length ∧ ρ' = [(2, .pointer (some ⟨b2, 0, none⟩)), (5, .int .i64 (dtUp l js i)), (10, u.v), (11, .int .i64 (u.n : Int)), (12, .int .i64 (i : Int))] ∧ Γ' = blk b2 99 #[s.v] :: R :: Q :: Γ) (m := _) (ρ0 := _) (Γ0 := _) (⟨0, rfl, by omega, rfl, rfl⟩) (by repeat (first | exact trivial | refine ⟨rfl, ?_⟩)) Sub.ent ?_
  rintro q ρ' Γ' ⟨i, hq, hi, rfl, rfl⟩
  refine S.seq fun K5 hK5 => ?_
  refine S.region rfl ?_
  refine S.op (S.q (q_lt rfl rfl) rfl rfl ?_)
  first | with_reducible refine S.nilK ?_ | refine S.nil ?_
  refine hK5 _ _ ?_
  refine S.seq fun K6 hK6 => ?_
  refine S.condD rfl (fun h1 => ?_) (fun h1 => ?_)
  · refine S.rSome hQ (by omega) fun sb so hsa => ?_
    obtain ⟨x, hx⟩ := getE (show i < js.length by omega)
    have hxd : js.getD i 0 = x := by simp [List.getD, hx]
    obtain ⟨t, ok, htx⟩ : ∃ t ok, tierR l x = (t, ok) := ⟨_, _, rfl⟩
    have hr := tierR_rng ht x
    rw [htx] at hr
    have hst : dtUp l js (i + 1) = if dtUp l js i < t then t else dtUp l js i := by rw [dtUp, hxd, htx]
    refine S.skip ?_
    with_reducible repeat (first | refine S.then_n ?_ | refine S.then_x ?_ | refine S.then_r ?_ | refine S.inBlock_n ?_ | refine S.inBlock_r ?_ | refine S.inBlock_x rfl ?_ | refine S.noGoto_r ?_ | refine S.noGoto_n ?_ | refine S.noGoto_x ?_)
    refine hK6 _ _ ?_
    refine S.seq fun K7 hK7 => ?_
    refine S.block ?_
    refine S.seq fun K8 hK8 => ?_
    refine S.region rfl ?_
    refine S.op (S.q (q_indexO (i) Tryd.el31 rfl hsa rfl rfl (by omega)) rfl rfl ?_)
    refine S.op (S.q (q_loadR hQ i Tryd.at68 rfl hsa (by omega) (by omega) (idsV_get hx)) rfl rfl ?_)
    refine S.op (S.q (q_assign rfl) rfl rfl ?_)
    first | with_reducible refine S.nilK ?_ | refine S.nil ?_
    refine hK8 _ _ ?_
    refine S.seq fun K9 hK9 => ?_
    refine S.region rfl ?_
    refine S.op (S.q (q_field Tryd.fo99_0 rfl) rfl rfl ?_)
    refine S.op (S.q (q_load Tryd.at28 rfl rfl) rfl rfl ?_)
    refine S.op (S.q (q_move rfl) rfl rfl ?_)
    refine S.op (S.call Tryd.en45 (vs := [_, _]) ⟨rfl, rfl, trivial⟩ (tierOf_S R s l x hsn hR) rfl ?_)
    rintro v Θ ⟨rfl, rfl⟩
    rw [htx]
    refine S.op (S.q (q_move rfl) rfl rfl ?_)
    refine S.op (S.q (q_extract rfl rfl) rfl rfl ?_)
    refine S.op (S.q (q_extract rfl rfl) rfl rfl ?_)
    refine S.op (S.q (q_assign rfl) rfl rfl ?_)
    refine S.op (S.q (q_assign rfl) rfl rfl ?_)
    first | with_reducible refine S.nilK ?_ | refine S.nil ?_
    refine hK9 _ _ ?_
    refine S.seq fun K10 hK10 => ?_
    refine S.region rfl ?_
    refine S.op (S.q (q_move rfl) rfl rfl ?_)
    refine S.op (S.q (q_conv Tryd.it3 (by rw [Tryd.underlying5]; rfl) rfl (inI64 (by omega) (by omega))) rfl rfl ?_)
    refine S.op (S.q (q_move rfl) rfl rfl ?_)
    refine S.op (S.q (q_gt rfl rfl) rfl rfl ?_)
    first | with_reducible refine S.nilK ?_ | refine S.nil ?_
    refine hK10 _ _ ?_
    refine S.condD rfl (fun h2 => ?_) (fun h2 => ?_)
    · rw [if_pos h2] at hst
      refine S.region rfl ?_
      refine S.op (S.q (q_move rfl) rfl rfl ?_)
      refine S.op (S.q (q_conv Tryd.it3 (by rw [Tryd.underlying5]; rfl) rfl (inI64 (by omega) (by omega))) rfl rfl ?_)
      refine S.op (S.q (q_assign rfl) rfl rfl ?_)
      first | with_reducible refine S.nilK ?_ | refine S.nil ?_
      with_reducible repeat (first | refine S.then_n ?_ | refine S.then_x ?_ | refine S.then_r ?_ | refine S.inBlock_n ?_ | refine S.inBlock_r ?_ | refine S.inBlock_x rfl ?_ | refine S.noGoto_r ?_ | refine S.noGoto_n ?_ | refine S.noGoto_x ?_)
      refine hK7 _ _ ?_
      refine S.region rfl ?_
      refine S.op (S.q (q_add rfl rfl (inI64 (by omega) (by omega))) rfl rfl ?_)
      refine S.op (S.q (q_move rfl) rfl rfl ?_)
      first | with_reducible refine S.nilK ?_ | refine S.nil ?_
      with_reducible repeat (first | refine S.then_n ?_ | refine S.then_x ?_ | refine S.then_r ?_ | refine S.inBlock_n ?_ | refine S.inBlock_r ?_ | refine S.inBlock_x rfl ?_ | refine S.noGoto_r ?_ | refine S.noGoto_n ?_ | refine S.noGoto_x ?_)
      exact S.next (q - 1) ⟨i + 1, by omega, by omega, by rw [hst], rfl⟩ (by omega) (by repeat (first | exact trivial | refine ⟨rfl, ?_⟩)) Sub.ent
    · rw [if_neg h2] at hst
      refine S.skip ?_
      with_reducible repeat (first | refine S.then_n ?_ | refine S.then_x ?_ | refine S.then_r ?_ | refine S.inBlock_n ?_ | refine S.inBlock_r ?_ | refine S.inBlock_x rfl ?_ | refine S.noGoto_r ?_ | refine S.noGoto_n ?_ | refine S.noGoto_x ?_)
      with_reducible repeat (first | refine S.then_n ?_ | refine S.then_x ?_ | refine S.then_r ?_ | refine S.inBlock_n ?_ | refine S.inBlock_r ?_ | refine S.inBlock_x rfl ?_ | refine S.noGoto_r ?_ | refine S.noGoto_n ?_ | refine S.noGoto_x ?_)
      refine hK7 _ _ ?_
      refine S.region rfl ?_
      refine S.op (S.q (q_add rfl rfl (inI64 (by omega) (by omega))) rfl rfl ?_)
      refine S.op (S.q (q_move rfl) rfl rfl ?_)
      first | with_reducible refine S.nilK ?_ | refine S.nil ?_
      with_reducible repeat (first | refine S.then_n ?_ | refine S.then_x ?_ | refine S.then_r ?_ | refine S.inBlock_n ?_ | refine S.inBlock_r ?_ | refine S.inBlock_x rfl ?_ | refine S.noGoto_r ?_ | refine S.noGoto_n ?_ | refine S.noGoto_x ?_)
      exact S.next (q - 1) ⟨i + 1, by omega, by omega, by rw [hst], rfl⟩ (by omega) (by repeat (first | exact trivial | refine ⟨rfl, ?_⟩)) Sub.ent
  · rw [show i = js.length by omega]
    refine S.exit ?_
    with_reducible repeat (first | refine S.then_n ?_ | refine S.then_x ?_ | refine S.then_r ?_ | refine S.inBlock_n ?_ | refine S.inBlock_r ?_ | refine S.inBlock_x rfl ?_ | refine S.noGoto_r ?_ | refine S.noGoto_n ?_ | refine S.noGoto_x ?_)
    with_reducible refine S.inBlock_s ?_
    with_reducible repeat (first | refine S.then_n ?_ | refine S.then_x ?_ | refine S.then_r ?_ | refine S.inBlock_n ?_ | refine S.inBlock_r ?_ | refine S.inBlock_x rfl ?_ | refine S.noGoto_r ?_ | refine S.noGoto_n ?_ | refine S.noGoto_x ?_)
    refine hK3 _ _ ?_
    refine S.seq fun K11 hK11 => ?_
    refine S.region rfl ?_
    refine S.op (S.q (q_move rfl) rfl rfl ?_)
    refine S.op (S.q (q_assign rfl) rfl rfl ?_)
    first | with_reducible refine S.nilK ?_ | refine S.nil ?_
    refine hK11 _ _ ?_
    refine S.ret ?_
    with_reducible repeat (first | refine S.then_n ?_ | refine S.then_x ?_ | refine S.then_r ?_ | refine S.inBlock_n ?_ | refine S.inBlock_r ?_ | refine S.inBlock_x rfl ?_ | refine S.noGoto_r ?_ | refine S.noGoto_n ?_ | refine S.noGoto_x ?_)
    exact S.fin (rs := [_]) (vs := [_]) Tryd.results43 (⟨rfl, trivial⟩)  (⟨rfl, rfl⟩) Sub.ent
def pkI (o : Option Nat) : Int := match o with
  | some i => (i : Int)
  | none => -1
theorem pkI_nn {o : Option Nat} (h : (0 : Int) ≤ pkI o) : ∃ b, o = some b := by
  cases o with
  | none => exact absurd h (by decide)
  | some b => exact ⟨b, rfl⟩
theorem pkI_neg {o : Option Nat} (h : ¬ (0 : Int) ≤ pkI o) : o = none := by
  cases o with
  | none => rfl
  | some b => exact absurd (show (0 : Int) ≤ (b : Int) by omega) h
theorem vicUp_step {m : Mx} {al : List Cd} {h0 : Nat} {k : Int} {i : Nat} (h : vicUp m al h0 k i = none) (hlt : ((haveUp m al h0 i : Nat) : Int) < k) : vicUp m al h0 k (i + 1) = none := by
  rw [vicUp, h]
  exact if_neg (by omega)
theorem vicUp_here {m : Mx} {al : List Cd} {h0 : Nat} {k : Int} {i : Nat} (h : vicUp m al h0 k i = none) (hge : k ≤ ((haveUp m al h0 i : Nat) : Int)) : vicUp m al h0 k (i + 1) = some i := by
  rw [vicUp, h]
  exact if_pos hge
theorem pick_lt {l : List Cd} {tier : Int} {left : List Nat} : ∀ {p b}, pickUp l tier left p = some b → b < p
  | 0, b, h => by cases h
  | p + 1, b, h => by
    rw [pickUp] at h
    split at h
    · have := pick_lt h; omega
    · cases hv : pickUp l tier left p with
      | none => rw [hv] at h; cases h; omega
      | some b0 =>
        rw [hv] at h
        have := pick_lt hv
        simp only at h
        split at h <;> cases h <;> omega
theorem ids_flat (l : List Nat) : idsV l = l.flatMap fun j : Nat => [Value.int .u32 (j : Int)] := by
  induction l with
  | nil => rfl
  | cons x l ih => rw [List.flatMap_cons, ← ih]; rfl
theorem ids_take {w : World} {s : SV} {l : List Nat} (h : SlAt w s.v s.n 1 (idsV l)) {i : Nat} (hi : i ≤ s.n) : SlAt w (.slice s.a i s.c) i 1 (idsV (l.take i)) := by
  rw [ids_flat] at h ⊢
  exact own_takeG (sz := 1) (fun _ => rfl) (by decide) h hi
theorem ids_drop {w : World} {s : SV} {l : List Nat} (h : SlAt w s.v s.n 1 (idsV l)) {i : Nat} (hi : i ≤ s.n) : SlAt w (.slice (if s.c = i then s.a else s.a.map (·.add (i * 1))) (s.n - i) (s.c - i)) (s.n - i) 1 (idsV (l.drop i)) := by
  rw [ids_flat] at h ⊢
  exact own_dropG (sz := 1) (fun _ => rfl) (by decide) h hi
theorem jobs_snoc {al : List Cd} {i : Nat} (h : i < al.length) : idsV (jobsR (al.take (i + 1))) = idsV (jobsR (al.take i)) ++ [Value.int .u32 ((al.getD i (0, 0)).1 : Int)] := by
  rw [List.take_add_one, List.getElem?_eq_getElem h, getD_lt h]
  simp only [Option.toList, List.map_append, List.map_cons, List.map_nil]
set_option maxHeartbeats 2000000 in
theorem rVOf_S (c : Nat) (m : Mx) (row tier k : Int) (R : Assn) (s : SV) (l : List Cd) (hnd : (l.map (·.1)).Nodup) (hsn : s.n = l.length) (hl : l.length ≤ 1000) (hR : RdS R s s.n 2 (l.flatMap cdC)) : Spec Tryd.prog 11 [.pointer (some ⟨c, 0, none⟩), .int .i64 row, s.v, .int .u8 tier, .int .i64 k] [RI c m, R] fun Γ v Θ =>
    ∃ u : SV, v = .tuple #[u.v, .bool (ofV m row tier k l).2] ∧ u.n = (ofV m row tier k l).1.length ∧ Θ = own u 68 1 (idsV (jobsR (ofV m row tier k l).1)) :: RI c m :: R :: Γ := by
  refine Spec.riOk fun hm => ?_
  refine Spec.of_body Tryd.func11 rfl Tryd.ntmps11 rfl ?_
  intro w0 Γ
  show S _ w0 [(0, .pointer (some ⟨c, 0, none⟩)), (1, .int .i64 row), (2, s.v), (3, .int .u8 tier), (4, .int .i64 k)] (RI c m :: R :: Γ) _
  have hR8 := hm.R8
  have hN16 := hm.N16
  have hN1 := hm.N1
  obtain ⟨al, hal⟩ : ∃ al, al = lesR m row tier l := ⟨_, rfl⟩
  have hall : al.length ≤ l.length := by rw [hal]; exact lesR_len m row tier l
  obtain ⟨h0, hh0⟩ : ∃ h0, h0 = freeR m row := ⟨_, rfl⟩
  have hh16 : h0 ≤ 16 := by rw [hh0]; exact freeR_le m row
  refine S.rCap hR fun _ hrc1 hrc2 => ?_
  refine S.riOpen c m fun cs us rs hri => ?_
  have hcn := hri.cn
  refine S.seq fun K1 hK1 => ?_
  refine S.region rfl ?_
  refine S.op (S.q (q_assign rfl) rfl rfl ?_)
  refine S.op (S.q (q_assign rfl) rfl rfl ?_)
  first | with_reducible refine S.nilK ?_ | refine S.nil ?_
  refine hK1 _ _ ?_
  refine S.seq fun K2 hK2 => ?_
  refine S.seq fun K3 hK3 => ?_
  refine S.cut (fun ρ' Γ' => ρ' = [(0, .pointer (some ⟨c, 0, none⟩)), (1, .int .i64 row), (2, s.v), (3, .int .u8 tier), (4, .int .i64 k), (46, .bool (decide (k < 1 ∨ row < 0 ∨ (m.R : Int) ≤ row)))] ∧ Γ' = RI c m :: R :: Γ) ?_ ?_
  · refine S.regionG ?_
    refine S.g_op rfl (S.q (q_move rfl) rfl rfl ?_)
    refine S.g_op rfl (S.q (q_eqN Tryd.underlying26 rfl rfl) rfl rfl ?_)
    refine S.g_op rfl (S.q (q_move rfl) rfl rfl ?_)
    refine S.g_yes rfl rfl rfl (rfl) (S.q (q_move rfl) rfl rfl ?_)
    refine S.g_yes rfl rfl rfl (rfl) (S.q (q_lt rfl rfl) rfl rfl ?_)
    refine S.g_op rfl (S.q (q_pickF rfl (rfl) rfl) rfl rfl ?_)
    refine S.g_op rfl (S.q (q_move rfl) rfl rfl ?_)
    by_cases hg1_6 : row < 0
    · refine S.g_no rfl rfl rfl (decide_eq_true hg1_6) rfl rfl ?_
      refine S.g_no rfl rfl rfl (decide_eq_true hg1_6) rfl rfl ?_
      refine S.g_no rfl rfl rfl (decide_eq_true hg1_6) rfl rfl ?_
      refine S.g_no rfl rfl rfl (decide_eq_true hg1_6) rfl rfl ?_
      refine S.g_no rfl rfl rfl (decide_eq_true hg1_6) rfl rfl ?_
      refine S.g_no rfl rfl rfl (decide_eq_true hg1_6) rfl rfl ?_
      refine S.g_no rfl rfl rfl (decide_eq_true hg1_6) rfl rfl ?_
      refine S.g_op rfl (S.q (q_pickT rfl (decide_eq_true hg1_6) rfl) rfl rfl ?_)
      refine S.g_op rfl (S.q (q_move rfl) rfl rfl ?_)
      refine S.g_no rfl rfl rfl (rfl) rfl rfl ?_
      refine S.g_no rfl rfl rfl (rfl) rfl rfl ?_
      refine S.g_op rfl (S.q (q_pickT rfl (rfl) rfl) rfl rfl ?_)
      first | with_reducible refine S.g_nilK ?_ | refine S.g_nil ?_
      with_reducible repeat (first | refine S.then_n ?_ | refine S.then_x ?_ | refine S.then_r ?_ | refine S.inBlock_n ?_ | refine S.inBlock_r ?_ | refine S.inBlock_x rfl ?_ | refine S.noGoto_r ?_ | refine S.noGoto_n ?_ | refine S.noGoto_x ?_)
      refine S.riClose c m cs us rs hri ?_
      first | (rw [show decide (k < 1 ∨ row < 0 ∨ (m.R : Int) ≤ row) = true from decide_eq_true (by omega)]; exact S.meet ⟨rfl, rfl⟩ ⟨rfl, rfl, rfl, rfl, rfl, rfl, trivial⟩ Sub.ent) | (rw [show decide (k < 1 ∨ row < 0 ∨ (m.R : Int) ≤ row) = decide (k < 1) from decide_eq_decide.2 (by omega)]; exact S.meet ⟨rfl, rfl⟩ ⟨rfl, rfl, rfl, rfl, rfl, rfl, trivial⟩ Sub.ent)
    · refine S.g_yes rfl rfl rfl (decide_eq_false hg1_6) (S.q (q_move rfl) rfl rfl ?_)
      refine S.g_yes rfl rfl rfl (decide_eq_false hg1_6) (S.q (q_move rfl) rfl rfl ?_)
      refine S.g_yes rfl rfl rfl (decide_eq_false hg1_6) (S.q (q_nilCheck rfl) rfl rfl ?_)
      refine S.g_yes rfl rfl rfl (decide_eq_false hg1_6) (S.q (q_field Tryd.fo55_0 rfl) rfl rfl ?_)
      refine S.g_yes rfl rfl rfl (decide_eq_false hg1_6) (S.q (q_load Tryd.at52 rfl rfl) rfl rfl ?_)
      refine S.g_yes rfl rfl rfl (decide_eq_false hg1_6) (S.q (q_len Tryd.underlying52 rfl) rfl rfl ?_)
      refine S.g_yes rfl rfl rfl (decide_eq_false hg1_6) (S.q (q_ge rfl rfl) rfl rfl ?_)
      refine S.g_op rfl (S.q (q_pickF rfl (decide_eq_false hg1_6) rfl) rfl rfl ?_)
      refine S.g_op rfl (S.q (q_move rfl) rfl rfl ?_)
      by_cases hg1_15 : (cs.n : Int) ≤ row
      · refine S.g_no rfl rfl rfl (decide_eq_true hg1_15) rfl rfl ?_
        refine S.g_no rfl rfl rfl (decide_eq_true hg1_15) rfl rfl ?_
        refine S.g_op rfl (S.q (q_pickT rfl (decide_eq_true hg1_15) rfl) rfl rfl ?_)
        first | with_reducible refine S.g_nilK ?_ | refine S.g_nil ?_
        with_reducible repeat (first | refine S.then_n ?_ | refine S.then_x ?_ | refine S.then_r ?_ | refine S.inBlock_n ?_ | refine S.inBlock_r ?_ | refine S.inBlock_x rfl ?_ | refine S.noGoto_r ?_ | refine S.noGoto_n ?_ | refine S.noGoto_x ?_)
        refine S.riClose c m cs us rs hri ?_
        first | (rw [show decide (k < 1 ∨ row < 0 ∨ (m.R : Int) ≤ row) = true from decide_eq_true (by omega)]; exact S.meet ⟨rfl, rfl⟩ ⟨rfl, rfl, rfl, rfl, rfl, rfl, trivial⟩ Sub.ent) | (rw [show decide (k < 1 ∨ row < 0 ∨ (m.R : Int) ≤ row) = decide (k < 1) from decide_eq_decide.2 (by omega)]; exact S.meet ⟨rfl, rfl⟩ ⟨rfl, rfl, rfl, rfl, rfl, rfl, trivial⟩ Sub.ent)
      · refine S.g_yes rfl rfl rfl (decide_eq_false hg1_15) (S.q (q_move rfl) rfl rfl ?_)
        refine S.g_yes rfl rfl rfl (decide_eq_false hg1_15) (S.q (q_lt rfl rfl) rfl rfl ?_)
        refine S.g_op rfl (S.q (q_pickF rfl (decide_eq_false hg1_15) rfl) rfl rfl ?_)
        first | with_reducible refine S.g_nilK ?_ | refine S.g_nil ?_
        with_reducible repeat (first | refine S.then_n ?_ | refine S.then_x ?_ | refine S.then_r ?_ | refine S.inBlock_n ?_ | refine S.inBlock_r ?_ | refine S.inBlock_x rfl ?_ | refine S.noGoto_r ?_ | refine S.noGoto_n ?_ | refine S.noGoto_x ?_)
        refine S.riClose c m cs us rs hri ?_
        first | (rw [show decide (k < 1 ∨ row < 0 ∨ (m.R : Int) ≤ row) = true from decide_eq_true (by omega)]; exact S.meet ⟨rfl, rfl⟩ ⟨rfl, rfl, rfl, rfl, rfl, rfl, trivial⟩ Sub.ent) | (rw [show decide (k < 1 ∨ row < 0 ∨ (m.R : Int) ≤ row) = decide (k < 1) from decide_eq_decide.2 (by omega)]; exact S.meet ⟨rfl, rfl⟩ ⟨rfl, rfl, rfl, rfl, rfl, rfl, trivial⟩ Sub.ent)
  · rintro ρ' Γ' ⟨rfl, rfl⟩
    refine hK3 _ _ ?_
    refine S.condD rfl (fun h1 => ?_) (fun h1 => ?_)
    · have ho : ofV m row tier k l = ([], false) := by rw [ofV, if_pos h1]
      refine S.seq fun K4 hK4 => ?_
      refine S.region rfl ?_
      refine S.op (S.q (q_assign rfl) rfl rfl ?_)
      refine S.op (S.q (q_assign rfl) rfl rfl ?_)
      first | with_reducible refine S.nilK ?_ | refine S.nil ?_
      refine hK4 _ _ ?_
      refine S.ret ?_
      with_reducible repeat (first | refine S.then_n ?_ | refine S.then_x ?_ | refine S.then_r ?_ | refine S.inBlock_n ?_ | refine S.inBlock_r ?_ | refine S.inBlock_x rfl ?_ | refine S.noGoto_r ?_ | refine S.noGoto_n ?_ | refine S.noGoto_x ?_)
      refine S.ent (Ent.ownNil 68 1) ?_
      show S _ w0 _ (own SV.nil 68 1 (idsV (jobsR [])) :: _) _
      exact S.fin (rs := [_, _]) (vs := [_, _]) Tryd.results11 (⟨rfl, rfl, trivial⟩)  (⟨SV.nil, by rw [ho]; rfl, by rw [ho]; rfl, by rw [ho]⟩) Sub.ent
    · obtain ⟨r, rfl⟩ : ∃ r : Nat, row = r := ⟨row.toNat, by omega⟩
      have hrR : r < m.R := by omega
      have hfl : (freeL m r).length = h0 := by rw [freeL_len, hh0]
      have hofv : ofV m r tier k l = match vicUp m al h0 k (al.length + 1) with
        | some i => (al.take i, true)
        | none => ([], false) := by rw [ofV, if_neg h1, ← hal, ← hh0]; rfl
      refine S.skip ?_
      with_reducible repeat (first | refine S.then_n ?_ | refine S.then_x ?_ | refine S.then_r ?_ | refine S.inBlock_n ?_ | refine S.inBlock_r ?_ | refine S.inBlock_x rfl ?_ | refine S.noGoto_r ?_ | refine S.noGoto_n ?_ | refine S.noGoto_x ?_)
      refine hK2 _ _ ?_
      refine S.seq fun K5 hK5 => ?_
      refine S.region rfl ?_
      refine S.op (S.q (q_move rfl) rfl rfl ?_)
      refine S.op (S.q (q_move rfl) rfl rfl ?_)
      refine S.op (S.call Tryd.en44 (vs := [_, _]) ⟨rfl, rfl, trivial⟩ (rFree_S c m r) rfl ?_)
      rintro v Θ ⟨fv, rfl, hfv, rfl⟩
      rw [hfl] at hfv
      have hfv2 : (fv.n : Int) = ((haveUp m al h0 0 : Nat) : Int) := by rw [hfv]; rfl
      refine S.op (S.q (q_len Tryd.underlying69 rfl) rfl rfl ?_)
      refine S.op (S.q (q_assign rfl) rfl rfl ?_)
      first | with_reducible refine S.nilK ?_ | refine S.nil ?_
      refine hK5 _ _ ?_
      refine S.seq fun K6 hK6 => ?_
      refine S.region rfl ?_
      refine S.op (S.q (q_move rfl) rfl rfl ?_)
      refine S.op (S.q (q_move rfl) rfl rfl ?_)
      rw [hfv2]
      refine S.op (S.call Tryd.en19 (vs := [_, _]) ⟨rfl, rfl, trivial⟩ (rRow_S c m r) rfl ?_)
      rintro v Θ ⟨lv0, rfl, hlv0, rfl⟩
      refine S.op (S.q (q_assign rfl) rfl rfl ?_)
      first | with_reducible refine S.nilK ?_ | refine S.nil ?_
      refine hK6 _ _ ?_
      refine S.seq fun K7 hK7 => ?_
      refine S.region rfl ?_
      refine S.ent (Ent.ownNil 68 1) ?_
      show S _ w0 _ (own SV.nil 68 1 (idsV (jobsR (al.take 0))) :: _) _
      refine S.op (S.q (q_assign rfl) rfl rfl ?_)
      first | with_reducible refine S.nilK ?_ | refine S.nil ?_
      refine hK7 _ _ ?_
      refine S.seq fun K8 hK8 => ?_
      refine S.block ?_
      refine S.loop (fun q ρ' Γ' => ∃ (i : Nat) (left : List Nat) (lv ov : SV), q = al.length - i ∧ i ≤ al.length ∧ Left m r al i left ∧ left.length ≤ 16 ∧ lv.n = left.length ∧ ov.n = i ∧ vicUp m al h0 k i = none ∧ ρ' = [(0, .pointer (some ⟨c, 0, none⟩)), (2, s.v), (3, .int .u8 tier), (4, .int .i64 k), (12, .int .i64 (haveUp m al h0 i : Nat)), (13, lv.v), (14, ov.v)] ∧   Γ' = own lv 68 1 (idsV left) :: own ov 68 1 (idsV (jobsR (al.take i))) :: RI c m :: R :: Γ) (m := _) (ρ0 := _) (Γ0 := _) (⟨0, rowIds m r, lv0, SV.nil, rfl, by omega, left_zero hm hrR al, rIds_len m r, hlv0, rfl, rfl, rfl, rfl⟩) (by repeat (first | exact trivial | refine ⟨rfl, ?_⟩)) Sub.ent ?_
      rintro q ρ' Γ' ⟨i, left, lv, ov, hq, hi, hL, hl16, hlv, hov, hnone, rfl, rfl⟩
      have hle := haveUp_le (m := m) (al := al) hh16 i
      have hpn := pick_next hm hnd (i := i) (left := left) (tier := tier) (by rw [← hal]; exact hi) (by rw [← hal]; exact hL)
      rw [← hal] at hpn
      refine S.seq fun K9 hK9 => ?_
      refine S.seq fun K10 hK10 => ?_
      refine S.region rfl ?_
      refine S.op (S.q (q_move rfl) rfl rfl ?_)
      refine S.op (S.q (q_move rfl) rfl rfl ?_)
      refine S.op (S.q (q_lt rfl rfl) rfl rfl ?_)
      first | with_reducible refine S.nilK ?_ | refine S.nil ?_
      refine hK10 _ _ ?_
      refine S.condD rfl (fun h2 => ?_) (fun h2 => ?_)
      · refine S.skip ?_
        with_reducible repeat (first | refine S.then_n ?_ | refine S.then_x ?_ | refine S.then_r ?_ | refine S.inBlock_n ?_ | refine S.inBlock_r ?_ | refine S.inBlock_x rfl ?_ | refine S.noGoto_r ?_ | refine S.noGoto_n ?_ | refine S.noGoto_x ?_)
        refine hK9 _ _ ?_
        refine S.block ?_
        refine S.seq fun K11 hK11 => ?_
        refine S.region rfl ?_
        refine S.op (S.q (q_assign rfl) rfl rfl ?_)
        first | with_reducible refine S.nilK ?_ | refine S.nil ?_
        refine hK11 _ _ ?_
        refine S.seq fun K12 hK12 => ?_
        refine S.seq fun K13 hK13 => ?_
        refine S.region rfl ?_
        refine S.op (S.q (q_move rfl) rfl rfl ?_)
        refine S.op (S.q (q_len Tryd.underlying31 rfl) rfl rfl ?_)
        refine S.op (S.q (q_move rfl) rfl rfl ?_)
        first | with_reducible refine S.nilK ?_ | refine S.nil ?_
        refine hK13 _ _ ?_
        refine S.block ?_
        refine S.loop (fun q2 ρ' Γ' => ∃ p : Nat, q2 = left.length - p ∧ p ≤ left.length ∧ ρ' = [(0, .pointer (some ⟨c, 0, none⟩)), (2, s.v), (3, .int .u8 tier), (4, .int .i64 k), (12, .int .i64 (haveUp m al h0 i : Nat)), (13, lv.v), (14, ov.v), (15, .int .i64 (pkI (pickUp l tier left p))), (57, lv.v), (58, .int .i64 (lv.n : Int)), (59, .int .i64 (p : Int))] ∧   Γ' = own lv 68 1 (idsV left) :: own ov 68 1 (idsV (jobsR (al.take i))) :: RI c m :: R :: Γ) (m := _) (ρ0 := _) (Γ0 := _) (⟨0, rfl, by omega, rfl, rfl⟩) (by repeat (first | exact trivial | refine ⟨rfl, ?_⟩)) Sub.ent ?_
        rintro q2 ρ' Γ' ⟨p, hq2, hp, rfl, rfl⟩
        refine S.seq fun K14 hK14 => ?_
        refine S.region rfl ?_
        refine S.op (S.q (q_lt rfl rfl) rfl rfl ?_)
        first | with_reducible refine S.nilK ?_ | refine S.nil ?_
        refine hK14 _ _ ?_
        refine S.seq fun K15 hK15 => ?_
        refine S.condD rfl (fun h3 => ?_) (fun h3 => ?_)
        · refine S.ownSome lv (by omega) fun lb lo hla _ _ _ => ?_
          obtain ⟨x, hx⟩ := getE (show p < left.length by omega)
          have hxd : left.getD p 0 = x := by simp [List.getD, hx]
          obtain ⟨t, ok, htx⟩ : ∃ t ok, tierR l x = (t, ok) := ⟨_, _, rfl⟩
          have hpk : pickUp l tier left (p + 1) = if (!ok || decide (tier ≤ t)) = true then pickUp l tier left p else
              match pickUp l tier left p with
              | none => some p
              | some b => if (decide ((tierR l (left.getD b 0)).1 < t) || (decide ((tierR l (left.getD b 0)).1 = t) && decide (x < left.getD b 0))) = true then some b else some p := by rw [pickUp, hxd, htx]; rfl
          refine S.skip ?_
          with_reducible repeat (first | refine S.then_n ?_ | refine S.then_x ?_ | refine S.then_r ?_ | refine S.inBlock_n ?_ | refine S.inBlock_r ?_ | refine S.inBlock_x rfl ?_ | refine S.noGoto_r ?_ | refine S.noGoto_n ?_ | refine S.noGoto_x ?_)
          refine hK15 _ _ ?_
          refine S.seq fun K16 hK16 => ?_
          refine S.block ?_
          refine S.seq fun K17 hK17 => ?_
          refine S.region rfl ?_
          refine S.op (S.q (q_move rfl) rfl rfl ?_)
          refine S.op (S.q (q_indexO (p) Tryd.el31 rfl hla rfl rfl (by omega)) rfl rfl ?_)
          refine S.op (S.q (q_loadOw (lv) (p) Tryd.at68 rfl hla (by first | rfl | exact Nat.add_assoc _ _ _ | omega) (idsV_get hx)) rfl rfl ?_)
          refine S.op (S.q (q_assign rfl) rfl rfl ?_)
          refine S.op (S.q (q_assign rfl) rfl rfl ?_)
          first | with_reducible refine S.nilK ?_ | refine S.nil ?_
          refine hK17 _ _ ?_
          refine S.seq fun K18 hK18 => ?_
          refine S.region rfl ?_
          refine S.op (S.q (q_move rfl) rfl rfl ?_)
          refine S.op (S.q (q_move rfl) rfl rfl ?_)
          refine S.op (S.call Tryd.en45 (vs := [_, _]) ⟨rfl, rfl, trivial⟩ (tierOf_S R s l x hsn hR) rfl ?_)
          rintro v Θ ⟨rfl, rfl⟩
          rw [htx]
          refine S.op (S.q (q_move rfl) rfl rfl ?_)
          refine S.op (S.q (q_extract rfl rfl) rfl rfl ?_)
          refine S.op (S.q (q_extract rfl rfl) rfl rfl ?_)
          refine S.op (S.q (q_assign rfl) rfl rfl ?_)
          refine S.op (S.q (q_assign rfl) rfl rfl ?_)
          first | with_reducible refine S.nilK ?_ | refine S.nil ?_
          refine hK18 _ _ ?_
          refine S.seq fun K19 hK19 => ?_
          refine S.seq fun K20 hK20 => ?_
          refine S.regionG ?_
          refine S.g_op rfl (S.q (q_move rfl) rfl rfl ?_)
          refine S.g_op rfl (S.q (q_not rfl) rfl rfl ?_)
          refine S.g_op rfl (S.q (q_move rfl) rfl rfl ?_)
          rcases Bool.eq_false_or_eq_true ((!ok)) with hg12_2 | hg12_2
          · rw [hg12_2, Bool.true_or, if_pos rfl] at hpk
            refine S.g_no rfl rfl rfl (hg12_2) rfl rfl ?_
            refine S.g_no rfl rfl rfl (hg12_2) rfl rfl ?_
            refine S.g_no rfl rfl rfl (hg12_2) rfl rfl ?_
            refine S.g_op rfl (S.q (q_pickT rfl (hg12_2) rfl) rfl rfl ?_)
            first | with_reducible refine S.g_nilK ?_ | refine S.g_nil ?_
            refine hK20 _ _ ?_
            refine S.condT rfl ?_
            refine S.exit ?_
            with_reducible repeat (first | refine S.then_n ?_ | refine S.then_x ?_ | refine S.then_r ?_ | refine S.inBlock_n ?_ | refine S.inBlock_r ?_ | refine S.inBlock_x rfl ?_ | refine S.noGoto_r ?_ | refine S.noGoto_n ?_ | refine S.noGoto_x ?_)
            with_reducible refine S.inBlock_s ?_
            with_reducible repeat (first | refine S.then_n ?_ | refine S.then_x ?_ | refine S.then_r ?_ | refine S.inBlock_n ?_ | refine S.inBlock_r ?_ | refine S.inBlock_x rfl ?_ | refine S.noGoto_r ?_ | refine S.noGoto_n ?_ | refine S.noGoto_x ?_)
            refine hK16 _ _ ?_
            refine S.region rfl ?_
            refine S.op (S.q (q_add rfl rfl (inI64 (by omega) (by omega))) rfl rfl ?_)
            refine S.op (S.q (q_move rfl) rfl rfl ?_)
            first | with_reducible refine S.nilK ?_ | refine S.nil ?_
            with_reducible repeat (first | refine S.then_n ?_ | refine S.then_x ?_ | refine S.then_r ?_ | refine S.inBlock_n ?_ | refine S.inBlock_r ?_ | refine S.inBlock_x rfl ?_ | refine S.noGoto_r ?_ | refine S.noGoto_n ?_ | refine S.noGoto_x ?_)
            exact S.next (q2 - 1) ⟨p + 1, by omega, by omega, by rw [hpk], rfl⟩ (by omega) (by repeat (first | exact trivial | refine ⟨rfl, ?_⟩)) Sub.ent
          · refine S.g_yes rfl rfl rfl (hg12_2) (S.q (q_move rfl) rfl rfl ?_)
            refine S.g_yes rfl rfl rfl (hg12_2) (S.q (q_move rfl) rfl rfl ?_)
            refine S.g_yes rfl rfl rfl (hg12_2) (S.q (q_ge rfl rfl) rfl rfl ?_)
            refine S.g_op rfl (S.q (q_pickF rfl (hg12_2) rfl) rfl rfl ?_)
            first | with_reducible refine S.g_nilK ?_ | refine S.g_nil ?_
            refine hK20 _ _ ?_
            refine S.condD rfl (fun h4 => ?_) (fun h4 => ?_)
            · first | rw [hg12_2, decide_eq_true h4, Bool.or_true, if_pos rfl] at hpk | skip
              refine S.exit ?_
              with_reducible repeat (first | refine S.then_n ?_ | refine S.then_x ?_ | refine S.then_r ?_ | refine S.inBlock_n ?_ | refine S.inBlock_r ?_ | refine S.inBlock_x rfl ?_ | refine S.noGoto_r ?_ | refine S.noGoto_n ?_ | refine S.noGoto_x ?_)
              with_reducible refine S.inBlock_s ?_
              with_reducible repeat (first | refine S.then_n ?_ | refine S.then_x ?_ | refine S.then_r ?_ | refine S.inBlock_n ?_ | refine S.inBlock_r ?_ | refine S.inBlock_x rfl ?_ | refine S.noGoto_r ?_ | refine S.noGoto_n ?_ | refine S.noGoto_x ?_)
              refine hK16 _ _ ?_
              refine S.region rfl ?_
              refine S.op (S.q (q_add rfl rfl (inI64 (by omega) (by omega))) rfl rfl ?_)
              refine S.op (S.q (q_move rfl) rfl rfl ?_)
              first | with_reducible refine S.nilK ?_ | refine S.nil ?_
              with_reducible repeat (first | refine S.then_n ?_ | refine S.then_x ?_ | refine S.then_r ?_ | refine S.inBlock_n ?_ | refine S.inBlock_r ?_ | refine S.inBlock_x rfl ?_ | refine S.noGoto_r ?_ | refine S.noGoto_n ?_ | refine S.noGoto_x ?_)
              exact S.next (q2 - 1) ⟨p + 1, by omega, by omega, by rw [hpk], rfl⟩ (by omega) (by repeat (first | exact trivial | refine ⟨rfl, ?_⟩)) Sub.ent
            · rw [hg12_2, decide_eq_false h4, Bool.or_false, if_neg (by decide)] at hpk
              refine S.skip ?_
              with_reducible repeat (first | refine S.then_n ?_ | refine S.then_x ?_ | refine S.then_r ?_ | refine S.inBlock_n ?_ | refine S.inBlock_r ?_ | refine S.inBlock_x rfl ?_ | refine S.noGoto_r ?_ | refine S.noGoto_n ?_ | refine S.noGoto_x ?_)
              refine hK19 _ _ ?_
              refine S.seq fun K21 hK21 => ?_
              refine S.seq fun K22 hK22 => ?_
              refine S.region rfl ?_
              refine S.op (S.q (q_move rfl) rfl rfl ?_)
              refine S.op (S.q (q_ge rfl rfl) rfl rfl ?_)
              first | with_reducible refine S.nilK ?_ | refine S.nil ?_
              refine hK22 _ _ ?_
              refine S.condD rfl (fun h5 => ?_) (fun h5 => ?_)
              · obtain ⟨b0, hb0⟩ := pkI_nn h5
                have hb0p := pick_lt hb0
                rw [hb0] at hpk ⊢
                obtain ⟨y, hy⟩ := getE (show b0 < left.length by omega)
                have hyd : left.getD b0 0 = y := by simp [List.getD, hy]
                obtain ⟨tu, oku, hty⟩ : ∃ t ok, tierR l y = (t, ok) := ⟨_, _, rfl⟩
                simp only [hyd, hty] at hpk
                have hpkd : pkI (some b0) = (b0 : Int) := rfl
                rw [hpkd]
                refine S.seq fun K23 hK23 => ?_
                refine S.region rfl ?_
                refine S.op (S.q (q_move rfl) rfl rfl ?_)
                refine S.op (S.q (q_move rfl) rfl rfl ?_)
                refine S.op (S.q (q_move rfl) rfl rfl ?_)
                refine S.op (S.q (q_indexO (b0) Tryd.el31 rfl hla rfl rfl (by omega)) rfl rfl ?_)
                refine S.op (S.q (q_loadOw (lv) (b0) Tryd.at68 rfl hla (by first | rfl | exact Nat.add_assoc _ _ _ | omega) (idsV_get hy)) rfl rfl ?_)
                refine S.op (S.call Tryd.en45 (vs := [_, _]) ⟨rfl, rfl, trivial⟩ (tierOf_S R s l y hsn hR) rfl ?_)
                rintro v Θ ⟨rfl, rfl⟩
                rw [hty]
                refine S.op (S.q (q_move rfl) rfl rfl ?_)
                refine S.op (S.q (q_extract rfl rfl) rfl rfl ?_)
                refine S.op (S.q (q_extract rfl rfl) rfl rfl ?_)
                refine S.op (S.q (q_assign rfl) rfl rfl ?_)
                refine S.op (S.q (q_assign rfl) rfl rfl ?_)
                first | with_reducible refine S.nilK ?_ | refine S.nil ?_
                refine hK23 _ _ ?_
                refine S.seq fun K24 hK24 => ?_
                refine S.regionG ?_
                refine S.g_op rfl (S.q (q_move rfl) rfl rfl ?_)
                refine S.g_op rfl (S.q (q_move rfl) rfl rfl ?_)
                refine S.g_op rfl (S.q (q_lt rfl rfl) rfl rfl ?_)
                refine S.g_op rfl (S.q (q_move rfl) rfl rfl ?_)
                by_cases hg15_3 : tu < t
                · rw [decide_eq_true hg15_3, Bool.true_or, if_pos rfl] at hpk
                  refine S.g_no rfl rfl rfl (decide_eq_true hg15_3) rfl rfl ?_
                  refine S.g_no rfl rfl rfl (decide_eq_true hg15_3) rfl rfl ?_
                  refine S.g_no rfl rfl rfl (decide_eq_true hg15_3) rfl rfl ?_
                  refine S.g_no rfl rfl rfl (decide_eq_true hg15_3) rfl rfl ?_
                  refine S.g_noU rfl rfl rfl rfl rfl ?_
                  refine S.g_noU rfl rfl rfl rfl rfl ?_
                  refine S.g_noU rfl rfl rfl rfl rfl ?_
                  refine S.g_noU rfl rfl rfl rfl rfl ?_
                  refine S.g_noU rfl rfl rfl rfl rfl ?_
                  refine S.g_noU rfl rfl rfl rfl rfl ?_
                  refine S.g_no rfl rfl rfl (decide_eq_true hg15_3) rfl rfl ?_
                  refine S.g_op rfl (S.q (q_pickT rfl (decide_eq_true hg15_3) rfl) rfl rfl ?_)
                  first | with_reducible refine S.g_nilK ?_ | refine S.g_nil ?_
                  refine hK24 _ _ ?_
                  refine S.condT rfl ?_
                  refine S.exit ?_
                  with_reducible repeat (first | refine S.then_n ?_ | refine S.then_x ?_ | refine S.then_r ?_ | refine S.inBlock_n ?_ | refine S.inBlock_r ?_ | refine S.inBlock_x rfl ?_ | refine S.noGoto_r ?_ | refine S.noGoto_n ?_ | refine S.noGoto_x ?_)
                  with_reducible refine S.inBlock_s ?_
                  with_reducible repeat (first | refine S.then_n ?_ | refine S.then_x ?_ | refine S.then_r ?_ | refine S.inBlock_n ?_ | refine S.inBlock_r ?_ | refine S.inBlock_x rfl ?_ | refine S.noGoto_r ?_ | refine S.noGoto_n ?_ | refine S.noGoto_x ?_)
                  refine hK16 _ _ ?_
                  refine S.region rfl ?_
                  refine S.op (S.q (q_add rfl rfl (inI64 (by omega) (by omega))) rfl rfl ?_)
                  refine S.op (S.q (q_move rfl) rfl rfl ?_)
                  first | with_reducible refine S.nilK ?_ | refine S.nil ?_
                  with_reducible repeat (first | refine S.then_n ?_ | refine S.then_x ?_ | refine S.then_r ?_ | refine S.inBlock_n ?_ | refine S.inBlock_r ?_ | refine S.inBlock_x rfl ?_ | refine S.noGoto_r ?_ | refine S.noGoto_n ?_ | refine S.noGoto_x ?_)
                  exact S.next (q2 - 1) ⟨p + 1, by omega, by omega, by rw [hpk], rfl⟩ (by omega) (by repeat (first | exact trivial | refine ⟨rfl, ?_⟩)) Sub.ent
                · refine S.g_yes rfl rfl rfl (decide_eq_false hg15_3) (S.q (q_move rfl) rfl rfl ?_)
                  refine S.g_yes rfl rfl rfl (decide_eq_false hg15_3) (S.q (q_move rfl) rfl rfl ?_)
                  refine S.g_yes rfl rfl rfl (decide_eq_false hg15_3) (S.q (q_eq rfl rfl) rfl rfl ?_)
                  refine S.g_yes rfl rfl rfl (decide_eq_false hg15_3) (S.q (q_move rfl) rfl rfl ?_)
                  by_cases hg15_7 : tu = t
                  · refine S.g_yes rfl rfl rfl (decide_eq_true hg15_7) (S.q (q_move rfl) rfl rfl ?_)
                    refine S.g_yes rfl rfl rfl (decide_eq_true hg15_7) (S.q (q_move rfl) rfl rfl ?_)
                    refine S.g_yes rfl rfl rfl (decide_eq_true hg15_7) (S.q (q_indexO (b0) Tryd.el31 rfl hla rfl rfl (by omega)) rfl rfl ?_)
                    refine S.g_yes rfl rfl rfl (decide_eq_true hg15_7) (S.q (q_loadOw (lv) (b0) Tryd.at68 rfl hla (by first | rfl | exact Nat.add_assoc _ _ _ | omega) (idsV_get hy)) rfl rfl ?_)
                    refine S.g_yes rfl rfl rfl (decide_eq_true hg15_7) (S.q (q_move rfl) rfl rfl ?_)
                    refine S.g_yes rfl rfl rfl (decide_eq_true hg15_7) (S.q (q_gt rfl rfl) rfl rfl ?_)
                    refine S.g_yes rfl rfl rfl (decide_eq_false hg15_3) (S.q (q_pickT rfl (decide_eq_true hg15_7) rfl) rfl rfl ?_)
                    refine S.g_op rfl (S.q (q_pickF rfl (decide_eq_false hg15_3) rfl) rfl rfl ?_)
                    first | with_reducible refine S.g_nilK ?_ | refine S.g_nil ?_
                    refine hK24 _ _ ?_
                    refine S.condD rfl (fun h6 => ?_) (fun h6 => ?_)
                    · rw [decide_eq_false hg15_3, decide_eq_true hg15_7, decide_eq_true (show x < y by omega), Bool.true_and, Bool.or_true, if_pos rfl] at hpk
                      refine S.exit ?_
                      with_reducible repeat (first | refine S.then_n ?_ | refine S.then_x ?_ | refine S.then_r ?_ | refine S.inBlock_n ?_ | refine S.inBlock_r ?_ | refine S.inBlock_x rfl ?_ | refine S.noGoto_r ?_ | refine S.noGoto_n ?_ | refine S.noGoto_x ?_)
                      with_reducible refine S.inBlock_s ?_
                      with_reducible repeat (first | refine S.then_n ?_ | refine S.then_x ?_ | refine S.then_r ?_ | refine S.inBlock_n ?_ | refine S.inBlock_r ?_ | refine S.inBlock_x rfl ?_ | refine S.noGoto_r ?_ | refine S.noGoto_n ?_ | refine S.noGoto_x ?_)
                      refine hK16 _ _ ?_
                      refine S.region rfl ?_
                      refine S.op (S.q (q_add rfl rfl (inI64 (by omega) (by omega))) rfl rfl ?_)
                      refine S.op (S.q (q_move rfl) rfl rfl ?_)
                      first | with_reducible refine S.nilK ?_ | refine S.nil ?_
                      with_reducible repeat (first | refine S.then_n ?_ | refine S.then_x ?_ | refine S.then_r ?_ | refine S.inBlock_n ?_ | refine S.inBlock_r ?_ | refine S.inBlock_x rfl ?_ | refine S.noGoto_r ?_ | refine S.noGoto_n ?_ | refine S.noGoto_x ?_)
                      exact S.next (q2 - 1) ⟨p + 1, by omega, by omega, by rw [hpk], rfl⟩ (by omega) (by repeat (first | exact trivial | refine ⟨rfl, ?_⟩)) Sub.ent
                    · rw [decide_eq_false hg15_3, decide_eq_true hg15_7, decide_eq_false (show ¬ x < y by omega), Bool.true_and, Bool.or_false, if_neg (by decide)] at hpk
                      refine S.skip ?_
                      with_reducible repeat (first | refine S.then_n ?_ | refine S.then_x ?_ | refine S.then_r ?_ | refine S.inBlock_n ?_ | refine S.inBlock_r ?_ | refine S.inBlock_x rfl ?_ | refine S.noGoto_r ?_ | refine S.noGoto_n ?_ | refine S.noGoto_x ?_)
                      refine hK21 _ _ ?_
                      refine S.region rfl ?_
                      refine S.op (S.q (q_move rfl) rfl rfl ?_)
                      refine S.op (S.q (q_assign rfl) rfl rfl ?_)
                      first | with_reducible refine S.nilK ?_ | refine S.nil ?_
                      with_reducible repeat (first | refine S.then_n ?_ | refine S.then_x ?_ | refine S.then_r ?_ | refine S.inBlock_n ?_ | refine S.inBlock_r ?_ | refine S.inBlock_x rfl ?_ | refine S.noGoto_r ?_ | refine S.noGoto_n ?_ | refine S.noGoto_x ?_)
                      refine hK16 _ _ ?_
                      refine S.region rfl ?_
                      refine S.op (S.q (q_add rfl rfl (inI64 (by omega) (by omega))) rfl rfl ?_)
                      refine S.op (S.q (q_move rfl) rfl rfl ?_)
                      first | with_reducible refine S.nilK ?_ | refine S.nil ?_
                      with_reducible repeat (first | refine S.then_n ?_ | refine S.then_x ?_ | refine S.then_r ?_ | refine S.inBlock_n ?_ | refine S.inBlock_r ?_ | refine S.inBlock_x rfl ?_ | refine S.noGoto_r ?_ | refine S.noGoto_n ?_ | refine S.noGoto_x ?_)
                      exact S.next (q2 - 1) ⟨p + 1, by omega, by omega, by rw [hpk], rfl⟩ (by omega) (by repeat (first | exact trivial | refine ⟨rfl, ?_⟩)) Sub.ent
                  · rw [decide_eq_false hg15_3, decide_eq_false hg15_7, Bool.false_and, Bool.or_false, if_neg (by decide)] at hpk
                    refine S.g_no rfl rfl rfl (decide_eq_false hg15_7) rfl rfl ?_
                    refine S.g_no rfl rfl rfl (decide_eq_false hg15_7) rfl rfl ?_
                    refine S.g_no rfl rfl rfl (decide_eq_false hg15_7) rfl rfl ?_
                    refine S.g_no rfl rfl rfl (decide_eq_false hg15_7) rfl rfl ?_
                    refine S.g_no rfl rfl rfl (decide_eq_false hg15_7) rfl rfl ?_
                    refine S.g_no rfl rfl rfl (decide_eq_false hg15_7) rfl rfl ?_
                    refine S.g_yes rfl rfl rfl (decide_eq_false hg15_3) (S.q (q_pickF rfl (decide_eq_false hg15_7) rfl) rfl rfl ?_)
                    refine S.g_op rfl (S.q (q_pickF rfl (decide_eq_false hg15_3) rfl) rfl rfl ?_)
                    first | with_reducible refine S.g_nilK ?_ | refine S.g_nil ?_
                    refine hK24 _ _ ?_
                    refine S.condF rfl ?_
                    refine S.skip ?_
                    with_reducible repeat (first | refine S.then_n ?_ | refine S.then_x ?_ | refine S.then_r ?_ | refine S.inBlock_n ?_ | refine S.inBlock_r ?_ | refine S.inBlock_x rfl ?_ | refine S.noGoto_r ?_ | refine S.noGoto_n ?_ | refine S.noGoto_x ?_)
                    refine hK21 _ _ ?_
                    refine S.region rfl ?_
                    refine S.op (S.q (q_move rfl) rfl rfl ?_)
                    refine S.op (S.q (q_assign rfl) rfl rfl ?_)
                    first | with_reducible refine S.nilK ?_ | refine S.nil ?_
                    with_reducible repeat (first | refine S.then_n ?_ | refine S.then_x ?_ | refine S.then_r ?_ | refine S.inBlock_n ?_ | refine S.inBlock_r ?_ | refine S.inBlock_x rfl ?_ | refine S.noGoto_r ?_ | refine S.noGoto_n ?_ | refine S.noGoto_x ?_)
                    refine hK16 _ _ ?_
                    refine S.region rfl ?_
                    refine S.op (S.q (q_add rfl rfl (inI64 (by omega) (by omega))) rfl rfl ?_)
                    refine S.op (S.q (q_move rfl) rfl rfl ?_)
                    first | with_reducible refine S.nilK ?_ | refine S.nil ?_
                    with_reducible repeat (first | refine S.then_n ?_ | refine S.then_x ?_ | refine S.then_r ?_ | refine S.inBlock_n ?_ | refine S.inBlock_r ?_ | refine S.inBlock_x rfl ?_ | refine S.noGoto_r ?_ | refine S.noGoto_n ?_ | refine S.noGoto_x ?_)
                    exact S.next (q2 - 1) ⟨p + 1, by omega, by omega, by rw [hpk], rfl⟩ (by omega) (by repeat (first | exact trivial | refine ⟨rfl, ?_⟩)) Sub.ent
              · have hb0 := pkI_neg h5
                rw [hb0] at hpk
                refine S.skip ?_
                with_reducible repeat (first | refine S.then_n ?_ | refine S.then_x ?_ | refine S.then_r ?_ | refine S.inBlock_n ?_ | refine S.inBlock_r ?_ | refine S.inBlock_x rfl ?_ | refine S.noGoto_r ?_ | refine S.noGoto_n ?_ | refine S.noGoto_x ?_)
                refine hK21 _ _ ?_
                refine S.region rfl ?_
                refine S.op (S.q (q_move rfl) rfl rfl ?_)
                refine S.op (S.q (q_assign rfl) rfl rfl ?_)
                first | with_reducible refine S.nilK ?_ | refine S.nil ?_
                with_reducible repeat (first | refine S.then_n ?_ | refine S.then_x ?_ | refine S.then_r ?_ | refine S.inBlock_n ?_ | refine S.inBlock_r ?_ | refine S.inBlock_x rfl ?_ | refine S.noGoto_r ?_ | refine S.noGoto_n ?_ | refine S.noGoto_x ?_)
                refine hK16 _ _ ?_
                refine S.region rfl ?_
                refine S.op (S.q (q_add rfl rfl (inI64 (by omega) (by omega))) rfl rfl ?_)
                refine S.op (S.q (q_move rfl) rfl rfl ?_)
                first | with_reducible refine S.nilK ?_ | refine S.nil ?_
                with_reducible repeat (first | refine S.then_n ?_ | refine S.then_x ?_ | refine S.then_r ?_ | refine S.inBlock_n ?_ | refine S.inBlock_r ?_ | refine S.inBlock_x rfl ?_ | refine S.noGoto_r ?_ | refine S.noGoto_n ?_ | refine S.noGoto_x ?_)
                exact S.next (q2 - 1) ⟨p + 1, by omega, by omega, by rw [hpk], rfl⟩ (by omega) (by repeat (first | exact trivial | refine ⟨rfl, ?_⟩)) Sub.ent
        · have hpl : p = left.length := by omega
          rw [hpl]
          refine S.exit ?_
          with_reducible repeat (first | refine S.then_n ?_ | refine S.then_x ?_ | refine S.then_r ?_ | refine S.inBlock_n ?_ | refine S.inBlock_r ?_ | refine S.inBlock_x rfl ?_ | refine S.noGoto_r ?_ | refine S.noGoto_n ?_ | refine S.noGoto_x ?_)
          with_reducible refine S.inBlock_s ?_
          with_reducible repeat (first | refine S.then_n ?_ | refine S.then_x ?_ | refine S.then_r ?_ | refine S.inBlock_n ?_ | refine S.inBlock_r ?_ | refine S.inBlock_x rfl ?_ | refine S.noGoto_r ?_ | refine S.noGoto_n ?_ | refine S.noGoto_x ?_)
          refine hK12 _ _ ?_
          refine S.seq fun K25 hK25 => ?_
          refine S.seq fun K26 hK26 => ?_
          refine S.region rfl ?_
          refine S.op (S.q (q_move rfl) rfl rfl ?_)
          refine S.op (S.q (q_lt rfl rfl) rfl rfl ?_)
          first | with_reducible refine S.nilK ?_ | refine S.nil ?_
          refine hK26 _ _ ?_
          refine S.condD rfl (fun h7 => ?_) (fun h7 => ?_)
          · have hpick : pickUp l tier left left.length = none := pkI_neg (by omega)
            have hia := hpn.1 hpick
            have hv := vicUp_step hnone h2
            rw [hia] at hv
            rw [hv] at hofv
            have hofv : ofV m r tier k l = ([], false) := hofv
            refine S.seq fun K27 hK27 => ?_
            refine S.region rfl ?_
            refine S.op (S.q (q_assign rfl) rfl rfl ?_)
            refine S.op (S.q (q_assign rfl) rfl rfl ?_)
            first | with_reducible refine S.nilK ?_ | refine S.nil ?_
            refine hK27 _ _ ?_
            refine S.ret ?_
            with_reducible repeat (first | refine S.then_n ?_ | refine S.then_x ?_ | refine S.then_r ?_ | refine S.inBlock_n ?_ | refine S.inBlock_r ?_ | refine S.inBlock_x rfl ?_ | refine S.noGoto_r ?_ | refine S.noGoto_n ?_ | refine S.noGoto_x ?_)
            refine S.ent (Ent.ownNil 68 1) ?_
            show S _ w0 _ (own SV.nil 68 1 (idsV (jobsR [])) :: _) _
            exact S.fin (rs := [_, _]) (vs := [_, _]) Tryd.results11 (⟨rfl, rfl, trivial⟩)  (⟨SV.nil, by rw [hofv]; rfl, by rw [hofv]; rfl, by rw [hofv]⟩) Sub.ent
          · obtain ⟨b, hb⟩ := pkI_nn (by omega : (0 : Int) ≤ pkI (pickUp l tier left left.length))
            rw [hb]
            rw [show pkI (some b) = (b : Int) from rfl]
            obtain ⟨hbl, hia, hbx, hL2⟩ := hpn.2 b hb
            obtain ⟨x, hx⟩ := getE hbl
            have hxd : left.getD b 0 = x := by simp [List.getD, hx]
            rw [hxd] at hbx
            refine S.ownSome lv (by omega) fun lb lo hla hlc _ hlm => ?_
            refine S.skip ?_
            with_reducible repeat (first | refine S.then_n ?_ | refine S.then_x ?_ | refine S.then_r ?_ | refine S.inBlock_n ?_ | refine S.inBlock_r ?_ | refine S.inBlock_x rfl ?_ | refine S.noGoto_r ?_ | refine S.noGoto_n ?_ | refine S.noGoto_x ?_)
            refine hK25 _ _ ?_
            refine S.seq fun K28 hK28 => ?_
            refine S.region rfl ?_
            refine S.op (S.q (q_move rfl) rfl rfl ?_)
            refine S.op (S.q (q_move rfl) rfl rfl ?_)
            refine S.op (S.q (q_indexO (b) Tryd.el31 rfl hla rfl rfl (by omega)) rfl rfl ?_)
            refine S.op (S.q (q_loadOw (lv) (b) Tryd.at68 rfl hla (by first | rfl | exact Nat.add_assoc _ _ _ | omega) (idsV_get hx)) rfl rfl ?_)
            refine S.op (S.q (q_assign rfl) rfl rfl ?_)
            first | with_reducible refine S.nilK ?_ | refine S.nil ?_
            refine hK28 _ _ ?_
            refine S.seq fun K29 hK29 => ?_
            refine S.region rfl ?_
            refine S.op (S.q (q_move rfl) rfl rfl ?_)
            refine S.op (S.q (q_move rfl) rfl rfl ?_)
            refine S.op (S.buildSlice (pvs := [(_, _)]) [_] Tryd.underlying31 Tryd.inf68 rfl rfl ⟨⟨rfl, rfl⟩, trivial⟩ rfl rfl ?_)
            intro b114
            refine S.op (S.appendOw (s := ov) (1) ([.int .u32 (x : Int)]) Tryd.underlying31 Tryd.inf68 rfl rfl rfl (blk_slAt (b := b114) rfl (by unfold maxLen; omega)) (by first | rfl | exact allOne_bcells _) (⟨by omega, by omega⟩) rfl ?_)
            intro ov2 hov2
            refine S.op (S.q (q_assign rfl) rfl rfl ?_)
            first | with_reducible refine S.nilK ?_ | refine S.nil ?_
            refine hK29 _ _ ?_
            refine S.seq fun K30 hK30 => ?_
            refine S.region rfl ?_
            refine S.op (S.q (q_move rfl) rfl rfl ?_)
            refine S.op (S.q (q_move rfl) rfl rfl ?_)
            refine S.op (S.call Tryd.en46 (vs := [_, _]) ⟨rfl, rfl, trivial⟩ (rOf_S c m x) rfl ?_)
            rintro v Θ ⟨nv, rfl, hnv, rfl⟩
            obtain ⟨nl, hnl⟩ : ∃ nl, nl = (ofR m x).2.1 := ⟨_, rfl⟩
            have hnlen := ofR_len m x
            have hnN : ∀ z ∈ nl, z < m.N := fun z hz => by
              rw [hnl] at hz
              unfold ofR at hz
              cases hlk : look m.js x with
              | none => rw [hlk] at hz; cases hz
              | some jb =>
                rw [hlk] at hz
                exact hm.ns jb (look_some hlk).1 z (mem_lst.1 hz)
            have hgv : givR m x = upN m nl nl.length := by rw [hnl]; rfl
            rw [← hnl] at hnv hnlen ⊢
            clear hri hcn
            refine S.riOpen c m fun cs us rs hri => ?_
            have hun := hri.un
            refine S.ownSome us (by omega) fun ub uo hua _ _ _ => ?_
            refine S.op (S.q (q_move rfl) rfl rfl ?_)
            refine S.op (S.q (q_extract rfl rfl) rfl rfl ?_)
            refine S.op (S.q (q_extract rfl rfl) rfl rfl ?_)
            refine S.op (S.q (q_extract rfl rfl) rfl rfl ?_)
            refine S.op (S.q (q_assign rfl) rfl rfl ?_)
            refine S.op (S.q (q_assign rfl) rfl rfl ?_)
            refine S.op (S.q (q_assign rfl) rfl rfl ?_)
            first | with_reducible refine S.nilK ?_ | refine S.nil ?_
            refine hK30 _ _ ?_
            refine S.seq fun K31 hK31 => ?_
            refine S.seq fun K32 hK32 => ?_
            refine S.region rfl ?_
            refine S.op (S.q (q_move rfl) rfl rfl ?_)
            refine S.op (S.q (q_len Tryd.underlying69 rfl) rfl rfl ?_)
            refine S.op (S.q (q_move rfl) rfl rfl ?_)
            first | with_reducible refine S.nilK ?_ | refine S.nil ?_
            refine hK32 _ _ ?_
            refine S.block ?_
            refine S.loop (fun q3 ρ' Γ' => ∃ p : Nat, q3 = nl.length - p ∧ p ≤ nl.length ∧ ρ' = [(0, .pointer (some ⟨c, 0, none⟩)), (2, s.v), (3, .int .u8 tier), (4, .int .i64 k), (12, .int .i64 (haveUp m al h0 i + upN m nl p : Nat)), (13, lv.v), (14, ov2.v), (15, .int .i64 (b : Int)), (123, nv.v), (124, .int .i64 (nv.n : Int)), (125, .int .i64 (p : Int))] ∧   Γ' = own nv 3 1 (nds nl) :: own lv 68 1 (idsV left) :: own ov2 68 1 (idsV (jobsR (al.take i)) ++ [.int .u32 (x : Int)]) :: riX c m cs us rs (R :: Γ)) (m := _) (ρ0 := _) (Γ0 := _) (⟨0, rfl, by omega, rfl, rfl⟩) (by repeat (first | exact trivial | refine ⟨rfl, ?_⟩)) Sub.ent ?_
            rintro q3 ρ' Γ' ⟨p, hq3, hp, rfl, rfl⟩
            have hle3 := upN_le m nl p
            refine S.seq fun K33 hK33 => ?_
            refine S.region rfl ?_
            refine S.op (S.q (q_lt rfl rfl) rfl rfl ?_)
            first | with_reducible refine S.nilK ?_ | refine S.nil ?_
            refine hK33 _ _ ?_
            refine S.seq fun K34 hK34 => ?_
            refine S.condD rfl (fun h8 => ?_) (fun h8 => ?_)
            · refine S.ownSome nv (by omega) fun nb no hna _ _ _ => ?_
              obtain ⟨y, hy⟩ := getE (show p < nl.length by omega)
              have hyd : nl.getD p 0 = y := by simp [List.getD, hy]
              have hyN := hnN y (List.mem_of_getElem? hy)
              have hup : (upC m)[y]? = some (.bool (m.up.getLsbD y)) := by rw [List.getElem?_map, List.getElem?_range (by omega)]; rfl
              have hiu : isUpB m y = m.up.getLsbD y := by rw [isUpB, nodeB_iff.2 ⟨by omega, by omega⟩]; rfl
              have hst : upN m nl (p + 1) = if m.up.getLsbD y = true then upN m nl p + 1 else upN m nl p := by rw [upN, hyd, hiu]
              refine S.skip ?_
              with_reducible repeat (first | refine S.then_n ?_ | refine S.then_x ?_ | refine S.then_r ?_ | refine S.inBlock_n ?_ | refine S.inBlock_r ?_ | refine S.inBlock_x rfl ?_ | refine S.noGoto_r ?_ | refine S.noGoto_n ?_ | refine S.noGoto_x ?_)
              refine hK34 _ _ ?_
              refine S.seq fun K35 hK35 => ?_
              refine S.block ?_
              refine S.seq fun K36 hK36 => ?_
              refine S.region rfl ?_
              refine S.op (S.q (q_indexO (p) Tryd.el69 rfl hna rfl rfl (by omega)) rfl rfl ?_)
              refine S.op (S.q (q_loadOw (nv) (p) Tryd.at3 rfl hna (by first | rfl | exact Nat.add_assoc _ _ _ | omega) (by rw [List.getElem?_map, hy]; rfl)) rfl rfl ?_)
              refine S.op (S.q (q_assign rfl) rfl rfl ?_)
              first | with_reducible refine S.nilK ?_ | refine S.nil ?_
              refine hK36 _ _ ?_
              refine S.seq fun K37 hK37 => ?_
              refine S.region rfl ?_
              refine S.op (S.q (q_move rfl) rfl rfl ?_)
              refine S.op (S.q (q_nilCheck rfl) rfl rfl ?_)
              refine S.op (S.q (q_field Tryd.fo55_1 rfl) rfl rfl ?_)
              refine S.op (S.q (q_load Tryd.at53 rfl rfl) rfl rfl ?_)
              refine S.op (S.q (q_move rfl) rfl rfl ?_)
              refine S.op (S.q (q_indexO (y) Tryd.el53 rfl hua rfl rfl (by omega)) rfl rfl ?_)
              refine S.op (S.q (q_loadOw (us) (y) Tryd.at4 rfl hua (by first | rfl | exact Nat.add_assoc _ _ _ | omega) (hup)) rfl rfl ?_)
              first | with_reducible refine S.nilK ?_ | refine S.nil ?_
              refine hK37 _ _ ?_
              refine S.cond rfl (fun h9 => ?_) (fun h9 => ?_)
              · rw [if_pos h9] at hst
                refine S.region rfl ?_
                refine S.op (S.q (q_move rfl) rfl rfl ?_)
                refine S.op (S.q (q_add rfl rfl (inI64 (by omega) (by omega))) rfl rfl ?_)
                refine S.op (S.q (q_assign rfl) rfl rfl ?_)
                first | with_reducible refine S.nilK ?_ | refine S.nil ?_
                with_reducible repeat (first | refine S.then_n ?_ | refine S.then_x ?_ | refine S.then_r ?_ | refine S.inBlock_n ?_ | refine S.inBlock_r ?_ | refine S.inBlock_x rfl ?_ | refine S.noGoto_r ?_ | refine S.noGoto_n ?_ | refine S.noGoto_x ?_)
                refine hK35 _ _ ?_
                refine S.region rfl ?_
                refine S.op (S.q (q_add rfl rfl (inI64 (by omega) (by omega))) rfl rfl ?_)
                refine S.op (S.q (q_move rfl) rfl rfl ?_)
                first | with_reducible refine S.nilK ?_ | refine S.nil ?_
                with_reducible repeat (first | refine S.then_n ?_ | refine S.then_x ?_ | refine S.then_r ?_ | refine S.inBlock_n ?_ | refine S.inBlock_r ?_ | refine S.inBlock_x rfl ?_ | refine S.noGoto_r ?_ | refine S.noGoto_n ?_ | refine S.noGoto_x ?_)
                first | exact S.next (q3 - 1) ⟨p + 1, by omega, by omega, by rw [hst], rfl⟩ (by omega) (by repeat (first | exact trivial | refine ⟨rfl, ?_⟩)) Sub.ent
              · rw [if_neg (by rw [h9]; decide)] at hst
                refine S.skip ?_
                with_reducible repeat (first | refine S.then_n ?_ | refine S.then_x ?_ | refine S.then_r ?_ | refine S.inBlock_n ?_ | refine S.inBlock_r ?_ | refine S.inBlock_x rfl ?_ | refine S.noGoto_r ?_ | refine S.noGoto_n ?_ | refine S.noGoto_x ?_)
                with_reducible repeat (first | refine S.then_n ?_ | refine S.then_x ?_ | refine S.then_r ?_ | refine S.inBlock_n ?_ | refine S.inBlock_r ?_ | refine S.inBlock_x rfl ?_ | refine S.noGoto_r ?_ | refine S.noGoto_n ?_ | refine S.noGoto_x ?_)
                refine hK35 _ _ ?_
                refine S.region rfl ?_
                refine S.op (S.q (q_add rfl rfl (inI64 (by omega) (by omega))) rfl rfl ?_)
                refine S.op (S.q (q_move rfl) rfl rfl ?_)
                first | with_reducible refine S.nilK ?_ | refine S.nil ?_
                with_reducible repeat (first | refine S.then_n ?_ | refine S.then_x ?_ | refine S.then_r ?_ | refine S.inBlock_n ?_ | refine S.inBlock_r ?_ | refine S.inBlock_x rfl ?_ | refine S.noGoto_r ?_ | refine S.noGoto_n ?_ | refine S.noGoto_x ?_)
                first | exact S.next (q3 - 1) ⟨p + 1, by omega, by omega, by rw [hst], rfl⟩ (by omega) (by repeat (first | exact trivial | refine ⟨rfl, ?_⟩)) Sub.ent
            · have hpl3 : p = nl.length := by omega
              have hhv : haveUp m al h0 (i + 1) = haveUp m al h0 i + upN m nl p := by rw [haveUp, ← hbx, hgv, hpl3]
              rw [← hhv]
              refine S.riClose c m cs us rs hri ?_
              refine S.exit ?_
              with_reducible repeat (first | refine S.then_n ?_ | refine S.then_x ?_ | refine S.then_r ?_ | refine S.inBlock_n ?_ | refine S.inBlock_r ?_ | refine S.inBlock_x rfl ?_ | refine S.noGoto_r ?_ | refine S.noGoto_n ?_ | refine S.noGoto_x ?_)
              with_reducible refine S.inBlock_s ?_
              with_reducible repeat (first | refine S.then_n ?_ | refine S.then_x ?_ | refine S.then_r ?_ | refine S.inBlock_n ?_ | refine S.inBlock_r ?_ | refine S.inBlock_x rfl ?_ | refine S.noGoto_r ?_ | refine S.noGoto_n ?_ | refine S.noGoto_x ?_)
              refine hK31 _ _ ?_
              refine S.draw ([]) [] Tryd.mixed ?_
              refine S.dr_take 1 [] rfl (by kernel_rfl) rfl rfl rfl (q_move rfl) Sub.ent ?_
              refine S.dr_take 2 [] rfl (by kernel_rfl) rfl rfl rfl (q_move rfl) Sub.ent ?_
              refine S.dr_take 3 [] rfl (by kernel_rfl) rfl rfl rfl (q_sliceTo (b) Tryd.el31 rfl rfl rfl (by omega)) Sub.ent ?_
              refine S.dr_take 5 [] rfl (by kernel_rfl) rfl rfl rfl (q_move rfl) Sub.ent ?_
              refine S.dr_take 6 [] rfl (by kernel_rfl) rfl rfl rfl (q_move rfl) Sub.ent ?_
              refine S.dr_take 7 [] rfl (by kernel_rfl) rfl rfl rfl (q_add rfl rfl (inI64 (by omega) (by omega))) Sub.ent ?_
              refine S.dr_take 8 [] rfl (by kernel_rfl) rfl rfl rfl (q_sliceFrom (b + 1) Tryd.el31 rfl rfl rfl (by omega)) Sub.ent ?_
              refine S.dr_1 (i := 0) (by kernel_rfl) rfl rfl ?_
              refine  (S.buildSlice0 Tryd.underlying31 Tryd.inf68 rfl ?_)
              intro b139 hb139
              refine S.dr_k rfl Sub.ent ?_
              refine S.dr_1 (i := 4) (by kernel_rfl) rfl rfl ?_
              refine  (S.appendOw (s := b139) (b) (idsV (left.take b)) Tryd.underlying31 Tryd.inf68 rfl rfl rfl (fun w hs => ids_take (HasOw.slAt inferInstance hs) (by omega)) (idsV_one _) (⟨by omega, by omega⟩) rfl ?_)
              intro s1 hs1
              rw [List.nil_append]
              refine S.dr_k rfl Sub.ent ?_
              refine S.dr_1 (i := 9) (by kernel_rfl) rfl rfl ?_
              refine  (S.appendOw (s := s1) (lv.n - (b + 1)) (idsV (left.drop (b + 1))) Tryd.underlying31 Tryd.inf68 rfl rfl rfl (fun w hs => ids_drop (HasOw.slAt inferInstance hs) (by omega)) (idsV_one _) (⟨by omega, by omega⟩) rfl ?_)
              intro lv' hlv'
              refine S.dr_k rfl Sub.ent ?_
              refine S.dr_take 10 [] rfl (by kernel_rfl) rfl rfl rfl (q_assign rfl) Sub.ent ?_
              first | with_reducible refine S.dr_doneK (by kernel_rfl) ?_ | refine S.dr_done (by kernel_rfl) ?_
              with_reducible repeat (first | refine S.then_n ?_ | refine S.then_x ?_ | refine S.then_r ?_ | refine S.inBlock_n ?_ | refine S.inBlock_r ?_ | refine S.inBlock_x rfl ?_ | refine S.noGoto_r ?_ | refine S.noGoto_n ?_ | refine S.noGoto_x ?_)
              with_reducible repeat (first | refine S.then_n ?_ | refine S.then_x ?_ | refine S.then_r ?_ | refine S.inBlock_n ?_ | refine S.inBlock_r ?_ | refine S.inBlock_x rfl ?_ | refine S.noGoto_r ?_ | refine S.noGoto_n ?_ | refine S.noGoto_x ?_)
              rw [show idsV (left.take b) ++ idsV (left.drop (b + 1)) = idsV (left.eraseIdx b) by rw [List.eraseIdx_eq_take_drop_succ]; exact (List.map_append ..).symm, show idsV (jobsR (al.take i)) ++ [Value.int .u32 (x : Int)] = idsV (jobsR (al.take (i + 1))) by rw [jobs_snoc hia, hbx]]
              exact S.next (q - 1) ⟨i + 1, left.eraseIdx b, lv', ov2, by omega, by omega, hL2, by rw [List.length_eraseIdx, if_pos hbl]; omega, by rw [List.length_eraseIdx, if_pos hbl]; omega, by omega, vicUp_step hnone h2, rfl, rfl⟩ (by omega) (by repeat (first | exact trivial | refine ⟨rfl, ?_⟩)) Sub.ent
      · have hv := vicUp_mono (vicUp_here hnone (by omega)) (show i + 1 ≤ al.length + 1 by omega)
        rw [hv] at hofv
        have hofv : ofV m r tier k l = (al.take i, true) := hofv
        refine S.exit ?_
        with_reducible repeat (first | refine S.then_n ?_ | refine S.then_x ?_ | refine S.then_r ?_ | refine S.inBlock_n ?_ | refine S.inBlock_r ?_ | refine S.inBlock_x rfl ?_ | refine S.noGoto_r ?_ | refine S.noGoto_n ?_ | refine S.noGoto_x ?_)
        with_reducible refine S.inBlock_s ?_
        with_reducible repeat (first | refine S.then_n ?_ | refine S.then_x ?_ | refine S.then_r ?_ | refine S.inBlock_n ?_ | refine S.inBlock_r ?_ | refine S.inBlock_x rfl ?_ | refine S.noGoto_r ?_ | refine S.noGoto_n ?_ | refine S.noGoto_x ?_)
        refine hK8 _ _ ?_
        refine S.seq fun K38 hK38 => ?_
        refine S.region rfl ?_
        refine S.op (S.q (q_move rfl) rfl rfl ?_)
        refine S.op (S.q (q_assign rfl) rfl rfl ?_)
        refine S.op (S.q (q_assign rfl) rfl rfl ?_)
        first | with_reducible refine S.nilK ?_ | refine S.nil ?_
        refine hK38 _ _ ?_
        refine S.ret ?_
        with_reducible repeat (first | refine S.then_n ?_ | refine S.then_x ?_ | refine S.then_r ?_ | refine S.inBlock_n ?_ | refine S.inBlock_r ?_ | refine S.inBlock_x rfl ?_ | refine S.noGoto_r ?_ | refine S.noGoto_n ?_ | refine S.noGoto_x ?_)
        exact S.fin (rs := [_, _]) (vs := [_, _]) Tryd.results11 (⟨rfl, rfl, trivial⟩)  (⟨ov, by rw [hofv]; rfl, by rw [hofv, List.length_take]; show ov.n = _; omega, by rw [hofv]⟩) Sub.ent
end VP
end Go.Proofs.YtegjmmocnffpiaaDoor
/- Who the document chooses: ref15.Choose. -/
namespace Go.Proofs.YtegjmmocnffpiaaDoor
open Go.RowKit
set_option maxRecDepth 20000
namespace VP
theorem cmpV_iff (v w : List Cd) : cmpV v w < 0 ↔ v.length < w.length ∨ (v.length = w.length ∧ topR v < topR w) := by
  unfold cmpV orI orI orI cmpI
  split <;> split <;> (try split) <;> (try split) <;> (try split) <;> omega
theorem dtUp_top {l v : List Cd} (hnd : (l.map (·.1)).Nodup) (hv : ∀ x ∈ v, x ∈ l) (ht : ∀ x ∈ l, 0 ≤ x.2 ∧ x.2 ≤ 255) : ∀ i, i ≤ v.length → dtUp l (jobsR v) i = topUp v i - 1
  | 0, _ => rfl
  | i + 1, hi => by
    have ih := dtUp_top hnd hv ht i (by omega)
    have hx := List.getElem?_eq_getElem (show i < v.length by omega)
    have hxm := hv _ (List.getElem_mem (show i < v.length by omega))
    have h1 : (jobsR v).getD i 0 = (v[i]).1 := by simp [List.getD, hx]
    have h2 : v.getD i (0, 0) = v[i] := by simp [List.getD, hx]
    have h3 := ht _ hxm
    rw [dtUp, h1, tierR_mem hnd hxm, ih, topUp, h2]
    simp only
    split <;> omega
theorem dtUp_all {l v : List Cd} (hnd : (l.map (·.1)).Nodup) (hv : ∀ x ∈ v, x ∈ l) (ht : ∀ x ∈ l, 0 ≤ x.2 ∧ x.2 ≤ 255) : dtUp l (jobsR v) (jobsR v).length = topR v - 1 := by
  rw [List.length_map]
  exact dtUp_top hnd hv ht _ (Nat.le_refl _)
set_option maxHeartbeats 2000000 in
theorem rChoose_S (c : Nat) (m : Mx) (tier k : Int) (R : Assn) (s : SV) (l : List Cd) (hnd : (l.map (·.1)).Nodup) (hsn : s.n = l.length) (hl : l.length ≤ 1000) (ht : ∀ x ∈ l, 0 ≤ x.2 ∧ x.2 ≤ 255) (hR : RdS R s s.n 2 (l.flatMap cdC)) : Spec Tryd.prog 9 [.pointer (some ⟨c, 0, none⟩), s.v, .int .u8 tier, .int .i64 k] [RI c m, R] fun Γ v Θ =>
    ∃ u : SV, v = .tuple #[.int .i64 ((choR m tier k l).2.1 : Nat), u.v, .bool (choR m tier k l).2.2] ∧ u.n = (choR m tier k l).1.length ∧ Θ = own u 68 1 (idsV (jobsR (choR m tier k l).1)) :: RI c m :: R :: Γ := by
  refine Spec.riOk fun hm => ?_
  refine Spec.of_body Tryd.func9 rfl Tryd.ntmps9 rfl ?_
  intro w0 Γ
  show S _ w0 [(0, .pointer (some ⟨c, 0, none⟩)), (1, s.v), (2, .int .u8 tier), (3, .int .i64 k)] (RI c m :: R :: Γ) _
  have hR8 := hm.R8
  refine S.seq fun K1 hK1 => ?_
  refine S.region rfl ?_
  refine S.op (S.q (q_assign rfl) rfl rfl ?_)
  refine S.op (S.q (q_assign rfl) rfl rfl ?_)
  refine S.op (S.q (q_assign rfl) rfl rfl ?_)
  first | with_reducible refine S.nilK ?_ | refine S.nil ?_
  refine hK1 _ _ ?_
  refine S.seq fun K2 hK2 => ?_
  refine S.seq fun K3 hK3 => ?_
  refine S.region rfl ?_
  refine S.op (S.q (q_move rfl) rfl rfl ?_)
  refine S.op (S.q (q_eqN Tryd.underlying26 rfl rfl) rfl rfl ?_)
  first | with_reducible refine S.nilK ?_ | refine S.nil ?_
  refine hK3 _ _ ?_
  refine S.condF rfl ?_
  refine S.skip ?_
  with_reducible repeat (first | refine S.then_n ?_ | refine S.then_x ?_ | refine S.then_r ?_ | refine S.inBlock_n ?_ | refine S.inBlock_r ?_ | refine S.inBlock_x rfl ?_ | refine S.noGoto_r ?_ | refine S.noGoto_n ?_ | refine S.noGoto_x ?_)
  refine hK2 _ _ ?_
  refine S.seq fun K4 hK4 => ?_
  refine S.region rfl ?_
  refine S.op (S.q (q_assign rfl) rfl rfl ?_)
  refine S.op (S.q (q_assign rfl) rfl rfl ?_)
  first | with_reducible refine S.nilK ?_ | refine S.nil ?_
  refine hK4 _ _ ?_
  refine S.seq fun K5 hK5 => ?_
  refine S.region rfl ?_
  refine S.op (S.q (q_assign rfl) rfl rfl ?_)
  first | with_reducible refine S.nilK ?_ | refine S.nil ?_
  refine hK5 _ _ ?_
  refine S.seq fun K6 hK6 => ?_
  refine S.region rfl ?_
  refine S.ent (Ent.ownNil 68 1) ?_
  show S _ w0 _ (own SV.nil 68 1 (idsV (jobsR [])) :: _) _
  refine S.op (S.q (q_move rfl) rfl rfl ?_)
  refine S.op (S.q (q_build (pvs := [(_, _)]) [_] Tryd.z99 Tryd.p99 ⟨⟨rfl, rfl⟩, trivial⟩ rfl) rfl rfl ?_)
  refine S.op (S.alloc Tryd.z99 rfl ?_)
  intro b14
  refine S.op (S.storeS (cs' := [_]) Tryd.ag99 rfl rfl rfl rfl rfl rfl ?_)
  first | with_reducible refine S.nilK ?_ | refine S.nil ?_
  refine hK6 _ _ ?_
  refine S.seq fun K7 hK7 => ?_
  refine S.seq fun K8 hK8 => ?_
  refine S.region rfl ?_
  refine S.riOpen c m fun cs us rs hri => ?_
  have hcn := hri.cn
  refine S.op (S.q (q_move rfl) rfl rfl ?_)
  refine S.op (S.q (q_nilCheck rfl) rfl rfl ?_)
  refine S.op (S.q (q_field Tryd.fo55_0 rfl) rfl rfl ?_)
  refine S.op (S.q (q_load Tryd.at52 rfl rfl) rfl rfl ?_)
  refine S.op (S.q (q_len Tryd.underlying52 rfl) rfl rfl ?_)
  refine S.riClose c m cs us rs hri ?_
  refine S.op (S.q (q_move rfl) rfl rfl ?_)
  first | with_reducible refine S.nilK ?_ | refine S.nil ?_
  refine hK8 _ _ ?_
  refine S.block ?_
  refine S.loop (fun q ρ' Γ' => ∃ (i : Nat) (bu : SV) (best : List Cd) (row : Nat) (found : Bool), q = m.R - i ∧ i ≤ m.R ∧ chUp m tier k l i = (best, row, found) ∧ bu.n = best.length ∧ (∀ x ∈ best, x ∈ l) ∧   ρ' = [(0, .pointer (some ⟨c, 0, none⟩)), (1, s.v), (2, .int .u8 tier), (3, .int .i64 k), (11, .int .i64 (row : Int)), (12, .bool found), (13, bu.v), (14, .pointer (some ⟨b14, 0, none⟩)), (26, .int .i64 (cs.n : Int)), (27, .int .i64 (i : Int))] ∧   Γ' = own bu 68 1 (idsV (jobsR best)) :: blk b14 99 #[s.v] :: RI c m :: R :: Γ) (m := _) (ρ0 := _) (Γ0 := _) (⟨0, SV.nil, [], 0, false, rfl, by omega, rfl, rfl, fun _ h => (by cases h), rfl, rfl⟩) (by repeat (first | exact trivial | refine ⟨rfl, ?_⟩)) Sub.ent ?_
  rintro q ρ' Γ' ⟨i, bu, best, row, found, hq, hi, hch, hbu, hbm, rfl, rfl⟩
  obtain ⟨vl, ok, hv⟩ : ∃ vl ok, ofV m (i : Nat) tier k l = (vl, ok) := ⟨_, _, rfl⟩
  have hvm : ∀ x ∈ vl, x ∈ l := fun x hx => ofV_mem (m := m) (row := (i : Nat)) (tier := tier) (k := k) (by rw [hv]; exact hx)
  obtain ⟨d, hd⟩ : ∃ d, d = (!found || decide (cmpV vl best < 0)) := ⟨_, rfl⟩
  have hstep : chUp m tier k l (i + 1) = if (ok && d) = true then (vl, i, true) else (best, row, found) := by rw [chUp, hch, hv, hd]
  have ht1 := dtUp_all hnd hvm ht
  have ht2 := dtUp_all hnd hbm ht
  refine S.seq fun K9 hK9 => ?_
  refine S.region rfl ?_
  refine S.op (S.q (q_lt rfl rfl) rfl rfl ?_)
  first | with_reducible refine S.nilK ?_ | refine S.nil ?_
  refine hK9 _ _ ?_
  refine S.seq fun K10 hK10 => ?_
  refine S.condD rfl (fun h2 => ?_) (fun h2 => ?_)
  · refine S.skip ?_
    with_reducible repeat (first | refine S.then_n ?_ | refine S.then_x ?_ | refine S.then_r ?_ | refine S.inBlock_n ?_ | refine S.inBlock_r ?_ | refine S.inBlock_x rfl ?_ | refine S.noGoto_r ?_ | refine S.noGoto_n ?_ | refine S.noGoto_x ?_)
    refine hK10 _ _ ?_
    refine S.seq fun K11 hK11 => ?_
    refine S.block ?_
    refine S.seq fun K12 hK12 => ?_
    refine S.region rfl ?_
    refine S.op (S.q (q_move rfl) rfl rfl ?_)
    refine S.op (S.q (q_assign rfl) rfl rfl ?_)
    first | with_reducible refine S.nilK ?_ | refine S.nil ?_
    refine hK12 _ _ ?_
    refine S.seq fun K13 hK13 => ?_
    refine S.region rfl ?_
    refine S.op (S.q (q_move rfl) rfl rfl ?_)
    refine S.op (S.q (q_move rfl) rfl rfl ?_)
    refine S.op (S.q (q_move rfl) rfl rfl ?_)
    refine S.op (S.q (q_move rfl) rfl rfl ?_)
    refine S.op (S.q (q_move rfl) rfl rfl ?_)
    refine S.op (S.call Tryd.en11 (vs := [_, _, _, _, _]) ⟨rfl, rfl, rfl, rfl, rfl, trivial⟩ (rVOf_S c m (i : Nat) tier k R s l hnd hsn hl hR) rfl ?_)
    rintro v Θ ⟨u, rfl, hun, rfl⟩
    rw [hv] at hun ⊢
    simp only at hun ⊢
    refine S.op (S.q (q_move rfl) rfl rfl ?_)
    refine S.op (S.q (q_extract rfl rfl) rfl rfl ?_)
    refine S.op (S.q (q_extract rfl rfl) rfl rfl ?_)
    refine S.op (S.q (q_assign rfl) rfl rfl ?_)
    refine S.op (S.q (q_assign rfl) rfl rfl ?_)
    first | with_reducible refine S.nilK ?_ | refine S.nil ?_
    refine hK13 _ _ ?_
    refine S.seq fun K14 hK14 => ?_
    refine S.seq fun K15 hK15 => ?_
    refine S.region rfl ?_
    refine S.op (S.q (q_move rfl) rfl rfl ?_)
    refine S.op (S.q (q_not rfl) rfl rfl ?_)
    first | with_reducible refine S.nilK ?_ | refine S.nil ?_
    refine hK15 _ _ ?_
    refine S.cond rfl (fun h3 => ?_) (fun h3 => ?_)
    · rw [show ok = false by simpa using h3, Bool.false_and, if_neg (by decide)] at hstep
      refine S.exit ?_
      with_reducible repeat (first | refine S.then_n ?_ | refine S.then_x ?_ | refine S.then_r ?_ | refine S.inBlock_n ?_ | refine S.inBlock_r ?_ | refine S.inBlock_x rfl ?_ | refine S.noGoto_r ?_ | refine S.noGoto_n ?_ | refine S.noGoto_x ?_)
      with_reducible refine S.inBlock_s ?_
      with_reducible repeat (first | refine S.then_n ?_ | refine S.then_x ?_ | refine S.then_r ?_ | refine S.inBlock_n ?_ | refine S.inBlock_r ?_ | refine S.inBlock_x rfl ?_ | refine S.noGoto_r ?_ | refine S.noGoto_n ?_ | refine S.noGoto_x ?_)
      refine hK11 _ _ ?_
      refine S.region rfl ?_
      refine S.op (S.q (q_add rfl rfl (inI64 (by omega) (by omega))) rfl rfl ?_)
      refine S.op (S.q (q_move rfl) rfl rfl ?_)
      first | with_reducible refine S.nilK ?_ | refine S.nil ?_
      with_reducible repeat (first | refine S.then_n ?_ | refine S.then_x ?_ | refine S.then_r ?_ | refine S.inBlock_n ?_ | refine S.inBlock_r ?_ | refine S.inBlock_x rfl ?_ | refine S.noGoto_r ?_ | refine S.noGoto_n ?_ | refine S.noGoto_x ?_)
      first | exact S.next (q - 1) ⟨i + 1, u, vl, i, true, by omega, by omega, hstep, hun, hvm, rfl, rfl⟩ (by omega) (by repeat (first | exact trivial | refine ⟨rfl, ?_⟩)) Sub.ent | exact S.next (q - 1) ⟨i + 1, bu, best, row, found, by omega, by omega, hstep, hbu, hbm, rfl, rfl⟩ (by omega) (by repeat (first | exact trivial | refine ⟨rfl, ?_⟩)) Sub.ent
    · rw [show ok = true by simpa using h3, Bool.true_and] at hstep
      refine S.skip ?_
      with_reducible repeat (first | refine S.then_n ?_ | refine S.then_x ?_ | refine S.then_r ?_ | refine S.inBlock_n ?_ | refine S.inBlock_r ?_ | refine S.inBlock_x rfl ?_ | refine S.noGoto_r ?_ | refine S.noGoto_n ?_ | refine S.noGoto_x ?_)
      refine hK14 _ _ ?_
      refine S.seq fun K16 hK16 => ?_
      refine S.cut (fun ρ' Γ' => ρ' = [(0, .pointer (some ⟨c, 0, none⟩)), (1, s.v), (2, .int .u8 tier), (3, .int .i64 k), (11, .int .i64 (row : Int)), (12, .bool found), (13, bu.v), (14, .pointer (some ⟨b14, 0, none⟩)), (15, .int .i64 (i : Int)), (16, u.v), (26, .int .i64 (cs.n : Int)), (27, .int .i64 (i : Int)), (65, .bool d)] ∧   Γ' = own u 68 1 (idsV (jobsR vl)) :: own bu 68 1 (idsV (jobsR best)) :: blk b14 99 #[s.v] :: RI c m :: R :: Γ) ?_ ?_
      · refine S.draw ([blk b14 99 #[s.v]]) [] Tryd.mixed ?_
        refine S.dr_take 0 [] rfl (by kernel_rfl) rfl rfl rfl (q_move rfl) Sub.ent ?_
        refine S.dr_take 1 [] rfl (by kernel_rfl) rfl rfl rfl (q_not rfl) Sub.ent ?_
        refine S.dr_take 2 [] rfl (by kernel_rfl) rfl rfl rfl (q_move rfl) Sub.ent ?_
        rcases Bool.eq_false_or_eq_true (!found) with hg11_2 | hg11_2
        · refine S.dr_takeN 3 [] rfl (by kernel_rfl) rfl rfl rfl (hg11_2) rfl rfl Sub.ent ?_
          refine S.dr_takeN 4 [] rfl (by kernel_rfl) rfl rfl rfl (hg11_2) rfl rfl Sub.ent ?_
          refine S.dr_takeN 5 [] rfl (by kernel_rfl) rfl rfl rfl (hg11_2) rfl rfl Sub.ent ?_
          refine S.dr_takeN 6 [] rfl (by kernel_rfl) rfl rfl rfl (hg11_2) rfl rfl Sub.ent ?_
          refine S.dr_takeN 7 [] rfl (by kernel_rfl) rfl rfl rfl (hg11_2) rfl rfl Sub.ent ?_
          refine S.dr_take 8 [] rfl (by kernel_rfl) rfl rfl rfl (q_pickT rfl (hg11_2) rfl) Sub.ent ?_
          refine S.dr_take 9 [] rfl (by kernel_rfl) rfl rfl rfl (q_move rfl) Sub.ent ?_
          refine S.dr_takeN 10 [] rfl (by kernel_rfl) rfl rfl rfl (rfl) rfl rfl Sub.ent ?_
          refine S.dr_takeN 11 [] rfl (by kernel_rfl) rfl rfl rfl (rfl) rfl rfl Sub.ent ?_
          refine S.dr_takeN 12 [] rfl (by kernel_rfl) rfl rfl rfl (rfl) rfl rfl Sub.ent ?_
          refine S.dr_takeN 13 [] rfl (by kernel_rfl) rfl rfl rfl (rfl) rfl rfl Sub.ent ?_
          refine S.dr_takeN 14 [] rfl (by kernel_rfl) rfl rfl rfl (rfl) rfl rfl Sub.ent ?_
          refine S.dr_takeN 15 [] rfl (by kernel_rfl) rfl rfl rfl (rfl) rfl rfl Sub.ent ?_
          refine S.dr_takeNU 16 [] rfl (by kernel_rfl) rfl rfl rfl rfl rfl Sub.ent ?_
          refine S.dr_takeNU 17 [] rfl (by kernel_rfl) rfl rfl rfl rfl rfl Sub.ent ?_
          refine S.dr_takeNU 18 [] rfl (by kernel_rfl) rfl rfl rfl rfl rfl Sub.ent ?_
          refine S.dr_takeNU 19 [] rfl (by kernel_rfl) rfl rfl rfl rfl rfl Sub.ent ?_
          refine S.dr_takeNU 20 [] rfl (by kernel_rfl) rfl rfl rfl rfl rfl Sub.ent ?_
          refine S.dr_takeNU 21 [] rfl (by kernel_rfl) rfl rfl rfl rfl rfl Sub.ent ?_
          refine S.dr_takeNU 22 [] rfl (by kernel_rfl) rfl rfl rfl rfl rfl Sub.ent ?_
          refine S.dr_takeN 23 [] rfl (by kernel_rfl) rfl rfl rfl (rfl) rfl rfl Sub.ent ?_
          refine S.dr_take 24 [] rfl (by kernel_rfl) rfl rfl rfl (q_pickT rfl (rfl) rfl) Sub.ent ?_
          first | with_reducible refine S.dr_doneK (by kernel_rfl) ?_ | refine S.dr_done (by kernel_rfl) ?_
          with_reducible repeat (first | refine S.then_n ?_ | refine S.then_x ?_ | refine S.then_r ?_ | refine S.inBlock_n ?_ | refine S.inBlock_r ?_ | refine S.inBlock_x rfl ?_ | refine S.noGoto_r ?_ | refine S.noGoto_n ?_ | refine S.noGoto_x ?_)
          have hci := cmpV_iff vl best
          first | (have e : d = decide (topR vl - 1 < topR best - 1) := (by rw [hd, hg11_2, Bool.false_or]; exact decide_eq_decide.2 (by omega)) ; rw [e] ; exact S.meet ⟨rfl, rfl⟩ ⟨rfl, rfl, rfl, rfl, rfl, rfl, rfl, rfl, rfl, rfl, rfl, rfl, rfl, trivial⟩ Sub.ent) | (have e : d = true := (by rw [hd, hg11_2]; rfl) ; rw [e] ; exact S.meet ⟨rfl, rfl⟩ ⟨rfl, rfl, rfl, rfl, rfl, rfl, rfl, rfl, rfl, rfl, rfl, rfl, rfl, trivial⟩ Sub.ent) | (have e : d = true := (by rw [hd, decide_eq_true (show cmpV vl best < 0 by omega), Bool.or_true]) ; rw [e] ; exact S.meet ⟨rfl, rfl⟩ ⟨rfl, rfl, rfl, rfl, rfl, rfl, rfl, rfl, rfl, rfl, rfl, rfl, rfl, trivial⟩ Sub.ent) | (have e : d = false := (by rw [hd, hg11_2, decide_eq_false (show ¬ cmpV vl best < 0 by omega)]; rfl) ; rw [e] ; exact S.meet ⟨rfl, rfl⟩ ⟨rfl, rfl, rfl, rfl, rfl, rfl, rfl, rfl, rfl, rfl, rfl, rfl, rfl, trivial⟩ Sub.ent)
        · refine S.dr_takeY 3 [] rfl (by kernel_rfl) rfl rfl rfl (hg11_2) rfl rfl (q_move rfl) Sub.ent ?_
          refine S.dr_takeY 4 [] rfl (by kernel_rfl) rfl rfl rfl (hg11_2) rfl rfl (q_len Tryd.underlying31 rfl) Sub.ent ?_
          refine S.dr_takeY 5 [] rfl (by kernel_rfl) rfl rfl rfl (hg11_2) rfl rfl (q_move rfl) Sub.ent ?_
          refine S.dr_takeY 6 [] rfl (by kernel_rfl) rfl rfl rfl (hg11_2) rfl rfl (q_len Tryd.underlying31 rfl) Sub.ent ?_
          refine S.dr_takeY 7 [] rfl (by kernel_rfl) rfl rfl rfl (hg11_2) rfl rfl (q_lt rfl rfl) Sub.ent ?_
          refine S.dr_take 8 [] rfl (by kernel_rfl) rfl rfl rfl (q_pickF rfl (hg11_2) rfl) Sub.ent ?_
          refine S.dr_take 9 [] rfl (by kernel_rfl) rfl rfl rfl (q_move rfl) Sub.ent ?_
          by_cases hg11_9 : (u.n : Int) < bu.n
          · refine S.dr_takeN 10 [] rfl (by kernel_rfl) rfl rfl rfl (decide_eq_true hg11_9) rfl rfl Sub.ent ?_
            refine S.dr_takeN 11 [] rfl (by kernel_rfl) rfl rfl rfl (decide_eq_true hg11_9) rfl rfl Sub.ent ?_
            refine S.dr_takeN 12 [] rfl (by kernel_rfl) rfl rfl rfl (decide_eq_true hg11_9) rfl rfl Sub.ent ?_
            refine S.dr_takeN 13 [] rfl (by kernel_rfl) rfl rfl rfl (decide_eq_true hg11_9) rfl rfl Sub.ent ?_
            refine S.dr_takeN 14 [] rfl (by kernel_rfl) rfl rfl rfl (decide_eq_true hg11_9) rfl rfl Sub.ent ?_
            refine S.dr_takeN 15 [] rfl (by kernel_rfl) rfl rfl rfl (decide_eq_true hg11_9) rfl rfl Sub.ent ?_
            refine S.dr_takeNU 16 [] rfl (by kernel_rfl) rfl rfl rfl rfl rfl Sub.ent ?_
            refine S.dr_takeNU 17 [] rfl (by kernel_rfl) rfl rfl rfl rfl rfl Sub.ent ?_
            refine S.dr_takeNU 18 [] rfl (by kernel_rfl) rfl rfl rfl rfl rfl Sub.ent ?_
            refine S.dr_takeNU 19 [] rfl (by kernel_rfl) rfl rfl rfl rfl rfl Sub.ent ?_
            refine S.dr_takeNU 20 [] rfl (by kernel_rfl) rfl rfl rfl rfl rfl Sub.ent ?_
            refine S.dr_takeNU 21 [] rfl (by kernel_rfl) rfl rfl rfl rfl rfl Sub.ent ?_
            refine S.dr_takeNU 22 [] rfl (by kernel_rfl) rfl rfl rfl rfl rfl Sub.ent ?_
            refine S.dr_takeN 23 [] rfl (by kernel_rfl) rfl rfl rfl (decide_eq_true hg11_9) rfl rfl Sub.ent ?_
            refine S.dr_take 24 [] rfl (by kernel_rfl) rfl rfl rfl (q_pickT rfl (decide_eq_true hg11_9) rfl) Sub.ent ?_
            first | with_reducible refine S.dr_doneK (by kernel_rfl) ?_ | refine S.dr_done (by kernel_rfl) ?_
            with_reducible repeat (first | refine S.then_n ?_ | refine S.then_x ?_ | refine S.then_r ?_ | refine S.inBlock_n ?_ | refine S.inBlock_r ?_ | refine S.inBlock_x rfl ?_ | refine S.noGoto_r ?_ | refine S.noGoto_n ?_ | refine S.noGoto_x ?_)
            have hci := cmpV_iff vl best
            first | (have e : d = decide (topR vl - 1 < topR best - 1) := (by rw [hd, hg11_2, Bool.false_or]; exact decide_eq_decide.2 (by omega)) ; rw [e] ; exact S.meet ⟨rfl, rfl⟩ ⟨rfl, rfl, rfl, rfl, rfl, rfl, rfl, rfl, rfl, rfl, rfl, rfl, rfl, trivial⟩ Sub.ent) | (have e : d = true := (by rw [hd, hg11_2]; rfl) ; rw [e] ; exact S.meet ⟨rfl, rfl⟩ ⟨rfl, rfl, rfl, rfl, rfl, rfl, rfl, rfl, rfl, rfl, rfl, rfl, rfl, trivial⟩ Sub.ent) | (have e : d = true := (by rw [hd, decide_eq_true (show cmpV vl best < 0 by omega), Bool.or_true]) ; rw [e] ; exact S.meet ⟨rfl, rfl⟩ ⟨rfl, rfl, rfl, rfl, rfl, rfl, rfl, rfl, rfl, rfl, rfl, rfl, rfl, trivial⟩ Sub.ent) | (have e : d = false := (by rw [hd, hg11_2, decide_eq_false (show ¬ cmpV vl best < 0 by omega)]; rfl) ; rw [e] ; exact S.meet ⟨rfl, rfl⟩ ⟨rfl, rfl, rfl, rfl, rfl, rfl, rfl, rfl, rfl, rfl, rfl, rfl, rfl, trivial⟩ Sub.ent)
          · refine S.dr_takeY 10 [] rfl (by kernel_rfl) rfl rfl rfl (decide_eq_false hg11_9) rfl rfl (q_move rfl) Sub.ent ?_
            refine S.dr_takeY 11 [] rfl (by kernel_rfl) rfl rfl rfl (decide_eq_false hg11_9) rfl rfl (q_len Tryd.underlying31 rfl) Sub.ent ?_
            refine S.dr_takeY 12 [] rfl (by kernel_rfl) rfl rfl rfl (decide_eq_false hg11_9) rfl rfl (q_move rfl) Sub.ent ?_
            refine S.dr_takeY 13 [] rfl (by kernel_rfl) rfl rfl rfl (decide_eq_false hg11_9) rfl rfl (q_len Tryd.underlying31 rfl) Sub.ent ?_
            refine S.dr_takeY 14 [] rfl (by kernel_rfl) rfl rfl rfl (decide_eq_false hg11_9) rfl rfl (q_eq rfl rfl) Sub.ent ?_
            refine S.dr_takeY 15 [] rfl (by kernel_rfl) rfl rfl rfl (decide_eq_false hg11_9) rfl rfl (q_move rfl) Sub.ent ?_
            by_cases hg11_15 : (u.n : Int) = bu.n
            · refine S.dr_takeY 16 [] rfl (by kernel_rfl) rfl rfl rfl (decide_eq_true hg11_15) rfl rfl (q_loadS [_] Tryd.ag99 rfl rfl ⟨rfl, trivial⟩) Sub.ent ?_
              refine S.dr_takeY 17 [] rfl (by kernel_rfl) rfl rfl rfl (decide_eq_true hg11_15) rfl rfl (q_move rfl) Sub.ent ?_
              refine S.dr_takeY 19 [] rfl (by kernel_rfl) rfl rfl rfl (decide_eq_true hg11_15) rfl rfl (q_loadS [_] Tryd.ag99 rfl rfl ⟨rfl, trivial⟩) Sub.ent ?_
              refine S.dr_takeY 20 [] rfl (by kernel_rfl) rfl rfl rfl (decide_eq_true hg11_15) rfl rfl (q_move rfl) Sub.ent ?_
              refine S.dr_1Y (i := 18) (by kernel_rfl) rfl rfl rfl rfl (decide_eq_true hg11_15) ?_
              refine  (S.call Tryd.en43 (vs := [_, _]) ⟨rfl, rfl, trivial⟩ (dtop_S R (own u 68 1 (idsV (jobsR vl))) s u l (jobsR vl) hsn (by rw [List.length_map]; exact hun) ht hR RdS.own) rfl ?_)
              rintro v Θ ⟨rfl, rfl⟩
              rw [ht1]
              refine S.dr_k rfl Sub.ent ?_
              refine S.dr_1Y (i := 21) (by kernel_rfl) rfl rfl rfl rfl (decide_eq_true hg11_15) ?_
              refine  (S.call Tryd.en43 (vs := [_, _]) ⟨rfl, rfl, trivial⟩ (dtop_S R (own bu 68 1 (idsV (jobsR best))) s bu l (jobsR best) hsn (by rw [List.length_map]; exact hbu) ht hR RdS.own) rfl ?_)
              rintro v Θ ⟨rfl, rfl⟩
              rw [ht2]
              refine S.dr_k rfl Sub.ent ?_
              refine S.dr_takeY 22 [] rfl (by kernel_rfl) rfl rfl rfl (decide_eq_true hg11_15) rfl rfl (q_lt rfl rfl) Sub.ent ?_
              refine S.dr_takeY 23 [] rfl (by kernel_rfl) rfl rfl rfl (decide_eq_false hg11_9) rfl rfl (q_pickT rfl (decide_eq_true hg11_15) rfl) Sub.ent ?_
              refine S.dr_take 24 [] rfl (by kernel_rfl) rfl rfl rfl (q_pickF rfl (decide_eq_false hg11_9) rfl) Sub.ent ?_
              first | with_reducible refine S.dr_doneK (by kernel_rfl) ?_ | refine S.dr_done (by kernel_rfl) ?_
              with_reducible repeat (first | refine S.then_n ?_ | refine S.then_x ?_ | refine S.then_r ?_ | refine S.inBlock_n ?_ | refine S.inBlock_r ?_ | refine S.inBlock_x rfl ?_ | refine S.noGoto_r ?_ | refine S.noGoto_n ?_ | refine S.noGoto_x ?_)
              have hci := cmpV_iff vl best
              first | (have e : d = decide (topR vl - 1 < topR best - 1) := (by rw [hd, hg11_2, Bool.false_or]; exact decide_eq_decide.2 (by omega)) ; rw [e] ; exact S.meet ⟨rfl, rfl⟩ ⟨rfl, rfl, rfl, rfl, rfl, rfl, rfl, rfl, rfl, rfl, rfl, rfl, rfl, trivial⟩ Sub.ent) | (have e : d = true := (by rw [hd, hg11_2]; rfl) ; rw [e] ; exact S.meet ⟨rfl, rfl⟩ ⟨rfl, rfl, rfl, rfl, rfl, rfl, rfl, rfl, rfl, rfl, rfl, rfl, rfl, trivial⟩ Sub.ent) | (have e : d = true := (by rw [hd, decide_eq_true (show cmpV vl best < 0 by omega), Bool.or_true]) ; rw [e] ; exact S.meet ⟨rfl, rfl⟩ ⟨rfl, rfl, rfl, rfl, rfl, rfl, rfl, rfl, rfl, rfl, rfl, rfl, rfl, trivial⟩ Sub.ent) | (have e : d = false := (by rw [hd, hg11_2, decide_eq_false (show ¬ cmpV vl best < 0 by omega)]; rfl) ; rw [e] ; exact S.meet ⟨rfl, rfl⟩ ⟨rfl, rfl, rfl, rfl, rfl, rfl, rfl, rfl, rfl, rfl, rfl, rfl, rfl, trivial⟩ Sub.ent)
            · refine S.dr_takeN 16 [] rfl (by kernel_rfl) rfl rfl rfl (decide_eq_false hg11_15) rfl rfl Sub.ent ?_
              refine S.dr_takeN 17 [] rfl (by kernel_rfl) rfl rfl rfl (decide_eq_false hg11_15) rfl rfl Sub.ent ?_
              refine S.dr_takeN 18 [] rfl (by kernel_rfl) rfl rfl rfl (decide_eq_false hg11_15) rfl rfl Sub.ent ?_
              refine S.dr_takeN 19 [] rfl (by kernel_rfl) rfl rfl rfl (decide_eq_false hg11_15) rfl rfl Sub.ent ?_
              refine S.dr_takeN 20 [] rfl (by kernel_rfl) rfl rfl rfl (decide_eq_false hg11_15) rfl rfl Sub.ent ?_
              refine S.dr_takeN 21 [] rfl (by kernel_rfl) rfl rfl rfl (decide_eq_false hg11_15) rfl rfl Sub.ent ?_
              refine S.dr_takeN 22 [] rfl (by kernel_rfl) rfl rfl rfl (decide_eq_false hg11_15) rfl rfl Sub.ent ?_
              refine S.dr_takeY 23 [] rfl (by kernel_rfl) rfl rfl rfl (decide_eq_false hg11_9) rfl rfl (q_pickF rfl (decide_eq_false hg11_15) rfl) Sub.ent ?_
              refine S.dr_take 24 [] rfl (by kernel_rfl) rfl rfl rfl (q_pickF rfl (decide_eq_false hg11_9) rfl) Sub.ent ?_
              first | with_reducible refine S.dr_doneK (by kernel_rfl) ?_ | refine S.dr_done (by kernel_rfl) ?_
              with_reducible repeat (first | refine S.then_n ?_ | refine S.then_x ?_ | refine S.then_r ?_ | refine S.inBlock_n ?_ | refine S.inBlock_r ?_ | refine S.inBlock_x rfl ?_ | refine S.noGoto_r ?_ | refine S.noGoto_n ?_ | refine S.noGoto_x ?_)
              have hci := cmpV_iff vl best
              first | (have e : d = decide (topR vl - 1 < topR best - 1) := (by rw [hd, hg11_2, Bool.false_or]; exact decide_eq_decide.2 (by omega)) ; rw [e] ; exact S.meet ⟨rfl, rfl⟩ ⟨rfl, rfl, rfl, rfl, rfl, rfl, rfl, rfl, rfl, rfl, rfl, rfl, rfl, trivial⟩ Sub.ent) | (have e : d = true := (by rw [hd, hg11_2]; rfl) ; rw [e] ; exact S.meet ⟨rfl, rfl⟩ ⟨rfl, rfl, rfl, rfl, rfl, rfl, rfl, rfl, rfl, rfl, rfl, rfl, rfl, trivial⟩ Sub.ent) | (have e : d = true := (by rw [hd, decide_eq_true (show cmpV vl best < 0 by omega), Bool.or_true]) ; rw [e] ; exact S.meet ⟨rfl, rfl⟩ ⟨rfl, rfl, rfl, rfl, rfl, rfl, rfl, rfl, rfl, rfl, rfl, rfl, rfl, trivial⟩ Sub.ent) | (have e : d = false := (by rw [hd, hg11_2, decide_eq_false (show ¬ cmpV vl best < 0 by omega)]; rfl) ; rw [e] ; exact S.meet ⟨rfl, rfl⟩ ⟨rfl, rfl, rfl, rfl, rfl, rfl, rfl, rfl, rfl, rfl, rfl, rfl, rfl, trivial⟩ Sub.ent)
      · rintro ρ' Γ' ⟨rfl, rfl⟩
        refine hK16 _ _ ?_
        refine S.cond rfl (fun h4 => ?_) (fun h4 => ?_)
        · rw [if_pos h4] at hstep
          refine S.region rfl ?_
          refine S.op (S.q (q_move rfl) rfl rfl ?_)
          refine S.op (S.q (q_move rfl) rfl rfl ?_)
          refine S.op (S.q (q_assign rfl) rfl rfl ?_)
          refine S.op (S.q (q_assign rfl) rfl rfl ?_)
          refine S.op (S.q (q_assign rfl) rfl rfl ?_)
          first | with_reducible refine S.nilK ?_ | refine S.nil ?_
          with_reducible repeat (first | refine S.then_n ?_ | refine S.then_x ?_ | refine S.then_r ?_ | refine S.inBlock_n ?_ | refine S.inBlock_r ?_ | refine S.inBlock_x rfl ?_ | refine S.noGoto_r ?_ | refine S.noGoto_n ?_ | refine S.noGoto_x ?_)
          refine hK11 _ _ ?_
          refine S.region rfl ?_
          refine S.op (S.q (q_add rfl rfl (inI64 (by omega) (by omega))) rfl rfl ?_)
          refine S.op (S.q (q_move rfl) rfl rfl ?_)
          first | with_reducible refine S.nilK ?_ | refine S.nil ?_
          with_reducible repeat (first | refine S.then_n ?_ | refine S.then_x ?_ | refine S.then_r ?_ | refine S.inBlock_n ?_ | refine S.inBlock_r ?_ | refine S.inBlock_x rfl ?_ | refine S.noGoto_r ?_ | refine S.noGoto_n ?_ | refine S.noGoto_x ?_)
          first | exact S.next (q - 1) ⟨i + 1, u, vl, i, true, by omega, by omega, hstep, hun, hvm, rfl, rfl⟩ (by omega) (by repeat (first | exact trivial | refine ⟨rfl, ?_⟩)) Sub.ent | exact S.next (q - 1) ⟨i + 1, bu, best, row, found, by omega, by omega, hstep, hbu, hbm, rfl, rfl⟩ (by omega) (by repeat (first | exact trivial | refine ⟨rfl, ?_⟩)) Sub.ent
        · rw [if_neg (by rw [h4]; simp)] at hstep
          refine S.skip ?_
          with_reducible repeat (first | refine S.then_n ?_ | refine S.then_x ?_ | refine S.then_r ?_ | refine S.inBlock_n ?_ | refine S.inBlock_r ?_ | refine S.inBlock_x rfl ?_ | refine S.noGoto_r ?_ | refine S.noGoto_n ?_ | refine S.noGoto_x ?_)
          with_reducible repeat (first | refine S.then_n ?_ | refine S.then_x ?_ | refine S.then_r ?_ | refine S.inBlock_n ?_ | refine S.inBlock_r ?_ | refine S.inBlock_x rfl ?_ | refine S.noGoto_r ?_ | refine S.noGoto_n ?_ | refine S.noGoto_x ?_)
          refine hK11 _ _ ?_
          refine S.region rfl ?_
          refine S.op (S.q (q_add rfl rfl (inI64 (by omega) (by omega))) rfl rfl ?_)
          refine S.op (S.q (q_move rfl) rfl rfl ?_)
          first | with_reducible refine S.nilK ?_ | refine S.nil ?_
          with_reducible repeat (first | refine S.then_n ?_ | refine S.then_x ?_ | refine S.then_r ?_ | refine S.inBlock_n ?_ | refine S.inBlock_r ?_ | refine S.inBlock_x rfl ?_ | refine S.noGoto_r ?_ | refine S.noGoto_n ?_ | refine S.noGoto_x ?_)
          first | exact S.next (q - 1) ⟨i + 1, u, vl, i, true, by omega, by omega, hstep, hun, hvm, rfl, rfl⟩ (by omega) (by repeat (first | exact trivial | refine ⟨rfl, ?_⟩)) Sub.ent | exact S.next (q - 1) ⟨i + 1, bu, best, row, found, by omega, by omega, hstep, hbu, hbm, rfl, rfl⟩ (by omega) (by repeat (first | exact trivial | refine ⟨rfl, ?_⟩)) Sub.ent
  · have hfin : choR m tier k l = (best, row, found) := by rw [choR, ← hch, show i = m.R by omega]
    refine S.exit ?_
    with_reducible repeat (first | refine S.then_n ?_ | refine S.then_x ?_ | refine S.then_r ?_ | refine S.inBlock_n ?_ | refine S.inBlock_r ?_ | refine S.inBlock_x rfl ?_ | refine S.noGoto_r ?_ | refine S.noGoto_n ?_ | refine S.noGoto_x ?_)
    with_reducible refine S.inBlock_s ?_
    with_reducible repeat (first | refine S.then_n ?_ | refine S.then_x ?_ | refine S.then_r ?_ | refine S.inBlock_n ?_ | refine S.inBlock_r ?_ | refine S.inBlock_x rfl ?_ | refine S.noGoto_r ?_ | refine S.noGoto_n ?_ | refine S.noGoto_x ?_)
    refine hK7 _ _ ?_
    refine S.seq fun K17 hK17 => ?_
    refine S.region rfl ?_
    refine S.op (S.q (q_move rfl) rfl rfl ?_)
    refine S.op (S.q (q_move rfl) rfl rfl ?_)
    refine S.op (S.q (q_move rfl) rfl rfl ?_)
    refine S.op (S.q (q_assign rfl) rfl rfl ?_)
    refine S.op (S.q (q_assign rfl) rfl rfl ?_)
    refine S.op (S.q (q_assign rfl) rfl rfl ?_)
    first | with_reducible refine S.nilK ?_ | refine S.nil ?_
    refine hK17 _ _ ?_
    refine S.ret ?_
    with_reducible repeat (first | refine S.then_n ?_ | refine S.then_x ?_ | refine S.then_r ?_ | refine S.inBlock_n ?_ | refine S.inBlock_r ?_ | refine S.inBlock_x rfl ?_ | refine S.noGoto_r ?_ | refine S.noGoto_n ?_ | refine S.noGoto_x ?_)
    exact S.fin (rs := [_, _, _]) (vs := [_, _, _]) Tryd.results9 (⟨rfl, rfl, rfl, trivial⟩)  (⟨bu, by rw [hfin]; rfl, by rw [hfin]; exact hbu, by rw [hfin]⟩) Sub.ent
theorem SizeNil_S : Spec Tryd.prog 37 [.pointer none] [] fun Γ v Θ => v = .tuple #[.int .i64 0, .int .i64 0] ∧ Θ = Γ := by
  refine Spec.of_body Tryd.func37 rfl Tryd.ntmps37 rfl ?_
  intro w0 Γ
  show S _ w0 [(0, .pointer none)] Γ _
  refine S.seq fun K1 hK1 => ?_
  refine S.region rfl ?_
  refine S.op (S.q (q_assign rfl) rfl rfl ?_)
  refine S.op (S.q (q_assign rfl) rfl rfl ?_)
  first | with_reducible refine S.nilK ?_ | refine S.nil ?_
  refine hK1 _ _ ?_
  refine S.seq fun K2 hK2 => ?_
  refine S.seq fun K3 hK3 => ?_
  refine S.region rfl ?_
  refine S.op (S.q (q_move rfl) rfl rfl ?_)
  refine S.op (S.q (q_eqN Tryd.underlying25 rfl rfl) rfl rfl ?_)
  first | with_reducible refine S.nilK ?_ | refine S.nil ?_
  refine hK3 _ _ ?_
  refine S.condT rfl ?_
  refine S.seq fun K4 hK4 => ?_
  refine S.region rfl ?_
  refine S.op (S.q (q_assign rfl) rfl rfl ?_)
  refine S.op (S.q (q_assign rfl) rfl rfl ?_)
  first | with_reducible refine S.nilK ?_ | refine S.nil ?_
  refine hK4 _ _ ?_
  refine S.ret ?_
  with_reducible repeat (first | refine S.then_n ?_ | refine S.then_x ?_ | refine S.then_r ?_ | refine S.inBlock_n ?_ | refine S.inBlock_r ?_ | refine S.inBlock_x rfl ?_ | refine S.noGoto_r ?_ | refine S.noGoto_n ?_ | refine S.noGoto_x ?_)
  exact S.fin (rs := [_, _]) (vs := [_, _]) Tryd.results37 (⟨rfl, rfl, trivial⟩)  (⟨rfl, rfl⟩) Sub.ent
theorem ChooseNil_S (s : SV) (tier k : Int) : Spec Tryd.prog 8 [.pointer none, s.v, .int .u8 tier, .int .i64 k] [] fun Γ v Θ => ∃ x : SV, v = .tuple #[.agg #[.int .i64 0, x.v], .bool false] ∧ Θ = Γ := by
  refine Spec.of_body Tryd.func8 rfl Tryd.ntmps8 rfl ?_
  intro w0 Γ
  show S _ w0 [(0, .pointer none), (1, s.v), (2, .int .u8 tier), (3, .int .i64 k)] Γ _
  refine S.seq fun K1 hK1 => ?_
  refine S.region rfl ?_
  refine S.op (S.alloc Tryd.z33 rfl ?_)
  intro b8
  refine S.op (S.q (q_assign rfl) rfl rfl ?_)
  first | with_reducible refine S.nilK ?_ | refine S.nil ?_
  refine hK1 _ _ ?_
  refine S.seq fun K2 hK2 => ?_
  refine S.region rfl ?_
  refine S.op (S.q (q_assign rfl) rfl rfl ?_)
  first | with_reducible refine S.nilK ?_ | refine S.nil ?_
  refine hK2 _ _ ?_
  refine S.seq fun K3 hK3 => ?_
  refine S.region rfl ?_
  refine S.op (S.q (q_assign rfl) rfl rfl ?_)
  refine S.op (S.q (q_assign rfl) rfl rfl ?_)
  first | with_reducible refine S.nilK ?_ | refine S.nil ?_
  refine hK3 _ _ ?_
  refine S.seq fun K4 hK4 => ?_
  refine S.region rfl ?_
  refine S.op (S.q (q_move rfl) rfl rfl ?_)
  refine S.op (S.call Tryd.en37 (vs := [_]) ⟨rfl, trivial⟩ (SizeNil_S) rfl ?_)
  rintro v Θ ⟨rfl, hG⟩
  rw [hG]
  refine S.op (S.q (q_move rfl) rfl rfl ?_)
  refine S.op (S.q (q_extract rfl rfl) rfl rfl ?_)
  refine S.op (S.q (q_extract rfl rfl) rfl rfl ?_)
  refine S.op (S.q (q_assign rfl) rfl rfl ?_)
  refine S.op (S.q (q_assign rfl) rfl rfl ?_)
  first | with_reducible refine S.nilK ?_ | refine S.nil ?_
  refine hK4 _ _ ?_
  refine S.seq fun K5 hK5 => ?_
  refine S.seq fun K6 hK6 => ?_
  refine S.region rfl ?_
  refine S.ent (Ent.ownNil 86 2) ?_
  show S _ w0 _ (own SV.nil 86 2 (([] : List Cd).flatMap cdC) :: _) _
  refine S.op (S.q (q_move rfl) rfl rfl ?_)
  refine S.op (S.q (q_move rfl) rfl rfl ?_)
  first | with_reducible refine S.nilK ?_ | refine S.nil ?_
  refine hK6 _ _ ?_
  refine S.block ?_
  refine S.loop (fun q ρ' Γ' => q = 0 ∧ ρ' = [(8, .pointer (some ⟨b8, 0, none⟩)), (10, SV.nil.v), (11, .int .i64 0), (12, .bool false), (23, .int .i64 0), (24, .int .i64 0)] ∧   Γ' = own SV.nil 86 2 (([] : List Cd).flatMap cdC) :: blk b8 33 #[.int .i64 0, .slice none 0 0] :: Γ) (m := _) (ρ0 := _) (Γ0 := _) (⟨rfl, rfl, rfl⟩) (by repeat (first | exact trivial | refine ⟨rfl, ?_⟩)) Sub.ent ?_
  rintro q ρ' Γ' ⟨rfl, rfl, rfl⟩
  refine S.seq fun K7 hK7 => ?_
  refine S.region rfl ?_
  refine S.op (S.q (q_lt rfl rfl) rfl rfl ?_)
  first | with_reducible refine S.nilK ?_ | refine S.nil ?_
  refine hK7 _ _ ?_
  refine S.seq fun K8 hK8 => ?_
  refine S.condF rfl ?_
  refine S.exit ?_
  with_reducible repeat (first | refine S.then_n ?_ | refine S.then_x ?_ | refine S.then_r ?_ | refine S.inBlock_n ?_ | refine S.inBlock_r ?_ | refine S.inBlock_x rfl ?_ | refine S.noGoto_r ?_ | refine S.noGoto_n ?_ | refine S.noGoto_x ?_)
  with_reducible refine S.inBlock_s ?_
  with_reducible repeat (first | refine S.then_n ?_ | refine S.then_x ?_ | refine S.then_r ?_ | refine S.inBlock_n ?_ | refine S.inBlock_r ?_ | refine S.inBlock_x rfl ?_ | refine S.noGoto_r ?_ | refine S.noGoto_n ?_ | refine S.noGoto_x ?_)
  refine hK5 _ _ ?_
  refine S.seq fun K9 hK9 => ?_
  refine S.region rfl ?_
  refine S.op (S.q (q_move rfl) rfl rfl ?_)
  refine S.op (S.q (q_move rfl) rfl rfl ?_)
  refine S.op (S.call Tryd.en42 (vs := [_]) ⟨rfl, trivial⟩ (jobs_S (own SV.nil 86 2 (([] : List Cd).flatMap cdC)) SV.nil [] rfl (by simp) RdS.own) rfl ?_)
  rintro v Θ ⟨u2, rfl, hu2, rfl⟩
  refine S.op (S.q (q_build (pvs := [(_, _), (_, _)]) [_, _] Tryd.z33 Tryd.p33 ⟨⟨rfl, rfl⟩, ⟨rfl, rfl⟩, trivial⟩ rfl) rfl rfl ?_)
  refine S.op (S.q (q_move rfl) rfl rfl ?_)
  refine S.op (S.storeS (cs' := [_, _]) Tryd.ag33 rfl rfl rfl rfl rfl rfl ?_)
  refine S.op (S.q (q_assign rfl) rfl rfl ?_)
  first | with_reducible refine S.nilK ?_ | refine S.nil ?_
  refine hK9 _ _ ?_
  refine S.ret ?_
  with_reducible repeat (first | refine S.then_n ?_ | refine S.then_x ?_ | refine S.then_r ?_ | refine S.inBlock_n ?_ | refine S.inBlock_r ?_ | refine S.inBlock_x rfl ?_ | refine S.noGoto_r ?_ | refine S.noGoto_n ?_ | refine S.noGoto_x ?_)
  exact S.fin (rs := [_, _]) (vs := [_, _]) Tryd.results8 (⟨⟨_, _, rfl, lod_agg [_, _] Tryd.ag33 rfl ⟨rfl, rfl, trivial⟩⟩, rfl, trivial⟩)  (⟨u2, rfl, rfl⟩) Sub.ent
end VP
end Go.Proofs.YtegjmmocnffpiaaDoor
/- VictimPlays: of any matrix, any who may have to go, any ask, it is told who goes, row by row and in all. -/
namespace Go.Proofs.YtegjmmocnffpiaaDoor
open Go.RowKit
set_option maxRecDepth 20000
namespace VP
theorem cdR_nd (l : List Vd) : ((cdR l).map (·.1)).Nodup := cdUp_job l _
theorem cdR_len (l : List Vd) : (cdR l).length ≤ 40 := by
  have := cdUp_len l (min l.length 40)
  unfold cdR
  omega
set_option maxHeartbeats 1000000 in
theorem VictimPlays_S (r n t k row : Int) (d : Bs) (l : List Vd) (s : SV) (hr : 0 ≤ r ∧ r ≤ 255) (hn : 0 ≤ n ∧ n ≤ 255) {W : World} (hW : TabW W) (hs : VW W s l) : LawS 3 [.int .u8 r, .int .u8 n, s.v, bsv d, .int .u8 t, .int .i64 k, .int .i64 row] W := by
  refine Spec.of_body Tryd.func3 rfl Tryd.ntmps3 rfl ?_
  intro w0 Γ
  show S _ w0 [(0, .int .u8 r), (1, .int .u8 n), (2, s.v), (3, bsv d), (4, .int .u8 t), (5, .int .i64 k), (6, .int .i64 row)] (old W :: Γ) _
  obtain ⟨m, hm⟩ : ∃ m, m = bldR r n l d := ⟨_, rfl⟩
  obtain ⟨cl, hcl⟩ : ∃ cl, cl = cdR l := ⟨_, rfl⟩
  have hnd : (cl.map (·.1)).Nodup := by rw [hcl]; exact cdR_nd l
  have hcl40 : cl.length ≤ 40 := by rw [hcl]; exact cdR_len l
  have hct : ∀ x ∈ cl, 0 ≤ x.2 ∧ x.2 ≤ 255 := by rw [hcl]; exact cdUp_tier hs.rng _ (by omega)
  obtain ⟨best, br, found, hch⟩ : ∃ best br found, choR m t k cl = (best, br, found) := ⟨_, _, _, rfl⟩
  obtain ⟨vl, ok, hof⟩ : ∃ vl ok, ofV m row t k cl = (vl, ok) := ⟨_, _, rfl⟩
  refine S.seq fun K1 hK1 => ?_
  refine S.region rfl ?_
  refine S.op (S.q (q_assign rfl) rfl rfl ?_)
  first | with_reducible refine S.nilK ?_ | refine S.nil ?_
  refine hK1 _ _ ?_
  refine S.seq fun K2 hK2 => ?_
  refine S.seq fun K3 hK3 => ?_
  refine S.region rfl ?_
  refine S.op (S.call Tryd.en6 (vs := []) trivial (awake_S hW) rfl ?_)
  rintro v Θ ⟨rfl, rfl⟩
  refine S.op (S.q (q_not rfl) rfl rfl ?_)
  first | with_reducible refine S.nilK ?_ | refine S.nil ?_
  refine hK3 _ _ ?_
  refine S.condF rfl ?_
  refine S.skip ?_
  with_reducible repeat (first | refine S.then_n ?_ | refine S.then_x ?_ | refine S.then_r ?_ | refine S.inBlock_n ?_ | refine S.inBlock_r ?_ | refine S.inBlock_x rfl ?_ | refine S.noGoto_r ?_ | refine S.noGoto_n ?_ | refine S.noGoto_x ?_)
  refine hK2 _ _ ?_
  refine S.seq fun K4 hK4 => ?_
  refine S.region rfl ?_
  refine S.op (S.q (q_move rfl) rfl rfl ?_)
  refine S.op (S.q (q_move rfl) rfl rfl ?_)
  refine S.op (S.q (q_move rfl) rfl rfl ?_)
  refine S.op (S.q (q_move rfl) rfl rfl ?_)
  refine S.op (S.call Tryd.en7 (vs := [_, _, _, _]) ⟨rfl, rfl, rfl, rfl, trivial⟩ (build_S r n l d s hr hn hs) rfl ?_)
  rintro v Θ ⟨b, x, p, q, rfl, hp, hq, rfl⟩
  rw [← hcl] at hp hq
  rw [← hm, ← hcl]
  refine S.op (S.q (q_move rfl) rfl rfl ?_)
  refine S.op (S.q (q_extract rfl rfl) rfl rfl ?_)
  refine S.op (S.q (q_extract rfl rfl) rfl rfl ?_)
  refine S.op (S.q (q_extract rfl rfl) rfl rfl ?_)
  refine S.op (S.q (q_extract rfl rfl) rfl rfl ?_)
  refine S.op (S.q (q_assign rfl) rfl rfl ?_)
  refine S.op (S.q (q_assign rfl) rfl rfl ?_)
  refine S.op (S.q (q_assign rfl) rfl rfl ?_)
  refine S.op (S.q (q_assign rfl) rfl rfl ?_)
  first | with_reducible refine S.nilK ?_ | refine S.nil ?_
  refine hK4 _ _ ?_
  refine S.seq fun K5 hK5 => ?_
  refine S.region rfl ?_
  refine S.op (S.q (q_move rfl) rfl rfl ?_)
  refine S.op (S.q (q_move rfl) rfl rfl ?_)
  refine S.op (S.q (q_move rfl) rfl rfl ?_)
  refine S.op (S.q (q_move rfl) rfl rfl ?_)
  refine S.op (S.call Tryd.en8 (vs := [_, _, _, _]) ⟨rfl, rfl, rfl, rfl, trivial⟩ (Choose_S b m t k (own p 86 2 (cl.flatMap cdC)) p cl hp (by omega) hct RdS.own hW) rfl ?_)
  rintro v Θ ⟨cj, rfl, hcj, rfl⟩
  rw [hch] at hcj ⊢
  refine S.op (S.q (q_move rfl) rfl rfl ?_)
  refine S.op (S.q (q_extract rfl rfl) rfl rfl ?_)
  refine S.op (S.q (q_extract rfl rfl) rfl rfl ?_)
  refine S.op (S.alloc Tryd.z33 rfl ?_)
  intro b19
  refine S.op (S.storeS (cs' := [_, _]) Tryd.ag33 rfl rfl rfl rfl rfl rfl ?_)
  refine S.op (S.q (q_assign rfl) rfl rfl ?_)
  first | with_reducible refine S.nilK ?_ | refine S.nil ?_
  refine hK5 _ _ ?_
  refine S.seq fun K6 hK6 => ?_
  refine S.region rfl ?_
  refine S.op (S.q (q_move rfl) rfl rfl ?_)
  refine S.op (S.q (q_move rfl) rfl rfl ?_)
  refine S.op (S.q (q_move rfl) rfl rfl ?_)
  refine S.op (S.q (q_move rfl) rfl rfl ?_)
  refine S.op (S.call Tryd.en9 (vs := [_, _, _, _]) ⟨rfl, rfl, rfl, rfl, trivial⟩ (rChoose_S x m t k (own q 89 2 (cl.flatMap cdC)) q cl hnd hq (by omega) hct RdS.own) rfl ?_)
  rintro v Θ ⟨dj, rfl, hdj, rfl⟩
  rw [hch] at hdj ⊢
  refine S.op (S.q (q_move rfl) rfl rfl ?_)
  refine S.op (S.q (q_extract rfl rfl) rfl rfl ?_)
  refine S.op (S.q (q_extract rfl rfl) rfl rfl ?_)
  refine S.op (S.q (q_extract rfl rfl) rfl rfl ?_)
  refine S.op (S.q (q_assign rfl) rfl rfl ?_)
  refine S.op (S.q (q_assign rfl) rfl rfl ?_)
  refine S.op (S.q (q_assign rfl) rfl rfl ?_)
  first | with_reducible refine S.nilK ?_ | refine S.nil ?_
  refine hK6 _ _ ?_
  refine S.seq fun K7 hK7 => ?_
  refine S.region rfl ?_
  refine S.op (S.q (q_move rfl) rfl rfl ?_)
  refine S.op (S.q (q_move rfl) rfl rfl ?_)
  refine S.op (S.q (q_move rfl) rfl rfl ?_)
  refine S.op (S.q (q_move rfl) rfl rfl ?_)
  refine S.op (S.q (q_move rfl) rfl rfl ?_)
  refine S.op (S.call Tryd.en10 (vs := [_, _, _, _, _]) ⟨rfl, rfl, rfl, rfl, rfl, trivial⟩ (VOf_S b m row t k (own p 86 2 (cl.flatMap cdC)) p cl hp (by omega) RdS.own hW) rfl ?_)
  rintro v Θ ⟨uj, rfl, huj, rfl⟩
  rw [hof] at huj ⊢
  refine S.op (S.q (q_move rfl) rfl rfl ?_)
  refine S.op (S.q (q_extract rfl rfl) rfl rfl ?_)
  refine S.op (S.q (q_extract rfl rfl) rfl rfl ?_)
  refine S.op (S.q (q_assign rfl) rfl rfl ?_)
  refine S.op (S.q (q_assign rfl) rfl rfl ?_)
  first | with_reducible refine S.nilK ?_ | refine S.nil ?_
  refine hK7 _ _ ?_
  refine S.seq fun K8 hK8 => ?_
  refine S.region rfl ?_
  refine S.op (S.q (q_move rfl) rfl rfl ?_)
  refine S.op (S.q (q_move rfl) rfl rfl ?_)
  refine S.op (S.q (q_move rfl) rfl rfl ?_)
  refine S.op (S.q (q_move rfl) rfl rfl ?_)
  refine S.op (S.q (q_move rfl) rfl rfl ?_)
  refine S.op (S.call Tryd.en11 (vs := [_, _, _, _, _]) ⟨rfl, rfl, rfl, rfl, rfl, trivial⟩ (rVOf_S x m row t k (own q 89 2 (cl.flatMap cdC)) q cl hnd hq (by omega) RdS.own) rfl ?_)
  rintro v Θ ⟨wj, rfl, hwj, rfl⟩
  rw [hof] at hwj ⊢
  refine S.op (S.q (q_move rfl) rfl rfl ?_)
  refine S.op (S.q (q_extract rfl rfl) rfl rfl ?_)
  refine S.op (S.q (q_extract rfl rfl) rfl rfl ?_)
  refine S.op (S.q (q_assign rfl) rfl rfl ?_)
  refine S.op (S.q (q_assign rfl) rfl rfl ?_)
  first | with_reducible refine S.nilK ?_ | refine S.nil ?_
  refine hK8 _ _ ?_
  refine S.seq fun K9 hK9 => ?_
  refine S.region rfl ?_
  refine S.op (S.q (q_move rfl) rfl rfl ?_)
  refine S.op (S.q (q_move rfl) rfl rfl ?_)
  refine S.op (S.q (q_move rfl) rfl rfl ?_)
  refine S.op (S.call Tryd.en8 (vs := [_, _, _, _]) ⟨rfl, rfl, rfl, rfl, trivial⟩ (ChooseNil_S p t k) rfl ?_)
  rintro v Θ ⟨nx, rfl, rfl⟩
  refine S.op (S.q (q_move rfl) rfl rfl ?_)
  refine S.op (S.q (q_extract rfl rfl) rfl rfl ?_)
  refine S.op (S.q (q_extract rfl rfl) rfl rfl ?_)
  refine S.op (S.alloc Tryd.z33 rfl ?_)
  intro b28
  refine S.op (S.storeS (cs' := [_, _]) Tryd.ag33 rfl rfl rfl rfl rfl rfl ?_)
  refine S.op (S.q (q_assign rfl) rfl rfl ?_)
  first | with_reducible refine S.nilK ?_ | refine S.nil ?_
  refine hK9 _ _ ?_
  refine S.seq fun K10 hK10 => ?_
  refine S.regionG ?_
  refine S.g_op rfl (S.q (q_move rfl) rfl rfl ?_)
  refine S.g_op rfl (S.q (q_move rfl) rfl rfl ?_)
  refine S.g_op rfl (S.q (q_eqB Tryd.underlying4 rfl rfl) rfl rfl ?_)
  refine S.g_op rfl (S.q (q_move rfl) rfl rfl ?_)
  refine S.g_yes rfl rfl rfl ((beq_self_eq_true _)) (S.q (q_field Tryd.fo33_0 rfl) rfl rfl ?_)
  refine S.g_yes rfl rfl rfl ((beq_self_eq_true _)) (S.q (q_load Tryd.at3 rfl rfl) rfl rfl ?_)
  refine S.g_yes rfl rfl rfl ((beq_self_eq_true _)) (S.q (q_move rfl) rfl rfl ?_)
  refine S.g_yes rfl rfl rfl ((beq_self_eq_true _)) (S.q (q_eq rfl rfl) rfl rfl ?_)
  refine S.g_op rfl (S.q (q_pickT rfl ((beq_self_eq_true _)) rfl) rfl rfl ?_)
  refine S.g_op rfl (S.q (q_move rfl) rfl rfl ?_)
  refine S.g_yes rfl rfl rfl ((decide_eq_true rfl)) (S.q (q_field Tryd.fo33_1 rfl) rfl rfl ?_)
  refine S.g_yes rfl rfl rfl ((decide_eq_true rfl)) (S.q (q_load Tryd.at31 rfl rfl) rfl rfl ?_)
  refine S.g_yes rfl rfl rfl ((decide_eq_true rfl)) (S.q (q_move rfl) rfl rfl ?_)
  refine S.g_yes rfl rfl rfl ((decide_eq_true rfl)) (S.call Tryd.en12 (vs := [_, _]) ⟨rfl, rfl, trivial⟩ (Same_S (own cj 68 1 (idsV (jobsR best))) (own dj 68 1 (idsV (jobsR best))) cj dj (casts (jobsR best)) (casts (jobsR best)) (rdIds cj 68 (jobsR best)) (rdIds dj 68 (jobsR best)) (by rw [List.length_map, List.length_map]; exact hcj) (by rw [List.length_map, List.length_map]; exact hdj)) rfl ?_)
  rintro v Θ ⟨rfl, rfl⟩
  refine S.g_op rfl (S.q (q_pickT rfl ((decide_eq_true rfl)) rfl) rfl rfl ?_)
  refine S.g_op rfl (S.q (q_move rfl) rfl rfl ?_)
  refine S.g_yes rfl rfl rfl ((decide_eq_true rfl)) (S.q (q_move rfl) rfl rfl ?_)
  refine S.g_yes rfl rfl rfl ((decide_eq_true rfl)) (S.q (q_move rfl) rfl rfl ?_)
  refine S.g_yes rfl rfl rfl ((decide_eq_true rfl)) (S.q (q_eqB Tryd.underlying4 rfl rfl) rfl rfl ?_)
  refine S.g_op rfl (S.q (q_pickT rfl ((decide_eq_true rfl)) rfl) rfl rfl ?_)
  refine S.g_op rfl (S.q (q_move rfl) rfl rfl ?_)
  refine S.g_yes rfl rfl rfl ((beq_self_eq_true _)) (S.q (q_move rfl) rfl rfl ?_)
  refine S.g_yes rfl rfl rfl ((beq_self_eq_true _)) (S.q (q_move rfl) rfl rfl ?_)
  refine S.g_yes rfl rfl rfl ((beq_self_eq_true _)) (S.call Tryd.en12 (vs := [_, _]) ⟨rfl, rfl, trivial⟩ (Same_S (own uj 68 1 (idsV (jobsR vl))) (own wj 68 1 (idsV (jobsR vl))) uj wj (casts (jobsR vl)) (casts (jobsR vl)) (rdIds uj 68 (jobsR vl)) (rdIds wj 68 (jobsR vl)) (by rw [List.length_map, List.length_map]; exact huj) (by rw [List.length_map, List.length_map]; exact hwj)) rfl ?_)
  rintro v Θ ⟨rfl, rfl⟩
  refine S.g_op rfl (S.q (q_pickT rfl ((beq_self_eq_true _)) rfl) rfl rfl ?_)
  refine S.g_op rfl (S.q (q_move rfl) rfl rfl ?_)
  refine S.g_yes rfl rfl rfl ((decide_eq_true rfl)) (S.q (q_move rfl) rfl rfl ?_)
  refine S.g_yes rfl rfl rfl ((decide_eq_true rfl)) (S.q (q_not rfl) rfl rfl ?_)
  refine S.g_op rfl (S.q (q_pickT rfl ((decide_eq_true rfl)) rfl) rfl rfl ?_)
  refine S.g_op rfl (S.q (q_assign rfl) rfl rfl ?_)
  first | with_reducible refine S.g_nilK ?_ | refine S.g_nil ?_
  refine hK10 _ _ ?_
  refine S.ret ?_
  with_reducible repeat (first | refine S.then_n ?_ | refine S.then_x ?_ | refine S.then_r ?_ | refine S.inBlock_n ?_ | refine S.inBlock_r ?_ | refine S.inBlock_x rfl ?_ | refine S.noGoto_r ?_ | refine S.noGoto_n ?_ | refine S.noGoto_x ?_)
  exact S.fin (rs := [_]) (vs := [_]) Tryd.results3 (⟨rfl, trivial⟩)  (⟨rfl, rfl⟩) Sub.ent
end VP
open Go.ChangeShapes Go.WideShapes Go.ChangeAt
theorem VictimPlays_law {H : Type} (enc : TypeId × Value → H) : LawWalkT enc Rows.victimPlaysRow.laid 3 Tryd.f3 := by
  intro W base args ds before hval hA _ _ hL
  rw [Tryd.params3] at hA hval
  obtain ⟨v0, vs0, d0, ds0, p0, q0, hargs, rfl, rfl, h0, r0⟩ := trodAll_cons hA
  obtain ⟨v1, vs1, d1, ds1, p1, q1, rfl, rfl, rfl, h1, r1⟩ := trodAll_cons r0
  obtain ⟨v2, vs2, d2, ds2, p2, q2, rfl, rfl, rfl, h2, r2⟩ := trodAll_cons r1
  obtain ⟨v3, vs3, d3, ds3, p3, q3, rfl, rfl, rfl, h3, r3⟩ := trodAll_cons r2
  obtain ⟨v4, vs4, d4, ds4, p4, q4, rfl, rfl, rfl, h4, r4⟩ := trodAll_cons r3
  obtain ⟨v5, vs5, d5, ds5, p5, q5, rfl, rfl, rfl, h5, r5⟩ := trodAll_cons r4
  obtain ⟨v6, vs6, d6, ds6, p6, q6, rfl, rfl, rfl, h6, r6⟩ := trodAll_cons r5
  obtain ⟨rfl, rfl, rfl⟩ := trodAll_nil r6
  obtain rfl : args = #[v0, v1, v2, v3, v4, v5, v6] := by cases args; simp_all
  obtain ⟨r, rfl, hr⟩ := arg_int Tryd.underlying5 (hval 0 5 v0 rfl rfl) h0
  obtain ⟨n, rfl, hn⟩ := arg_int Tryd.underlying5 (hval 1 5 v1 rfl rfl) h1
  obtain ⟨s, l, e2, hs⟩ := rd_vds (arg_slice 7 Tryd.underlying22 (by kernel_rfl) (hval 2 22 v2 rfl rfl) h2)
  simp only [List.cons.injEq, and_true] at e2
  subst e2
  obtain ⟨d, rfl, hd⟩ := arg_int Tryd.underlying23 (hval 3 23 v3 rfl rfl) h3
  obtain ⟨t, rfl, _⟩ := arg_int Tryd.underlying5 (hval 4 5 v4 rfl rfl) h4
  obtain ⟨k, rfl, _⟩ := arg_int Tryd.underlying3 (hval 5 3 v5 rfl rfl) h5
  obtain ⟨row, rfl, _⟩ := arg_int Tryd.underlying3 (hval 6 3 v6 rfl rfl) h6
  have hd2 := u16_rng hd
  have ed : ((BitVec.ofNat 16 d.toNat).toNat : Int) = d := by
    rw [BitVec.toNat_ofNat, Nat.mod_eq_of_lt (by omega)]
    omega
  have hlaw := VP.VictimPlays_S r n t k row (BitVec.ofNat 16 d.toNat) l s (u8_rng hr) (u8_rng hn) (tabW_of rfl hL) hs
  rw [show bsv (BitVec.ofNat 16 d.toNat) = .int .u16 d by rw [bsv, ed]] at hlaw
  exact law_run hlaw
set_option maxRecDepth 100000 in
theorem VictimPlays_met (os : Os) (args : Array Value) : laidMetH Tryd.prog Rows.victimPlaysRow.laid ((World.doorLaid Tryd.prog 14 os).forCall (fun _ _ => 0) ⟨#[], args, []⟩).memory :=
  laidMetH_of_parts3 (fuel := 8) (laidMet_of_run' 8 (by kernel_rfl) (by kernel_rfl)) (by kernel_rfl) (by kernel_rfl)
set_option maxRecDepth 100000 in
theorem VictimPlays_lifted (os : Os) (started : os.Started) (H : Type) (enc : TypeId × Value → H) :
    ReturnsInHanded {} Tryd.checked os 3 .any (fun w args => (Rows.victimPlaysSpec.pre enc Tryd.prog Tryd.f3 [] false w args ∧ laidMetH Tryd.prog Rows.victimPlaysRow.laid w) ∧ sizedMet enc Tryd.prog Tryd.f3 (OpenSpec.ofChange Rows.victimPlaysSpec) false w args) (Rows.victimPlaysSpec.post enc Tryd.prog Tryd.f3 false true false false) :=
  lift_trueT started Tryd.func3 (by kernel_rfl)
    (ChangeSpec.witness_shaped (enc := enc) (C := Tryd.checked) (os := os) (X := fun w _ => laidMetH Tryd.prog Rows.victimPlaysRow.laid w) false (World.doorLaid Tryd.prog 14 os) #[.int .u8 0, .int .u8 0, .slice none 0 0, .int .u16 0, .int .u8 0, .int .i64 0, .int .i64 0] 8 rfl (World.shaped_of_RefB (by kernel_rfl) (by kernel_rfl)) (by kernel_rfl) (by kernel_rfl) (by kernel_rfl) (VictimPlays_met os _))
    rfl rfl (by kernel_rfl) (fun ds h => by match ds, h with | [a0, a1, a2, a3, a4, a5, a6], _ => rfl) (VictimPlays_law enc)
theorem VictimPlays_over : Rows.victimPlaysRow.holds Tryd.pinned (OpenSpec.ofChange Rows.victimPlaysSpec) :=
  OpenClaim.holds_of_wide 3 Tryd.f3 rfl rfl rfl rfl rfl rfl rfl ⟨rfl, rfl, rfl, rfl, rfl⟩ rfl rfl rfl rfl rfl (by kernel_rfl) Tryd.func3 (by kernel_rfl)
    (of_decide_eq_true (by kernel_rfl)) (by unfold Func.isWrapper; first | (rw [if_pos (by decide +kernel)]; kernel_rfl) | (rw [if_neg (by decide +kernel)]; exact ⟨rfl, rfl⟩))
    (fun os started H enc _ => VictimPlays_lifted os started H enc)
theorem VictimPlays_holds : Rows.VictimPlaysCardSaid :=
  Claim7.holds_tied_plain_at .later [] [.data] true (true, "d82cf9a8b09ce163cf9661778cc21f6eeb0c8c5bd78b509f1c907566ac05aee4") true
    VictimPlays_over (fun _ h => by cases h) (by kernel_rfl) (fun _ h => by cases h) victimPlays_row_tie rfl ⟨rfl, rfl⟩ (by kernel_rfl) rfl
    (fun f fn hf hfn => by
      obtain rfl : f = 3 := Option.some.inj ((show Tryd.prog.funcNamed "quadrille/quadrillelaw15.VictimPlays" = some 3 by kernel_rfl).symm.trans hf) |>.symm
      obtain rfl : fn = Tryd.f3 := (Option.some.inj (Tryd.func3.symm.trans hfn)).symm
      exact ⟨by kernel_rfl, fun j t ht => by
        rw [Tryd.params3] at ht
        have hm : t ∈ [5, 5, 22, 23, 5, 3, 3] := by simpa using Array.mem_of_getElem? ht
        have hall : ([5, 5, 22, 23, 5, 3, 3].all fun u => !Tryd.prog.wantsStandIn u) = true := by kernel_rfl
        exact (show Tryd.prog.wantsStandIn t = false by simpa using List.all_eq_true.1 hall t hm)⟩)
    (by kernel_rfl)
#print axioms VictimPlays_holds
end Go.Proofs.YtegjmmocnffpiaaDoor
