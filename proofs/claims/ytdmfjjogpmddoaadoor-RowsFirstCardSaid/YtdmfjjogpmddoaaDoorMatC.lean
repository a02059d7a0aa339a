/- The matrix: New, Place, Put. -/
import Derived.Test.YtdmfjjogpmddoaaDoorMatB
namespace Go.Proofs.YtdmfjjogpmddoaaDoor
open Go.RowKit
set_option maxRecDepth 20000
def mx0 (R N : Nat) : Mx := ⟨R, N, mask N, []⟩
theorem mx0_ok {R N : Nat} (h1 : 1 ≤ R) (h2 : R ≤ 8) (h3 : 1 ≤ N) (h4 : N ≤ 16) : MxOk (mx0 R N) where
  R1 := h1
  R8 := h2
  N1 := h3
  N16 := h4
  up := fun i hi => (mask_bit h4 i).1 hi
  srt := List.Pairwise.nil
  id1 := fun _ h => by cases h
  id2 := fun _ h => by cases h
  row := fun _ h => by cases h
  some := fun _ h => by cases h
  ns := fun _ h => by cases h
  dis := fun _ h => by cases h
theorem zeroRow_mx0 (R N : Nat) : zeroRow [Value.int .u16 0] R = tks (mx0 R N) := by
  have e : tks (mx0 R N) = List.replicate R (Value.int .u16 0) := by
    refine List.eq_replicate_iff.2 ⟨tks_len _, fun v hv => ?_⟩
    obtain ⟨r, _, rfl⟩ := List.mem_map.1 hv
    rfl
  rw [e]
  induction R with
  | zero => rfl
  | succ R ih => rw [zeroRow, ih (by
      refine List.eq_replicate_iff.2 ⟨tks_len _, fun v hv => ?_⟩
      obtain ⟨r, _, rfl⟩ := List.mem_map.1 hv
      rfl), List.replicate_succ]; rfl
/-- New, where it makes one. -/
theorem New_S (R N : Nat) (hR1 : 1 ≤ R) (hR8 : R ≤ 8) (hN1 : 1 ≤ N) (hN16 : N ≤ 16) : Spec Tryd.prog 26 [.int .i64 (R : Int), .int .i64 (N : Int)] [] fun Γ v Θ => ∃ b, v = .tuple #[.pointer (some ⟨b, 0, none⟩), .int .i64 0] ∧ Θ = MI b (mx0 R N) :: Γ := by
  refine Spec.of_body Tryd.func26 rfl Tryd.ntmps26 rfl ?_
  intro w0 Γ
  show S _ w0 [(0, .int .i64 (R : Int)), (1, .int .i64 (N : Int))] Γ _
  refine S.seq fun K1 hK1 => ?_
  refine S.region rfl ?_
  refine S.op (S.q (q_assign rfl) rfl rfl ?_)
  refine S.op (S.q (q_assign rfl) rfl rfl ?_)
  first | with_reducible refine S.nilK ?_ | refine S.nil ?_
  refine hK1 _ _ ?_
  refine S.seq fun K2 hK2 => ?_
  refine S.seq fun K3 hK3 => ?_
  refine S.regionG ?_
  refine S.g_op rfl (S.q (q_move rfl) rfl rfl ?_)
  refine S.g_op rfl (S.q (q_lt rfl rfl) rfl rfl ?_)
  refine S.g_op rfl (S.q (q_move rfl) rfl rfl ?_)
  by_cases hg1_2 : (R : Int) < 1
  · omega
  · refine S.g_yes rfl rfl rfl (decide_eq_false hg1_2) (S.q (q_move rfl) rfl rfl ?_)
    refine S.g_yes rfl rfl rfl (decide_eq_false hg1_2) (S.q (q_gt rfl rfl) rfl rfl ?_)
    refine S.g_op rfl (S.q (q_pickF rfl (decide_eq_false hg1_2) rfl) rfl rfl ?_)
    refine S.g_op rfl (S.q (q_move rfl) rfl rfl ?_)
    by_cases hg1_6 : (8 : Int) < R
    · omega
    · refine S.g_yes rfl rfl rfl (decide_eq_false hg1_6) (S.q (q_move rfl) rfl rfl ?_)
      refine S.g_yes rfl rfl rfl (decide_eq_false hg1_6) (S.q (q_lt rfl rfl) rfl rfl ?_)
      refine S.g_op rfl (S.q (q_pickF rfl (decide_eq_false hg1_6) rfl) rfl rfl ?_)
      refine S.g_op rfl (S.q (q_move rfl) rfl rfl ?_)
      by_cases hg1_10 : (N : Int) < 1
      · omega
      · refine S.g_yes rfl rfl rfl (decide_eq_false hg1_10) (S.q (q_move rfl) rfl rfl ?_)
        refine S.g_yes rfl rfl rfl (decide_eq_false hg1_10) (S.q (q_gt rfl rfl) rfl rfl ?_)
        refine S.g_op rfl (S.q (q_pickF rfl (decide_eq_false hg1_10) rfl) rfl rfl ?_)
        first | with_reducible refine S.g_nilK ?_ | refine S.g_nil ?_
        refine hK3 _ _ ?_
        refine S.condD rfl (fun h1 => ?_) (fun h1 => ?_)
        · omega
        · refine S.skip ?_
          with_reducible repeat (first | refine S.then_n ?_ | refine S.then_x ?_ | refine S.then_r ?_ | refine S.inBlock_n ?_ | refine S.inBlock_r ?_ | refine S.inBlock_x rfl ?_ | refine S.noGoto_r ?_ | refine S.noGoto_n ?_ | refine S.noGoto_x ?_)
          refine hK2 _ _ ?_
          refine S.seq fun K4 hK4 => ?_
          refine S.draw ([]) [] Tryd.mixed ?_
          refine S.dr_take 0 [] rfl (by kernel_rfl) rfl rfl rfl (q_move rfl) Sub.ent ?_
          refine S.dr_take 1 [] rfl (by kernel_rfl) rfl rfl rfl (q_move rfl) Sub.ent ?_
          refine S.dr_take 2 [] rfl (by kernel_rfl) rfl rfl rfl (q_move rfl) Sub.ent ?_
          refine S.dr_take 3 [] rfl (by kernel_rfl) rfl rfl rfl (q_shlB (N) rfl rfl (rfl) (hN16)) Sub.ent ?_
          refine S.dr_take 4 [] rfl (by kernel_rfl) rfl rfl rfl (q_predB (BitVec.twoPow 16 N) rfl rfl rfl) Sub.ent ?_
          refine S.dr_take 6 [] rfl (by kernel_rfl) rfl rfl rfl (q_move rfl) Sub.ent ?_
          refine S.dr_2 (i := 5) (j := 7) (by kernel_rfl) rfl rfl rfl rfl ?_ ?_
          · refine  (S.makeMap .u32 rfl ?_)
            intro b25
            refine S.dr_k rfl Sub.ent ?_
            refine S.dr_1 (i := 7) (by kernel_rfl) rfl rfl ?_
            refine  (S.makeSlice (R) (R) Tryd.underlying79 Tryd.inf77 rfl rfl rfl rfl rfl (Nat.le_refl _) (by omega) rfl ?_)
            intro tv htv
            refine S.dr_k rfl Sub.ent ?_
            refine S.dr_take 8 [] rfl (by kernel_rfl) rfl rfl rfl (q_build (pvs := [(_, _), (_, _), (_, _), (_, _), (_, _)]) [_, _, _, _, _] Tryd.z81 Tryd.p81 ⟨⟨rfl, rfl⟩, ⟨rfl, rfl⟩, ⟨rfl, rfl⟩, ⟨rfl, rfl⟩, ⟨rfl, rfl⟩, trivial⟩ rfl) Sub.ent ?_
            refine S.dr_1 (i := 9) (by kernel_rfl) rfl rfl ?_
            refine  (S.box (cs := [_, _, _, _, _]) rfl rfl rfl ?_)
            intro b29
            refine S.dr_k rfl Sub.ent ?_
            refine S.dr_take 10 [] rfl (by kernel_rfl) rfl rfl rfl (q_assign rfl) Sub.ent ?_
            refine S.dr_take 11 [] rfl (by kernel_rfl) rfl rfl rfl (q_assign rfl) Sub.ent ?_
            first | with_reducible refine S.dr_doneK (by kernel_rfl) ?_ | refine S.dr_done (by kernel_rfl) ?_
            refine hK4 _ _ ?_
            refine S.ret ?_
            with_reducible repeat (first | refine S.then_n ?_ | refine S.then_x ?_ | refine S.then_r ?_ | refine S.inBlock_n ?_ | refine S.inBlock_r ?_ | refine S.inBlock_x rfl ?_ | refine S.noGoto_r ?_ | refine S.noGoto_n ?_ | refine S.noGoto_x ?_)
            refine S.miClose (b := b29) (m := mx0 R N) (mb := b25) (tv := tv) (by rw [twoPow_pred N hN16]; rfl) rfl (by rw [zeroRow_mx0 R N]) (mx0_ok hR1 hR8 hN1 hN16) (.refl _) htv ?_
            exact S.fin (rs := [_, _]) (vs := [_, _]) Tryd.results26 (⟨rfl, rfl, trivial⟩)  (⟨b29, rfl, rfl⟩) Sub.ent
          · refine  (S.makeSlice (R) (R) Tryd.underlying79 Tryd.inf77 rfl rfl rfl rfl rfl (Nat.le_refl _) (by omega) rfl ?_)
            intro tv htv
            refine S.dr_k rfl Sub.ent ?_
            refine S.dr_1 (i := 5) (by kernel_rfl) rfl rfl ?_
            refine  (S.makeMap .u32 rfl ?_)
            intro b25
            refine S.dr_k rfl Sub.ent ?_
            refine S.dr_take 8 [] rfl (by kernel_rfl) rfl rfl rfl (q_build (pvs := [(_, _), (_, _), (_, _), (_, _), (_, _)]) [_, _, _, _, _] Tryd.z81 Tryd.p81 ⟨⟨rfl, rfl⟩, ⟨rfl, rfl⟩, ⟨rfl, rfl⟩, ⟨rfl, rfl⟩, ⟨rfl, rfl⟩, trivial⟩ rfl) Sub.ent ?_
            refine S.dr_1 (i := 9) (by kernel_rfl) rfl rfl ?_
            refine  (S.box (cs := [_, _, _, _, _]) rfl rfl rfl ?_)
            intro b29
            refine S.dr_k rfl Sub.ent ?_
            refine S.dr_take 10 [] rfl (by kernel_rfl) rfl rfl rfl (q_assign rfl) Sub.ent ?_
            refine S.dr_take 11 [] rfl (by kernel_rfl) rfl rfl rfl (q_assign rfl) Sub.ent ?_
            first | with_reducible refine S.dr_doneK (by kernel_rfl) ?_ | refine S.dr_done (by kernel_rfl) ?_
            refine hK4 _ _ ?_
            refine S.ret ?_
            with_reducible repeat (first | refine S.then_n ?_ | refine S.then_x ?_ | refine S.then_r ?_ | refine S.inBlock_n ?_ | refine S.inBlock_r ?_ | refine S.inBlock_x rfl ?_ | refine S.noGoto_r ?_ | refine S.noGoto_n ?_ | refine S.noGoto_x ?_)
            refine S.miClose (b := b29) (m := mx0 R N) (mb := b25) (tv := tv) (by rw [twoPow_pred N hN16]; rfl) rfl (by rw [zeroRow_mx0 R N]) (mx0_ok hR1 hR8 hN1 hN16) (.refl _) htv ?_
            exact S.fin (rs := [_, _]) (vs := [_, _]) Tryd.results26 (⟨rfl, rfl, trivial⟩)  (⟨b29, rfl, rfl⟩) Sub.ent
/-- Place: the first row that has room. -/
def placeRow (m : Mx) (k : Nat) : Nat → Option Nat
  | 0 => none
  | i + 1 => match placeRow m k i with
    | some r => some r
    | none => if k ≤ (lst (m.free i)).length then some i else none
theorem placeRow_some {m : Mx} {k r : Nat} : ∀ {i : Nat}, placeRow m k i = some r → r < i ∧ k ≤ (lst (m.free r)).length ∧ ∀ q, q < r → (lst (m.free q)).length < k
  | 0, h => by cases h
  | i + 1, h => by
    unfold placeRow at h
    cases hp : placeRow m k i with
    | some q =>
      rw [hp] at h
      cases h
      obtain ⟨h1, h2, h3⟩ := placeRow_some hp
      exact ⟨by omega, h2, h3⟩
    | none =>
      rw [hp] at h
      by_cases e : k ≤ (lst (m.free i)).length
      · rw [if_pos e] at h
        cases h
        exact ⟨by omega, e, placeRow_none hp⟩
      · rw [if_neg e] at h
        cases h
where placeRow_none {m : Mx} {k : Nat} : ∀ {i : Nat}, placeRow m k i = none → ∀ q, q < i → (lst (m.free q)).length < k
  | 0, _, q, hq => by omega
  | i + 1, h, q, hq => by
    unfold placeRow at h
    cases hp : placeRow m k i with
    | some q => rw [hp] at h; cases h
    | none =>
      rw [hp] at h
      by_cases e : k ≤ (lst (m.free i)).length
      · rw [if_pos e] at h; cases h
      · by_cases e2 : q = i
        · subst e2; omega
        · exact placeRow_none hp q (by omega)
theorem placeRow_mono {m : Mx} {k r : Nat} : ∀ {n i : Nat}, placeRow m k i = some r → i ≤ n → placeRow m k n = some r
  | 0, i, h, hn => by rwa [show i = 0 by omega] at h
  | n + 1, i, h, hn => by
    by_cases e : i = n + 1
    · rwa [e] at h
    · rw [placeRow, placeRow_mono h (by omega)]
/-- What Place answers: the row, the nodes, the error; and the matrix behind it. -/
def placeR (m : Mx) (j : Nat) (k : Int) : (Int × List Nat × Int) × Mx :=
  if j = 0 ∨ k < 1 then ((0, [], 1), m)
  else if (look m.js j).isSome then ((0, [], 7), m)
  else if (m.N : Int) < k then ((0, [], 9), m)
  else match placeRow m k.toNat m.R with
    | some r => (((r : Int), (lst (m.free r)).take k.toNat, 0), m.add ⟨j, r, leastK (m.free r) k.toNat⟩)
    | none => ((0, [], 8), m)
theorem free_bit {m : Mx} {r i : Nat} (h : (m.free r).getLsbD i = true) : m.up.getLsbD i = true ∧ (tk m.js r).getLsbD i = false := by
  rw [Mx.free, BitVec.getLsbD_and, BitVec.getLsbD_not, Bool.and_eq_true, Bool.and_eq_true, Bool.not_eq_true'] at h
  exact ⟨h.1, h.2.2⟩
theorem place_ok {m : Mx} (hm : MxOk m) {r k : Nat} (hk : 1 ≤ k) (hl : k ≤ (lst (m.free r)).length) : leastK (m.free r) k ≠ 0#16 ∧ (∀ i, (leastK (m.free r) k).getLsbD i = true → i < m.N) ∧ tk m.js r &&& leastK (m.free r) k = 0#16 := by
  have hsub : ∀ i, (leastK (m.free r) k).getLsbD i = true → (m.free r).getLsbD i = true := fun i hi => by
    rw [← mem_lst, lst_leastK] at hi
    exact mem_lst.1 (List.mem_of_mem_take hi)
  refine ⟨fun e => ?_, fun i hi => hm.up i (free_bit (hsub i hi)).1, ?_⟩
  · have := congrArg (fun s => (lst s).length) e
    simp only [lst_leastK, lst_zero, List.length_take, List.length_nil] at this
    omega
  · refine BitVec.eq_of_getLsbD_eq fun i _ => ?_
    rw [BitVec.getLsbD_and]
    cases hb : (leastK (m.free r) k).getLsbD i with
    | false => simp
    | true => rw [(free_bit (hsub i hb)).2]; simp
theorem placeR_ok {m : Mx} (hm : MxOk m) {j : Nat} (hj : j ≤ 4294967295) (k : Int) : MxOk (placeR m j k).2 := by
  unfold placeR
  by_cases h1 : j = 0 ∨ k < 1
  · rw [if_pos h1]; exact hm
  rw [if_neg h1]
  cases h2 : look m.js j with
  | some x => exact hm
  | none =>
    simp only [Option.isSome_none, Bool.false_eq_true, if_false]
    by_cases h3 : (m.N : Int) < k
    · rw [if_pos h3]; exact hm
    rw [if_neg h3]
    cases h4 : placeRow m k.toNat m.R with
    | none => exact hm
    | some r =>
      obtain ⟨q1, q2, _⟩ := placeRow_some h4
      obtain ⟨p1, p2, p3⟩ := place_ok hm (r := r) (k := k.toNat) (by omega) q2
      exact hm.add (look_none h2) (by show 1 ≤ j; omega) hj q1 p1 p2 p3
theorem Place_S (b : Nat) (m : Mx) (j : Nat) (k : Int) (hj : j ≤ 4294967295) (hk : k ≤ 9223372036854775807) {W : World} (hW : TabW W) : Spec Tryd.prog 16 [.pointer (some ⟨b, 0, none⟩), .int .u32 (j : Int), .int .i64 k] [MI b m, old W] fun Γ v Θ =>
    ∃ sv : SV, v = .tuple #[.int .i64 (placeR m j k).1.1, sv.v, .int .i64 (placeR m j k).1.2.2] ∧ sv.n = (placeR m j k).1.2.1.length ∧ Θ = own sv 3 1 (nds (placeR m j k).1.2.1) :: MI b (placeR m j k).2 :: old W :: Γ := by
  refine Spec.of_body Tryd.func16 rfl Tryd.ntmps16 rfl ?_
  intro w0 Γ
  show S _ w0 [(0, .pointer (some ⟨b, 0, none⟩)), (1, .int .u32 (j : Int)), (2, .int .i64 k)] (MI b m :: old W :: Γ) _
  refine S.seq fun K1 hK1 => ?_
  refine S.region rfl ?_
  refine S.op (S.q (q_assign rfl) rfl rfl ?_)
  refine S.op (S.q (q_assign rfl) rfl rfl ?_)
  refine S.op (S.q (q_assign rfl) rfl rfl ?_)
  first | with_reducible refine S.nilK ?_ | refine S.nil ?_
  refine hK1 _ _ ?_
  refine S.seq fun K2 hK2 => ?_
  refine S.block ?_
  refine S.seq fun K3 hK3 => ?_
  refine S.region rfl ?_
  refine S.op (S.q (q_move rfl) rfl rfl ?_)
  refine S.op (S.q (q_eqN Tryd.underlying24 rfl rfl) rfl rfl ?_)
  refine S.op (S.q (q_assign rfl) rfl rfl ?_)
  first | with_reducible refine S.nilK ?_ | refine S.nil ?_
  refine hK3 _ _ ?_
  refine S.condF rfl ?_
  refine S.seq fun K4 hK4 => ?_
  refine S.regionG ?_
  refine S.g_op rfl (S.q (q_move rfl) rfl rfl ?_)
  refine S.g_op rfl (S.q (q_eq rfl rfl) rfl rfl ?_)
  refine S.g_op rfl (S.q (q_move rfl) rfl rfl ?_)
  by_cases hg3_2 : (j : Int) = 0
  · have hp : placeR m j k = ((0, [], 1), m) := by rw [placeR, if_pos (.inl (by omega))]
    refine S.g_no rfl rfl rfl (decide_eq_true hg3_2) rfl rfl ?_
    refine S.g_no rfl rfl rfl (decide_eq_true hg3_2) rfl rfl ?_
    refine S.g_op rfl (S.q (q_pickT rfl (decide_eq_true hg3_2) rfl) rfl rfl ?_)
    refine S.g_op rfl (S.q (q_assign rfl) rfl rfl ?_)
    first | with_reducible refine S.g_nilK ?_ | refine S.g_nil ?_
    refine hK4 _ _ ?_
    refine S.condT rfl ?_
    refine S.seq fun K5 hK5 => ?_
    refine S.region rfl ?_
    refine S.op (S.q (q_assign rfl) rfl rfl ?_)
    refine S.op (S.q (q_assign rfl) rfl rfl ?_)
    refine S.op (S.q (q_assign rfl) rfl rfl ?_)
    first | with_reducible refine S.nilK ?_ | refine S.nil ?_
    refine hK5 _ _ ?_
    refine S.ret ?_
    with_reducible repeat (first | refine S.then_n ?_ | refine S.then_x ?_ | refine S.then_r ?_ | refine S.inBlock_n ?_ | refine S.inBlock_r ?_ | refine S.inBlock_x rfl ?_ | refine S.noGoto_r ?_ | refine S.noGoto_n ?_ | refine S.noGoto_x ?_)
    refine S.ent (Δ := own SV.nil 3 1 (nds (placeR m j k).1.2.1) :: MI b (placeR m j k).2 :: old W :: Γ) (by rw [hp]; exact Ent.ownNil _ _) ?_
    exact S.fin (rs := [_, _, _]) (vs := [_, _, _]) Tryd.results16 (⟨rfl, rfl, rfl, trivial⟩)  (⟨SV.nil, by rw [hp]; rfl, by rw [hp]; rfl, rfl⟩) Sub.ent
  · refine S.g_yes rfl rfl rfl (decide_eq_false hg3_2) (S.q (q_move rfl) rfl rfl ?_)
    refine S.g_yes rfl rfl rfl (decide_eq_false hg3_2) (S.q (q_lt rfl rfl) rfl rfl ?_)
    refine S.g_op rfl (S.q (q_pickF rfl (decide_eq_false hg3_2) rfl) rfl rfl ?_)
    refine S.g_op rfl (S.q (q_assign rfl) rfl rfl ?_)
    first | with_reducible refine S.g_nilK ?_ | refine S.g_nil ?_
    refine hK4 _ _ ?_
    refine S.condD rfl (fun h2 => ?_) (fun h2 => ?_)
    · have hp : placeR m j k = ((0, [], 1), m) := by rw [placeR, if_pos (.inr (by omega))]
      refine S.seq fun K6 hK6 => ?_
      refine S.region rfl ?_
      refine S.op (S.q (q_assign rfl) rfl rfl ?_)
      refine S.op (S.q (q_assign rfl) rfl rfl ?_)
      refine S.op (S.q (q_assign rfl) rfl rfl ?_)
      first | with_reducible refine S.nilK ?_ | refine S.nil ?_
      refine hK6 _ _ ?_
      refine S.ret ?_
      with_reducible repeat (first | refine S.then_n ?_ | refine S.then_x ?_ | refine S.then_r ?_ | refine S.inBlock_n ?_ | refine S.inBlock_r ?_ | refine S.inBlock_x rfl ?_ | refine S.noGoto_r ?_ | refine S.noGoto_n ?_ | refine S.noGoto_x ?_)
      refine S.ent (Δ := own SV.nil 3 1 (nds (placeR m j k).1.2.1) :: MI b (placeR m j k).2 :: old W :: Γ) (by rw [hp]; exact Ent.ownNil _ _) ?_
      exact S.fin (rs := [_, _, _]) (vs := [_, _, _]) Tryd.results16 (⟨rfl, rfl, rfl, trivial⟩)  (⟨SV.nil, by rw [hp]; rfl, by rw [hp]; rfl, rfl⟩) Sub.ent
    · refine S.seq fun K7 hK7 => ?_
      refine S.region rfl ?_
      refine S.op (S.q (q_move rfl) rfl rfl ?_)
      refine S.op (S.q (q_move rfl) rfl rfl ?_)
      refine S.op (S.call Tryd.en41 (vs := [_, _]) ⟨rfl, rfl, trivial⟩ (stands_S b m j) rfl ?_)
      rintro v Θ ⟨rfl, rfl⟩
      refine S.op (S.q (q_assign rfl) rfl rfl ?_)
      first | with_reducible refine S.nilK ?_ | refine S.nil ?_
      refine hK7 _ _ ?_
      refine S.cond rfl (fun h3 => ?_) (fun h3 => ?_)
      · have hp : placeR m j k = ((0, [], 7), m) := by rw [placeR, if_neg (by omega), if_pos h3]
        refine S.seq fun K8 hK8 => ?_
        refine S.region rfl ?_
        refine S.op (S.q (q_assign rfl) rfl rfl ?_)
        refine S.op (S.q (q_assign rfl) rfl rfl ?_)
        refine S.op (S.q (q_assign rfl) rfl rfl ?_)
        first | with_reducible refine S.nilK ?_ | refine S.nil ?_
        refine hK8 _ _ ?_
        refine S.ret ?_
        with_reducible repeat (first | refine S.then_n ?_ | refine S.then_x ?_ | refine S.then_r ?_ | refine S.inBlock_n ?_ | refine S.inBlock_r ?_ | refine S.inBlock_x rfl ?_ | refine S.noGoto_r ?_ | refine S.noGoto_n ?_ | refine S.noGoto_x ?_)
        refine S.ent (Δ := own SV.nil 3 1 (nds (placeR m j k).1.2.1) :: MI b (placeR m j k).2 :: old W :: Γ) (by rw [hp]; exact Ent.ownNil _ _) ?_
        exact S.fin (rs := [_, _, _]) (vs := [_, _, _]) Tryd.results16 (⟨rfl, rfl, rfl, trivial⟩)  (⟨SV.nil, by rw [hp]; rfl, by rw [hp]; rfl, rfl⟩) Sub.ent
      · refine S.miOpen b m fun mb tv l hok hpm htn => ?_
        refine S.seq fun K9 hK9 => ?_
        refine S.region rfl ?_
        refine S.op (S.q (q_move rfl) rfl rfl ?_)
        refine S.op (S.q (q_move rfl) rfl rfl ?_)
        refine S.op (S.q (q_nilCheck rfl) rfl rfl ?_)
        refine S.op (S.q (q_field Tryd.fo81_1 rfl) rfl rfl ?_)
        refine S.op (S.q (q_load Tryd.at3 rfl rfl) rfl rfl ?_)
        refine S.op (S.q (q_gt rfl rfl) rfl rfl ?_)
        refine S.op (S.q (q_assign rfl) rfl rfl ?_)
        first | with_reducible refine S.nilK ?_ | refine S.nil ?_
        refine hK9 _ _ ?_
        refine S.condD rfl (fun h4 => ?_) (fun h4 => ?_)
        · have hp : placeR m j k = ((0, [], 9), m) := by rw [placeR, if_neg (by omega), if_neg (by rw [h3]; decide), if_pos h4]
          refine S.seq fun K10 hK10 => ?_
          refine S.region rfl ?_
          refine S.op (S.q (q_assign rfl) rfl rfl ?_)
          refine S.op (S.q (q_assign rfl) rfl rfl ?_)
          refine S.op (S.q (q_assign rfl) rfl rfl ?_)
          first | with_reducible refine S.nilK ?_ | refine S.nil ?_
          refine hK10 _ _ ?_
          refine S.ret ?_
          with_reducible repeat (first | refine S.then_n ?_ | refine S.then_x ?_ | refine S.then_r ?_ | refine S.inBlock_n ?_ | refine S.inBlock_r ?_ | refine S.inBlock_x rfl ?_ | refine S.noGoto_r ?_ | refine S.noGoto_n ?_ | refine S.noGoto_x ?_)
          refine S.miClose (b := b) (m := m) (mb := mb) (tv := tv) rfl rfl rfl hok hpm htn ?_
          refine S.ent (Δ := own SV.nil 3 1 (nds (placeR m j k).1.2.1) :: MI b (placeR m j k).2 :: old W :: Γ) (by rw [hp]; exact Ent.ownNil _ _) ?_
          exact S.fin (rs := [_, _, _]) (vs := [_, _, _]) Tryd.results16 (⟨rfl, rfl, rfl, trivial⟩)  (⟨SV.nil, by rw [hp]; rfl, by rw [hp]; rfl, rfl⟩) Sub.ent
        · have hpl : placeR m j k = match placeRow m k.toNat m.R with
              | some r => (((r : Int), (lst (m.free r)).take k.toNat, 0), m.add ⟨j, r, leastK (m.free r) k.toNat⟩)
              | none => ((0, [], 8), m) := by rw [placeR, if_neg (by omega), if_neg (by rw [h3]; decide), if_neg h4]
          have hR8 := hok.R8
          have hlk : look m.js j = none := by cases h : look m.js j with | none => rfl | some x => rw [h] at h3; cases h3
          refine S.ownSome tv (by have := hok.R1; omega) fun tb tf hta hl1 hl2 hl3 => ?_
          refine S.skip ?_
          with_reducible repeat (first | refine S.then_n ?_ | refine S.then_x ?_ | refine S.then_r ?_ | refine S.inBlock_n ?_ | refine S.inBlock_r ?_ | refine S.inBlock_x rfl ?_ | refine S.noGoto_r ?_ | refine S.noGoto_n ?_ | refine S.noGoto_x ?_)
          with_reducible repeat (first | refine S.then_n ?_ | refine S.then_x ?_ | refine S.then_r ?_ | refine S.inBlock_n ?_ | refine S.inBlock_r ?_ | refine S.inBlock_x rfl ?_ | refine S.noGoto_r ?_ | refine S.noGoto_n ?_ | refine S.noGoto_x ?_)
          refine hK2 _ _ ?_
          refine S.seq fun K11 hK11 => ?_
          refine S.seq fun K12 hK12 => ?_
          refine S.region rfl ?_
          refine S.op (S.q (q_move rfl) rfl rfl ?_)
          refine S.op (S.q (q_nilCheck rfl) rfl rfl ?_)
          refine S.op (S.q (q_field Tryd.fo81_4 rfl) rfl rfl ?_)
          refine S.op (S.q (q_load Tryd.at79 rfl rfl) rfl rfl ?_)
          refine S.op (S.q (q_len Tryd.underlying79 rfl) rfl rfl ?_)
          refine S.op (S.q (q_move rfl) rfl rfl ?_)
          first | with_reducible refine S.nilK ?_ | refine S.nil ?_
          refine hK12 _ _ ?_
          refine S.block ?_
          refine S.loop (fun q ρ' Γ' => ∃ i : Nat, q = m.R - i ∧ i ≤ m.R ∧ placeRow m k.toNat i = none ∧ ρ' = [(0, .pointer (some ⟨b, 0, none⟩)), (1, .int .u32 (j : Int)), (2, .int .i64 k), (37, tv.v), (38, .int .i64 tv.n), (39, .int .i64 i)] ∧ Γ' = blk b 81 (mxC m mb tv).toArray :: mapL mb .u32 l :: own tv 77 1 (tks m) :: old W :: Γ) (m := _) (ρ0 := _) (Γ0 := _) (⟨0, rfl, by omega, rfl, rfl, rfl⟩) (by repeat (first | exact trivial | refine ⟨rfl, ?_⟩)) Sub.ent ?_
          rintro q ρ' Γ' ⟨i, hiq, hiR, hnp, rfl, rfl⟩
          refine S.seq fun K13 hK13 => ?_
          refine S.region rfl ?_
          refine S.op (S.q (q_lt rfl rfl) rfl rfl ?_)
          first | with_reducible refine S.nilK ?_ | refine S.nil ?_
          refine hK13 _ _ ?_
          refine S.seq fun K14 hK14 => ?_
          refine S.condD rfl (fun h5 => ?_) (fun h5 => ?_)
          · refine S.skip ?_
            with_reducible repeat (first | refine S.then_n ?_ | refine S.then_x ?_ | refine S.then_r ?_ | refine S.inBlock_n ?_ | refine S.inBlock_r ?_ | refine S.inBlock_x rfl ?_ | refine S.noGoto_r ?_ | refine S.noGoto_n ?_ | refine S.noGoto_x ?_)
            refine hK14 _ _ ?_
            refine S.seq fun K15 hK15 => ?_
            refine S.block ?_
            refine S.seq fun K16 hK16 => ?_
            refine S.region rfl ?_
            refine S.op (S.q (q_move rfl) rfl rfl ?_)
            refine S.op (S.q (q_indexO (i) Tryd.el79 rfl hta rfl rfl (by omega)) rfl rfl ?_)
            refine S.op (S.q (q_loadOw (tv) (i) Tryd.at77 rfl hta (by first | rfl | exact Nat.add_assoc _ _ _ | omega) (tks_get (show i < m.R by omega))) rfl rfl ?_)
            refine S.op (S.q (q_assign rfl) rfl rfl ?_)
            refine S.op (S.q (q_assign rfl) rfl rfl ?_)
            first | with_reducible refine S.nilK ?_ | refine S.nil ?_
            refine hK16 _ _ ?_
            refine S.seq fun K17 hK17 => ?_
            refine S.region rfl ?_
            refine S.op (S.q (q_move rfl) rfl rfl ?_)
            refine S.op (S.q (q_nilCheck rfl) rfl rfl ?_)
            refine S.op (S.q (q_field Tryd.fo81_2 rfl) rfl rfl ?_)
            refine S.op (S.q (q_load Tryd.at77 rfl rfl) rfl rfl ?_)
            refine S.op (S.q (q_move rfl) rfl rfl ?_)
            refine S.op (S.q (q_andNotB (m.up) (tk m.js i) rfl rfl (rfl) (rfl)) rfl rfl ?_)
            refine S.op (S.q (q_assign rfl) rfl rfl ?_)
            first | with_reducible refine S.nilK ?_ | refine S.nil ?_
            refine hK17 _ _ ?_
            refine S.seq fun K18 hK18 => ?_
            refine S.region rfl ?_
            refine S.op (S.q (q_move rfl) rfl rfl ?_)
            refine S.op (S.call Tryd.en42 (vs := [_]) ⟨rfl, trivial⟩ (count_S (m.free i)) rfl ?_)
            rintro v Θ ⟨rfl, rfl⟩
            refine S.op (S.q (q_move rfl) rfl rfl ?_)
            refine S.op (S.q (q_ge rfl rfl) rfl rfl ?_)
            first | with_reducible refine S.nilK ?_ | refine S.nil ?_
            refine hK18 _ _ ?_
            refine S.condD rfl (fun h6 => ?_) (fun h6 => ?_)
            · have hpr : placeRow m k.toNat m.R = some i := placeRow_mono (i := i + 1) (by rw [placeRow, hnp]; exact if_pos (by omega)) (by omega)
              rw [hpr] at hpl
              obtain ⟨p1, p2, p3⟩ := place_ok hok (r := i) (k := k.toNat) (by omega) (by omega)
              refine S.seq fun K19 hK19 => ?_
              refine S.region rfl ?_
              refine S.op (S.q (q_move rfl) rfl rfl ?_)
              refine S.op (S.q (q_move rfl) rfl rfl ?_)
              refine S.op (S.q (q_move rfl) rfl rfl ?_)
              refine S.op (S.call Tryd.en43 (vs := [_, _]) ⟨rfl, rfl, trivial⟩ (least_S (m.free i) k (by omega) hk) rfl ?_)
              rintro v Θ ⟨rfl, rfl⟩
              refine S.op (S.q (q_build (pvs := [(_, _), (_, _)]) [_, _] Tryd.z83 Tryd.p83 ⟨⟨rfl, rfl⟩, ⟨rfl, rfl⟩, trivial⟩ rfl) rfl rfl ?_)
              refine S.op (S.alloc Tryd.z83 rfl ?_)
              intro b12
              refine S.op (S.storeS (cs' := [_, _]) Tryd.ag83 rfl rfl rfl rfl rfl rfl ?_)
              first | with_reducible refine S.nilK ?_ | refine S.nil ?_
              refine hK19 _ _ ?_
              refine S.seq fun K20 hK20 => ?_
              refine S.region rfl ?_
              refine S.op (S.q (q_move rfl) rfl rfl ?_)
              refine S.op (S.q (q_move rfl) rfl rfl ?_)
              refine S.op (S.q (q_loadS [_, _] Tryd.ag83 rfl rfl ⟨rfl, rfl, trivial⟩) rfl rfl ?_)
              refine S.miClose (b := b) (m := m) (mb := mb) (tv := tv) rfl rfl rfl hok hpm htn ?_
              refine S.op (S.call Tryd.en44 (vs := [_, _, _]) ⟨rfl, rfl, rfl, trivial⟩ (put_S b m ⟨j, i, leastK (m.free i) k.toNat⟩ (look_none hlk) (show 1 ≤ j by omega) hj (show i < m.R by omega) p1 p2 p3) rfl ?_)
              rintro v Θ rfl
              first | with_reducible refine S.nilK ?_ | refine S.nil ?_
              refine hK20 _ _ ?_
              refine S.seq fun K21 hK21 => ?_
              refine S.region rfl ?_
              refine S.op (S.q (q_move rfl) rfl rfl ?_)
              refine S.op (S.q (q_field Tryd.fo83_1 rfl) rfl rfl ?_)
              refine S.op (S.q (q_load Tryd.at77 rfl rfl) rfl rfl ?_)
              refine S.op (S.call Tryd.en45 (vs := [_]) ⟨rfl, trivial⟩ (list_S (leastK (m.free i) k.toNat) hW) rfl ?_)
              rintro v Θ ⟨sv, rfl, hsv, rfl⟩
              rw [lst_leastK] at hsv ⊢
              refine S.op (S.q (q_assign rfl) rfl rfl ?_)
              refine S.op (S.q (q_assign rfl) rfl rfl ?_)
              refine S.op (S.q (q_assign rfl) rfl rfl ?_)
              first | with_reducible refine S.nilK ?_ | refine S.nil ?_
              refine hK21 _ _ ?_
              refine S.ret ?_
              with_reducible repeat (first | refine S.then_n ?_ | refine S.then_x ?_ | refine S.then_r ?_ | refine S.inBlock_n ?_ | refine S.inBlock_r ?_ | refine S.inBlock_x rfl ?_ | refine S.noGoto_r ?_ | refine S.noGoto_n ?_ | refine S.noGoto_x ?_)
              exact S.fin (rs := [_, _, _]) (vs := [_, _, _]) Tryd.results16 (⟨rfl, rfl, rfl, trivial⟩)  (⟨sv, by rw [hpl]; rfl, by rw [hpl]; exact hsv, by rw [hpl]⟩) Sub.ent
            · refine S.skip ?_
              with_reducible repeat (first | refine S.then_n ?_ | refine S.then_x ?_ | refine S.then_r ?_ | refine S.inBlock_n ?_ | refine S.inBlock_r ?_ | refine S.inBlock_x rfl ?_ | refine S.noGoto_r ?_ | refine S.noGoto_n ?_ | refine S.noGoto_x ?_)
              with_reducible repeat (first | refine S.then_n ?_ | refine S.then_x ?_ | refine S.then_r ?_ | refine S.inBlock_n ?_ | refine S.inBlock_r ?_ | refine S.inBlock_x rfl ?_ | refine S.noGoto_r ?_ | refine S.noGoto_n ?_ | refine S.noGoto_x ?_)
              refine hK15 _ _ ?_
              refine S.region rfl ?_
              refine S.op (S.q (q_add rfl rfl (inI64 (by omega) (by omega))) rfl rfl ?_)
              refine S.op (S.q (q_move rfl) rfl rfl ?_)
              first | with_reducible refine S.nilK ?_ | refine S.nil ?_
              with_reducible repeat (first | refine S.then_n ?_ | refine S.then_x ?_ | refine S.then_r ?_ | refine S.inBlock_n ?_ | refine S.inBlock_r ?_ | refine S.inBlock_x rfl ?_ | refine S.noGoto_r ?_ | refine S.noGoto_n ?_ | refine S.noGoto_x ?_)
              have hu : placeRow m k.toNat (i + 1) = none := by rw [placeRow, hnp]; exact if_neg (by omega)
              exact S.next (q - 1) (⟨i + 1, by omega, by omega, hu, rfl, rfl⟩) (by omega) (by repeat (first | exact trivial | refine ⟨rfl, ?_⟩)) Sub.ent
          · rw [show i = m.R by omega] at hnp
            rw [hnp] at hpl
            refine S.exit ?_
            with_reducible repeat (first | refine S.then_n ?_ | refine S.then_x ?_ | refine S.then_r ?_ | refine S.inBlock_n ?_ | refine S.inBlock_r ?_ | refine S.inBlock_x rfl ?_ | refine S.noGoto_r ?_ | refine S.noGoto_n ?_ | refine S.noGoto_x ?_)
            with_reducible refine S.inBlock_s ?_
            with_reducible repeat (first | refine S.then_n ?_ | refine S.then_x ?_ | refine S.then_r ?_ | refine S.inBlock_n ?_ | refine S.inBlock_r ?_ | refine S.inBlock_x rfl ?_ | refine S.noGoto_r ?_ | refine S.noGoto_n ?_ | refine S.noGoto_x ?_)
            refine hK11 _ _ ?_
            refine S.seq fun K22 hK22 => ?_
            refine S.region rfl ?_
            refine S.op (S.q (q_assign rfl) rfl rfl ?_)
            refine S.op (S.q (q_assign rfl) rfl rfl ?_)
            refine S.op (S.q (q_assign rfl) rfl rfl ?_)
            first | with_reducible refine S.nilK ?_ | refine S.nil ?_
            refine hK22 _ _ ?_
            refine S.ret ?_
            with_reducible repeat (first | refine S.then_n ?_ | refine S.then_x ?_ | refine S.then_r ?_ | refine S.inBlock_n ?_ | refine S.inBlock_r ?_ | refine S.inBlock_x rfl ?_ | refine S.noGoto_r ?_ | refine S.noGoto_n ?_ | refine S.noGoto_x ?_)
            refine S.miClose (b := b) (m := m) (mb := mb) (tv := tv) rfl rfl rfl hok hpm htn ?_
            refine S.ent (Δ := own SV.nil 3 1 (nds (placeR m j k).1.2.1) :: MI b (placeR m j k).2 :: old W :: Γ) (by rw [hpl]; exact Ent.ownNil _ _) ?_
            exact S.fin (rs := [_, _, _]) (vs := [_, _, _]) Tryd.results16 (⟨rfl, rfl, rfl, trivial⟩)  (⟨SV.nil, by rw [hpl]; rfl, by rw [hpl]; rfl, rfl⟩) Sub.ent
end Go.Proofs.YtdmfjjogpmddoaaDoor
