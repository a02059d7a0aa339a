/- The matrix: New, Place, Put. -/
import Derived.Test.YtbhnbnecaejjiaaDoorMatB
namespace Go.Proofs.YtbhnbnecaejjiaaDoor
open Go.RowKit
set_option maxRecDepth 20000
def mx0 (R N : Nat) : Mx := ⟨R, N, mask N, []⟩
theorem mx0_ok {R N : Nat} (h1 : 1 ≤ R) (h2 : R ≤ 8) (h3 : 1 ≤ N) (h4 : N ≤ 16) : MxOk (mx0 R N) where
  R1 := h1
  R8 := h2
  N1 := h3
  N16 := h4
  up := fun i hi => (mask_bit h4 i).1 hi
  srt := List.Pairwise.nil
  id1 := fun _ h => by cases h
  id2 := fun _ h => by cases h
  row := fun _ h => by cases h
  some := fun _ h => by cases h
  ns := fun _ h => by cases h
  dis := fun _ h => by cases h
theorem zeroRow_mx0 (R N : Nat) : zeroRow [Value.int .u16 0] R = tks (mx0 R N) := by
  have e : tks (mx0 R N) = List.replicate R (Value.int .u16 0) := by
    refine List.eq_replicate_iff.2 ⟨tks_len _, fun v hv => ?_⟩
    obtain ⟨r, _, rfl⟩ := List.mem_map.1 hv
    rfl
  rw [e]
  induction R with
  | zero => rfl
  | succ R ih => rw [zeroRow, ih (by
      refine List.eq_replicate_iff.2 ⟨tks_len _, fun v hv => ?_⟩
      obtain ⟨r, _, rfl⟩ := List.mem_map.1 hv
      rfl), List.replicate_succ]; rfl
/-- New, where it makes one. -/
theorem New_S (R N : Nat) (hR1 : 1 ≤ R) (hR8 : R ≤ 8) (hN1 : 1 ≤ N) (hN16 : N ≤ 16) : Spec Tryd.prog 38 [.int .i64 (R : Int), .int .i64 (N : Int)] [] fun Γ v Θ => ∃ b, v = .tuple #[.pointer (some ⟨b, 0, none⟩), .int .i64 0] ∧ Θ = MI b (mx0 R N) :: Γ := by
  refine Spec.of_body Tryd.func38 rfl Tryd.ntmps38 rfl ?_
  intro w0 Γ
  show S _ w0 [(0, .int .i64 (R : Int)), (1, .int .i64 (N : Int))] Γ _
  refine S.seq fun K1 hK1 => ?_
  refine S.region rfl ?_
  refine S.op (S.q (q_assign rfl) rfl rfl ?_)
  refine S.op (S.q (q_assign rfl) rfl rfl ?_)
  first | with_reducible refine S.nilK ?_ | refine S.nil ?_
  refine hK1 _ _ ?_
  refine S.seq fun K2 hK2 => ?_
  refine S.seq fun K3 hK3 => ?_
  refine S.regionG ?_
  refine S.g_op rfl (S.q (q_move rfl) rfl rfl ?_)
  refine S.g_op rfl (S.q (q_lt rfl rfl) rfl rfl ?_)
  refine S.g_op rfl (S.q (q_move rfl) rfl rfl ?_)
  by_cases hg1_2 : (R : Int) < 1
  · omega
  · refine S.g_yes rfl rfl rfl (decide_eq_false hg1_2) (S.q (q_move rfl) rfl rfl ?_)
    refine S.g_yes rfl rfl rfl (decide_eq_false hg1_2) (S.q (q_gt rfl rfl) rfl rfl ?_)
    refine S.g_op rfl (S.q (q_pickF rfl (decide_eq_false hg1_2) rfl) rfl rfl ?_)
    refine S.g_op rfl (S.q (q_move rfl) rfl rfl ?_)
    by_cases hg1_6 : (8 : Int) < R
    · omega
    · refine S.g_yes rfl rfl rfl (decide_eq_false hg1_6) (S.q (q_move rfl) rfl rfl ?_)
      refine S.g_yes rfl rfl rfl (decide_eq_false hg1_6) (S.q (q_lt rfl rfl) rfl rfl ?_)
      refine S.g_op rfl (S.q (q_pickF rfl (decide_eq_false hg1_6) rfl) rfl rfl ?_)
      refine S.g_op rfl (S.q (q_move rfl) rfl rfl ?_)
      by_cases hg1_10 : (N : Int) < 1
      · omega
      · refine S.g_yes rfl rfl rfl (decide_eq_false hg1_10) (S.q (q_move rfl) rfl rfl ?_)
        refine S.g_yes rfl rfl rfl (decide_eq_false hg1_10) (S.q (q_gt rfl rfl) rfl rfl ?_)
        refine S.g_op rfl (S.q (q_pickF rfl (decide_eq_false hg1_10) rfl) rfl rfl ?_)
        first | with_reducible refine S.g_nilK ?_ | refine S.g_nil ?_
        refine hK3 _ _ ?_
        refine S.condD rfl (fun h1 => ?_) (fun h1 => ?_)
        · omega
        · refine S.skip ?_
          with_reducible repeat (first | refine S.then_n ?_ | refine S.then_x ?_ | refine S.then_r ?_ | refine S.inBlock_n ?_ | refine S.inBlock_r ?_ | refine S.inBlock_x rfl ?_ | refine S.noGoto_r ?_ | refine S.noGoto_n ?_ | refine S.noGoto_x ?_)
          refine hK2 _ _ ?_
          refine S.seq fun K4 hK4 => ?_
          refine S.draw ([]) [] Tryd.mixed ?_
          refine S.dr_take 0 [] rfl (by kernel_rfl) rfl rfl rfl (q_move rfl) Sub.ent ?_
          refine S.dr_take 1 [] rfl (by kernel_rfl) rfl rfl rfl (q_move rfl) Sub.ent ?_
          refine S.dr_take 2 [] rfl (by kernel_rfl) rfl rfl rfl (q_move rfl) Sub.ent ?_
          refine S.dr_take 3 [] rfl (by kernel_rfl) rfl rfl rfl (q_shlB (N) rfl rfl (rfl) (hN16)) Sub.ent ?_
          refine S.dr_take 4 [] rfl (by kernel_rfl) rfl rfl rfl (q_predB (BitVec.twoPow 16 N) rfl rfl rfl) Sub.ent ?_
          refine S.dr_take 6 [] rfl (by kernel_rfl) rfl rfl rfl (q_move rfl) Sub.ent ?_
          refine S.dr_2 (i := 5) (j := 7) (by kernel_rfl) rfl rfl rfl rfl ?_ ?_
          · refine  (S.makeMap .u32 rfl ?_)
            intro b25
            refine S.dr_k rfl Sub.ent ?_
            refine S.dr_1 (i := 7) (by kernel_rfl) rfl rfl ?_
            refine  (S.makeSlice (R) (R) Tryd.underlying97 Tryd.inf95 rfl rfl rfl rfl rfl (Nat.le_refl _) (by omega) rfl ?_)
            intro tv htv
            refine S.dr_k rfl Sub.ent ?_
            refine S.dr_take 8 [] rfl (by kernel_rfl) rfl rfl rfl (q_build (pvs := [(_, _), (_, _), (_, _), (_, _), (_, _)]) [_, _, _, _, _] Tryd.z99 Tryd.p99 ⟨⟨rfl, rfl⟩, ⟨rfl, rfl⟩, ⟨rfl, rfl⟩, ⟨rfl, rfl⟩, ⟨rfl, rfl⟩, trivial⟩ rfl) Sub.ent ?_
            refine S.dr_1 (i := 9) (by kernel_rfl) rfl rfl ?_
            refine  (S.box (cs := [_, _, _, _, _]) rfl rfl rfl ?_)
            intro b29
            refine S.dr_k rfl Sub.ent ?_
            refine S.dr_take 10 [] rfl (by kernel_rfl) rfl rfl rfl (q_assign rfl) Sub.ent ?_
            refine S.dr_take 11 [] rfl (by kernel_rfl) rfl rfl rfl (q_assign rfl) Sub.ent ?_
            first | with_reducible refine S.dr_doneK (by kernel_rfl) ?_ | refine S.dr_done (by kernel_rfl) ?_
            refine hK4 _ _ ?_
            refine S.ret ?_
            with_reducible repeat (first | refine S.then_n ?_ | refine S.then_x ?_ | refine S.then_r ?_ | refine S.inBlock_n ?_ | refine S.inBlock_r ?_ | refine S.inBlock_x rfl ?_ | refine S.noGoto_r ?_ | refine S.noGoto_n ?_ | refine S.noGoto_x ?_)
            refine S.miClose (b := b29) (m := mx0 R N) (mb := b25) (tv := tv) (by rw [twoPow_pred N hN16]; rfl) rfl (by rw [zeroRow_mx0 R N]) (mx0_ok hR1 hR8 hN1 hN16) (.refl _) htv ?_
            exact S.fin (rs := [_, _]) (vs := [_, _]) Tryd.results38 (⟨rfl, rfl, trivial⟩)  (⟨b29, rfl, rfl⟩) Sub.ent
          · refine  (S.makeSlice (R) (R) Tryd.underlying97 Tryd.inf95 rfl rfl rfl rfl rfl (Nat.le_refl _) (by omega) rfl ?_)
            intro tv htv
            refine S.dr_k rfl Sub.ent ?_
            refine S.dr_1 (i := 5) (by kernel_rfl) rfl rfl ?_
            refine  (S.makeMap .u32 rfl ?_)
            intro b25
            refine S.dr_k rfl Sub.ent ?_
            refine S.dr_take 8 [] rfl (by kernel_rfl) rfl rfl rfl (q_build (pvs := [(_, _), (_, _), (_, _), (_, _), (_, _)]) [_, _, _, _, _] Tryd.z99 Tryd.p99 ⟨⟨rfl, rfl⟩, ⟨rfl, rfl⟩, ⟨rfl, rfl⟩, ⟨rfl, rfl⟩, ⟨rfl, rfl⟩, trivial⟩ rfl) Sub.ent ?_
            refine S.dr_1 (i := 9) (by kernel_rfl) rfl rfl ?_
            refine  (S.box (cs := [_, _, _, _, _]) rfl rfl rfl ?_)
            intro b29
            refine S.dr_k rfl Sub.ent ?_
            refine S.dr_take 10 [] rfl (by kernel_rfl) rfl rfl rfl (q_assign rfl) Sub.ent ?_
            refine S.dr_take 11 [] rfl (by kernel_rfl) rfl rfl rfl (q_assign rfl) Sub.ent ?_
            first | with_reducible refine S.dr_doneK (by kernel_rfl) ?_ | refine S.dr_done (by kernel_rfl) ?_
            refine hK4 _ _ ?_
            refine S.ret ?_
            with_reducible repeat (first | refine S.then_n ?_ | refine S.then_x ?_ | refine S.then_r ?_ | refine S.inBlock_n ?_ | refine S.inBlock_r ?_ | refine S.inBlock_x rfl ?_ | refine S.noGoto_r ?_ | refine S.noGoto_n ?_ | refine S.noGoto_x ?_)
            refine S.miClose (b := b29) (m := mx0 R N) (mb := b25) (tv := tv) (by rw [twoPow_pred N hN16]; rfl) rfl (by rw [zeroRow_mx0 R N]) (mx0_ok hR1 hR8 hN1 hN16) (.refl _) htv ?_
            exact S.fin (rs := [_, _]) (vs := [_, _]) Tryd.results38 (⟨rfl, rfl, trivial⟩)  (⟨b29, rfl, rfl⟩) Sub.ent
/-- Place: the first row that has room. -/
def placeRow (m : Mx) (k : Nat) : Nat → Option Nat
  | 0 => none
  | i + 1 => match placeRow m k i with
    | some r => some r
    | none => if k ≤ (lst (m.free i)).length then some i else none
theorem placeRow_some {m : Mx} {k r : Nat} : ∀ {i : Nat}, placeRow m k i = some r → r < i ∧ k ≤ (lst (m.free r)).length ∧ ∀ q, q < r → (lst (m.free q)).length < k
  | 0, h => by cases h
  | i + 1, h => by
    unfold placeRow at h
    cases hp : placeRow m k i with
    | some q =>
      rw [hp] at h
      cases h
      obtain ⟨h1, h2, h3⟩ := placeRow_some hp
      exact ⟨by omega, h2, h3⟩
    | none =>
      rw [hp] at h
      by_cases e : k ≤ (lst (m.free i)).length
      · rw [if_pos e] at h
        cases h
        exact ⟨by omega, e, placeRow_none hp⟩
      · rw [if_neg e] at h
        cases h
where placeRow_none {m : Mx} {k : Nat} : ∀ {i : Nat}, placeRow m k i = none → ∀ q, q < i → (lst (m.free q)).length < k
  | 0, _, q, hq => by omega
  | i + 1, h, q, hq => by
    unfold placeRow at h
    cases hp : placeRow m k i with
    | some q => rw [hp] at h; cases h
    | none =>
      rw [hp] at h
      by_cases e : k ≤ (lst (m.free i)).length
      · rw [if_pos e] at h; cases h
      · by_cases e2 : q = i
        · subst e2; omega
        · exact placeRow_none hp q (by omega)
theorem placeRow_mono {m : Mx} {k r : Nat} : ∀ {n i : Nat}, placeRow m k i = some r → i ≤ n → placeRow m k n = some r
  | 0, i, h, hn => by rwa [show i = 0 by omega] at h
  | n + 1, i, h, hn => by
    by_cases e : i = n + 1
    · rwa [e] at h
    · rw [placeRow, placeRow_mono h (by omega)]
/-- What Place answers: the row, the nodes, the error; and the matrix behind it. -/
def placeR (m : Mx) (j : Nat) (k : Int) : (Int × List Nat × Int) × Mx :=
  if j = 0 ∨ k < 1 then ((0, [], 1), m)
  else if (look m.js j).isSome then ((0, [], 7), m)
  else if (m.N : Int) < k then ((0, [], 9), m)
  else match placeRow m k.toNat m.R with
    | some r => (((r : Int), (lst (m.free r)).take k.toNat, 0), m.add ⟨j, r, leastK (m.free r) k.toNat⟩)
    | none => ((0, [], 8), m)
theorem free_bit {m : Mx} {r i : Nat} (h : (m.free r).getLsbD i = true) : m.up.getLsbD i = true ∧ (tk m.js r).getLsbD i = false := by
  rw [Mx.free, BitVec.getLsbD_and, BitVec.getLsbD_not, Bool.and_eq_true, Bool.and_eq_true, Bool.not_eq_true'] at h
  exact ⟨h.1, h.2.2⟩
theorem place_ok {m : Mx} (hm : MxOk m) {r k : Nat} (hk : 1 ≤ k) (hl : k ≤ (lst (m.free r)).length) : leastK (m.free r) k ≠ 0#16 ∧ (∀ i, (leastK (m.free r) k).getLsbD i = true → i < m.N) ∧ tk m.js r &&& leastK (m.free r) k = 0#16 := by
  have hsub : ∀ i, (leastK (m.free r) k).getLsbD i = true → (m.free r).getLsbD i = true := fun i hi => by
    rw [← mem_lst, lst_leastK] at hi
    exact mem_lst.1 (List.mem_of_mem_take hi)
  refine ⟨fun e => ?_, fun i hi => hm.up i (free_bit (hsub i hi)).1, ?_⟩
  · have := congrArg (fun s => (lst s).length) e
    simp only [lst_leastK, lst_zero, List.length_take, List.length_nil] at this
    omega
  · refine BitVec.eq_of_getLsbD_eq fun i _ => ?_
    rw [BitVec.getLsbD_and]
    cases hb : (leastK (m.free r) k).getLsbD i with
    | false => simp
    | true => rw [(free_bit (hsub i hb)).2]; simp
theorem placeR_ok {m : Mx} (hm : MxOk m) {j : Nat} (hj : j ≤ 4294967295) (k : Int) : MxOk (placeR m j k).2 := by
  unfold placeR
  by_cases h1 : j = 0 ∨ k < 1
  · rw [if_pos h1]; exact hm
  rw [if_neg h1]
  cases h2 : look m.js j with
  | some x => exact hm
  | none =>
    simp only [Option.isSome_none, Bool.false_eq_true, if_false]
    by_cases h3 : (m.N : Int) < k
    · rw [if_pos h3]; exact hm
    rw [if_neg h3]
    cases h4 : placeRow m k.toNat m.R with
    | none => exact hm
    | some r =>
      obtain ⟨q1, q2, _⟩ := placeRow_some h4
      obtain ⟨p1, p2, p3⟩ := place_ok hm (r := r) (k := k.toNat) (by omega) q2
      exact hm.add (look_none h2) (by show 1 ≤ j; omega) hj q1 p1 p2 p3
end Go.Proofs.YtbhnbnecaejjiaaDoor
