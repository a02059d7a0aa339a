/- The matrix: Put. -/
import Derived.Test.YtbhnbnecaejjiaaDoorMatC
namespace Go.Proofs.YtbhnbnecaejjiaaDoor
open Go.RowKit
set_option maxRecDepth 20000
/-- Are the first i nodes in range, and rising? -/
def okUp (m : Mx) (l : List Int) : Nat → Bool
  | 0 => true
  | i + 1 => okUp m l i && nodeB m (l.getD i 0) && (decide (i = 0) || decide (l.getD (i - 1) 0 < l.getD i 0))
abbrev nats (l : List Int) : List Nat := l.map Int.toNat
theorem okUp_le {m : Mx} {l : List Int} : ∀ {k i : Nat}, okUp m l k = true → i ≤ k → okUp m l i = true
  | 0, i, h, hi => by rwa [show i = 0 by omega]
  | k + 1, i, h, hi => by
    by_cases e : i = k + 1
    · rwa [e]
    · rw [okUp, Bool.and_eq_true, Bool.and_eq_true] at h
      exact okUp_le h.1.1 (by omega)
theorem okUp_at {m : Mx} {l : List Int} {k i : Nat} (h : okUp m l k = true) (hi : i < k) : nodeB m (l.getD i 0) = true ∧ (0 < i → l.getD (i - 1) 0 < l.getD i 0) := by
  have := okUp_le h (show i + 1 ≤ k by omega)
  rw [okUp, Bool.and_eq_true, Bool.and_eq_true, Bool.or_eq_true, decide_eq_true_eq, decide_eq_true_eq] at this
  exact ⟨this.1.2, fun h0 => this.2.resolve_left (by omega)⟩
theorem okUp_rise {m : Mx} {l : List Int} (h : okUp m l l.length = true) : (nats l).Pairwise (· < ·) ∧ ∀ i ∈ nats l, i < m.N := by
  have hmono : ∀ d i, i + d < l.length → l.getD i 0 ≤ l.getD (i + d) 0 ∧ (0 < d → l.getD i 0 < l.getD (i + d) 0) := by
    intro d
    induction d with
    | zero => intro i _; exact ⟨Int.le_refl _, fun h => by omega⟩
    | succ d ih =>
      intro i hi
      have h1 := ih i (by omega)
      have h2 := (okUp_at h (i := i + d + 1) (by omega)).2 (by omega)
      rw [show i + d + 1 - 1 = i + d by omega] at h2
      show l.getD i 0 ≤ l.getD (i + d + 1) 0 ∧ (0 < d + 1 → l.getD i 0 < l.getD (i + d + 1) 0)
      exact ⟨by omega, fun _ => by omega⟩
  constructor
  · refine List.pairwise_iff_getElem.2 fun i j hi hj hij => ?_
    simp only [List.length_map] at hi hj
    have h1 := (hmono (j - i) i (by omega)).2 (by omega)
    rw [show i + (j - i) = j by omega] at h1
    have h2 := nodeB_iff.1 (okUp_at h (i := i) hi).1
    have h3 := nodeB_iff.1 (okUp_at h (i := j) hj).1
    simp only [List.getElem_map]
    simp only [List.getD, List.getElem?_eq_getElem hi, List.getElem?_eq_getElem hj, Option.getD_some] at h1 h2 h3
    omega
  · intro i hi
    obtain ⟨z, hz, rfl⟩ := List.mem_map.1 hi
    obtain ⟨q, hq, e⟩ := List.getElem_of_mem hz
    have h2 := nodeB_iff.1 (okUp_at h (i := q) hq).1
    simp only [List.getD, List.getElem?_eq_getElem hq, Option.getD_some, e] at h2
    omega
def putOk (m : Mx) (j : Nat) (z : Int) (l : List Int) : Bool := decide ((j : Int) ≠ 0) && rowB m z && decide ((l.length : Int) > 0)
def putR (m : Mx) (j : Nat) (z : Int) (l : List Int) : Int × Mx :=
  if (putOk m j z l && okUp m l l.length) = false then (1, m)
  else if (look m.js j).isSome then (7, m)
  else if tk m.js z.toNat &&& ofL (nats l) ≠ 0#16 then (15, m)
  else (0, m.add ⟨j, z.toNat, ofL (nats l)⟩)
theorem put_ok {m : Mx} (hm : MxOk m) {l : List Int} (h0 : 0 < l.length) (h : okUp m l l.length = true) : lst (ofL (nats l)) = nats l ∧ ofL (nats l) ≠ 0#16 ∧ ∀ i, (ofL (nats l)).getLsbD i = true → i < m.N := by
  obtain ⟨h1, h2⟩ := okUp_rise h
  have e : lst (ofL (nats l)) = nats l := lst_ofL h1 fun i hi => by have := h2 i hi; have := hm.N16; omega
  refine ⟨e, fun e2 => ?_, fun i hi => h2 i (by rw [← e]; exact mem_lst.2 hi)⟩
  rw [e2, lst_zero] at e
  have := congrArg List.length e
  simp at this
  omega
theorem putR_ok {m : Mx} (hm : MxOk m) {j : Nat} (hj : j ≤ 4294967295) (z : Int) (l : List Int) : MxOk (putR m j z l).2 := by
  unfold putR
  by_cases h1 : (putOk m j z l && okUp m l l.length) = false
  · rw [if_pos h1]; exact hm
  rw [if_neg h1]
  have h1 : (putOk m j z l && okUp m l l.length) = true := by simpa using h1
  rw [Bool.and_eq_true, putOk, Bool.and_eq_true, Bool.and_eq_true, decide_eq_true_eq, decide_eq_true_eq] at h1
  obtain ⟨⟨⟨q1, q2⟩, q3⟩, q4⟩ := h1
  cases h2 : look m.js j with
  | some x => exact hm
  | none =>
    simp only [Option.isSome_none, Bool.false_eq_true, if_false]
    by_cases h3 : tk m.js z.toNat &&& ofL (nats l) ≠ 0#16
    · rw [if_pos h3]; exact hm
    rw [if_neg h3]
    obtain ⟨p1, p2, p3⟩ := put_ok hm (by omega) q4
    have hr := rowB_iff.1 q2
    exact hm.add (look_none h2) (by show 1 ≤ j; omega) hj (by show z.toNat < m.R; omega) p2 p3 (Classical.byContradiction h3)
theorem Put_S (b : Nat) (m : Mx) (j : Nat) (z : Int) (R : Assn) (s : SV) (l : List Int) (hsn : s.n = l.length) (hR : RdS R s s.n 1 (ints l)) (hj : j ≤ 4294967295) : Spec Tryd.prog 30 [.pointer (some ⟨b, 0, none⟩), .int .u32 (j : Int), .int .i64 z, s.v] [MI b m, R] fun Γ v Θ =>
    v = .int .i64 (putR m j z l).1 ∧ Θ = MI b (putR m j z l).2 :: R :: Γ := by
  refine Spec.miOk fun hok => ?_
  refine Spec.of_body Tryd.func30 rfl Tryd.ntmps30 rfl ?_
  intro w0 Γ
  show S _ w0 [(0, .pointer (some ⟨b, 0, none⟩)), (1, .int .u32 (j : Int)), (2, .int .i64 z), (3, s.v)] (MI b m :: R :: Γ) _
  refine S.rCap hR fun _ hcap1 hcap2 => ?_
  have hN16 := hok.N16
  refine S.seq fun K1 hK1 => ?_
  refine S.region rfl ?_
  refine S.op (S.q (q_assign rfl) rfl rfl ?_)
  first | with_reducible refine S.nilK ?_ | refine S.nil ?_
  refine hK1 _ _ ?_
  refine S.seq fun K2 hK2 => ?_
  refine S.seq fun K3 hK3 => ?_
  refine S.region rfl ?_
  refine S.op (S.q (q_move rfl) rfl rfl ?_)
  refine S.op (S.q (q_eqN Tryd.underlying24 rfl rfl) rfl rfl ?_)
  first | with_reducible refine S.nilK ?_ | refine S.nil ?_
  refine hK3 _ _ ?_
  refine S.condF rfl ?_
  refine S.skip ?_
  with_reducible repeat (first | refine S.then_n ?_ | refine S.then_x ?_ | refine S.then_r ?_ | refine S.inBlock_n ?_ | refine S.inBlock_r ?_ | refine S.inBlock_x rfl ?_ | refine S.noGoto_r ?_ | refine S.noGoto_n ?_ | refine S.noGoto_x ?_)
  refine hK2 _ _ ?_
  refine S.seq fun K4 hK4 => ?_
  refine S.cut (fun ρ' Γ' => ∃ b9, ρ' = [(0, .pointer (some ⟨b, 0, none⟩)), (1, .int .u32 (j : Int)), (2, .int .i64 z), (3, s.v), (9, .pointer (some ⟨b9, 0, none⟩)), (10, .bool (putOk m j z l))] ∧ Γ' = blk b9 102 #[.int .i64 z, .int .u16 0] :: MI b m :: R :: Γ) ?_ ?_
  · refine S.regionG ?_
    refine S.g_op rfl (S.q (q_move rfl) rfl rfl ?_)
    refine S.g_op rfl (S.q (q_build (pvs := [(_, _)]) [_, _] Tryd.z102 Tryd.p102 ⟨⟨rfl, rfl⟩, trivial⟩ rfl) rfl rfl ?_)
    refine S.g_op rfl (S.q (q_move rfl) rfl rfl ?_)
    refine S.g_op rfl (S.q (q_ne rfl rfl) rfl rfl ?_)
    refine S.g_op rfl (S.q (q_move rfl) rfl rfl ?_)
    by_cases hg3_4 : ((j : Int) ≠ 0)
    · refine S.g_yes rfl rfl rfl (decide_eq_true hg3_4) (S.q (q_move rfl) rfl rfl ?_)
      refine S.g_yes rfl rfl rfl (decide_eq_true hg3_4) (S.q (q_move rfl) rfl rfl ?_)
      refine S.g_yes rfl rfl rfl (decide_eq_true hg3_4) (S.call Tryd.en45 (vs := [_, _]) ⟨rfl, rfl, trivial⟩ (row_S b m z) rfl ?_)
      rintro v Θ ⟨rfl, rfl⟩
      refine S.g_op rfl (S.q (q_pickT rfl (decide_eq_true hg3_4) rfl) rfl rfl ?_)
      refine S.g_op rfl (S.q (q_move rfl) rfl rfl ?_)
      rcases Bool.eq_false_or_eq_true (rowB m z) with hg3_9 | hg3_9
      · refine S.g_yes rfl rfl rfl (hg3_9) (S.q (q_move rfl) rfl rfl ?_)
        refine S.g_yes rfl rfl rfl (hg3_9) (S.q (q_len Tryd.underlying52 rfl) rfl rfl ?_)
        refine S.g_yes rfl rfl rfl (hg3_9) (S.q (q_gt rfl rfl) rfl rfl ?_)
        refine S.g_op rfl (S.q (q_pickT rfl (hg3_9) rfl) rfl rfl ?_)
        refine S.g_op rfl (S.alloc Tryd.z102 rfl ?_)
        intro b9
        refine S.g_op rfl (S.storeS (cs' := [_, _]) Tryd.ag102 rfl rfl rfl rfl rfl rfl ?_)
        refine S.g_op rfl (S.q (q_assign rfl) rfl rfl ?_)
        first | with_reducible refine S.g_nilK ?_ | refine S.g_nil ?_
        with_reducible repeat (first | refine S.then_n ?_ | refine S.then_x ?_ | refine S.then_r ?_ | refine S.inBlock_n ?_ | refine S.inBlock_r ?_ | refine S.inBlock_x rfl ?_ | refine S.noGoto_r ?_ | refine S.noGoto_n ?_ | refine S.noGoto_x ?_)
        have hpk : putOk m j z l = (decide ((j : Int) ≠ 0) && rowB m z && decide ((s.n : Int) > 0)) := by rw [putOk, hsn]
        first | (have e : putOk m j z l = decide ((0 : Int) < s.n) := (by rw [hpk, decide_eq_true hg3_4, hg3_9]; rfl) ; rw [e] ; exact S.meet ⟨b9, rfl, rfl⟩ ⟨rfl, rfl, rfl, rfl, rfl, rfl, trivial⟩ Sub.ent) | (have e : putOk m j z l = false := (by rw [hpk, hg3_9]; simp) ; rw [e] ; exact S.meet ⟨b9, rfl, rfl⟩ ⟨rfl, rfl, rfl, rfl, rfl, rfl, trivial⟩ Sub.ent) | (have e : putOk m j z l = false := (by rw [hpk, decide_eq_false hg3_4]; rfl) ; rw [e] ; exact S.meet ⟨b9, rfl, rfl⟩ ⟨rfl, rfl, rfl, rfl, rfl, rfl, trivial⟩ Sub.ent)
      · refine S.g_no rfl rfl rfl (hg3_9) rfl rfl ?_
        refine S.g_no rfl rfl rfl (hg3_9) rfl rfl ?_
        refine S.g_no rfl rfl rfl (hg3_9) rfl rfl ?_
        refine S.g_op rfl (S.q (q_pickF rfl (hg3_9) rfl) rfl rfl ?_)
        refine S.g_op rfl (S.alloc Tryd.z102 rfl ?_)
        intro b9
        refine S.g_op rfl (S.storeS (cs' := [_, _]) Tryd.ag102 rfl rfl rfl rfl rfl rfl ?_)
        refine S.g_op rfl (S.q (q_assign rfl) rfl rfl ?_)
        first | with_reducible refine S.g_nilK ?_ | refine S.g_nil ?_
        with_reducible repeat (first | refine S.then_n ?_ | refine S.then_x ?_ | refine S.then_r ?_ | refine S.inBlock_n ?_ | refine S.inBlock_r ?_ | refine S.inBlock_x rfl ?_ | refine S.noGoto_r ?_ | refine S.noGoto_n ?_ | refine S.noGoto_x ?_)
        have hpk : putOk m j z l = (decide ((j : Int) ≠ 0) && rowB m z && decide ((s.n : Int) > 0)) := by rw [putOk, hsn]
        first | (have e : putOk m j z l = decide ((0 : Int) < s.n) := (by rw [hpk, decide_eq_true hg3_4, hg3_9]; rfl) ; rw [e] ; exact S.meet ⟨b9, rfl, rfl⟩ ⟨rfl, rfl, rfl, rfl, rfl, rfl, trivial⟩ Sub.ent) | (have e : putOk m j z l = false := (by rw [hpk, hg3_9]; simp) ; rw [e] ; exact S.meet ⟨b9, rfl, rfl⟩ ⟨rfl, rfl, rfl, rfl, rfl, rfl, trivial⟩ Sub.ent) | (have e : putOk m j z l = false := (by rw [hpk, decide_eq_false hg3_4]; rfl) ; rw [e] ; exact S.meet ⟨b9, rfl, rfl⟩ ⟨rfl, rfl, rfl, rfl, rfl, rfl, trivial⟩ Sub.ent)
    · refine S.g_no rfl rfl rfl (decide_eq_false hg3_4) rfl rfl ?_
      refine S.g_no rfl rfl rfl (decide_eq_false hg3_4) rfl rfl ?_
      refine S.g_no rfl rfl rfl (decide_eq_false hg3_4) rfl rfl ?_
      refine S.g_op rfl (S.q (q_pickF rfl (decide_eq_false hg3_4) rfl) rfl rfl ?_)
      refine S.g_op rfl (S.q (q_move rfl) rfl rfl ?_)
      refine S.g_no rfl rfl rfl (rfl) rfl rfl ?_
      refine S.g_no rfl rfl rfl (rfl) rfl rfl ?_
      refine S.g_no rfl rfl rfl (rfl) rfl rfl ?_
      refine S.g_op rfl (S.q (q_pickF rfl (rfl) rfl) rfl rfl ?_)
      refine S.g_op rfl (S.alloc Tryd.z102 rfl ?_)
      intro b9
      refine S.g_op rfl (S.storeS (cs' := [_, _]) Tryd.ag102 rfl rfl rfl rfl rfl rfl ?_)
      refine S.g_op rfl (S.q (q_assign rfl) rfl rfl ?_)
      first | with_reducible refine S.g_nilK ?_ | refine S.g_nil ?_
      with_reducible repeat (first | refine S.then_n ?_ | refine S.then_x ?_ | refine S.then_r ?_ | refine S.inBlock_n ?_ | refine S.inBlock_r ?_ | refine S.inBlock_x rfl ?_ | refine S.noGoto_r ?_ | refine S.noGoto_n ?_ | refine S.noGoto_x ?_)
      have hpk : putOk m j z l = (decide ((j : Int) ≠ 0) && rowB m z && decide ((s.n : Int) > 0)) := by rw [putOk, hsn]
      first | (have e : putOk m j z l = decide ((0 : Int) < s.n) := (by rw [hpk, decide_eq_true hg3_4, hg3_9]; rfl) ; rw [e] ; exact S.meet ⟨b9, rfl, rfl⟩ ⟨rfl, rfl, rfl, rfl, rfl, rfl, trivial⟩ Sub.ent) | (have e : putOk m j z l = false := (by rw [hpk, hg3_9]; simp) ; rw [e] ; exact S.meet ⟨b9, rfl, rfl⟩ ⟨rfl, rfl, rfl, rfl, rfl, rfl, trivial⟩ Sub.ent) | (have e : putOk m j z l = false := (by rw [hpk, decide_eq_false hg3_4]; rfl) ; rw [e] ; exact S.meet ⟨b9, rfl, rfl⟩ ⟨rfl, rfl, rfl, rfl, rfl, rfl, trivial⟩ Sub.ent)
  · rintro ρ' Γ' ⟨b9, rfl, rfl⟩
    show S _ w0 _ (blk b9 102 #[.int .i64 z, bsv 0#16] :: MI b m :: R :: Γ) _
    refine hK4 _ _ ?_
    refine S.seq fun K5 hK5 => ?_
    refine S.seq fun K6 hK6 => ?_
    refine S.region rfl ?_
    refine S.op (S.q (q_move rfl) rfl rfl ?_)
    refine S.op (S.q (q_len Tryd.underlying52 rfl) rfl rfl ?_)
    refine S.op (S.q (q_move rfl) rfl rfl ?_)
    first | with_reducible refine S.nilK ?_ | refine S.nil ?_
    refine hK6 _ _ ?_
    refine S.block ?_
    refine S.loop (fun q ρ' Γ' => ∃ (i : Nat) (bs : Bs) (rt : Bool), q = l.length - i ∧ i ≤ l.length ∧ rt = (putOk m j z l && okUp m l i) ∧ (rt = true → bs = ofL (nats (l.take i))) ∧ ρ' = [(0, .pointer (some ⟨b, 0, none⟩)), (1, .int .u32 (j : Int)), (2, .int .i64 z), (3, s.v), (9, .pointer (some ⟨b9, 0, none⟩)), (10, .bool rt), (29, s.v), (30, .int .i64 s.n), (31, .int .i64 i)] ∧ Γ' = blk b9 102 #[.int .i64 z, bsv bs] :: MI b m :: R :: Γ) (m := _) (ρ0 := _) (Γ0 := _) (⟨0, 0#16, putOk m j z l, rfl, by omega, (Bool.and_true _).symm, fun _ => rfl, rfl, rfl⟩) (by repeat (first | exact trivial | refine ⟨rfl, ?_⟩)) Sub.ent ?_
    rintro q ρ' Γ' ⟨i, bs, rt, hiq, hil, hrt, hbs, rfl, rfl⟩
    refine S.seq fun K7 hK7 => ?_
    refine S.region rfl ?_
    refine S.op (S.q (q_lt rfl rfl) rfl rfl ?_)
    first | with_reducible refine S.nilK ?_ | refine S.nil ?_
    refine hK7 _ _ ?_
    refine S.seq fun K8 hK8 => ?_
    refine S.condD rfl (fun h2 => ?_) (fun h2 => ?_)
    · refine S.rSome hR (by omega) fun sb so hsa => ?_
      obtain ⟨x, hx⟩ := getE (show i < l.length by omega)
      have hxd : l.getD i 0 = x := by simp [List.getD, hx]
      refine S.skip ?_
      with_reducible repeat (first | refine S.then_n ?_ | refine S.then_x ?_ | refine S.then_r ?_ | refine S.inBlock_n ?_ | refine S.inBlock_r ?_ | refine S.inBlock_x rfl ?_ | refine S.noGoto_r ?_ | refine S.noGoto_n ?_ | refine S.noGoto_x ?_)
      refine hK8 _ _ ?_
      refine S.seq fun K9 hK9 => ?_
      refine S.block ?_
      refine S.seq fun K10 hK10 => ?_
      refine S.region rfl ?_
      refine S.op (S.q (q_move rfl) rfl rfl ?_)
      refine S.op (S.q (q_indexO (i) Tryd.el52 rfl hsa rfl rfl (by omega)) rfl rfl ?_)
      refine S.op (S.q (q_loadR hR i Tryd.at3 rfl hsa (by omega) (by omega) (ints_get hx)) rfl rfl ?_)
      refine S.op (S.q (q_assign rfl) rfl rfl ?_)
      refine S.op (S.q (q_assign rfl) rfl rfl ?_)
      first | with_reducible refine S.nilK ?_ | refine S.nil ?_
      refine hK10 _ _ ?_
      refine S.seq fun K11 hK11 => ?_
      refine S.cut (fun ρ' Γ' => ∃ r2, r2 = (putOk m j z l && okUp m l (i + 1)) ∧ ρ' = [(0, .pointer (some ⟨b, 0, none⟩)), (1, .int .u32 (j : Int)), (2, .int .i64 z), (3, s.v), (9, .pointer (some ⟨b9, 0, none⟩)), (10, .bool r2), (12, .int .i64 x), (29, s.v), (30, .int .i64 s.n), (31, .int .i64 i)] ∧ Γ' = blk b9 102 #[.int .i64 z, bsv bs] :: MI b m :: R :: Γ) ?_ ?_
      · refine S.regionG ?_
        refine S.g_op rfl (S.q (q_move rfl) rfl rfl ?_)
        refine S.g_op rfl (S.q (q_move rfl) rfl rfl ?_)
        rcases Bool.eq_false_or_eq_true (rt) with hg7_1 | hg7_1
        · refine S.g_yes rfl rfl rfl (hg7_1) (S.q (q_move rfl) rfl rfl ?_)
          refine S.g_yes rfl rfl rfl (hg7_1) (S.q (q_move rfl) rfl rfl ?_)
          refine S.g_yes rfl rfl rfl (hg7_1) (S.call Tryd.en49 (vs := [_, _]) ⟨rfl, rfl, trivial⟩ (node_S b m x) rfl ?_)
          rintro v Θ ⟨rfl, rfl⟩
          refine S.g_op rfl (S.q (q_pickT rfl (hg7_1) rfl) rfl rfl ?_)
          refine S.g_op rfl (S.q (q_move rfl) rfl rfl ?_)
          rcases Bool.eq_false_or_eq_true (nodeB m x) with hg7_6 | hg7_6
          · refine S.g_yes rfl rfl rfl (hg7_6) (S.q (q_move rfl) rfl rfl ?_)
            refine S.g_yes rfl rfl rfl (hg7_6) (S.q (q_eq rfl rfl) rfl rfl ?_)
            refine S.g_yes rfl rfl rfl (hg7_6) (S.q (q_move rfl) rfl rfl ?_)
            by_cases hg7_9 : (i : Int) = 0
            · refine S.g_no rfl rfl rfl (decide_eq_true hg7_9) rfl rfl ?_
              refine S.g_no rfl rfl rfl (decide_eq_true hg7_9) rfl rfl ?_
              refine S.g_no rfl rfl rfl (decide_eq_true hg7_9) rfl rfl ?_
              refine S.g_no rfl rfl rfl (decide_eq_true hg7_9) rfl rfl ?_
              refine S.g_no rfl rfl rfl (decide_eq_true hg7_9) rfl rfl ?_
              refine S.g_no rfl rfl rfl (decide_eq_true hg7_9) rfl rfl ?_
              refine S.g_no rfl rfl rfl (decide_eq_true hg7_9) rfl rfl ?_
              refine S.g_yes rfl rfl rfl (hg7_6) (S.q (q_pickT rfl (decide_eq_true hg7_9) rfl) rfl rfl ?_)
              refine S.g_op rfl (S.q (q_pickT rfl (hg7_6) rfl) rfl rfl ?_)
              refine S.g_op rfl (S.q (q_assign rfl) rfl rfl ?_)
              first | with_reducible refine S.g_nilK ?_ | refine S.g_nil ?_
              with_reducible repeat (first | refine S.then_n ?_ | refine S.then_x ?_ | refine S.then_r ?_ | refine S.inBlock_n ?_ | refine S.inBlock_r ?_ | refine S.inBlock_x rfl ?_ | refine S.noGoto_r ?_ | refine S.noGoto_n ?_ | refine S.noGoto_x ?_)
              have hok1 : (putOk m j z l && okUp m l (i + 1)) = (putOk m j z l && okUp m l i && nodeB m x && (decide ((i : Int) = 0) || decide (l.getD (i - 1) 0 < x))) := by
                rw [okUp, hxd, ← Bool.and_assoc, ← Bool.and_assoc]
                have e : decide (i = 0) = decide ((i : Int) = 0) := decide_eq_decide.2 (by omega)
                rw [e]
              first | exact S.meet ⟨_, (by rw [hok1, ← hrt, hg7_1, hg7_6, decide_eq_true hg7_9]; rfl), rfl, rfl⟩ ⟨rfl, rfl, rfl, rfl, rfl, rfl, rfl, rfl, rfl, rfl, trivial⟩ Sub.ent | exact S.meet ⟨_, (by rw [hok1, ← hrt, hg7_1, hg7_6, decide_eq_false hg7_9, hyd]; rfl), rfl, rfl⟩ ⟨rfl, rfl, rfl, rfl, rfl, rfl, rfl, rfl, rfl, rfl, trivial⟩ Sub.ent | exact S.meet ⟨_, (by rw [hok1, ← hrt, hg7_1, hg7_6]; rfl), rfl, rfl⟩ ⟨rfl, rfl, rfl, rfl, rfl, rfl, rfl, rfl, rfl, rfl, trivial⟩ Sub.ent | exact S.meet ⟨_, (by rw [hok1, ← hrt, hg7_1]; rfl), rfl, rfl⟩ ⟨rfl, rfl, rfl, rfl, rfl, rfl, rfl, rfl, rfl, rfl, trivial⟩ Sub.ent
            · obtain ⟨y, hy⟩ := getE (show i - 1 < l.length by omega)
              have hyd : l.getD (i - 1) 0 = y := by simp [List.getD, hy]
              refine S.g_yes rfl rfl rfl (decide_eq_false hg7_9) (S.q (q_move rfl) rfl rfl ?_)
              refine S.g_yes rfl rfl rfl (decide_eq_false hg7_9) (S.q (q_move rfl) rfl rfl ?_)
              refine S.g_yes rfl rfl rfl (decide_eq_false hg7_9) (S.q (q_move rfl) rfl rfl ?_)
              refine S.g_yes rfl rfl rfl (decide_eq_false hg7_9) (S.q (q_sub rfl rfl (inI64 (by omega) (by omega))) rfl rfl ?_)
              refine S.g_yes rfl rfl rfl (decide_eq_false hg7_9) (S.q (q_indexO (i - 1) Tryd.el52 rfl hsa rfl (by omega) (by omega)) rfl rfl ?_)
              refine S.g_yes rfl rfl rfl (decide_eq_false hg7_9) (S.q (q_loadR hR (i - 1) Tryd.at3 rfl hsa (by omega) (by omega) (ints_get hy)) rfl rfl ?_)
              refine S.g_yes rfl rfl rfl (decide_eq_false hg7_9) (S.q (q_gt rfl rfl) rfl rfl ?_)
              refine S.g_yes rfl rfl rfl (hg7_6) (S.q (q_pickF rfl (decide_eq_false hg7_9) rfl) rfl rfl ?_)
              refine S.g_op rfl (S.q (q_pickT rfl (hg7_6) rfl) rfl rfl ?_)
              refine S.g_op rfl (S.q (q_assign rfl) rfl rfl ?_)
              first | with_reducible refine S.g_nilK ?_ | refine S.g_nil ?_
              with_reducible repeat (first | refine S.then_n ?_ | refine S.then_x ?_ | refine S.then_r ?_ | refine S.inBlock_n ?_ | refine S.inBlock_r ?_ | refine S.inBlock_x rfl ?_ | refine S.noGoto_r ?_ | refine S.noGoto_n ?_ | refine S.noGoto_x ?_)
              have hok1 : (putOk m j z l && okUp m l (i + 1)) = (putOk m j z l && okUp m l i && nodeB m x && (decide ((i : Int) = 0) || decide (l.getD (i - 1) 0 < x))) := by
                rw [okUp, hxd, ← Bool.and_assoc, ← Bool.and_assoc]
                have e : decide (i = 0) = decide ((i : Int) = 0) := decide_eq_decide.2 (by omega)
                rw [e]
              first | exact S.meet ⟨_, (by rw [hok1, ← hrt, hg7_1, hg7_6, decide_eq_true hg7_9]; rfl), rfl, rfl⟩ ⟨rfl, rfl, rfl, rfl, rfl, rfl, rfl, rfl, rfl, rfl, trivial⟩ Sub.ent | exact S.meet ⟨_, (by rw [hok1, ← hrt, hg7_1, hg7_6, decide_eq_false hg7_9, hyd]; rfl), rfl, rfl⟩ ⟨rfl, rfl, rfl, rfl, rfl, rfl, rfl, rfl, rfl, rfl, trivial⟩ Sub.ent | exact S.meet ⟨_, (by rw [hok1, ← hrt, hg7_1, hg7_6]; rfl), rfl, rfl⟩ ⟨rfl, rfl, rfl, rfl, rfl, rfl, rfl, rfl, rfl, rfl, trivial⟩ Sub.ent | exact S.meet ⟨_, (by rw [hok1, ← hrt, hg7_1]; rfl), rfl, rfl⟩ ⟨rfl, rfl, rfl, rfl, rfl, rfl, rfl, rfl, rfl, rfl, trivial⟩ Sub.ent
          · refine S.g_no rfl rfl rfl (hg7_6) rfl rfl ?_
            refine S.g_no rfl rfl rfl (hg7_6) rfl rfl ?_
            refine S.g_no rfl rfl rfl (hg7_6) rfl rfl ?_
            refine S.g_noU rfl rfl rfl rfl rfl ?_
            refine S.g_noU rfl rfl rfl rfl rfl ?_
            refine S.g_noU rfl rfl rfl rfl rfl ?_
            refine S.g_noU rfl rfl rfl rfl rfl ?_
            refine S.g_noU rfl rfl rfl rfl rfl ?_
            refine S.g_noU rfl rfl rfl rfl rfl ?_
            refine S.g_noU rfl rfl rfl rfl rfl ?_
            refine S.g_no rfl rfl rfl (hg7_6) rfl rfl ?_
            refine S.g_op rfl (S.q (q_pickF rfl (hg7_6) rfl) rfl rfl ?_)
            refine S.g_op rfl (S.q (q_assign rfl) rfl rfl ?_)
            first | with_reducible refine S.g_nilK ?_ | refine S.g_nil ?_
            with_reducible repeat (first | refine S.then_n ?_ | refine S.then_x ?_ | refine S.then_r ?_ | refine S.inBlock_n ?_ | refine S.inBlock_r ?_ | refine S.inBlock_x rfl ?_ | refine S.noGoto_r ?_ | refine S.noGoto_n ?_ | refine S.noGoto_x ?_)
            have hok1 : (putOk m j z l && okUp m l (i + 1)) = (putOk m j z l && okUp m l i && nodeB m x && (decide ((i : Int) = 0) || decide (l.getD (i - 1) 0 < x))) := by
              rw [okUp, hxd, ← Bool.and_assoc, ← Bool.and_assoc]
              have e : decide (i = 0) = decide ((i : Int) = 0) := decide_eq_decide.2 (by omega)
              rw [e]
            first | exact S.meet ⟨_, (by rw [hok1, ← hrt, hg7_1, hg7_6, decide_eq_true hg7_9]; rfl), rfl, rfl⟩ ⟨rfl, rfl, rfl, rfl, rfl, rfl, rfl, rfl, rfl, rfl, trivial⟩ Sub.ent | exact S.meet ⟨_, (by rw [hok1, ← hrt, hg7_1, hg7_6, decide_eq_false hg7_9, hyd]; rfl), rfl, rfl⟩ ⟨rfl, rfl, rfl, rfl, rfl, rfl, rfl, rfl, rfl, rfl, trivial⟩ Sub.ent | exact S.meet ⟨_, (by rw [hok1, ← hrt, hg7_1, hg7_6]; rfl), rfl, rfl⟩ ⟨rfl, rfl, rfl, rfl, rfl, rfl, rfl, rfl, rfl, rfl, trivial⟩ Sub.ent | exact S.meet ⟨_, (by rw [hok1, ← hrt, hg7_1]; rfl), rfl, rfl⟩ ⟨rfl, rfl, rfl, rfl, rfl, rfl, rfl, rfl, rfl, rfl, trivial⟩ Sub.ent
        · refine S.g_no rfl rfl rfl (hg7_1) rfl rfl ?_
          refine S.g_no rfl rfl rfl (hg7_1) rfl rfl ?_
          refine S.g_no rfl rfl rfl (hg7_1) rfl rfl ?_
          refine S.g_op rfl (S.q (q_pickF rfl (hg7_1) rfl) rfl rfl ?_)
          refine S.g_op rfl (S.q (q_move rfl) rfl rfl ?_)
          refine S.g_no rfl rfl rfl (rfl) rfl rfl ?_
          refine S.g_no rfl rfl rfl (rfl) rfl rfl ?_
          refine S.g_no rfl rfl rfl (rfl) rfl rfl ?_
          refine S.g_noU rfl rfl rfl rfl rfl ?_
          refine S.g_noU rfl rfl rfl rfl rfl ?_
          refine S.g_noU rfl rfl rfl rfl rfl ?_
          refine S.g_noU rfl rfl rfl rfl rfl ?_
          refine S.g_noU rfl rfl rfl rfl rfl ?_
          refine S.g_noU rfl rfl rfl rfl rfl ?_
          refine S.g_noU rfl rfl rfl rfl rfl ?_
          refine S.g_no rfl rfl rfl (rfl) rfl rfl ?_
          refine S.g_op rfl (S.q (q_pickF rfl (rfl) rfl) rfl rfl ?_)
          refine S.g_op rfl (S.q (q_assign rfl) rfl rfl ?_)
          first | with_reducible refine S.g_nilK ?_ | refine S.g_nil ?_
          with_reducible repeat (first | refine S.then_n ?_ | refine S.then_x ?_ | refine S.then_r ?_ | refine S.inBlock_n ?_ | refine S.inBlock_r ?_ | refine S.inBlock_x rfl ?_ | refine S.noGoto_r ?_ | refine S.noGoto_n ?_ | refine S.noGoto_x ?_)
          have hok1 : (putOk m j z l && okUp m l (i + 1)) = (putOk m j z l && okUp m l i && nodeB m x && (decide ((i : Int) = 0) || decide (l.getD (i - 1) 0 < x))) := by
            rw [okUp, hxd, ← Bool.and_assoc, ← Bool.and_assoc]
            have e : decide (i = 0) = decide ((i : Int) = 0) := decide_eq_decide.2 (by omega)
            rw [e]
          first | exact S.meet ⟨_, (by rw [hok1, ← hrt, hg7_1, hg7_6, decide_eq_true hg7_9]; rfl), rfl, rfl⟩ ⟨rfl, rfl, rfl, rfl, rfl, rfl, rfl, rfl, rfl, rfl, trivial⟩ Sub.ent | exact S.meet ⟨_, (by rw [hok1, ← hrt, hg7_1, hg7_6, decide_eq_false hg7_9, hyd]; rfl), rfl, rfl⟩ ⟨rfl, rfl, rfl, rfl, rfl, rfl, rfl, rfl, rfl, rfl, trivial⟩ Sub.ent | exact S.meet ⟨_, (by rw [hok1, ← hrt, hg7_1, hg7_6]; rfl), rfl, rfl⟩ ⟨rfl, rfl, rfl, rfl, rfl, rfl, rfl, rfl, rfl, rfl, trivial⟩ Sub.ent | exact S.meet ⟨_, (by rw [hok1, ← hrt, hg7_1]; rfl), rfl, rfl⟩ ⟨rfl, rfl, rfl, rfl, rfl, rfl, rfl, rfl, rfl, rfl, trivial⟩ Sub.ent
      · rintro ρ' Γ' ⟨r2, hr2, rfl, rfl⟩
        refine hK11 _ _ ?_
        refine S.seq fun K12 hK12 => ?_
        refine S.region rfl ?_
        refine S.op (S.q (q_move rfl) rfl rfl ?_)
        first | with_reducible refine S.nilK ?_ | refine S.nil ?_
        refine hK12 _ _ ?_
        refine S.cond rfl (fun h3 => ?_) (fun h3 => ?_)
        · subst h3
          have h3 := hr2.symm
          rw [Bool.and_eq_true] at h3
          have hnb := nodeB_iff.1 (okUp_at h3.2 (show i < i + 1 by omega)).1
          rw [hxd] at hnb
          have hbs2 := hbs (by rw [hrt, h3.1, okUp_le h3.2 (show i ≤ i + 1 by omega)]; rfl)
          refine S.draw ([blk b9 102 #[.int .i64 z, bsv bs]]) [6] Tryd.mixed ?_
          refine S.dr_take 0 [1, 4, 5, 6] rfl (by kernel_rfl) rfl rfl rfl (q_field Tryd.fo102_1 rfl) Sub.ent ?_
          refine S.dr_take 1 [4, 5, 6] rfl (by kernel_rfl) rfl rfl rfl (q_load Tryd.at95 rfl rfl) Sub.ent ?_
          refine S.dr_take 2 [3, 4, 5, 6] rfl (by kernel_rfl) rfl rfl rfl (q_move rfl) Sub.ent ?_
          refine S.dr_take 3 [4, 5, 6] rfl (by kernel_rfl) rfl rfl rfl (q_shlB (x.toNat) rfl rfl (by omega) (by omega)) Sub.ent ?_
          refine S.dr_take 4 [5, 6] rfl (by kernel_rfl) rfl rfl rfl (q_orB (bs) (BitVec.twoPow 16 x.toNat) rfl rfl (rfl) (rfl)) Sub.ent ?_
          refine S.dr_take 5 [6] rfl (by kernel_rfl) rfl rfl rfl (q_field Tryd.fo102_1 rfl) Sub.ent ?_
          refine S.dr_1 (i := 6) (by kernel_rfl) rfl rfl ?_
          refine  (S.store (cs' := [_, _]) Tryd.at95 rfl rfl rfl rfl rfl ?_)
          refine S.dr_late ([]) [] rfl ?_
          first | with_reducible refine S.dr_doneK (by kernel_rfl) ?_ | refine S.dr_done (by kernel_rfl) ?_
          with_reducible repeat (first | refine S.then_n ?_ | refine S.then_x ?_ | refine S.then_r ?_ | refine S.inBlock_n ?_ | refine S.inBlock_r ?_ | refine S.inBlock_x rfl ?_ | refine S.noGoto_r ?_ | refine S.noGoto_n ?_ | refine S.noGoto_x ?_)
          refine hK9 _ _ ?_
          refine S.region rfl ?_
          refine S.op (S.q (q_add rfl rfl (inI64 (by omega) (by omega))) rfl rfl ?_)
          refine S.op (S.q (q_move rfl) rfl rfl ?_)
          first | with_reducible refine S.nilK ?_ | refine S.nil ?_
          with_reducible repeat (first | refine S.then_n ?_ | refine S.then_x ?_ | refine S.then_r ?_ | refine S.inBlock_n ?_ | refine S.inBlock_r ?_ | refine S.inBlock_x rfl ?_ | refine S.noGoto_r ?_ | refine S.noGoto_n ?_ | refine S.noGoto_x ?_)
          first | (have hnew : bs ||| BitVec.twoPow 16 x.toNat = ofL (nats (l.take (i + 1))) := (by rw [List.take_add_one, hx, hbs2]; simp only [Option.toList_some, List.map_append, ofL_append]; simp [ofL]) ; exact S.next (q - 1) ⟨i + 1, bs ||| BitVec.twoPow 16 x.toNat, true, by omega, by omega, hr2, fun _ => hnew, rfl, rfl⟩ (by omega) (by repeat (first | exact trivial | refine ⟨rfl, ?_⟩)) Sub.ent) | exact S.next (q - 1) ⟨i + 1, bs, r2, by omega, by omega, hr2, fun h => (by rw [h3] at h; cases h), rfl, rfl⟩ (by omega) (by repeat (first | exact trivial | refine ⟨rfl, ?_⟩)) Sub.ent
        · refine S.skip ?_
          with_reducible repeat (first | refine S.then_n ?_ | refine S.then_x ?_ | refine S.then_r ?_ | refine S.inBlock_n ?_ | refine S.inBlock_r ?_ | refine S.inBlock_x rfl ?_ | refine S.noGoto_r ?_ | refine S.noGoto_n ?_ | refine S.noGoto_x ?_)
          with_reducible repeat (first | refine S.then_n ?_ | refine S.then_x ?_ | refine S.then_r ?_ | refine S.inBlock_n ?_ | refine S.inBlock_r ?_ | refine S.inBlock_x rfl ?_ | refine S.noGoto_r ?_ | refine S.noGoto_n ?_ | refine S.noGoto_x ?_)
          refine hK9 _ _ ?_
          refine S.region rfl ?_
          refine S.op (S.q (q_add rfl rfl (inI64 (by omega) (by omega))) rfl rfl ?_)
          refine S.op (S.q (q_move rfl) rfl rfl ?_)
          first | with_reducible refine S.nilK ?_ | refine S.nil ?_
          with_reducible repeat (first | refine S.then_n ?_ | refine S.then_x ?_ | refine S.then_r ?_ | refine S.inBlock_n ?_ | refine S.inBlock_r ?_ | refine S.inBlock_x rfl ?_ | refine S.noGoto_r ?_ | refine S.noGoto_n ?_ | refine S.noGoto_x ?_)
          first | (have hnew : bs ||| BitVec.twoPow 16 x.toNat = ofL (nats (l.take (i + 1))) := (by rw [List.take_add_one, hx, hbs2]; simp only [Option.toList_some, List.map_append, ofL_append]; simp [ofL]) ; exact S.next (q - 1) ⟨i + 1, bs ||| BitVec.twoPow 16 x.toNat, true, by omega, by omega, hr2, fun _ => hnew, rfl, rfl⟩ (by omega) (by repeat (first | exact trivial | refine ⟨rfl, ?_⟩)) Sub.ent) | exact S.next (q - 1) ⟨i + 1, bs, r2, by omega, by omega, hr2, fun h => (by rw [h3] at h; cases h), rfl, rfl⟩ (by omega) (by repeat (first | exact trivial | refine ⟨rfl, ?_⟩)) Sub.ent
    · have hie : i = l.length := by omega
      subst hie
      refine S.exit ?_
      with_reducible repeat (first | refine S.then_n ?_ | refine S.then_x ?_ | refine S.then_r ?_ | refine S.inBlock_n ?_ | refine S.inBlock_r ?_ | refine S.inBlock_x rfl ?_ | refine S.noGoto_r ?_ | refine S.noGoto_n ?_ | refine S.noGoto_x ?_)
      with_reducible refine S.inBlock_s ?_
      with_reducible repeat (first | refine S.then_n ?_ | refine S.then_x ?_ | refine S.then_r ?_ | refine S.inBlock_n ?_ | refine S.inBlock_r ?_ | refine S.inBlock_x rfl ?_ | refine S.noGoto_r ?_ | refine S.noGoto_n ?_ | refine S.noGoto_x ?_)
      refine hK5 _ _ ?_
      refine S.seq fun K13 hK13 => ?_
      refine S.block ?_
      refine S.seq fun K14 hK14 => ?_
      refine S.region rfl ?_
      refine S.op (S.q (q_move rfl) rfl rfl ?_)
      refine S.op (S.q (q_not rfl) rfl rfl ?_)
      refine S.op (S.q (q_assign rfl) rfl rfl ?_)
      first | with_reducible refine S.nilK ?_ | refine S.nil ?_
      refine hK14 _ _ ?_
      refine S.cond rfl (fun h4 => ?_) (fun h4 => ?_)
      · have hp : putR m j z l = (1, m) := by rw [putR, ← hrt, if_pos (by simpa using h4)]
        refine S.seq fun K15 hK15 => ?_
        refine S.region rfl ?_
        refine S.op (S.q (q_assign rfl) rfl rfl ?_)
        first | with_reducible refine S.nilK ?_ | refine S.nil ?_
        refine hK15 _ _ ?_
        refine S.ret ?_
        with_reducible repeat (first | refine S.then_n ?_ | refine S.then_x ?_ | refine S.then_r ?_ | refine S.inBlock_n ?_ | refine S.inBlock_r ?_ | refine S.inBlock_x rfl ?_ | refine S.noGoto_r ?_ | refine S.noGoto_n ?_ | refine S.noGoto_x ?_)
        exact S.fin (rs := [_]) (vs := [_]) Tryd.results30 (⟨rfl, trivial⟩)  (⟨by rw [hp]; rfl, by rw [hp]⟩) Sub.ent
      · have hpt : (putOk m j z l && okUp m l l.length) = true := by rw [← hrt]; simpa using h4
        have hbs2 := hbs (by simpa using h4)
        have hpt' := hpt
        rw [List.take_length] at hbs2
        rw [Bool.and_eq_true, putOk, Bool.and_eq_true, Bool.and_eq_true, decide_eq_true_eq, decide_eq_true_eq] at hpt
        obtain ⟨⟨⟨q1, q2⟩, q3⟩, q4⟩ := hpt
        have hr := rowB_iff.1 q2
        obtain ⟨r, rfl⟩ : ∃ r : Nat, z = r := ⟨z.toNat, by omega⟩
        obtain ⟨p1, p2, p3⟩ := put_ok hok (show 0 < l.length by omega) q4
        rw [← hbs2] at p1 p2 p3
        have hpn : putR m j r l = if (look m.js j).isSome then (7, m) else if tk m.js r &&& bs ≠ 0#16 then (15, m) else (0, m.add ⟨j, r, bs⟩) := by
          rw [putR, hpt', if_neg (by decide), ← hbs2, Int.toNat_natCast]
        refine S.seq fun K16 hK16 => ?_
        refine S.region rfl ?_
        refine S.op (S.q (q_move rfl) rfl rfl ?_)
        refine S.op (S.q (q_move rfl) rfl rfl ?_)
        refine S.op (S.call Tryd.en59 (vs := [_, _]) ⟨rfl, rfl, trivial⟩ (stands_S b m j) rfl ?_)
        rintro v Θ ⟨rfl, rfl⟩
        refine S.op (S.q (q_assign rfl) rfl rfl ?_)
        first | with_reducible refine S.nilK ?_ | refine S.nil ?_
        refine hK16 _ _ ?_
        refine S.cond rfl (fun h5 => ?_) (fun h5 => ?_)
        · rw [if_pos h5] at hpn
          refine S.seq fun K17 hK17 => ?_
          refine S.region rfl ?_
          refine S.op (S.q (q_assign rfl) rfl rfl ?_)
          first | with_reducible refine S.nilK ?_ | refine S.nil ?_
          refine hK17 _ _ ?_
          refine S.ret ?_
          with_reducible repeat (first | refine S.then_n ?_ | refine S.then_x ?_ | refine S.then_r ?_ | refine S.inBlock_n ?_ | refine S.inBlock_r ?_ | refine S.inBlock_x rfl ?_ | refine S.noGoto_r ?_ | refine S.noGoto_n ?_ | refine S.noGoto_x ?_)
          exact S.fin (rs := [_]) (vs := [_]) Tryd.results30 (⟨rfl, trivial⟩)  (⟨by rw [hpn]; rfl, by rw [hpn]⟩) Sub.ent
        · rw [if_neg (by rw [h5]; decide)] at hpn
          have hlk : look m.js j = none := by cases h : look m.js j with | none => rfl | some x => rw [h] at h5; cases h5
          refine S.miOpen b m fun mb tv lm hok2 hpm htn => ?_
          have hR8 := hok.R8
          refine S.ownSome tv (by omega) fun tb tf hta hl1 hl2 hl3 => ?_
          refine S.seq fun K18 hK18 => ?_
          refine S.draw ([blk b9 102 #[.int .i64 (r : Int), bsv bs], blk b 99 (mxC m mb tv).toArray, own tv 95 1 (tks m)]) [] Tryd.mixed ?_
          refine S.dr_take 0 [] rfl (by kernel_rfl) rfl rfl rfl (q_move rfl) Sub.ent ?_
          refine S.dr_take 1 [] rfl (by kernel_rfl) rfl rfl rfl (q_nilCheck rfl) Sub.ent ?_
          refine S.dr_take 2 [] rfl (by kernel_rfl) rfl rfl rfl (q_field Tryd.fo99_4 rfl) Sub.ent ?_
          refine S.dr_take 3 [] rfl (by kernel_rfl) rfl rfl rfl (q_load Tryd.at97 rfl rfl) Sub.ent ?_
          refine S.dr_take 4 [] rfl (by kernel_rfl) rfl rfl rfl (q_move rfl) Sub.ent ?_
          refine S.dr_take 5 [] rfl (by kernel_rfl) rfl rfl rfl (q_indexO (r) Tryd.el97 rfl hta rfl rfl (by omega)) Sub.ent ?_
          refine S.dr_take 6 [] rfl (by kernel_rfl) rfl rfl rfl (q_loadOw (tv) (r) Tryd.at95 rfl hta (by first | rfl | exact Nat.add_assoc _ _ _ | omega) (tks_get (show r < m.R by omega))) Sub.ent ?_
          refine S.dr_take 7 [] rfl (by kernel_rfl) rfl rfl rfl (q_field Tryd.fo102_1 rfl) Sub.ent ?_
          refine S.dr_take 8 [] rfl (by kernel_rfl) rfl rfl rfl (q_load Tryd.at95 rfl rfl) Sub.ent ?_
          refine S.dr_take 9 [] rfl (by kernel_rfl) rfl rfl rfl (q_andB (tk m.js r) (bs) rfl rfl (rfl) (rfl)) Sub.ent ?_
          refine S.dr_take 10 [] rfl (by kernel_rfl) rfl rfl rfl (q_ne rfl rfl) Sub.ent ?_
          refine S.dr_take 11 [] rfl (by kernel_rfl) rfl rfl rfl (q_assign rfl) Sub.ent ?_
          first | with_reducible refine S.dr_doneK (by kernel_rfl) ?_ | refine S.dr_done (by kernel_rfl) ?_
          refine hK18 _ _ ?_
          refine S.condD rfl (fun h6 => ?_) (fun h6 => ?_)
          · rw [if_pos (fun e => h6 (bs_zero.2 e))] at hpn
            refine S.seq fun K19 hK19 => ?_
            refine S.region rfl ?_
            refine S.op (S.q (q_assign rfl) rfl rfl ?_)
            first | with_reducible refine S.nilK ?_ | refine S.nil ?_
            refine hK19 _ _ ?_
            refine S.ret ?_
            with_reducible repeat (first | refine S.then_n ?_ | refine S.then_x ?_ | refine S.then_r ?_ | refine S.inBlock_n ?_ | refine S.inBlock_r ?_ | refine S.inBlock_x rfl ?_ | refine S.noGoto_r ?_ | refine S.noGoto_n ?_ | refine S.noGoto_x ?_)
            refine S.miClose (b := b) (m := m) (mb := mb) (tv := tv) rfl rfl rfl hok2 hpm htn ?_
            exact S.fin (rs := [_]) (vs := [_]) Tryd.results30 (⟨rfl, trivial⟩)  (⟨by rw [hpn]; rfl, by rw [hpn]⟩) Sub.ent
          · have hz0 : tk m.js r &&& bs = 0#16 := bs_zero.1 (Classical.byContradiction h6)
            rw [if_neg (fun h => h hz0)] at hpn
            refine S.miClose (b := b) (m := m) (mb := mb) (tv := tv) rfl rfl rfl hok2 hpm htn ?_
            refine S.skip ?_
            with_reducible repeat (first | refine S.then_n ?_ | refine S.then_x ?_ | refine S.then_r ?_ | refine S.inBlock_n ?_ | refine S.inBlock_r ?_ | refine S.inBlock_x rfl ?_ | refine S.noGoto_r ?_ | refine S.noGoto_n ?_ | refine S.noGoto_x ?_)
            with_reducible repeat (first | refine S.then_n ?_ | refine S.then_x ?_ | refine S.then_r ?_ | refine S.inBlock_n ?_ | refine S.inBlock_r ?_ | refine S.inBlock_x rfl ?_ | refine S.noGoto_r ?_ | refine S.noGoto_n ?_ | refine S.noGoto_x ?_)
            refine hK13 _ _ ?_
            refine S.seq fun K20 hK20 => ?_
            refine S.region rfl ?_
            refine S.op (S.q (q_move rfl) rfl rfl ?_)
            refine S.op (S.q (q_move rfl) rfl rfl ?_)
            refine S.op (S.q (q_loadS [_, _] Tryd.ag102 rfl rfl ⟨rfl, rfl, trivial⟩) rfl rfl ?_)
            refine S.op (S.call Tryd.en61 (vs := [_, _, _]) ⟨rfl, rfl, rfl, trivial⟩ (put_S b m ⟨j, r, bs⟩ (look_none hlk) (show 1 ≤ j by omega) hj (show r < m.R by omega) p2 p3 hz0) rfl ?_)
            rintro v Θ rfl
            first | with_reducible refine S.nilK ?_ | refine S.nil ?_
            refine hK20 _ _ ?_
            refine S.seq fun K21 hK21 => ?_
            refine S.region rfl ?_
            refine S.op (S.q (q_assign rfl) rfl rfl ?_)
            first | with_reducible refine S.nilK ?_ | refine S.nil ?_
            refine hK21 _ _ ?_
            refine S.ret ?_
            with_reducible repeat (first | refine S.then_n ?_ | refine S.then_x ?_ | refine S.then_r ?_ | refine S.inBlock_n ?_ | refine S.inBlock_r ?_ | refine S.inBlock_x rfl ?_ | refine S.noGoto_r ?_ | refine S.noGoto_n ?_ | refine S.noGoto_x ?_)
            exact S.fin (rs := [_]) (vs := [_]) Tryd.results30 (⟨rfl, trivial⟩)  (⟨by rw [hpn]; rfl, by rw [hpn]⟩) Sub.ent
end Go.Proofs.YtbhnbnecaejjiaaDoor
