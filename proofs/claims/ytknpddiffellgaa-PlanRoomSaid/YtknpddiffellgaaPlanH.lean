/- The document's First: the walk. -/
import Derived.Test.YtknpddiffellgaaPlanF
import Derived.Test.YtknpddiffellgaaPlanG
namespace Go.Proofs.Ytknpddiffellgaa
open Go.RowKit
set_option maxRecDepth 20000
set_option linter.unusedVariables false
theorem cnt_succ {row : List Int} {i : Nat} {x v : Int} (h : row[i]? = some x) : cnt (row.take (i + 1)) v = cnt (row.take i) v + if inI x ≤ v then 1 else 0 := by
  unfold cnt
  rw [List.take_add_one, h, Option.toList_some, List.countP_append, List.countP_singleton]
  simp
theorem free_S (R : Assn) (s : SV) (row : List Int) (v : Int) (hl : row.length ≤ 1000) (hR : RdS R s row.length 1 (ints row)) : Spec Try.prog 28 [s.v, .int .i64 v] [R] fun Γ r Θ => r = .int .i64 (cnt row v) ∧ Θ = R :: Γ := by
  refine Spec.of_body Try.func28 rfl Try.ntmps28 rfl ?_
  intro w0 Γ
  show S _ w0 [(0, s.v), (1, .int .i64 v)] (R :: Γ) _
  refine S.rCap hR fun hn _ _ => ?_
  refine S.seq fun K1 hK1 => ?_
  refine S.region rfl ?_
  refine S.op (S.q (q_assign rfl) rfl rfl ?_)
  first | with_reducible refine S.nilK ?_ | refine S.nil ?_
  refine hK1 _ _ ?_
  refine S.seq fun K2 hK2 => ?_
  refine S.region rfl ?_
  refine S.op (S.q (q_assign rfl) rfl rfl ?_)
  first | with_reducible refine S.nilK ?_ | refine S.nil ?_
  refine hK2 _ _ ?_
  refine S.seq fun K3 hK3 => ?_
  refine S.seq fun K4 hK4 => ?_
  refine S.region rfl ?_
  refine S.op (S.q (q_move rfl) rfl rfl ?_)
  refine S.op (S.q (q_len Try.underlying25 rfl) rfl rfl ?_)
  refine S.op (S.q (q_move rfl) rfl rfl ?_)
  first | with_reducible refine S.nilK ?_ | refine S.nil ?_
  refine hK4 _ _ ?_
  refine S.block ?_
  refine S.loop (fun m ρ' Γ' => ∃ i c : Nat, m + i = row.length ∧ c = cnt (row.take i) v ∧ ρ' = [(1, .int .i64 v), (5, .int .i64 c), (8, s.v), (9, .int .i64 s.n), (10, .int .i64 i)] ∧ Γ' = R :: Γ) (m := _) (ρ0 := _) (Γ0 := _) (⟨0, 0, rfl, rfl, rfl, rfl⟩) (by repeat (first | exact trivial | refine ⟨rfl, ?_⟩)) Sub.ent ?_
  rintro m ρ' Γ' ⟨i, c, hmi, hc, rfl, rfl⟩
  have hcl := cnt_le (row.take i) v
  rw [List.length_take] at hcl
  refine S.seq fun K5 hK5 => ?_
  refine S.region rfl ?_
  refine S.op (S.q (q_lt rfl rfl) rfl rfl ?_)
  first | with_reducible refine S.nilK ?_ | refine S.nil ?_
  refine hK5 _ _ ?_
  refine S.seq fun K6 hK6 => ?_
  refine S.condD rfl (fun h1 => ?_) (fun h1 => ?_)
  · obtain ⟨x, hx⟩ := getE (l := row) (i := i) (by omega)
    have hsucc := cnt_succ (v := v) hx
    refine S.rSome hR (by omega) fun b off hb => ?_
    refine S.skip ?_
    with_reducible repeat (first | refine S.then_n ?_ | refine S.then_x ?_ | refine S.then_r ?_ | refine S.inBlock_n ?_ | refine S.inBlock_r ?_ | refine S.inBlock_x rfl ?_ | refine S.noGoto_r ?_ | refine S.noGoto_n ?_ | refine S.noGoto_x ?_)
    refine hK6 _ _ ?_
    refine S.seq fun K7 hK7 => ?_
    refine S.cut (fun ρ' Γ' => ∃ c2 : Nat, c2 = cnt (row.take (i + 1)) v ∧ ρ' = [(1, .int .i64 v), (5, .int .i64 c2), (8, s.v), (9, .int .i64 s.n), (10, .int .i64 i)] ∧ Γ' = R :: Γ) ?_ ?_
    · refine S.block ?_
      refine S.seq fun K8 hK8 => ?_
      refine S.region rfl ?_
      refine S.op (S.q (q_indexO (i) Try.el25 rfl hb rfl rfl (by omega)) rfl rfl ?_)
      refine S.op (S.q (q_loadR hR i Try.at3 rfl hb (by omega) (by omega) (ints_get hx)) rfl rfl ?_)
      refine S.op (S.q (q_assign rfl) rfl rfl ?_)
      first | with_reducible refine S.nilK ?_ | refine S.nil ?_
      refine hK8 _ _ ?_
      refine S.seq fun K9 hK9 => ?_
      refine S.region rfl ?_
      refine S.op (S.q (q_move rfl) rfl rfl ?_)
      refine S.op (S.callP Try.en27 (vs := [_]) ⟨rfl, trivial⟩ (fun w hs => rIn_P x w) rfl ?_)
      refine S.op (S.q (q_move rfl) rfl rfl ?_)
      refine S.op (S.q (q_le rfl rfl) rfl rfl ?_)
      first | with_reducible refine S.nilK ?_ | refine S.nil ?_
      refine hK9 _ _ ?_
      refine S.condD rfl (fun h2 => ?_) (fun h2 => ?_)
      · refine S.region rfl ?_
        refine S.op (S.q (q_move rfl) rfl rfl ?_)
        refine S.op (S.q (q_add rfl rfl (inI64 (by omega) (by omega))) rfl rfl ?_)
        refine S.op (S.q (q_assign rfl) rfl rfl ?_)
        first | with_reducible refine S.nilK ?_ | refine S.nil ?_
        with_reducible repeat (first | refine S.then_n ?_ | refine S.then_x ?_ | refine S.then_r ?_ | refine S.inBlock_n ?_ | refine S.inBlock_r ?_ | refine S.inBlock_x rfl ?_ | refine S.noGoto_r ?_ | refine S.noGoto_n ?_ | refine S.noGoto_x ?_)
        with_reducible repeat (first | refine S.then_n ?_ | refine S.then_x ?_ | refine S.then_r ?_ | refine S.inBlock_n ?_ | refine S.inBlock_r ?_ | refine S.inBlock_x rfl ?_ | refine S.noGoto_r ?_ | refine S.noGoto_n ?_ | refine S.noGoto_x ?_)
        first | exact S.meet ⟨c + 1, by rw [hsucc, if_pos (by assumption), hc], rfl, rfl⟩ ⟨rfl, rfl, rfl, rfl, rfl, trivial⟩ Sub.ent | exact S.meet ⟨c, by rw [hsucc, if_neg (by assumption), hc, Nat.add_zero], rfl, rfl⟩ ⟨rfl, rfl, rfl, rfl, rfl, trivial⟩ Sub.ent
      · refine S.skip ?_
        with_reducible repeat (first | refine S.then_n ?_ | refine S.then_x ?_ | refine S.then_r ?_ | refine S.inBlock_n ?_ | refine S.inBlock_r ?_ | refine S.inBlock_x rfl ?_ | refine S.noGoto_r ?_ | refine S.noGoto_n ?_ | refine S.noGoto_x ?_)
        with_reducible repeat (first | refine S.then_n ?_ | refine S.then_x ?_ | refine S.then_r ?_ | refine S.inBlock_n ?_ | refine S.inBlock_r ?_ | refine S.inBlock_x rfl ?_ | refine S.noGoto_r ?_ | refine S.noGoto_n ?_ | refine S.noGoto_x ?_)
        with_reducible repeat (first | refine S.then_n ?_ | refine S.then_x ?_ | refine S.then_r ?_ | refine S.inBlock_n ?_ | refine S.inBlock_r ?_ | refine S.inBlock_x rfl ?_ | refine S.noGoto_r ?_ | refine S.noGoto_n ?_ | refine S.noGoto_x ?_)
        first | exact S.meet ⟨c + 1, by rw [hsucc, if_pos (by assumption), hc], rfl, rfl⟩ ⟨rfl, rfl, rfl, rfl, rfl, trivial⟩ Sub.ent | exact S.meet ⟨c, by rw [hsucc, if_neg (by assumption), hc, Nat.add_zero], rfl, rfl⟩ ⟨rfl, rfl, rfl, rfl, rfl, trivial⟩ Sub.ent
    · rintro ρ' Γ' ⟨c2, hc2, rfl, rfl⟩
      refine hK7 _ _ ?_
      refine S.region rfl ?_
      refine S.op (S.q (q_add rfl rfl (inI64 (by omega) (by omega))) rfl rfl ?_)
      refine S.op (S.q (q_move rfl) rfl rfl ?_)
      first | with_reducible refine S.nilK ?_ | refine S.nil ?_
      with_reducible repeat (first | refine S.then_n ?_ | refine S.then_x ?_ | refine S.then_r ?_ | refine S.inBlock_n ?_ | refine S.inBlock_r ?_ | refine S.inBlock_x rfl ?_ | refine S.noGoto_r ?_ | refine S.noGoto_n ?_ | refine S.noGoto_x ?_)
      exact S.next (m - 1) (⟨i + 1, c2, by omega, hc2, rfl, rfl⟩) (by omega) (by repeat (first | exact trivial | refine ⟨rfl, ?_⟩)) Sub.ent
  · rw [List.take_of_length_le (by omega)] at hc
    refine S.exit ?_
    with_reducible repeat (first | refine S.then_n ?_ | refine S.then_x ?_ | refine S.then_r ?_ | refine S.inBlock_n ?_ | refine S.inBlock_r ?_ | refine S.inBlock_x rfl ?_ | refine S.noGoto_r ?_ | refine S.noGoto_n ?_ | refine S.noGoto_x ?_)
    with_reducible refine S.inBlock_s ?_
    with_reducible repeat (first | refine S.then_n ?_ | refine S.then_x ?_ | refine S.then_r ?_ | refine S.inBlock_n ?_ | refine S.inBlock_r ?_ | refine S.inBlock_x rfl ?_ | refine S.noGoto_r ?_ | refine S.noGoto_n ?_ | refine S.noGoto_x ?_)
    refine hK3 _ _ ?_
    refine S.seq fun K10 hK10 => ?_
    refine S.region rfl ?_
    refine S.op (S.q (q_move rfl) rfl rfl ?_)
    refine S.op (S.q (q_assign rfl) rfl rfl ?_)
    first | with_reducible refine S.nilK ?_ | refine S.nil ?_
    refine hK10 _ _ ?_
    refine S.ret ?_
    with_reducible repeat (first | refine S.then_n ?_ | refine S.then_x ?_ | refine S.then_r ?_ | refine S.inBlock_n ?_ | refine S.inBlock_r ?_ | refine S.inBlock_x rfl ?_ | refine S.noGoto_r ?_ | refine S.noGoto_n ?_ | refine S.noGoto_x ?_)
    exact S.fin (rs := [_]) (vs := [_]) Try.results28 (⟨rfl, trivial⟩)  (⟨by simp only [resV]; rw [hc], rfl⟩) Sub.ent
def bV : Option (Int × Nat) → Int
  | none => -1
  | some (v, _) => v
def rV : Option (Int × Nat) → Int
  | none => -1
  | some (_, i) => i
def Nn (b : Option (Int × Nat)) : Prop := ∀ p, b = some p → 0 ≤ p.1
theorem Nn.none : Nn none := fun p h => (by cases h)
theorem vals_step {row : List Int} {k j i : Nat} {x : Int} {b b2 : Option (Int × Nat)} (hx : row[j]? = some x) (hb : b2 = (valsR row k j).foldl (fun b v => comb b i (some v)) b) (hn : Nn b2) :
    (valsR row k (j + 1)).foldl (fun b v => comb b i (some v)) b = if (decide (k ≤ cnt row (inI x)) && (decide (bV b2 < 0) || decide (inI x < bV b2))) = true then some (inI x, i) else b2 := by
  rw [valsR_succ hx, List.foldl_append, ← hb]
  by_cases h : k ≤ cnt row (inI x)
  · rw [if_pos h, decide_eq_true h, Bool.true_and]
    cases b2 with
    | none => rfl
    | some p =>
      obtain ⟨v, q⟩ := p
      have h0 : 0 ≤ v := hn _ rfl
      have hb1 : decide (bV (some (v, q)) < 0) = false := decide_eq_false (show ¬ v < 0 by omega)
      show (if inI x < v then some (inI x, i) else some (v, q)) = _
      rw [hb1, Bool.false_or]
      by_cases h2 : inI x < v
      · rw [if_pos h2, if_pos (decide_eq_true (show inI x < bV (some (v, q)) from h2))]
      · rw [if_neg h2, if_neg (by rw [decide_eq_false (show ¬ inI x < bV (some (v, q)) from h2)]; simp)]
  · rw [if_neg h, decide_eq_false h, Bool.false_and, if_neg (by simp)]
    rfl
theorem best_some {D : List (List Int)} {k : Nat} : ∀ {n : Nat} {v : Int} {i : Nat}, bestUp k D n = some (v, i) → i < n ∧ ∃ row, D[i]? = some row ∧ kth row k = some v
  | 0, _, _, h => by cases h
  | n + 1, v, i, h => by
    rw [bestUp] at h
    cases hr : D[n]? with
    | none =>
      rw [hr] at h
      obtain ⟨h1, h2⟩ := best_some (D := D) (k := k) (n := n) (show bestUp k D n = some (v, i) from h)
      exact ⟨by omega, h2⟩
    | some row =>
      rw [hr] at h
      cases hk : kth row k with
      | none =>
        simp only [Option.bind_some, hk] at h
        obtain ⟨h1, h2⟩ := best_some (D := D) (k := k) (n := n) (show bestUp k D n = some (v, i) from h)
        exact ⟨by omega, h2⟩
      | some u =>
        simp only [Option.bind_some, hk] at h
        cases hb : bestUp k D n with
        | none =>
          rw [hb] at h
          simp only [comb, Option.some.injEq, Prod.mk.injEq] at h
          obtain ⟨rfl, rfl⟩ := h
          exact ⟨Nat.lt_succ_self _, row, hr, hk⟩
        | some p =>
          obtain ⟨w, q⟩ := p
          rw [hb] at h
          simp only [comb] at h
          split at h
          · simp only [Option.some.injEq, Prod.mk.injEq] at h
            obtain ⟨rfl, rfl⟩ := h
            exact ⟨Nat.lt_succ_self _, row, hr, hk⟩
          · simp only [Option.some.injEq, Prod.mk.injEq] at h
            obtain ⟨rfl, rfl⟩ := h
            obtain ⟨h1, h2⟩ := best_some hb
            exact ⟨by omega, h2⟩
theorem kth_nn {row : List Int} {k : Nat} {v : Int} (h : kth row k = some v) : 0 ≤ v ∧ v ≤ 1099511627776 ∧ k ≤ row.length := by
  unfold kth at h
  split at h
  · rename_i hk
    obtain ⟨c, hc, rfl⟩ := Option.map_eq_some_iff.1 h
    obtain ⟨q, _, rfl⟩ := srt_at hc
    have := inI_nn (row[q]?.getD 0)
    exact ⟨this.1, this.2, hk⟩
  · cases h
theorem best_nn (D : List (List Int)) (k n : Nat) : Nn (bestUp k D n) := fun p h => by
  obtain ⟨v, i⟩ := p
  obtain ⟨_, row, _, h2⟩ := best_some h
  exact (kth_nn h2).1
def kV : Option Nat → Int
  | none => -1
  | some q => q
def selB (row : List Int) (p : Nat) : Option Nat → Bool
  | none => true
  | some q => decide (inI (row[p]?.getD 0) < inI (row[q]?.getD 0))
theorem sel_step {row : List Int} {tk : List Bool} {p : Nat} {tb : Bool} {sel : Option Nat} (ht : tk[p]? = some tb) (hs : sel = selUp row tk p) : selUp row tk (p + 1) = if (!tb && selB row p sel) = true then some p else sel := by
  subst hs
  rw [selUp, ht]
  cases tb with
  | true => rfl
  | false =>
    rw [if_pos rfl]
    cases selUp row tk p with
    | none => rfl
    | some q =>
      simp only [selB, Bool.not_false, Bool.true_and, decide_eq_true_eq]
theorem sel_b1 {row : List Int} {p : Nat} {sel : Option Nat} (h : kV sel < 0) : selB row p sel = true := by
  cases sel with
  | none => rfl
  | some q => exact absurd (show ((q : Nat) : Int) < 0 from h) (by omega)
theorem nodesUp_len (tk : List Bool) : ∀ m, (nodesUp tk m).length ≤ m
  | 0 => Nat.le_refl _
  | m + 1 => by
    have := nodesUp_len tk m
    rw [nodesUp, List.length_append]
    split <;> simp <;> omega
abbrev bools (l : List Bool) : List Value := l.map Value.bool
theorem bools_zero (n : Nat) : zeroRow [.bool false] n = bools (List.replicate n false) := by
  induction n with
  | zero => rfl
  | succ n ih => rw [zeroRow, ih]; rfl
theorem tk_set {row : List Int} {j q : Nat} (hq : q < row.length) (hc : (srt row)[j]? = some (cl row q)) : (bools (tkR row j)).set (q * 1) (.bool true) = bools (tkR row (j + 1)) := by
  rw [Nat.mul_one, tkR_succ hq hc]
  exact List.map_set.symm
theorem bools_get {l : List Bool} {i : Nat} {x : Bool} (h : l[i]? = some x) : (bools l)[i]? = some (.bool x) := by rw [List.getElem?_map, h]; rfl
theorem firstR_some {D : List (List Int)} {k : Nat} {v : Int} {i : Nat} {row : List Int} (hk : 1 ≤ k) (h : bestUp k D D.length = some (v, i)) (hr : D[i]? = some row) : firstR D (k : Int) = ⟨v, i, chosen row k, true⟩ := by
  unfold firstR
  rw [if_neg (by omega), Int.toNat_natCast, h]
  simp only [hr, Option.getD_some]
theorem firstR_none {D : List (List Int)} {k : Nat} (hk : 1 ≤ k) (h : bestUp k D D.length = none) : firstR D (k : Int) = ⟨0, 0, [], false⟩ := by
  unfold firstR
  rw [if_neg (by omega), Int.toNat_natCast, h]
set_option maxHeartbeats 2000000 in
theorem rFirst_S (R : Assn) (s : SV) (rs : List RW) (k len : Int) (hl : rs.length ≤ 1000) (hrl : ∀ r ∈ rs, r.d.length ≤ 1000) (hR : RdP R s rs) :
    Spec Try.prog 15 [s.v, .agg #[.int .i64 k, .int .i64 len]] [R] fun Γ v Θ => ∃ u : SV, v = .agg (stC u (firstR (dat rs) k)).toArray ∧ Θ = own u 3 1 (ints (firstR (dat rs) k).nodes) :: R :: Γ := by
  refine Spec.of_body Try.func15 rfl Try.ntmps15 rfl ?_
  intro w0 Γ
  show S _ w0 [(0, s.v), (1, .agg #[.int .i64 k, .int .i64 len])] (R :: Γ) _
  refine S.rCap hR.top fun hn _ _ => ?_
  have hdl : (dat rs).length = rs.length := List.length_map _
  refine S.seq fun K1 hK1 => ?_
  refine S.region rfl ?_
  refine S.op (S.box (cs := [_, _]) rfl rfl rfl ?_)
  intro b3
  refine S.op (S.alloc Try.z27 rfl ?_)
  intro b4
  first | with_reducible refine S.nilK ?_ | refine S.nil ?_
  refine hK1 _ _ ?_
  refine S.seq fun K2 hK2 => ?_
  refine S.seq fun K3 hK3 => ?_
  refine S.region rfl ?_
  refine S.op (S.q (q_field Try.fo24_0 rfl) rfl rfl ?_)
  refine S.op (S.q (q_load Try.at3 rfl rfl) rfl rfl ?_)
  refine S.op (S.q (q_lt rfl rfl) rfl rfl ?_)
  first | with_reducible refine S.nilK ?_ | refine S.nil ?_
  refine hK3 _ _ ?_
  refine S.condD rfl (fun h1 => ?_) (fun h1 => ?_)
  · refine S.seq fun K4 hK4 => ?_
    refine S.region rfl ?_
    refine S.op (S.q (q_build (pvs := []) [_, _, _, _] Try.z27 Try.p27 trivial rfl) rfl rfl ?_)
    refine S.op (S.storeS (cs' := [_, _, _, _]) Try.ag27 rfl rfl rfl rfl rfl rfl ?_)
    first | with_reducible refine S.nilK ?_ | refine S.nil ?_
    refine hK4 _ _ ?_
    refine S.ret ?_
    with_reducible repeat (first | refine S.then_n ?_ | refine S.then_x ?_ | refine S.then_r ?_ | refine S.inBlock_n ?_ | refine S.inBlock_r ?_ | refine S.inBlock_x rfl ?_ | refine S.noGoto_r ?_ | refine S.noGoto_n ?_ | refine S.noGoto_x ?_)
    refine S.ent (show Ent _ (own SV.nil 3 1 (ints []) :: _) from Ent.ownNil 3 1) ?_
    exact S.fin (rs := [_]) (vs := [_]) Try.results15 (⟨⟨_, _, rfl, lod_agg [_, _, _, _] Try.ag27 rfl ⟨rfl, rfl, rfl, rfl, trivial⟩⟩, trivial⟩)  (⟨SV.nil, by rw [first_none (by assumption)]; rfl, by rw [first_none (by assumption)]⟩) Sub.ent
  · obtain ⟨kn, rfl⟩ : ∃ kn : Nat, k = (kn : Int) := ⟨k.toNat, by omega⟩
    refine S.skip ?_
    with_reducible repeat (first | refine S.then_n ?_ | refine S.then_x ?_ | refine S.then_r ?_ | refine S.inBlock_n ?_ | refine S.inBlock_r ?_ | refine S.inBlock_x rfl ?_ | refine S.noGoto_r ?_ | refine S.noGoto_n ?_ | refine S.noGoto_x ?_)
    refine hK2 _ _ ?_
    refine S.seq fun K5 hK5 => ?_
    refine S.region rfl ?_
    refine S.op (S.q (q_assign rfl) rfl rfl ?_)
    refine S.op (S.q (q_assign rfl) rfl rfl ?_)
    first | with_reducible refine S.nilK ?_ | refine S.nil ?_
    refine hK5 _ _ ?_
    refine S.seq fun K6 hK6 => ?_
    refine S.seq fun K7 hK7 => ?_
    refine S.region rfl ?_
    refine S.op (S.q (q_move rfl) rfl rfl ?_)
    refine S.op (S.q (q_len Try.underlying22 rfl) rfl rfl ?_)
    refine S.op (S.q (q_move rfl) rfl rfl ?_)
    first | with_reducible refine S.nilK ?_ | refine S.nil ?_
    refine hK7 _ _ ?_
    refine S.block ?_
    refine S.loop (fun m ρ' Γ' => ∃ (i : Nat) (b : Option (Int × Nat)), m + i = rs.length ∧ b = bestUp kn (dat rs) i ∧ ρ' = [(0, s.v), (3, .pointer (some ⟨b3, 0, none⟩)), (4, .pointer (some ⟨b4, 0, none⟩)), (5, .int .i64 (bV b)), (6, .int .i64 (rV b)), (22, s.v), (23, .int .i64 s.n), (24, .int .i64 i)] ∧ Γ' = blk b3 24 #[.int .i64 kn, .int .i64 len] :: blk b4 27 #[.int .i64 0, .int .i64 0, .slice none 0 0, .bool false] :: R :: Γ) (m := _) (ρ0 := _) (Γ0 := _) (⟨0, none, rfl, rfl, rfl, rfl⟩) (by repeat (first | exact trivial | refine ⟨rfl, ?_⟩)) Sub.ent ?_
    rintro m ρ' Γ' ⟨i, b, hmi, hb0, rfl, rfl⟩
    refine S.seq fun K8 hK8 => ?_
    refine S.region rfl ?_
    refine S.op (S.q (q_lt rfl rfl) rfl rfl ?_)
    first | with_reducible refine S.nilK ?_ | refine S.nil ?_
    refine hK8 _ _ ?_
    refine S.seq fun K9 hK9 => ?_
    refine S.condD rfl (fun h2 => ?_) (fun h2 => ?_)
    · obtain ⟨r, hr⟩ := getE (l := rs) (i := i) (by omega)
      have hrd : r.d.length ≤ 1000 := hrl r (List.mem_of_getElem? hr)
      refine S.rSome hR.top (by omega) fun bb off hb => ?_
      refine S.rCap (hR.row hr) fun hrn _ _ => ?_
      refine S.skip ?_
      with_reducible repeat (first | refine S.then_n ?_ | refine S.then_x ?_ | refine S.then_r ?_ | refine S.inBlock_n ?_ | refine S.inBlock_r ?_ | refine S.inBlock_x rfl ?_ | refine S.noGoto_r ?_ | refine S.noGoto_n ?_ | refine S.noGoto_x ?_)
      refine hK9 _ _ ?_
      refine S.seq fun K10 hK10 => ?_
      refine S.block ?_
      refine S.seq fun K11 hK11 => ?_
      refine S.region rfl ?_
      refine S.op (S.q (q_move rfl) rfl rfl ?_)
      refine S.op (S.q (q_assign rfl) rfl rfl ?_)
      first | with_reducible refine S.nilK ?_ | refine S.nil ?_
      refine hK11 _ _ ?_
      refine S.seq fun K12 hK12 => ?_
      refine S.region rfl ?_
      refine S.op (S.q (q_move rfl) rfl rfl ?_)
      refine S.op (S.q (q_move rfl) rfl rfl ?_)
      refine S.op (S.q (q_indexO (i) Try.el22 rfl hb rfl rfl (by omega)) rfl rfl ?_)
      refine S.op (S.q (q_loadR hR.top (i * 1) Try.at25 rfl hb (by omega) rfl (flat_get (enc := rwC) (sz := 1) (k := 0) rwC_len hr rfl)) rfl rfl ?_)
      refine S.op (S.q (q_len Try.underlying25 rfl) rfl rfl ?_)
      refine S.op (S.q (q_move rfl) rfl rfl ?_)
      first | with_reducible refine S.nilK ?_ | refine S.nil ?_
      refine hK12 _ _ ?_
      refine S.block ?_
      refine S.loop (fun m2 ρ' Γ' => ∃ (j : Nat) (b2 : Option (Int × Nat)), m2 + j = r.d.length ∧ b2 = (valsR r.d kn j).foldl (fun b v => comb b i (some v)) b ∧ Nn b2 ∧ ρ' = [(0, s.v), (3, .pointer (some ⟨b3, 0, none⟩)), (4, .pointer (some ⟨b4, 0, none⟩)), (5, .int .i64 (bV b2)), (6, .int .i64 (rV b2)), (7, .int .i64 i), (22, s.v), (23, .int .i64 s.n), (24, .int .i64 i), (30, r.v.v), (31, .int .i64 r.v.n), (32, .int .i64 j)] ∧ Γ' = blk b3 24 #[.int .i64 kn, .int .i64 len] :: blk b4 27 #[.int .i64 0, .int .i64 0, .slice none 0 0, .bool false] :: R :: Γ) (m := _) (ρ0 := _) (Γ0 := _) (⟨0, b, rfl, rfl, by rw [hb0]; exact best_nn _ _ _, rfl, rfl⟩) (by repeat (first | exact trivial | refine ⟨rfl, ?_⟩)) Sub.ent ?_
      rintro m2 ρ' Γ' ⟨j, b2, hmj, hb2, hnn, rfl, rfl⟩
      refine S.seq fun K13 hK13 => ?_
      refine S.region rfl ?_
      refine S.op (S.q (q_lt rfl rfl) rfl rfl ?_)
      first | with_reducible refine S.nilK ?_ | refine S.nil ?_
      refine hK13 _ _ ?_
      refine S.seq fun K14 hK14 => ?_
      refine S.condD rfl (fun h3 => ?_) (fun h3 => ?_)
      · obtain ⟨x, hx⟩ := getE (l := r.d) (i := j) (by omega)
        have hstep := vals_step hx hb2 hnn
        refine S.rSome (hR.row hr) (by omega) fun b' off' hb' => ?_
        refine S.skip ?_
        with_reducible repeat (first | refine S.then_n ?_ | refine S.then_x ?_ | refine S.then_r ?_ | refine S.inBlock_n ?_ | refine S.inBlock_r ?_ | refine S.inBlock_x rfl ?_ | refine S.noGoto_r ?_ | refine S.noGoto_n ?_ | refine S.noGoto_x ?_)
        refine hK14 _ _ ?_
        refine S.seq fun K15 hK15 => ?_
        refine S.cut (fun ρ' Γ' => ∃ (b9 : Option (Int × Nat)), b9 = (valsR r.d kn (j + 1)).foldl (fun b v => comb b i (some v)) b ∧ Nn b9 ∧ ρ' = [(0, s.v), (3, .pointer (some ⟨b3, 0, none⟩)), (4, .pointer (some ⟨b4, 0, none⟩)), (5, .int .i64 (bV b9)), (6, .int .i64 (rV b9)), (7, .int .i64 i), (22, s.v), (23, .int .i64 s.n), (24, .int .i64 i), (30, r.v.v), (31, .int .i64 r.v.n), (32, .int .i64 j)] ∧ Γ' = blk b3 24 #[.int .i64 kn, .int .i64 len] :: blk b4 27 #[.int .i64 0, .int .i64 0, .slice none 0 0, .bool false] :: R :: Γ) ?_ ?_
        · refine S.block ?_
          refine S.seq fun K16 hK16 => ?_
          refine S.region rfl ?_
          refine S.op (S.q (q_indexO (j) Try.el25 rfl hb' rfl rfl (by omega)) rfl rfl ?_)
          refine S.op (S.q (q_loadR (hR.row hr) j Try.at3 rfl hb' (by omega) (by omega) (ints_get hx)) rfl rfl ?_)
          refine S.op (S.q (q_assign rfl) rfl rfl ?_)
          first | with_reducible refine S.nilK ?_ | refine S.nil ?_
          refine hK16 _ _ ?_
          refine S.seq fun K17 hK17 => ?_
          refine S.region rfl ?_
          refine S.op (S.q (q_move rfl) rfl rfl ?_)
          refine S.op (S.callP Try.en27 (vs := [_]) ⟨rfl, trivial⟩ (fun w hs => rIn_P x w) rfl ?_)
          refine S.op (S.q (q_assign rfl) rfl rfl ?_)
          first | with_reducible refine S.nilK ?_ | refine S.nil ?_
          refine hK17 _ _ ?_
          refine S.seq fun K18 hK18 => ?_
          refine S.cut (fun ρ' Γ' => ∃ c : Bool, c = (decide (kn ≤ cnt r.d (inI x)) && (decide (bV b2 < 0) || decide (inI x < bV b2))) ∧ ρ' = [(0, s.v), (3, .pointer (some ⟨b3, 0, none⟩)), (4, .pointer (some ⟨b4, 0, none⟩)), (5, .int .i64 (bV b2)), (6, .int .i64 (rV b2)), (7, .int .i64 i), (10, .int .i64 (inI x)), (22, s.v), (23, .int .i64 s.n), (24, .int .i64 i), (30, r.v.v), (31, .int .i64 r.v.n), (32, .int .i64 j), (55, .bool c)] ∧ Γ' = blk b3 24 #[.int .i64 kn, .int .i64 len] :: blk b4 27 #[.int .i64 0, .int .i64 0, .slice none 0 0, .bool false] :: R :: Γ) ?_ ?_
          · refine S.draw ([R, blk b3 24 #[.int .i64 kn, .int .i64 len]]) [] Try.mixed ?_
            refine S.dr_take 0 [] rfl (by kernel_rfl) rfl rfl rfl (q_move rfl) Sub.ent ?_
            refine S.dr_take 1 [] rfl (by kernel_rfl) rfl rfl rfl (q_move rfl) Sub.ent ?_
            refine S.dr_take 2 [] rfl (by kernel_rfl) rfl rfl rfl (q_indexO (i) Try.el22 rfl hb rfl rfl (by omega)) Sub.ent ?_
            refine S.dr_take 3 [] rfl (by kernel_rfl) rfl rfl rfl (q_loadR hR.top (i * 1) Try.at25 rfl hb (by omega) rfl (flat_get (enc := rwC) (sz := 1) (k := 0) rwC_len hr rfl)) Sub.ent ?_
            refine S.dr_take 4 [] rfl (by kernel_rfl) rfl rfl rfl (q_move rfl) Sub.ent ?_
            refine S.dr_take 6 [] rfl (by kernel_rfl) rfl rfl rfl (q_field Try.fo24_0 rfl) Sub.ent ?_
            refine S.dr_take 7 [] rfl (by kernel_rfl) rfl rfl rfl (q_load Try.at3 rfl rfl) Sub.ent ?_
            refine S.dr_1 (i := 5) (by kernel_rfl) rfl rfl ?_
            refine  (S.call Try.en28 (vs := [_, _]) ⟨rfl, rfl, trivial⟩ (free_S R r.v r.d (inI x) hrd (hR.row hr)) rfl ?_)
            rintro v Θ ⟨rfl, rfl⟩
            refine S.dr_k rfl Sub.ent ?_
            refine S.dr_take 8 [] rfl (by kernel_rfl) rfl rfl rfl (q_ge rfl rfl) Sub.ent ?_
            refine S.dr_take 9 [] rfl (by kernel_rfl) rfl rfl rfl (q_move rfl) Sub.ent ?_
            by_cases hg11_9 : (kn : Int) ≤ (cnt r.d (inI x) : Nat)
            · refine S.dr_takeY 10 [] rfl (by kernel_rfl) rfl rfl rfl (decide_eq_true hg11_9) rfl rfl (q_move rfl) Sub.ent ?_
              refine S.dr_takeY 11 [] rfl (by kernel_rfl) rfl rfl rfl (decide_eq_true hg11_9) rfl rfl (q_lt rfl rfl) Sub.ent ?_
              refine S.dr_takeY 12 [] rfl (by kernel_rfl) rfl rfl rfl (decide_eq_true hg11_9) rfl rfl (q_move rfl) Sub.ent ?_
              by_cases hg11_12 : bV b2 < 0
              · refine S.dr_takeN 13 [] rfl (by kernel_rfl) rfl rfl rfl (decide_eq_true hg11_12) rfl rfl Sub.ent ?_
                refine S.dr_takeN 14 [] rfl (by kernel_rfl) rfl rfl rfl (decide_eq_true hg11_12) rfl rfl Sub.ent ?_
                refine S.dr_takeN 15 [] rfl (by kernel_rfl) rfl rfl rfl (decide_eq_true hg11_12) rfl rfl Sub.ent ?_
                refine S.dr_takeY 16 [] rfl (by kernel_rfl) rfl rfl rfl (decide_eq_true hg11_9) rfl rfl (q_pickT rfl (decide_eq_true hg11_12) rfl) Sub.ent ?_
                refine S.dr_take 17 [] rfl (by kernel_rfl) rfl rfl rfl (q_pickT rfl (decide_eq_true hg11_9) rfl) Sub.ent ?_
                first | with_reducible refine S.dr_doneK (by kernel_rfl) ?_ | refine S.dr_done (by kernel_rfl) ?_
                with_reducible repeat (first | refine S.then_n ?_ | refine S.then_x ?_ | refine S.then_r ?_ | refine S.inBlock_n ?_ | refine S.inBlock_r ?_ | refine S.inBlock_x rfl ?_ | refine S.noGoto_r ?_ | refine S.noGoto_n ?_ | refine S.noGoto_x ?_)
                first
                | exact S.meet ⟨_, by rw [decide_eq_true (show kn ≤ cnt r.d (inI x) by omega), decide_eq_true hg11_12]; rfl, rfl, rfl⟩ ⟨rfl, rfl, rfl, rfl, rfl, rfl, rfl, rfl, rfl, rfl, rfl, rfl, rfl, rfl, trivial⟩ Sub.ent
                | exact S.meet ⟨_, by rw [decide_eq_true (show kn ≤ cnt r.d (inI x) by omega), decide_eq_false hg11_12, Bool.true_and, Bool.false_or], rfl, rfl⟩ ⟨rfl, rfl, rfl, rfl, rfl, rfl, rfl, rfl, rfl, rfl, rfl, rfl, rfl, rfl, trivial⟩ Sub.ent
                | exact S.meet ⟨_, by rw [decide_eq_false (show ¬ kn ≤ cnt r.d (inI x) by omega), Bool.false_and], rfl, rfl⟩ ⟨rfl, rfl, rfl, rfl, rfl, rfl, rfl, rfl, rfl, rfl, rfl, rfl, rfl, rfl, trivial⟩ Sub.ent
              · refine S.dr_takeY 13 [] rfl (by kernel_rfl) rfl rfl rfl (decide_eq_false hg11_12) rfl rfl (q_move rfl) Sub.ent ?_
                refine S.dr_takeY 14 [] rfl (by kernel_rfl) rfl rfl rfl (decide_eq_false hg11_12) rfl rfl (q_move rfl) Sub.ent ?_
                refine S.dr_takeY 15 [] rfl (by kernel_rfl) rfl rfl rfl (decide_eq_false hg11_12) rfl rfl (q_lt rfl rfl) Sub.ent ?_
                refine S.dr_takeY 16 [] rfl (by kernel_rfl) rfl rfl rfl (decide_eq_true hg11_9) rfl rfl (q_pickF rfl (decide_eq_false hg11_12) rfl) Sub.ent ?_
                refine S.dr_take 17 [] rfl (by kernel_rfl) rfl rfl rfl (q_pickT rfl (decide_eq_true hg11_9) rfl) Sub.ent ?_
                first | with_reducible refine S.dr_doneK (by kernel_rfl) ?_ | refine S.dr_done (by kernel_rfl) ?_
                with_reducible repeat (first | refine S.then_n ?_ | refine S.then_x ?_ | refine S.then_r ?_ | refine S.inBlock_n ?_ | refine S.inBlock_r ?_ | refine S.inBlock_x rfl ?_ | refine S.noGoto_r ?_ | refine S.noGoto_n ?_ | refine S.noGoto_x ?_)
                first
                | exact S.meet ⟨_, by rw [decide_eq_true (show kn ≤ cnt r.d (inI x) by omega), decide_eq_true hg11_12]; rfl, rfl, rfl⟩ ⟨rfl, rfl, rfl, rfl, rfl, rfl, rfl, rfl, rfl, rfl, rfl, rfl, rfl, rfl, trivial⟩ Sub.ent
                | exact S.meet ⟨_, by rw [decide_eq_true (show kn ≤ cnt r.d (inI x) by omega), decide_eq_false hg11_12, Bool.true_and, Bool.false_or], rfl, rfl⟩ ⟨rfl, rfl, rfl, rfl, rfl, rfl, rfl, rfl, rfl, rfl, rfl, rfl, rfl, rfl, trivial⟩ Sub.ent
                | exact S.meet ⟨_, by rw [decide_eq_false (show ¬ kn ≤ cnt r.d (inI x) by omega), Bool.false_and], rfl, rfl⟩ ⟨rfl, rfl, rfl, rfl, rfl, rfl, rfl, rfl, rfl, rfl, rfl, rfl, rfl, rfl, trivial⟩ Sub.ent
            · refine S.dr_takeN 10 [] rfl (by kernel_rfl) rfl rfl rfl (decide_eq_false hg11_9) rfl rfl Sub.ent ?_
              refine S.dr_takeN 11 [] rfl (by kernel_rfl) rfl rfl rfl (decide_eq_false hg11_9) rfl rfl Sub.ent ?_
              refine S.dr_takeN 12 [] rfl (by kernel_rfl) rfl rfl rfl (decide_eq_false hg11_9) rfl rfl Sub.ent ?_
              refine S.dr_takeNU 13 [] rfl (by kernel_rfl) rfl rfl rfl rfl rfl Sub.ent ?_
              refine S.dr_takeNU 14 [] rfl (by kernel_rfl) rfl rfl rfl rfl rfl Sub.ent ?_
              refine S.dr_takeNU 15 [] rfl (by kernel_rfl) rfl rfl rfl rfl rfl Sub.ent ?_
              refine S.dr_takeN 16 [] rfl (by kernel_rfl) rfl rfl rfl (decide_eq_false hg11_9) rfl rfl Sub.ent ?_
              refine S.dr_take 17 [] rfl (by kernel_rfl) rfl rfl rfl (q_pickF rfl (decide_eq_false hg11_9) rfl) Sub.ent ?_
              first | with_reducible refine S.dr_doneK (by kernel_rfl) ?_ | refine S.dr_done (by kernel_rfl) ?_
              with_reducible repeat (first | refine S.then_n ?_ | refine S.then_x ?_ | refine S.then_r ?_ | refine S.inBlock_n ?_ | refine S.inBlock_r ?_ | refine S.inBlock_x rfl ?_ | refine S.noGoto_r ?_ | refine S.noGoto_n ?_ | refine S.noGoto_x ?_)
              first
              | exact S.meet ⟨_, by rw [decide_eq_true (show kn ≤ cnt r.d (inI x) by omega), decide_eq_true hg11_12]; rfl, rfl, rfl⟩ ⟨rfl, rfl, rfl, rfl, rfl, rfl, rfl, rfl, rfl, rfl, rfl, rfl, rfl, rfl, trivial⟩ Sub.ent
              | exact S.meet ⟨_, by rw [decide_eq_true (show kn ≤ cnt r.d (inI x) by omega), decide_eq_false hg11_12, Bool.true_and, Bool.false_or], rfl, rfl⟩ ⟨rfl, rfl, rfl, rfl, rfl, rfl, rfl, rfl, rfl, rfl, rfl, rfl, rfl, rfl, trivial⟩ Sub.ent
              | exact S.meet ⟨_, by rw [decide_eq_false (show ¬ kn ≤ cnt r.d (inI x) by omega), Bool.false_and], rfl, rfl⟩ ⟨rfl, rfl, rfl, rfl, rfl, rfl, rfl, rfl, rfl, rfl, rfl, rfl, rfl, rfl, trivial⟩ Sub.ent
          · rintro ρ' Γ' ⟨c, hc, rfl, rfl⟩
            refine hK18 _ _ ?_
            refine S.cond rfl (fun h4 => ?_) (fun h4 => ?_)
            · rw [← hc, h4, if_pos rfl] at hstep
              refine S.region rfl ?_
              refine S.op (S.q (q_move rfl) rfl rfl ?_)
              refine S.op (S.q (q_move rfl) rfl rfl ?_)
              refine S.op (S.q (q_assign rfl) rfl rfl ?_)
              refine S.op (S.q (q_assign rfl) rfl rfl ?_)
              first | with_reducible refine S.nilK ?_ | refine S.nil ?_
              with_reducible repeat (first | refine S.then_n ?_ | refine S.then_x ?_ | refine S.then_r ?_ | refine S.inBlock_n ?_ | refine S.inBlock_r ?_ | refine S.inBlock_x rfl ?_ | refine S.noGoto_r ?_ | refine S.noGoto_n ?_ | refine S.noGoto_x ?_)
              with_reducible repeat (first | refine S.then_n ?_ | refine S.then_x ?_ | refine S.then_r ?_ | refine S.inBlock_n ?_ | refine S.inBlock_r ?_ | refine S.inBlock_x rfl ?_ | refine S.noGoto_r ?_ | refine S.noGoto_n ?_ | refine S.noGoto_x ?_)
              first | exact S.meet ⟨some (inI x, i), hstep.symm, fun p hp => by cases hp; exact (inI_nn x).1, rfl, rfl⟩ ⟨rfl, rfl, rfl, rfl, rfl, rfl, rfl, rfl, rfl, rfl, rfl, rfl, trivial⟩ Sub.ent | exact S.meet ⟨b2, hstep.symm, hnn, rfl, rfl⟩ ⟨rfl, rfl, rfl, rfl, rfl, rfl, rfl, rfl, rfl, rfl, rfl, rfl, trivial⟩ Sub.ent
            · rw [← hc, h4, if_neg (by simp)] at hstep
              refine S.skip ?_
              with_reducible repeat (first | refine S.then_n ?_ | refine S.then_x ?_ | refine S.then_r ?_ | refine S.inBlock_n ?_ | refine S.inBlock_r ?_ | refine S.inBlock_x rfl ?_ | refine S.noGoto_r ?_ | refine S.noGoto_n ?_ | refine S.noGoto_x ?_)
              with_reducible repeat (first | refine S.then_n ?_ | refine S.then_x ?_ | refine S.then_r ?_ | refine S.inBlock_n ?_ | refine S.inBlock_r ?_ | refine S.inBlock_x rfl ?_ | refine S.noGoto_r ?_ | refine S.noGoto_n ?_ | refine S.noGoto_x ?_)
              with_reducible repeat (first | refine S.then_n ?_ | refine S.then_x ?_ | refine S.then_r ?_ | refine S.inBlock_n ?_ | refine S.inBlock_r ?_ | refine S.inBlock_x rfl ?_ | refine S.noGoto_r ?_ | refine S.noGoto_n ?_ | refine S.noGoto_x ?_)
              first | exact S.meet ⟨some (inI x, i), hstep.symm, fun p hp => by cases hp; exact (inI_nn x).1, rfl, rfl⟩ ⟨rfl, rfl, rfl, rfl, rfl, rfl, rfl, rfl, rfl, rfl, rfl, rfl, trivial⟩ Sub.ent | exact S.meet ⟨b2, hstep.symm, hnn, rfl, rfl⟩ ⟨rfl, rfl, rfl, rfl, rfl, rfl, rfl, rfl, rfl, rfl, rfl, rfl, trivial⟩ Sub.ent
        · rintro ρ' Γ' ⟨b9, hb9, hnn9, rfl, rfl⟩
          refine hK15 _ _ ?_
          refine S.region rfl ?_
          refine S.op (S.q (q_add rfl rfl (inI64 (by omega) (by omega))) rfl rfl ?_)
          refine S.op (S.q (q_move rfl) rfl rfl ?_)
          first | with_reducible refine S.nilK ?_ | refine S.nil ?_
          with_reducible repeat (first | refine S.then_n ?_ | refine S.then_x ?_ | refine S.then_r ?_ | refine S.inBlock_n ?_ | refine S.inBlock_r ?_ | refine S.inBlock_x rfl ?_ | refine S.noGoto_r ?_ | refine S.noGoto_n ?_ | refine S.noGoto_x ?_)
          exact S.next (m2 - 1) (⟨j + 1, b9, by omega, hb9, hnn9, rfl, rfl⟩) (by omega) (by repeat (first | exact trivial | refine ⟨rfl, ?_⟩)) Sub.ent
      · obtain rfl : j = r.d.length := by omega
        rw [vals_best (by omega), hb0] at hb2
        refine S.exit ?_
        with_reducible repeat (first | refine S.then_n ?_ | refine S.then_x ?_ | refine S.then_r ?_ | refine S.inBlock_n ?_ | refine S.inBlock_r ?_ | refine S.inBlock_x rfl ?_ | refine S.noGoto_r ?_ | refine S.noGoto_n ?_ | refine S.noGoto_x ?_)
        with_reducible refine S.inBlock_s ?_
        with_reducible repeat (first | refine S.then_n ?_ | refine S.then_x ?_ | refine S.then_r ?_ | refine S.inBlock_n ?_ | refine S.inBlock_r ?_ | refine S.inBlock_x rfl ?_ | refine S.noGoto_r ?_ | refine S.noGoto_n ?_ | refine S.noGoto_x ?_)
        with_reducible repeat (first | refine S.then_n ?_ | refine S.then_x ?_ | refine S.then_r ?_ | refine S.inBlock_n ?_ | refine S.inBlock_r ?_ | refine S.inBlock_x rfl ?_ | refine S.noGoto_r ?_ | refine S.noGoto_n ?_ | refine S.noGoto_x ?_)
        refine hK10 _ _ ?_
        refine S.region rfl ?_
        refine S.op (S.q (q_add rfl rfl (inI64 (by omega) (by omega))) rfl rfl ?_)
        refine S.op (S.q (q_move rfl) rfl rfl ?_)
        first | with_reducible refine S.nilK ?_ | refine S.nil ?_
        with_reducible repeat (first | refine S.then_n ?_ | refine S.then_x ?_ | refine S.then_r ?_ | refine S.inBlock_n ?_ | refine S.inBlock_r ?_ | refine S.inBlock_x rfl ?_ | refine S.noGoto_r ?_ | refine S.noGoto_n ?_ | refine S.noGoto_x ?_)
        exact S.next (m - 1) (⟨i + 1, b2, by omega, by rw [bestUp, List.getElem?_map, hr]; exact hb2, rfl, rfl⟩) (by omega) (by repeat (first | exact trivial | refine ⟨rfl, ?_⟩)) Sub.ent
    · obtain rfl : i = rs.length := by omega
      rw [← hdl] at hb0
      refine S.exit ?_
      with_reducible repeat (first | refine S.then_n ?_ | refine S.then_x ?_ | refine S.then_r ?_ | refine S.inBlock_n ?_ | refine S.inBlock_r ?_ | refine S.inBlock_x rfl ?_ | refine S.noGoto_r ?_ | refine S.noGoto_n ?_ | refine S.noGoto_x ?_)
      with_reducible refine S.inBlock_s ?_
      with_reducible repeat (first | refine S.then_n ?_ | refine S.then_x ?_ | refine S.then_r ?_ | refine S.inBlock_n ?_ | refine S.inBlock_r ?_ | refine S.inBlock_x rfl ?_ | refine S.noGoto_r ?_ | refine S.noGoto_n ?_ | refine S.noGoto_x ?_)
      refine hK6 _ _ ?_
      refine S.seq fun K19 hK19 => ?_
      refine S.seq fun K20 hK20 => ?_
      refine S.region rfl ?_
      refine S.op (S.q (q_move rfl) rfl rfl ?_)
      refine S.op (S.q (q_lt rfl rfl) rfl rfl ?_)
      first | with_reducible refine S.nilK ?_ | refine S.nil ?_
      refine hK20 _ _ ?_
      refine S.condD rfl (fun h5 => ?_) (fun h5 => ?_)
      · have hbn : b = none := by
          cases b with
          | none => rfl
          | some p => exact absurd (show ((p.2 : Nat) : Int) < 0 from h5) (by omega)
        rw [hbn] at hb0
        refine S.seq fun K21 hK21 => ?_
        refine S.region rfl ?_
        refine S.op (S.q (q_build (pvs := []) [_, _, _, _] Try.z27 Try.p27 trivial rfl) rfl rfl ?_)
        refine S.op (S.storeS (cs' := [_, _, _, _]) Try.ag27 rfl rfl rfl rfl rfl rfl ?_)
        first | with_reducible refine S.nilK ?_ | refine S.nil ?_
        refine hK21 _ _ ?_
        refine S.ret ?_
        with_reducible repeat (first | refine S.then_n ?_ | refine S.then_x ?_ | refine S.then_r ?_ | refine S.inBlock_n ?_ | refine S.inBlock_r ?_ | refine S.inBlock_x rfl ?_ | refine S.noGoto_r ?_ | refine S.noGoto_n ?_ | refine S.noGoto_x ?_)
        refine S.ent (show Ent _ (own SV.nil 3 1 (ints []) :: _) from Ent.ownNil 3 1) ?_
        exact S.fin (rs := [_]) (vs := [_]) Try.results15 (⟨⟨_, _, rfl, lod_agg [_, _, _, _] Try.ag27 rfl ⟨rfl, rfl, rfl, rfl, trivial⟩⟩, trivial⟩)  (⟨SV.nil, by rw [firstR_none (by omega) hb0.symm]; rfl, by rw [firstR_none (by omega) hb0.symm]⟩) Sub.ent
      · obtain ⟨v, ri, rfl⟩ : ∃ v ri, b = some (v, ri) := by
          cases b with
          | none => exact absurd (show (-1 : Int) < 0 by omega) h5
          | some p => exact ⟨p.1, p.2, rfl⟩
        rw [show bV (some (v, ri)) = v from rfl, show rV (some (v, ri)) = (ri : Int) from rfl]
        obtain ⟨hri, row, hrow, hkth⟩ := best_some hb0.symm
        obtain ⟨r, hr⟩ := getE (l := rs) (i := ri) (by omega)
        obtain rfl : row = r.d := by rw [List.getElem?_map, hr] at hrow; exact (Option.some.inj hrow).symm
        have hfin := firstR_some (show 1 ≤ kn by omega) hb0.symm hrow
        obtain ⟨_, _, hkl⟩ := kth_nn hkth
        have hrd : r.d.length ≤ 1000 := hrl r (List.mem_of_getElem? hr)
        refine S.rSome hR.top (by omega) fun bb off hb => ?_
        refine S.rCap (hR.row hr) fun hrn _ _ => ?_
        refine S.rSome (hR.row hr) (by omega) fun bq offq hbq => ?_
        refine S.skip ?_
        with_reducible repeat (first | refine S.then_n ?_ | refine S.then_x ?_ | refine S.then_r ?_ | refine S.inBlock_n ?_ | refine S.inBlock_r ?_ | refine S.inBlock_x rfl ?_ | refine S.noGoto_r ?_ | refine S.noGoto_n ?_ | refine S.noGoto_x ?_)
        refine hK19 _ _ ?_
        refine S.seq fun K22 hK22 => ?_
        refine S.region rfl ?_
        refine S.op (S.q (q_move rfl) rfl rfl ?_)
        refine S.op (S.q (q_move rfl) rfl rfl ?_)
        refine S.op (S.q (q_build (pvs := [(_, _), (_, _), (_, _)]) [_, _, _, _] Try.z27 Try.p27 ⟨⟨rfl, rfl⟩, ⟨rfl, rfl⟩, ⟨rfl, rfl⟩, trivial⟩ rfl) rfl rfl ?_)
        refine S.op (S.alloc Try.z27 rfl ?_)
        intro b11
        refine S.op (S.storeS (cs' := [_, _, _, _]) Try.ag27 rfl rfl rfl rfl rfl rfl ?_)
        first | with_reducible refine S.nilK ?_ | refine S.nil ?_
        refine hK22 _ _ ?_
        refine S.seq fun K23 hK23 => ?_
        refine S.region rfl ?_
        refine S.op (S.q (q_move rfl) rfl rfl ?_)
        refine S.op (S.q (q_move rfl) rfl rfl ?_)
        refine S.op (S.q (q_indexO (ri) Try.el22 rfl hb rfl rfl (by omega)) rfl rfl ?_)
        refine S.op (S.q (q_loadR hR.top (ri * 1) Try.at25 rfl hb (by omega) rfl (flat_get (enc := rwC) (sz := 1) (k := 0) rwC_len hr rfl)) rfl rfl ?_)
        refine S.op (S.q (q_len Try.underlying25 rfl) rfl rfl ?_)
        refine S.op (S.makeSlice (r.v.n) (r.v.n) Try.underlying64 Try.inf4 rfl rfl rfl rfl rfl (Nat.le_refl _) (⟨by omega, by omega⟩) rfl ?_)
        intro tv htv
        rw [bools_zero, hrn, ← tkR_zero]
        refine S.op (S.q (q_assign rfl) rfl rfl ?_)
        first | with_reducible refine S.nilK ?_ | refine S.nil ?_
        refine hK23 _ _ ?_
        refine S.seq fun K24 hK24 => ?_
        refine S.seq fun K25 hK25 => ?_
        refine S.region rfl ?_
        refine S.op (S.q (q_field Try.fo24_0 rfl) rfl rfl ?_)
        refine S.op (S.q (q_load Try.at3 rfl rfl) rfl rfl ?_)
        refine S.op (S.q (q_move rfl) rfl rfl ?_)
        first | with_reducible refine S.nilK ?_ | refine S.nil ?_
        refine hK25 _ _ ?_
        refine S.block ?_
        refine S.loop (fun m3 ρ' Γ' => ∃ j : Nat, m3 + j = kn ∧ ρ' = [(0, s.v), (4, .pointer (some ⟨b4, 0, none⟩)), (6, .int .i64 ri), (11, .pointer (some ⟨b11, 0, none⟩)), (12, tv.v), (73, .int .i64 kn), (74, .int .i64 j)] ∧ Γ' = own tv 4 1 (bools (tkR r.d j)) :: blk b11 27 #[.int .i64 v, .int .i64 ri, .slice none 0 0, .bool true] :: blk b4 27 #[.int .i64 0, .int .i64 0, .slice none 0 0, .bool false] :: R :: Γ) (m := _) (ρ0 := _) (Γ0 := _) (⟨0, rfl, rfl, rfl⟩) (by repeat (first | exact trivial | refine ⟨rfl, ?_⟩)) Sub.ent ?_
        rintro m3 ρ' Γ' ⟨j, hmj, rfl, rfl⟩
        refine S.ownSome tv (by omega) fun bt offt hbt htl _ _ => ?_
        rw [List.length_map, tkR_length, Nat.mul_one] at htl
        refine S.seq fun K26 hK26 => ?_
        refine S.region rfl ?_
        refine S.op (S.q (q_lt rfl rfl) rfl rfl ?_)
        first | with_reducible refine S.nilK ?_ | refine S.nil ?_
        refine hK26 _ _ ?_
        refine S.seq fun K27 hK27 => ?_
        refine S.condD rfl (fun h6 => ?_) (fun h6 => ?_)
        · obtain ⟨c0, hc0⟩ := getE (l := srt r.d) (i := j) (by rw [srt_length]; omega)
          obtain ⟨q, hq, hsel, rfl⟩ := sel_next hc0
          refine S.skip ?_
          with_reducible repeat (first | refine S.then_n ?_ | refine S.then_x ?_ | refine S.then_r ?_ | refine S.inBlock_n ?_ | refine S.inBlock_r ?_ | refine S.inBlock_x rfl ?_ | refine S.noGoto_r ?_ | refine S.noGoto_n ?_ | refine S.noGoto_x ?_)
          refine hK27 _ _ ?_
          refine S.seq fun K28 hK28 => ?_
          refine S.block ?_
          refine S.seq fun K29 hK29 => ?_
          refine S.region rfl ?_
          refine S.op (S.q (q_assign rfl) rfl rfl ?_)
          first | with_reducible refine S.nilK ?_ | refine S.nil ?_
          refine hK29 _ _ ?_
          refine S.seq fun K30 hK30 => ?_
          refine S.seq fun K31 hK31 => ?_
          refine S.region rfl ?_
          refine S.op (S.q (q_move rfl) rfl rfl ?_)
          refine S.op (S.q (q_move rfl) rfl rfl ?_)
          refine S.op (S.q (q_indexO (ri) Try.el22 rfl hb rfl rfl (by omega)) rfl rfl ?_)
          refine S.op (S.q (q_loadR hR.top (ri * 1) Try.at25 rfl hb (by omega) rfl (flat_get (enc := rwC) (sz := 1) (k := 0) rwC_len hr rfl)) rfl rfl ?_)
          refine S.op (S.q (q_len Try.underlying25 rfl) rfl rfl ?_)
          refine S.op (S.q (q_move rfl) rfl rfl ?_)
          first | with_reducible refine S.nilK ?_ | refine S.nil ?_
          refine hK31 _ _ ?_
          refine S.block ?_
          refine S.loop (fun m4 ρ' Γ' => ∃ (p : Nat) (sel : Option Nat), m4 + p = r.d.length ∧ sel = selUp r.d (tkR r.d j) p ∧ ρ' = [(0, s.v), (4, .pointer (some ⟨b4, 0, none⟩)), (6, .int .i64 ri), (11, .pointer (some ⟨b11, 0, none⟩)), (12, tv.v), (13, .int .i64 (kV sel)), (73, .int .i64 kn), (74, .int .i64 j), (79, r.v.v), (80, .int .i64 r.v.n), (81, .int .i64 p)] ∧ Γ' = own tv 4 1 (bools (tkR r.d j)) :: blk b11 27 #[.int .i64 v, .int .i64 ri, .slice none 0 0, .bool true] :: blk b4 27 #[.int .i64 0, .int .i64 0, .slice none 0 0, .bool false] :: R :: Γ) (m := _) (ρ0 := _) (Γ0 := _) (⟨0, none, rfl, rfl, rfl, rfl⟩) (by repeat (first | exact trivial | refine ⟨rfl, ?_⟩)) Sub.ent ?_
          rintro m4 ρ' Γ' ⟨p, sel, hmp, hse, rfl, rfl⟩
          refine S.seq fun K32 hK32 => ?_
          refine S.region rfl ?_
          refine S.op (S.q (q_lt rfl rfl) rfl rfl ?_)
          first | with_reducible refine S.nilK ?_ | refine S.nil ?_
          refine hK32 _ _ ?_
          refine S.seq fun K33 hK33 => ?_
          refine S.condD rfl (fun h7 => ?_) (fun h7 => ?_)
          · obtain ⟨x, hx⟩ := getE (l := r.d) (i := p) (by omega)
            obtain ⟨tb, htb⟩ := getE (l := tkR r.d j) (i := p) (by rw [tkR_length]; omega)
            have hstep := sel_step htb hse
            refine S.skip ?_
            with_reducible repeat (first | refine S.then_n ?_ | refine S.then_x ?_ | refine S.then_r ?_ | refine S.inBlock_n ?_ | refine S.inBlock_r ?_ | refine S.inBlock_x rfl ?_ | refine S.noGoto_r ?_ | refine S.noGoto_n ?_ | refine S.noGoto_x ?_)
            refine hK33 _ _ ?_
            refine S.seq fun K34 hK34 => ?_
            refine S.cut (fun ρ' Γ' => ∃ (sel9 : Option Nat), sel9 = selUp r.d (tkR r.d j) (p + 1) ∧ ρ' = [(0, s.v), (4, .pointer (some ⟨b4, 0, none⟩)), (6, .int .i64 ri), (11, .pointer (some ⟨b11, 0, none⟩)), (12, tv.v), (13, .int .i64 (kV sel9)), (73, .int .i64 kn), (74, .int .i64 j), (79, r.v.v), (80, .int .i64 r.v.n), (81, .int .i64 p)] ∧ Γ' = own tv 4 1 (bools (tkR r.d j)) :: blk b11 27 #[.int .i64 v, .int .i64 ri, .slice none 0 0, .bool true] :: blk b4 27 #[.int .i64 0, .int .i64 0, .slice none 0 0, .bool false] :: R :: Γ) ?_ ?_
            · refine S.block ?_
              refine S.seq fun K35 hK35 => ?_
              refine S.region rfl ?_
              refine S.op (S.q (q_move rfl) rfl rfl ?_)
              refine S.op (S.q (q_indexO (p) Try.el25 rfl hbq rfl rfl (by omega)) rfl rfl ?_)
              refine S.op (S.q (q_loadR (hR.row hr) p Try.at3 rfl hbq (by omega) (by omega) (ints_get hx)) rfl rfl ?_)
              refine S.op (S.q (q_assign rfl) rfl rfl ?_)
              refine S.op (S.q (q_assign rfl) rfl rfl ?_)
              first | with_reducible refine S.nilK ?_ | refine S.nil ?_
              refine hK35 _ _ ?_
              refine S.seq fun K36 hK36 => ?_
              refine S.cut (fun ρ' Γ' => ∃ c : Bool, c = (!tb && selB r.d p sel) ∧ ρ' = [(0, s.v), (4, .pointer (some ⟨b4, 0, none⟩)), (6, .int .i64 ri), (11, .pointer (some ⟨b11, 0, none⟩)), (12, tv.v), (13, .int .i64 (kV sel)), (14, .int .i64 p), (73, .int .i64 kn), (74, .int .i64 j), (79, r.v.v), (80, .int .i64 r.v.n), (81, .int .i64 p), (107, .bool c)] ∧ Γ' = own tv 4 1 (bools (tkR r.d j)) :: blk b11 27 #[.int .i64 v, .int .i64 ri, .slice none 0 0, .bool true] :: blk b4 27 #[.int .i64 0, .int .i64 0, .slice none 0 0, .bool false] :: R :: Γ) ?_ ?_
              · refine S.draw ([R, own tv 4 1 (bools (tkR r.d j))]) [] Try.mixed ?_
                refine S.dr_take 0 [] rfl (by kernel_rfl) rfl rfl rfl (q_move rfl) Sub.ent ?_
                refine S.dr_take 1 [] rfl (by kernel_rfl) rfl rfl rfl (q_move rfl) Sub.ent ?_
                refine S.dr_take 2 [] rfl (by kernel_rfl) rfl rfl rfl (q_indexO (p) Try.el64 rfl hbt rfl rfl (by omega)) Sub.ent ?_
                refine S.dr_take 3 [] rfl (by kernel_rfl) rfl rfl rfl (q_loadOw (tv) (p * 1) Try.at4 rfl hbt (by first | rfl | exact Nat.add_assoc _ _ _ | omega) (by rw [Nat.mul_one]; exact bools_get htb)) Sub.ent ?_
                refine S.dr_take 4 [] rfl (by kernel_rfl) rfl rfl rfl (q_not rfl) Sub.ent ?_
                refine S.dr_take 5 [] rfl (by kernel_rfl) rfl rfl rfl (q_move rfl) Sub.ent ?_
                rcases Bool.eq_false_or_eq_true ((!tb)) with hg25_5 | hg25_5
                · refine S.dr_takeY 6 [] rfl (by kernel_rfl) rfl rfl rfl (hg25_5) rfl rfl (q_move rfl) Sub.ent ?_
                  refine S.dr_takeY 7 [] rfl (by kernel_rfl) rfl rfl rfl (hg25_5) rfl rfl (q_lt rfl rfl) Sub.ent ?_
                  refine S.dr_takeY 8 [] rfl (by kernel_rfl) rfl rfl rfl (hg25_5) rfl rfl (q_move rfl) Sub.ent ?_
                  by_cases hg25_8 : kV sel < 0
                  · refine S.dr_takeN 9 [] rfl (by kernel_rfl) rfl rfl rfl (decide_eq_true hg25_8) rfl rfl Sub.ent ?_
                    refine S.dr_takeN 10 [] rfl (by kernel_rfl) rfl rfl rfl (decide_eq_true hg25_8) rfl rfl Sub.ent ?_
                    refine S.dr_takeN 11 [] rfl (by kernel_rfl) rfl rfl rfl (decide_eq_true hg25_8) rfl rfl Sub.ent ?_
                    refine S.dr_takeN 12 [] rfl (by kernel_rfl) rfl rfl rfl (decide_eq_true hg25_8) rfl rfl Sub.ent ?_
                    refine S.dr_takeN 13 [] rfl (by kernel_rfl) rfl rfl rfl (decide_eq_true hg25_8) rfl rfl Sub.ent ?_
                    refine S.dr_takeN 14 [] rfl (by kernel_rfl) rfl rfl rfl (decide_eq_true hg25_8) rfl rfl Sub.ent ?_
                    refine S.dr_takeN 15 [] rfl (by kernel_rfl) rfl rfl rfl (decide_eq_true hg25_8) rfl rfl Sub.ent ?_
                    refine S.dr_takeN 16 [] rfl (by kernel_rfl) rfl rfl rfl (decide_eq_true hg25_8) rfl rfl Sub.ent ?_
                    refine S.dr_takeN 17 [] rfl (by kernel_rfl) rfl rfl rfl (decide_eq_true hg25_8) rfl rfl Sub.ent ?_
                    refine S.dr_takeN 18 [] rfl (by kernel_rfl) rfl rfl rfl (decide_eq_true hg25_8) rfl rfl Sub.ent ?_
                    refine S.dr_takeN 19 [] rfl (by kernel_rfl) rfl rfl rfl (decide_eq_true hg25_8) rfl rfl Sub.ent ?_
                    refine S.dr_takeY 20 [] rfl (by kernel_rfl) rfl rfl rfl (hg25_5) rfl rfl (q_pickT rfl (decide_eq_true hg25_8) rfl) Sub.ent ?_
                    refine S.dr_take 21 [] rfl (by kernel_rfl) rfl rfl rfl (q_pickT rfl (hg25_5) rfl) Sub.ent ?_
                    first | with_reducible refine S.dr_doneK (by kernel_rfl) ?_ | refine S.dr_done (by kernel_rfl) ?_
                    with_reducible repeat (first | refine S.then_n ?_ | refine S.then_x ?_ | refine S.then_r ?_ | refine S.inBlock_n ?_ | refine S.inBlock_r ?_ | refine S.inBlock_x rfl ?_ | refine S.noGoto_r ?_ | refine S.noGoto_n ?_ | refine S.noGoto_x ?_)
                    first
                    | exact S.meet ⟨_, by rw [hg25_5, sel_b1 hg25_8]; rfl, rfl, rfl⟩ ⟨rfl, rfl, rfl, rfl, rfl, rfl, rfl, rfl, rfl, rfl, rfl, rfl, rfl, trivial⟩ Sub.ent
                    | exact S.meet ⟨_, by rw [hg25_5, Bool.true_and]; simp only [selB, hx, hy, Option.getD_some], rfl, rfl⟩ ⟨rfl, rfl, rfl, rfl, rfl, rfl, rfl, rfl, rfl, rfl, rfl, rfl, rfl, trivial⟩ Sub.ent
                    | exact S.meet ⟨_, by rw [hg25_5, Bool.false_and], rfl, rfl⟩ ⟨rfl, rfl, rfl, rfl, rfl, rfl, rfl, rfl, rfl, rfl, rfl, rfl, rfl, trivial⟩ Sub.ent
                  · obtain ⟨q0, rfl⟩ : ∃ q0, sel = some q0 := by
                      cases sel with
                      | none => exact absurd (show (-1 : Int) < 0 by omega) hg25_8
                      | some q0 => exact ⟨q0, rfl⟩
                    have hq0 := ((selUp_spec r.d (tkR r.d j) p).1 q0 hse.symm).1
                    obtain ⟨y, hy⟩ := getE (l := r.d) (i := q0) (by omega)
                    refine S.dr_takeY 9 [] rfl (by kernel_rfl) rfl rfl rfl (decide_eq_false hg25_8) rfl rfl (q_move rfl) Sub.ent ?_
                    refine S.dr_takeY 11 [] rfl (by kernel_rfl) rfl rfl rfl (decide_eq_false hg25_8) rfl rfl (q_move rfl) Sub.ent ?_
                    refine S.dr_takeY 12 [] rfl (by kernel_rfl) rfl rfl rfl (decide_eq_false hg25_8) rfl rfl (q_move rfl) Sub.ent ?_
                    refine S.dr_takeY 13 [] rfl (by kernel_rfl) rfl rfl rfl (decide_eq_false hg25_8) rfl rfl (q_indexO (ri) Try.el22 rfl hb rfl rfl (by omega)) Sub.ent ?_
                    refine S.dr_takeY 14 [] rfl (by kernel_rfl) rfl rfl rfl (decide_eq_false hg25_8) rfl rfl (q_loadR hR.top (ri * 1) Try.at25 rfl hb (by omega) rfl (flat_get (enc := rwC) (sz := 1) (k := 0) rwC_len hr rfl)) Sub.ent ?_
                    refine S.dr_takeY 15 [] rfl (by kernel_rfl) rfl rfl rfl (decide_eq_false hg25_8) rfl rfl (q_move rfl) Sub.ent ?_
                    refine S.dr_takeY 16 [] rfl (by kernel_rfl) rfl rfl rfl (decide_eq_false hg25_8) rfl rfl (q_indexO (q0) Try.el25 rfl hbq rfl rfl (by omega)) Sub.ent ?_
                    refine S.dr_takeY 17 [] rfl (by kernel_rfl) rfl rfl rfl (decide_eq_false hg25_8) rfl rfl (q_loadR (hR.row hr) q0 Try.at3 rfl hbq (by omega) (by omega) (ints_get hy)) Sub.ent ?_
                    refine S.dr_1Y (i := 10) (by kernel_rfl) rfl rfl rfl rfl (decide_eq_false hg25_8) ?_
                    refine  (S.callP Try.en27 (vs := [_]) ⟨rfl, trivial⟩ (fun w hs => rIn_P x w) rfl ?_)
                    refine S.dr_k rfl Sub.ent ?_
                    refine S.dr_1Y (i := 18) (by kernel_rfl) rfl rfl rfl rfl (decide_eq_false hg25_8) ?_
                    refine  (S.callP Try.en27 (vs := [_]) ⟨rfl, trivial⟩ (fun w hs => rIn_P y w) rfl ?_)
                    refine S.dr_k rfl Sub.ent ?_
                    refine S.dr_takeY 19 [] rfl (by kernel_rfl) rfl rfl rfl (decide_eq_false hg25_8) rfl rfl (q_lt rfl rfl) Sub.ent ?_
                    refine S.dr_takeY 20 [] rfl (by kernel_rfl) rfl rfl rfl (hg25_5) rfl rfl (q_pickF rfl (decide_eq_false hg25_8) rfl) Sub.ent ?_
                    refine S.dr_take 21 [] rfl (by kernel_rfl) rfl rfl rfl (q_pickT rfl (hg25_5) rfl) Sub.ent ?_
                    first | with_reducible refine S.dr_doneK (by kernel_rfl) ?_ | refine S.dr_done (by kernel_rfl) ?_
                    with_reducible repeat (first | refine S.then_n ?_ | refine S.then_x ?_ | refine S.then_r ?_ | refine S.inBlock_n ?_ | refine S.inBlock_r ?_ | refine S.inBlock_x rfl ?_ | refine S.noGoto_r ?_ | refine S.noGoto_n ?_ | refine S.noGoto_x ?_)
                    first
                    | exact S.meet ⟨_, by rw [hg25_5, sel_b1 hg25_8]; rfl, rfl, rfl⟩ ⟨rfl, rfl, rfl, rfl, rfl, rfl, rfl, rfl, rfl, rfl, rfl, rfl, rfl, trivial⟩ Sub.ent
                    | exact S.meet ⟨_, by rw [hg25_5, Bool.true_and]; simp only [selB, hx, hy, Option.getD_some], rfl, rfl⟩ ⟨rfl, rfl, rfl, rfl, rfl, rfl, rfl, rfl, rfl, rfl, rfl, rfl, rfl, trivial⟩ Sub.ent
                    | exact S.meet ⟨_, by rw [hg25_5, Bool.false_and], rfl, rfl⟩ ⟨rfl, rfl, rfl, rfl, rfl, rfl, rfl, rfl, rfl, rfl, rfl, rfl, rfl, trivial⟩ Sub.ent
                · refine S.dr_takeN 6 [] rfl (by kernel_rfl) rfl rfl rfl (hg25_5) rfl rfl Sub.ent ?_
                  refine S.dr_takeN 7 [] rfl (by kernel_rfl) rfl rfl rfl (hg25_5) rfl rfl Sub.ent ?_
                  refine S.dr_takeN 8 [] rfl (by kernel_rfl) rfl rfl rfl (hg25_5) rfl rfl Sub.ent ?_
                  refine S.dr_takeNU 9 [] rfl (by kernel_rfl) rfl rfl rfl rfl rfl Sub.ent ?_
                  refine S.dr_takeNU 10 [] rfl (by kernel_rfl) rfl rfl rfl rfl rfl Sub.ent ?_
                  refine S.dr_takeNU 11 [] rfl (by kernel_rfl) rfl rfl rfl rfl rfl Sub.ent ?_
                  refine S.dr_takeNU 12 [] rfl (by kernel_rfl) rfl rfl rfl rfl rfl Sub.ent ?_
                  refine S.dr_takeNU 13 [] rfl (by kernel_rfl) rfl rfl rfl rfl rfl Sub.ent ?_
                  refine S.dr_takeNU 14 [] rfl (by kernel_rfl) rfl rfl rfl rfl rfl Sub.ent ?_
                  refine S.dr_takeNU 15 [] rfl (by kernel_rfl) rfl rfl rfl rfl rfl Sub.ent ?_
                  refine S.dr_takeNU 16 [] rfl (by kernel_rfl) rfl rfl rfl rfl rfl Sub.ent ?_
                  refine S.dr_takeNU 17 [] rfl (by kernel_rfl) rfl rfl rfl rfl rfl Sub.ent ?_
                  refine S.dr_takeNU 18 [] rfl (by kernel_rfl) rfl rfl rfl rfl rfl Sub.ent ?_
                  refine S.dr_takeNU 19 [] rfl (by kernel_rfl) rfl rfl rfl rfl rfl Sub.ent ?_
                  refine S.dr_takeN 20 [] rfl (by kernel_rfl) rfl rfl rfl (hg25_5) rfl rfl Sub.ent ?_
                  refine S.dr_take 21 [] rfl (by kernel_rfl) rfl rfl rfl (q_pickF rfl (hg25_5) rfl) Sub.ent ?_
                  first | with_reducible refine S.dr_doneK (by kernel_rfl) ?_ | refine S.dr_done (by kernel_rfl) ?_
                  with_reducible repeat (first | refine S.then_n ?_ | refine S.then_x ?_ | refine S.then_r ?_ | refine S.inBlock_n ?_ | refine S.inBlock_r ?_ | refine S.inBlock_x rfl ?_ | refine S.noGoto_r ?_ | refine S.noGoto_n ?_ | refine S.noGoto_x ?_)
                  first
                  | exact S.meet ⟨_, by rw [hg25_5, sel_b1 hg25_8]; rfl, rfl, rfl⟩ ⟨rfl, rfl, rfl, rfl, rfl, rfl, rfl, rfl, rfl, rfl, rfl, rfl, rfl, trivial⟩ Sub.ent
                  | exact S.meet ⟨_, by rw [hg25_5, Bool.true_and]; simp only [selB, hx, hy, Option.getD_some], rfl, rfl⟩ ⟨rfl, rfl, rfl, rfl, rfl, rfl, rfl, rfl, rfl, rfl, rfl, rfl, rfl, trivial⟩ Sub.ent
                  | exact S.meet ⟨_, by rw [hg25_5, Bool.false_and], rfl, rfl⟩ ⟨rfl, rfl, rfl, rfl, rfl, rfl, rfl, rfl, rfl, rfl, rfl, rfl, rfl, trivial⟩ Sub.ent
              · rintro ρ' Γ' ⟨c, hc, rfl, rfl⟩
                refine hK36 _ _ ?_
                refine S.cond rfl (fun h8 => ?_) (fun h8 => ?_)
                · rw [← hc, h8, if_pos rfl] at hstep
                  refine S.region rfl ?_
                  refine S.op (S.q (q_move rfl) rfl rfl ?_)
                  refine S.op (S.q (q_assign rfl) rfl rfl ?_)
                  first | with_reducible refine S.nilK ?_ | refine S.nil ?_
                  with_reducible repeat (first | refine S.then_n ?_ | refine S.then_x ?_ | refine S.then_r ?_ | refine S.inBlock_n ?_ | refine S.inBlock_r ?_ | refine S.inBlock_x rfl ?_ | refine S.noGoto_r ?_ | refine S.noGoto_n ?_ | refine S.noGoto_x ?_)
                  with_reducible repeat (first | refine S.then_n ?_ | refine S.then_x ?_ | refine S.then_r ?_ | refine S.inBlock_n ?_ | refine S.inBlock_r ?_ | refine S.inBlock_x rfl ?_ | refine S.noGoto_r ?_ | refine S.noGoto_n ?_ | refine S.noGoto_x ?_)
                  first | exact S.meet ⟨some p, hstep.symm, rfl, rfl⟩ ⟨rfl, rfl, rfl, rfl, rfl, rfl, rfl, rfl, rfl, rfl, rfl, trivial⟩ Sub.ent | exact S.meet ⟨sel, hstep.symm, rfl, rfl⟩ ⟨rfl, rfl, rfl, rfl, rfl, rfl, rfl, rfl, rfl, rfl, rfl, trivial⟩ Sub.ent
                · rw [← hc, h8, if_neg (by simp)] at hstep
                  refine S.skip ?_
                  with_reducible repeat (first | refine S.then_n ?_ | refine S.then_x ?_ | refine S.then_r ?_ | refine S.inBlock_n ?_ | refine S.inBlock_r ?_ | refine S.inBlock_x rfl ?_ | refine S.noGoto_r ?_ | refine S.noGoto_n ?_ | refine S.noGoto_x ?_)
                  with_reducible repeat (first | refine S.then_n ?_ | refine S.then_x ?_ | refine S.then_r ?_ | refine S.inBlock_n ?_ | refine S.inBlock_r ?_ | refine S.inBlock_x rfl ?_ | refine S.noGoto_r ?_ | refine S.noGoto_n ?_ | refine S.noGoto_x ?_)
                  with_reducible repeat (first | refine S.then_n ?_ | refine S.then_x ?_ | refine S.then_r ?_ | refine S.inBlock_n ?_ | refine S.inBlock_r ?_ | refine S.inBlock_x rfl ?_ | refine S.noGoto_r ?_ | refine S.noGoto_n ?_ | refine S.noGoto_x ?_)
                  first | exact S.meet ⟨some p, hstep.symm, rfl, rfl⟩ ⟨rfl, rfl, rfl, rfl, rfl, rfl, rfl, rfl, rfl, rfl, rfl, trivial⟩ Sub.ent | exact S.meet ⟨sel, hstep.symm, rfl, rfl⟩ ⟨rfl, rfl, rfl, rfl, rfl, rfl, rfl, rfl, rfl, rfl, rfl, trivial⟩ Sub.ent
            · rintro ρ' Γ' ⟨sel9, hsel9, rfl, rfl⟩
              refine hK34 _ _ ?_
              refine S.region rfl ?_
              refine S.op (S.q (q_add rfl rfl (inI64 (by omega) (by omega))) rfl rfl ?_)
              refine S.op (S.q (q_move rfl) rfl rfl ?_)
              first | with_reducible refine S.nilK ?_ | refine S.nil ?_
              with_reducible repeat (first | refine S.then_n ?_ | refine S.then_x ?_ | refine S.then_r ?_ | refine S.inBlock_n ?_ | refine S.inBlock_r ?_ | refine S.inBlock_x rfl ?_ | refine S.noGoto_r ?_ | refine S.noGoto_n ?_ | refine S.noGoto_x ?_)
              exact S.next (m4 - 1) (⟨p + 1, sel9, by omega, hsel9, rfl, rfl⟩) (by omega) (by repeat (first | exact trivial | refine ⟨rfl, ?_⟩)) Sub.ent
          · obtain rfl : p = r.d.length := by omega
            rw [hsel] at hse
            subst hse
            refine S.exit ?_
            with_reducible repeat (first | refine S.then_n ?_ | refine S.then_x ?_ | refine S.then_r ?_ | refine S.inBlock_n ?_ | refine S.inBlock_r ?_ | refine S.inBlock_x rfl ?_ | refine S.noGoto_r ?_ | refine S.noGoto_n ?_ | refine S.noGoto_x ?_)
            with_reducible refine S.inBlock_s ?_
            with_reducible repeat (first | refine S.then_n ?_ | refine S.then_x ?_ | refine S.then_r ?_ | refine S.inBlock_n ?_ | refine S.inBlock_r ?_ | refine S.inBlock_x rfl ?_ | refine S.noGoto_r ?_ | refine S.noGoto_n ?_ | refine S.noGoto_x ?_)
            refine hK30 _ _ ?_
            refine S.region rfl ?_
            refine S.op (S.q (q_move rfl) rfl rfl ?_)
            refine S.op (S.q (q_move rfl) rfl rfl ?_)
            refine S.op (S.q (q_indexO (q) Try.el64 rfl hbt rfl rfl (by omega)) rfl rfl ?_)
            refine S.op (S.storeOw (tv) (q * 1) Try.at4 rfl rfl rfl hbt (by first | rfl | exact Nat.add_assoc _ _ _ | omega) (by rw [List.length_map, tkR_length]; omega) (tk_set hq hc0) ?_)
            first | with_reducible refine S.nilK ?_ | refine S.nil ?_
            with_reducible repeat (first | refine S.then_n ?_ | refine S.then_x ?_ | refine S.then_r ?_ | refine S.inBlock_n ?_ | refine S.inBlock_r ?_ | refine S.inBlock_x rfl ?_ | refine S.noGoto_r ?_ | refine S.noGoto_n ?_ | refine S.noGoto_x ?_)
            refine hK28 _ _ ?_
            refine S.region rfl ?_
            refine S.op (S.q (q_add rfl rfl (inI64 (by omega) (by omega))) rfl rfl ?_)
            refine S.op (S.q (q_move rfl) rfl rfl ?_)
            first | with_reducible refine S.nilK ?_ | refine S.nil ?_
            with_reducible repeat (first | refine S.then_n ?_ | refine S.then_x ?_ | refine S.then_r ?_ | refine S.inBlock_n ?_ | refine S.inBlock_r ?_ | refine S.inBlock_x rfl ?_ | refine S.noGoto_r ?_ | refine S.noGoto_n ?_ | refine S.noGoto_x ?_)
            exact S.next (m3 - 1) (⟨j + 1, by omega, rfl, rfl⟩) (by omega) (by repeat (first | exact trivial | refine ⟨rfl, ?_⟩)) Sub.ent
        · obtain rfl : j = kn := by omega
          refine S.exit ?_
          with_reducible repeat (first | refine S.then_n ?_ | refine S.then_x ?_ | refine S.then_r ?_ | refine S.inBlock_n ?_ | refine S.inBlock_r ?_ | refine S.inBlock_x rfl ?_ | refine S.noGoto_r ?_ | refine S.noGoto_n ?_ | refine S.noGoto_x ?_)
          with_reducible refine S.inBlock_s ?_
          with_reducible repeat (first | refine S.then_n ?_ | refine S.then_x ?_ | refine S.then_r ?_ | refine S.inBlock_n ?_ | refine S.inBlock_r ?_ | refine S.inBlock_x rfl ?_ | refine S.noGoto_r ?_ | refine S.noGoto_n ?_ | refine S.noGoto_x ?_)
          refine hK24 _ _ ?_
          refine S.seq fun K37 hK37 => ?_
          refine S.seq fun K38 hK38 => ?_
          refine S.region rfl ?_
          refine S.ent (show Ent _ (own SV.nil 3 1 (ints (nodesUp (tkR r.d j) 0)) :: _) from Ent.ownNil 3 1) ?_
          refine S.op (S.q (q_move rfl) rfl rfl ?_)
          refine S.op (S.q (q_len Try.underlying64 rfl) rfl rfl ?_)
          refine S.op (S.q (q_move rfl) rfl rfl ?_)
          first | with_reducible refine S.nilK ?_ | refine S.nil ?_
          refine hK38 _ _ ?_
          refine S.block ?_
          refine S.loop (fun m5 ρ' Γ' => ∃ (p : Nat) (u : SV), m5 + p = r.d.length ∧ ρ' = [(4, .pointer (some ⟨b4, 0, none⟩)), (11, .pointer (some ⟨b11, 0, none⟩)), (114, tv.v), (115, .int .i64 tv.n), (116, .int .i64 p)] ∧ Γ' = blk b11 27 #[.int .i64 v, .int .i64 ri, u.v, .bool true] :: own u 3 1 (ints (nodesUp (tkR r.d j) p)) :: own tv 4 1 (bools (tkR r.d j)) :: blk b4 27 #[.int .i64 0, .int .i64 0, .slice none 0 0, .bool false] :: R :: Γ) (m := _) (ρ0 := _) (Γ0 := _) (⟨0, SV.nil, rfl, rfl, rfl⟩) (by repeat (first | exact trivial | refine ⟨rfl, ?_⟩)) Sub.ent ?_
          rintro m5 ρ' Γ' ⟨p, u, hmp, rfl, rfl⟩
          refine S.ownLen u fun hul _ _ => ?_
          rw [List.length_map, Nat.mul_one] at hul
          have hnl := nodesUp_len (tkR r.d j) p
          refine S.seq fun K39 hK39 => ?_
          refine S.region rfl ?_
          refine S.op (S.q (q_lt rfl rfl) rfl rfl ?_)
          first | with_reducible refine S.nilK ?_ | refine S.nil ?_
          refine hK39 _ _ ?_
          refine S.seq fun K40 hK40 => ?_
          refine S.condD rfl (fun h9 => ?_) (fun h9 => ?_)
          · obtain ⟨tb, htb⟩ := getE (l := tkR r.d j) (i := p) (by rw [tkR_length]; omega)
            have hstep : nodesUp (tkR r.d j) (p + 1) = nodesUp (tkR r.d j) p ++ if tb = true then [(p : Int)] else [] := by rw [nodesUp, htb]; simp
            refine S.skip ?_
            with_reducible repeat (first | refine S.then_n ?_ | refine S.then_x ?_ | refine S.then_r ?_ | refine S.inBlock_n ?_ | refine S.inBlock_r ?_ | refine S.inBlock_x rfl ?_ | refine S.noGoto_r ?_ | refine S.noGoto_n ?_ | refine S.noGoto_x ?_)
            refine hK40 _ _ ?_
            refine S.seq fun K41 hK41 => ?_
            refine S.cut (fun ρ' Γ' => ∃ u9 : SV, ρ' = [(4, .pointer (some ⟨b4, 0, none⟩)), (11, .pointer (some ⟨b11, 0, none⟩)), (114, tv.v), (115, .int .i64 tv.n), (116, .int .i64 p)] ∧ Γ' = blk b11 27 #[.int .i64 v, .int .i64 ri, u9.v, .bool true] :: own u9 3 1 (ints (nodesUp (tkR r.d j) (p + 1))) :: own tv 4 1 (bools (tkR r.d j)) :: blk b4 27 #[.int .i64 0, .int .i64 0, .slice none 0 0, .bool false] :: R :: Γ) ?_ ?_
            · refine S.block ?_
              refine S.seq fun K42 hK42 => ?_
              refine S.region rfl ?_
              refine S.op (S.q (q_move rfl) rfl rfl ?_)
              refine S.op (S.q (q_indexO (p) Try.el64 rfl hbt rfl rfl (by omega)) rfl rfl ?_)
              refine S.op (S.q (q_loadOw (tv) (p * 1) Try.at4 rfl hbt (by first | rfl | exact Nat.add_assoc _ _ _ | omega) (by rw [Nat.mul_one]; exact bools_get htb)) rfl rfl ?_)
              refine S.op (S.q (q_assign rfl) rfl rfl ?_)
              refine S.op (S.q (q_assign rfl) rfl rfl ?_)
              first | with_reducible refine S.nilK ?_ | refine S.nil ?_
              refine hK42 _ _ ?_
              refine S.seq fun K43 hK43 => ?_
              refine S.region rfl ?_
              refine S.op (S.q (q_move rfl) rfl rfl ?_)
              first | with_reducible refine S.nilK ?_ | refine S.nil ?_
              refine hK43 _ _ ?_
              refine S.cond rfl (fun h10 => ?_) (fun h10 => ?_)
              · rw [h10, if_pos rfl] at hstep
                refine S.region rfl ?_
                refine S.op (S.q (q_field Try.fo27_2 rfl) rfl rfl ?_)
                refine S.op (S.q (q_load Try.at25 rfl rfl) rfl rfl ?_)
                refine S.op (S.q (q_move rfl) rfl rfl ?_)
                refine S.op (S.buildSlice (pvs := [(_, _)]) [_] Try.underlying25 Try.inf3 rfl rfl ⟨⟨rfl, rfl⟩, trivial⟩ rfl rfl ?_)
                intro b125
                refine S.op (S.appendOw (s := u) (1) ([.int .i64 p]) Try.underlying25 Try.inf3 rfl rfl rfl (blk_slAt (b := b125) rfl (by unfold maxLen; omega)) (by first | rfl | exact allOne_bcells _) (⟨by omega, by omega⟩) rfl ?_)
                intro u2 hu2
                rw [show ints (nodesUp (tkR r.d j) p) ++ [Value.int .i64 p] = ints (nodesUp (tkR r.d j) (p + 1)) by rw [hstep]; simp]
                refine S.op (S.q (q_field Try.fo27_2 rfl) rfl rfl ?_)
                refine S.op (S.store (cs' := [_, _, _, _]) Try.at25 rfl rfl rfl rfl rfl ?_)
                first | with_reducible refine S.nilK ?_ | refine S.nil ?_
                with_reducible repeat (first | refine S.then_n ?_ | refine S.then_x ?_ | refine S.then_r ?_ | refine S.inBlock_n ?_ | refine S.inBlock_r ?_ | refine S.inBlock_x rfl ?_ | refine S.noGoto_r ?_ | refine S.noGoto_n ?_ | refine S.noGoto_x ?_)
                with_reducible repeat (first | refine S.then_n ?_ | refine S.then_x ?_ | refine S.then_r ?_ | refine S.inBlock_n ?_ | refine S.inBlock_r ?_ | refine S.inBlock_x rfl ?_ | refine S.noGoto_r ?_ | refine S.noGoto_n ?_ | refine S.noGoto_x ?_)
                first | exact S.meet ⟨u2, rfl, rfl⟩ ⟨rfl, rfl, rfl, rfl, rfl, trivial⟩ Sub.ent | (rw [← hstep]; exact S.meet ⟨u, rfl, rfl⟩ ⟨rfl, rfl, rfl, rfl, rfl, trivial⟩ Sub.ent)
              · rw [h10, if_neg (by simp), List.append_nil] at hstep
                refine S.skip ?_
                with_reducible repeat (first | refine S.then_n ?_ | refine S.then_x ?_ | refine S.then_r ?_ | refine S.inBlock_n ?_ | refine S.inBlock_r ?_ | refine S.inBlock_x rfl ?_ | refine S.noGoto_r ?_ | refine S.noGoto_n ?_ | refine S.noGoto_x ?_)
                with_reducible repeat (first | refine S.then_n ?_ | refine S.then_x ?_ | refine S.then_r ?_ | refine S.inBlock_n ?_ | refine S.inBlock_r ?_ | refine S.inBlock_x rfl ?_ | refine S.noGoto_r ?_ | refine S.noGoto_n ?_ | refine S.noGoto_x ?_)
                with_reducible repeat (first | refine S.then_n ?_ | refine S.then_x ?_ | refine S.then_r ?_ | refine S.inBlock_n ?_ | refine S.inBlock_r ?_ | refine S.inBlock_x rfl ?_ | refine S.noGoto_r ?_ | refine S.noGoto_n ?_ | refine S.noGoto_x ?_)
                first | exact S.meet ⟨u2, rfl, rfl⟩ ⟨rfl, rfl, rfl, rfl, rfl, trivial⟩ Sub.ent | (rw [← hstep]; exact S.meet ⟨u, rfl, rfl⟩ ⟨rfl, rfl, rfl, rfl, rfl, trivial⟩ Sub.ent)
            · rintro ρ' Γ' ⟨u9, rfl, rfl⟩
              refine hK41 _ _ ?_
              refine S.region rfl ?_
              refine S.op (S.q (q_add rfl rfl (inI64 (by omega) (by omega))) rfl rfl ?_)
              refine S.op (S.q (q_move rfl) rfl rfl ?_)
              first | with_reducible refine S.nilK ?_ | refine S.nil ?_
              with_reducible repeat (first | refine S.then_n ?_ | refine S.then_x ?_ | refine S.then_r ?_ | refine S.inBlock_n ?_ | refine S.inBlock_r ?_ | refine S.inBlock_x rfl ?_ | refine S.noGoto_r ?_ | refine S.noGoto_n ?_ | refine S.noGoto_x ?_)
              exact S.next (m5 - 1) (⟨p + 1, u9, by omega, rfl, rfl⟩) (by omega) (by repeat (first | exact trivial | refine ⟨rfl, ?_⟩)) Sub.ent
          · obtain rfl : p = r.d.length := by omega
            rw [nodesUp_chosen]
            refine S.exit ?_
            with_reducible repeat (first | refine S.then_n ?_ | refine S.then_x ?_ | refine S.then_r ?_ | refine S.inBlock_n ?_ | refine S.inBlock_r ?_ | refine S.inBlock_x rfl ?_ | refine S.noGoto_r ?_ | refine S.noGoto_n ?_ | refine S.noGoto_x ?_)
            with_reducible refine S.inBlock_s ?_
            with_reducible repeat (first | refine S.then_n ?_ | refine S.then_x ?_ | refine S.then_r ?_ | refine S.inBlock_n ?_ | refine S.inBlock_r ?_ | refine S.inBlock_x rfl ?_ | refine S.noGoto_r ?_ | refine S.noGoto_n ?_ | refine S.noGoto_x ?_)
            refine hK37 _ _ ?_
            refine S.seq fun K44 hK44 => ?_
            refine S.region rfl ?_
            refine S.op (S.q (q_loadS [_, _, _, _] Try.ag27 rfl rfl ⟨rfl, rfl, rfl, rfl, trivial⟩) rfl rfl ?_)
            refine S.op (S.storeS (cs' := [_, _, _, _]) Try.ag27 rfl rfl rfl rfl rfl rfl ?_)
            first | with_reducible refine S.nilK ?_ | refine S.nil ?_
            refine hK44 _ _ ?_
            refine S.ret ?_
            with_reducible repeat (first | refine S.then_n ?_ | refine S.then_x ?_ | refine S.then_r ?_ | refine S.inBlock_n ?_ | refine S.inBlock_r ?_ | refine S.inBlock_x rfl ?_ | refine S.noGoto_r ?_ | refine S.noGoto_n ?_ | refine S.noGoto_x ?_)
            exact S.fin (rs := [_]) (vs := [_]) Try.results15 (⟨⟨_, _, rfl, lod_agg [_, _, _, _] Try.ag27 rfl ⟨rfl, rfl, rfl, rfl, trivial⟩⟩, trivial⟩)  (⟨u, by rw [hfin]; rfl, by rw [hfin]⟩) Sub.ent
end Go.Proofs.Ytknpddiffellgaa
