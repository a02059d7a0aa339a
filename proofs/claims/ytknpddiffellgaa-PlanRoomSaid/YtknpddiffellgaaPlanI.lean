/- The document's Reserve, Plan. -/
import Derived.Test.YtknpddiffellgaaPlanH
namespace Go.Proofs.Ytknpddiffellgaa
open Go.RowKit
set_option maxRecDepth 20000
set_option linter.unusedVariables false
/-- Row i, behind j of the nodes. -/
def rowF (x : St) (V : Int) (i : Nat) (row : List Int) (j : Nat) : List Int := if (x.ok && decide ((i : Int) = x.row)) = true then setAll V row (x.nodes.take j) else row
theorem rowF_length (x : St) (V : Int) (i : Nat) (row : List Int) (j : Nat) : (rowF x V i row j).length = row.length := by
  unfold rowF
  split
  · exact setAll_length ..
  · rfl
theorem rowF_zero (x : St) (V : Int) (i : Nat) (row : List Int) : rowF x V i row 0 = row := by
  unfold rowF
  split <;> rfl
theorem rowF_succ {x : St} {V : Int} {i : Nat} {row : List Int} {j : Nat} {nd : Int} (h : x.nodes[j]? = some nd) : rowF x V i row (j + 1) = if ((x.ok && decide ((i : Int) = x.row)) && decide (0 ≤ nd ∧ nd < row.length)) = true then (rowF x V i row j).set nd.toNat V else rowF x V i row j := by
  have hl := rowF_length x V i row j
  unfold rowF at *
  by_cases h1 : (x.ok && decide ((i : Int) = x.row)) = true
  · rw [if_pos h1] at hl
    rw [if_pos h1, if_pos h1, h1, Bool.true_and, setAll_take h]
    by_cases h2 : 0 ≤ nd ∧ nd < row.length
    · rw [if_pos (decide_eq_true h2), setN_yes (by rw [hl]; exact h2)]
    · rw [if_neg (by rw [decide_eq_false h2]; simp), setN_no (by rw [hl]; exact h2)]
  · rw [if_neg h1, if_neg h1, if_neg (by intro h2; rw [Bool.and_eq_true] at h2; exact h1 h2.1)]
theorem res_get {D : List (List Int)} {x : St} {len : Int} {i : Nat} {row : List Int} (hD : D[i]? = some row) : (resR D x len)[i]? = some (rowF x (addI x.at_ (max len 1)) i row x.nodes.length) := by
  have hi := (List.getElem?_eq_some_iff.1 hD).1
  unfold rowF
  rw [List.take_of_length_le (Nat.le_refl _)]
  by_cases h1 : x.ok = true ∧ 0 ≤ x.row ∧ x.row < D.length
  · rw [resR_yes h1.1 h1.2, List.getElem?_set, h1.1, Bool.true_and]
    by_cases h2 : x.row.toNat = i
    · rw [if_pos h2, if_pos (by omega), if_pos (decide_eq_true (show (i : Int) = x.row by omega)), h2, hD]
      rfl
    · rw [if_neg h2, if_neg (by rw [decide_eq_false (show ¬ (i : Int) = x.row by omega)]; simp)]
      exact hD
  · rw [resR_no h1, if_neg, hD]
    intro h2
    rw [Bool.and_eq_true, decide_eq_true_eq] at h2
    exact h1 ⟨h2.1, by omega, by omega⟩
theorem res_length (D : List (List Int)) (x : St) (len : Int) : (resR D x len).length = D.length := by have := congrArg List.length (resR_lens D x len); rwa [List.length_map, List.length_map] at this
theorem ints_set1 {l : List Int} {i : Nat} {x : Int} : (ints l).set (i * 1) (.int .i64 x) = ints (l.set i x) := by rw [Nat.mul_one, ints_set]
theorem set_v {V W : Int} {l m : List Int} {i : Nat} (hV : V = W) (h : m = l.set i V) : (ints l).set (i * 1) (.int .i64 W) = ints m := by rw [← hV, ints_set1, h]
set_option maxHeartbeats 1000000 in
theorem rReserve_S (R Q : Assn) (s : SV) (rs : List RW) (u : SV) (x : St) (len : Int) (hl : rs.length ≤ 1000) (hrl : ∀ r ∈ rs, r.d.length ≤ 1000) (hR : RdP R s rs) (hQ : RdS Q u x.nodes.length 1 (ints x.nodes)) :
    Spec Try.prog 19 [s.v, .agg (stC u x).toArray, .int .i64 len] [R, Q] fun Γ v Θ => ∃ (s' : SV) (rs' : List RW), v = s'.v ∧ dat rs' = resR (dat rs) x len ∧ Θ = prof s' rs' :: R :: Q :: Γ := by
  refine Spec.of_body Try.func19 rfl Try.ntmps19 rfl ?_
  intro w0 Γ
  show S _ w0 [(0, s.v), (1, .agg (stC u x).toArray), (2, .int .i64 len)] (R :: Q :: Γ) _
  refine S.rCap hR.top fun hn _ _ => ?_
  refine S.rCap hQ fun hun hunc hunm => ?_
  have hdl : (resR (dat rs) x len).length = rs.length := by rw [res_length, List.length_map]
  refine S.seq fun K1 hK1 => ?_
  refine S.region rfl ?_
  refine S.op (S.box (cs := [_, _, _, _]) rfl rfl rfl ?_)
  intro b4
  refine S.op (S.q (q_assign rfl) rfl rfl ?_)
  first | with_reducible refine S.nilK ?_ | refine S.nil ?_
  refine hK1 _ _ ?_
  refine S.seq fun K2 hK2 => ?_
  refine S.region rfl ?_
  refine S.ent (show Ent _ (own SV.nil 25 1 (([] : List RW).flatMap rwC) :: _) from Ent.ownNil 25 1) ?_
  refine S.ent (Ent.allsNil rwB _) ?_
  refine S.op (S.q (q_assign rfl) rfl rfl ?_)
  first | with_reducible refine S.nilK ?_ | refine S.nil ?_
  refine hK2 _ _ ?_
  refine S.seq fun K3 hK3 => ?_
  refine S.seq fun K4 hK4 => ?_
  refine S.region rfl ?_
  refine S.op (S.q (q_move rfl) rfl rfl ?_)
  refine S.op (S.q (q_len Try.underlying22 rfl) rfl rfl ?_)
  refine S.op (S.q (q_move rfl) rfl rfl ?_)
  first | with_reducible refine S.nilK ?_ | refine S.nil ?_
  refine hK4 _ _ ?_
  refine S.block ?_
  refine S.loop (fun m ρ' Γ' => ∃ (i : Nat) (ov : SV) (rs' : List RW), m + i = rs.length ∧ dat rs' = (resR (dat rs) x len).take i ∧ ρ' = [(2, .int .i64 len), (4, .pointer (some ⟨b4, 0, none⟩)), (7, ov.v), (13, s.v), (14, .int .i64 s.n), (15, .int .i64 i)] ∧ Γ' = own ov 25 1 (rs'.flatMap rwC) :: alls rs' rwB :: blk b4 27 (stC u x).toArray :: R :: Q :: Γ) (m := _) (ρ0 := _) (Γ0 := _) (⟨0, SV.nil, [], rfl, rfl, rfl, rfl⟩) (by repeat (first | exact trivial | refine ⟨rfl, ?_⟩)) Sub.ent ?_
  rintro m ρ' Γ' ⟨i, ov, rs', hmi, hd, rfl, rfl⟩
  have hrl' : rs'.length = i := by have := congrArg List.length hd; rw [List.length_map, List.length_take] at this; omega
  refine S.ownLen ov fun hol _ _ => ?_
  rw [flat_length rwC_len] at hol
  refine S.seq fun K5 hK5 => ?_
  refine S.region rfl ?_
  refine S.op (S.q (q_lt rfl rfl) rfl rfl ?_)
  first | with_reducible refine S.nilK ?_ | refine S.nil ?_
  refine hK5 _ _ ?_
  refine S.seq fun K6 hK6 => ?_
  refine S.condD rfl (fun h1 => ?_) (fun h1 => ?_)
  · obtain ⟨r, hr⟩ := getE (l := rs) (i := i) (by omega)
    have hrd : r.d.length ≤ 1000 := hrl r (List.mem_of_getElem? hr)
    have hget := res_get (x := x) (len := len) (show (dat rs)[i]? = some r.d by rw [List.getElem?_map, hr]; rfl)
    obtain ⟨V, hV⟩ : ∃ V, V = addI x.at_ (max len 1) := ⟨_, rfl⟩
    rw [← hV] at hget
    refine S.rSome hR.top (by omega) fun b off hb => ?_
    refine S.rCap (hR.row hr) fun hrn _ _ => ?_
    refine S.skip ?_
    with_reducible repeat (first | refine S.then_n ?_ | refine S.then_x ?_ | refine S.then_r ?_ | refine S.inBlock_n ?_ | refine S.inBlock_r ?_ | refine S.inBlock_x rfl ?_ | refine S.noGoto_r ?_ | refine S.noGoto_n ?_ | refine S.noGoto_x ?_)
    refine hK6 _ _ ?_
    refine S.seq fun K7 hK7 => ?_
    refine S.block ?_
    refine S.seq fun K8 hK8 => ?_
    refine S.region rfl ?_
    refine S.op (S.q (q_move rfl) rfl rfl ?_)
    refine S.op (S.q (q_indexO (i) Try.el22 rfl hb rfl rfl (by omega)) rfl rfl ?_)
    refine S.op (S.q (q_loadR hR.top (i * 1) Try.at25 rfl hb (by omega) rfl (flat_get (enc := rwC) (sz := 1) (k := 0) rwC_len hr rfl)) rfl rfl ?_)
    refine S.op (S.q (q_assign rfl) rfl rfl ?_)
    refine S.op (S.q (q_assign rfl) rfl rfl ?_)
    first | with_reducible refine S.nilK ?_ | refine S.nil ?_
    refine hK8 _ _ ?_
    refine S.seq fun K9 hK9 => ?_
    refine S.region rfl ?_
    refine S.op (S.buildSlice0 Try.underlying25 Try.inf3 rfl ?_)
    intro b20 hb20
    refine S.op (S.q (q_move rfl) rfl rfl ?_)
    refine S.op (S.appendOw (s := b20) (r.v.n) (ints r.d) Try.underlying25 Try.inf3 rfl rfl rfl (fun w hs => by rw [hrn]; exact (hR.row hr).at_ hs) (ints_one _) (⟨by omega, by omega⟩) rfl ?_)
    intro nv hnv
    rw [List.nil_append]
    refine S.op (S.q (q_assign rfl) rfl rfl ?_)
    first | with_reducible refine S.nilK ?_ | refine S.nil ?_
    refine hK9 _ _ ?_
    refine S.seq fun K10 hK10 => ?_
    refine S.seq fun K11 hK11 => ?_
    refine S.region rfl ?_
    rw [← rowF_zero x V i r.d]
    refine S.op (S.q (q_field Try.fo27_2 rfl) rfl rfl ?_)
    refine S.op (S.q (q_load Try.at25 rfl rfl) rfl rfl ?_)
    refine S.op (S.q (q_len Try.underlying25 rfl) rfl rfl ?_)
    refine S.op (S.q (q_move rfl) rfl rfl ?_)
    first | with_reducible refine S.nilK ?_ | refine S.nil ?_
    refine hK11 _ _ ?_
    refine S.block ?_
    refine S.loop (fun m2 ρ' Γ' => ∃ (j : Nat), m2 + j = x.nodes.length ∧ ρ' = [(2, .int .i64 len), (4, .pointer (some ⟨b4, 0, none⟩)), (7, ov.v), (8, .int .i64 i), (10, nv.v), (13, s.v), (14, .int .i64 s.n), (15, .int .i64 i), (24, u.v), (25, .int .i64 u.n), (26, .int .i64 j)] ∧ Γ' = own nv 3 1 (ints (rowF x V i r.d j)) :: own ov 25 1 (rs'.flatMap rwC) :: alls rs' rwB :: blk b4 27 (stC u x).toArray :: R :: Q :: Γ) (m := _) (ρ0 := _) (Γ0 := _) (⟨0, rfl, rfl, rfl⟩) (by repeat (first | exact trivial | refine ⟨rfl, ?_⟩)) Sub.ent ?_
    rintro m2 ρ' Γ' ⟨j, hmj, rfl, rfl⟩
    refine S.ownIf nv fun bn offn hbn hnl _ _ => ?_
    rw [List.length_map, rowF_length, Nat.mul_one] at hnl
    refine S.seq fun K12 hK12 => ?_
    refine S.region rfl ?_
    refine S.op (S.q (q_lt rfl rfl) rfl rfl ?_)
    first | with_reducible refine S.nilK ?_ | refine S.nil ?_
    refine hK12 _ _ ?_
    refine S.seq fun K13 hK13 => ?_
    refine S.condD rfl (fun h2 => ?_) (fun h2 => ?_)
    · obtain ⟨nd, hnd⟩ := getE (l := x.nodes) (i := j) (by omega)
      have hstep := rowF_succ (V := V) (i := i) (row := r.d) hnd
      refine S.rSome hQ (by omega) fun bq oq hbq => ?_
      refine S.skip ?_
      with_reducible repeat (first | refine S.then_n ?_ | refine S.then_x ?_ | refine S.then_r ?_ | refine S.inBlock_n ?_ | refine S.inBlock_r ?_ | refine S.inBlock_x rfl ?_ | refine S.noGoto_r ?_ | refine S.noGoto_n ?_ | refine S.noGoto_x ?_)
      refine hK13 _ _ ?_
      refine S.seq fun K14 hK14 => ?_
      refine S.cut (fun ρ' Γ' => ρ' = [(2, .int .i64 len), (4, .pointer (some ⟨b4, 0, none⟩)), (7, ov.v), (8, .int .i64 i), (10, nv.v), (13, s.v), (14, .int .i64 s.n), (15, .int .i64 i), (24, u.v), (25, .int .i64 u.n), (26, .int .i64 j)] ∧ Γ' = own nv 3 1 (ints (rowF x V i r.d (j + 1))) :: own ov 25 1 (rs'.flatMap rwC) :: alls rs' rwB :: blk b4 27 (stC u x).toArray :: R :: Q :: Γ) ?_ ?_
      · refine S.block ?_
        refine S.seq fun K15 hK15 => ?_
        refine S.region rfl ?_
        refine S.op (S.q (q_indexO (j) Try.el25 rfl hbq rfl rfl (by omega)) rfl rfl ?_)
        refine S.op (S.q (q_loadR hQ j Try.at3 rfl hbq (by omega) (by omega) (ints_get hnd)) rfl rfl ?_)
        refine S.op (S.q (q_assign rfl) rfl rfl ?_)
        first | with_reducible refine S.nilK ?_ | refine S.nil ?_
        refine hK15 _ _ ?_
        refine S.seq fun K16 hK16 => ?_
        refine S.cut (fun ρ' Γ' => ∃ c : Bool, c = ((x.ok && decide ((i : Int) = x.row)) && decide (0 ≤ nd ∧ nd < r.d.length)) ∧ ρ' = [(2, .int .i64 len), (4, .pointer (some ⟨b4, 0, none⟩)), (7, ov.v), (8, .int .i64 i), (10, nv.v), (12, .int .i64 nd), (13, s.v), (14, .int .i64 s.n), (15, .int .i64 i), (24, u.v), (25, .int .i64 u.n), (26, .int .i64 j), (47, .bool c)] ∧ Γ' = own nv 3 1 (ints (rowF x V i r.d j)) :: own ov 25 1 (rs'.flatMap rwC) :: alls rs' rwB :: blk b4 27 (stC u x).toArray :: R :: Q :: Γ) ?_ ?_
        · refine S.regionG ?_
          refine S.g_op rfl (S.q (q_field Try.fo27_3 rfl) rfl rfl ?_)
          refine S.g_op rfl (S.q (q_load Try.at4 rfl rfl) rfl rfl ?_)
          refine S.g_op rfl (S.q (q_move rfl) rfl rfl ?_)
          rcases Bool.eq_false_or_eq_true (x.ok) with hg9_2 | hg9_2
          · refine S.g_yes rfl rfl rfl (hg9_2) (S.q (q_move rfl) rfl rfl ?_)
            refine S.g_yes rfl rfl rfl (hg9_2) (S.q (q_field Try.fo27_1 rfl) rfl rfl ?_)
            refine S.g_yes rfl rfl rfl (hg9_2) (S.q (q_load Try.at3 rfl rfl) rfl rfl ?_)
            refine S.g_yes rfl rfl rfl (hg9_2) (S.q (q_eq rfl rfl) rfl rfl ?_)
            refine S.g_op rfl (S.q (q_pickT rfl (hg9_2) rfl) rfl rfl ?_)
            refine S.g_op rfl (S.q (q_move rfl) rfl rfl ?_)
            by_cases hg9_8 : (i : Int) = x.row
            · refine S.g_yes rfl rfl rfl (decide_eq_true hg9_8) (S.q (q_move rfl) rfl rfl ?_)
              refine S.g_yes rfl rfl rfl (decide_eq_true hg9_8) (S.q (q_ge rfl rfl) rfl rfl ?_)
              refine S.g_op rfl (S.q (q_pickT rfl (decide_eq_true hg9_8) rfl) rfl rfl ?_)
              refine S.g_op rfl (S.q (q_move rfl) rfl rfl ?_)
              by_cases hg9_12 : (0 : Int) ≤ nd
              · refine S.g_yes rfl rfl rfl (decide_eq_true hg9_12) (S.q (q_move rfl) rfl rfl ?_)
                refine S.g_yes rfl rfl rfl (decide_eq_true hg9_12) (S.q (q_move rfl) rfl rfl ?_)
                refine S.g_yes rfl rfl rfl (decide_eq_true hg9_12) (S.q (q_len Try.underlying25 rfl) rfl rfl ?_)
                refine S.g_yes rfl rfl rfl (decide_eq_true hg9_12) (S.q (q_lt rfl rfl) rfl rfl ?_)
                refine S.g_op rfl (S.q (q_pickT rfl (decide_eq_true hg9_12) rfl) rfl rfl ?_)
                first | with_reducible refine S.g_nilK ?_ | refine S.g_nil ?_
                with_reducible repeat (first | refine S.then_n ?_ | refine S.then_x ?_ | refine S.then_r ?_ | refine S.inBlock_n ?_ | refine S.inBlock_r ?_ | refine S.inBlock_x rfl ?_ | refine S.noGoto_r ?_ | refine S.noGoto_n ?_ | refine S.noGoto_x ?_)
                first
                | exact S.meet ⟨_, by rw [hg9_2, decide_eq_true hg9_8, Bool.true_and, Bool.true_and]; refine decide_eq_decide.2 ?_; omega, rfl, rfl⟩ ⟨rfl, rfl, rfl, rfl, rfl, rfl, rfl, rfl, rfl, rfl, rfl, rfl, rfl, trivial⟩ Sub.ent
                | exact S.meet ⟨_, by rw [decide_eq_false (show ¬ (0 ≤ nd ∧ nd < r.d.length) by omega), Bool.and_false], rfl, rfl⟩ ⟨rfl, rfl, rfl, rfl, rfl, rfl, rfl, rfl, rfl, rfl, rfl, rfl, rfl, trivial⟩ Sub.ent
                | exact S.meet ⟨_, by rw [decide_eq_false hg9_8, Bool.and_false, Bool.false_and], rfl, rfl⟩ ⟨rfl, rfl, rfl, rfl, rfl, rfl, rfl, rfl, rfl, rfl, rfl, rfl, rfl, trivial⟩ Sub.ent
                | exact S.meet ⟨_, by rw [hg9_2, Bool.false_and, Bool.false_and], rfl, rfl⟩ ⟨rfl, rfl, rfl, rfl, rfl, rfl, rfl, rfl, rfl, rfl, rfl, rfl, rfl, trivial⟩ Sub.ent
              · refine S.g_no rfl rfl rfl (decide_eq_false hg9_12) rfl rfl ?_
                refine S.g_no rfl rfl rfl (decide_eq_false hg9_12) rfl rfl ?_
                refine S.g_no rfl rfl rfl (decide_eq_false hg9_12) rfl rfl ?_
                refine S.g_no rfl rfl rfl (decide_eq_false hg9_12) rfl rfl ?_
                refine S.g_op rfl (S.q (q_pickF rfl (decide_eq_false hg9_12) rfl) rfl rfl ?_)
                first | with_reducible refine S.g_nilK ?_ | refine S.g_nil ?_
                with_reducible repeat (first | refine S.then_n ?_ | refine S.then_x ?_ | refine S.then_r ?_ | refine S.inBlock_n ?_ | refine S.inBlock_r ?_ | refine S.inBlock_x rfl ?_ | refine S.noGoto_r ?_ | refine S.noGoto_n ?_ | refine S.noGoto_x ?_)
                first
                | exact S.meet ⟨_, by rw [hg9_2, decide_eq_true hg9_8, Bool.true_and, Bool.true_and]; refine decide_eq_decide.2 ?_; omega, rfl, rfl⟩ ⟨rfl, rfl, rfl, rfl, rfl, rfl, rfl, rfl, rfl, rfl, rfl, rfl, rfl, trivial⟩ Sub.ent
                | exact S.meet ⟨_, by rw [decide_eq_false (show ¬ (0 ≤ nd ∧ nd < r.d.length) by omega), Bool.and_false], rfl, rfl⟩ ⟨rfl, rfl, rfl, rfl, rfl, rfl, rfl, rfl, rfl, rfl, rfl, rfl, rfl, trivial⟩ Sub.ent
                | exact S.meet ⟨_, by rw [decide_eq_false hg9_8, Bool.and_false, Bool.false_and], rfl, rfl⟩ ⟨rfl, rfl, rfl, rfl, rfl, rfl, rfl, rfl, rfl, rfl, rfl, rfl, rfl, trivial⟩ Sub.ent
                | exact S.meet ⟨_, by rw [hg9_2, Bool.false_and, Bool.false_and], rfl, rfl⟩ ⟨rfl, rfl, rfl, rfl, rfl, rfl, rfl, rfl, rfl, rfl, rfl, rfl, rfl, trivial⟩ Sub.ent
            · refine S.g_no rfl rfl rfl (decide_eq_false hg9_8) rfl rfl ?_
              refine S.g_no rfl rfl rfl (decide_eq_false hg9_8) rfl rfl ?_
              refine S.g_op rfl (S.q (q_pickF rfl (decide_eq_false hg9_8) rfl) rfl rfl ?_)
              refine S.g_op rfl (S.q (q_move rfl) rfl rfl ?_)
              refine S.g_no rfl rfl rfl (rfl) rfl rfl ?_
              refine S.g_no rfl rfl rfl (rfl) rfl rfl ?_
              refine S.g_no rfl rfl rfl (rfl) rfl rfl ?_
              refine S.g_no rfl rfl rfl (rfl) rfl rfl ?_
              refine S.g_op rfl (S.q (q_pickF rfl (rfl) rfl) rfl rfl ?_)
              first | with_reducible refine S.g_nilK ?_ | refine S.g_nil ?_
              with_reducible repeat (first | refine S.then_n ?_ | refine S.then_x ?_ | refine S.then_r ?_ | refine S.inBlock_n ?_ | refine S.inBlock_r ?_ | refine S.inBlock_x rfl ?_ | refine S.noGoto_r ?_ | refine S.noGoto_n ?_ | refine S.noGoto_x ?_)
              first
              | exact S.meet ⟨_, by rw [hg9_2, decide_eq_true hg9_8, Bool.true_and, Bool.true_and]; refine decide_eq_decide.2 ?_; omega, rfl, rfl⟩ ⟨rfl, rfl, rfl, rfl, rfl, rfl, rfl, rfl, rfl, rfl, rfl, rfl, rfl, trivial⟩ Sub.ent
              | exact S.meet ⟨_, by rw [decide_eq_false (show ¬ (0 ≤ nd ∧ nd < r.d.length) by omega), Bool.and_false], rfl, rfl⟩ ⟨rfl, rfl, rfl, rfl, rfl, rfl, rfl, rfl, rfl, rfl, rfl, rfl, rfl, trivial⟩ Sub.ent
              | exact S.meet ⟨_, by rw [decide_eq_false hg9_8, Bool.and_false, Bool.false_and], rfl, rfl⟩ ⟨rfl, rfl, rfl, rfl, rfl, rfl, rfl, rfl, rfl, rfl, rfl, rfl, rfl, trivial⟩ Sub.ent
              | exact S.meet ⟨_, by rw [hg9_2, Bool.false_and, Bool.false_and], rfl, rfl⟩ ⟨rfl, rfl, rfl, rfl, rfl, rfl, rfl, rfl, rfl, rfl, rfl, rfl, rfl, trivial⟩ Sub.ent
          · refine S.g_no rfl rfl rfl (hg9_2) rfl rfl ?_
            refine S.g_no rfl rfl rfl (hg9_2) rfl rfl ?_
            refine S.g_no rfl rfl rfl (hg9_2) rfl rfl ?_
            refine S.g_no rfl rfl rfl (hg9_2) rfl rfl ?_
            refine S.g_op rfl (S.q (q_pickF rfl (hg9_2) rfl) rfl rfl ?_)
            refine S.g_op rfl (S.q (q_move rfl) rfl rfl ?_)
            refine S.g_no rfl rfl rfl (rfl) rfl rfl ?_
            refine S.g_no rfl rfl rfl (rfl) rfl rfl ?_
            refine S.g_op rfl (S.q (q_pickF rfl (rfl) rfl) rfl rfl ?_)
            refine S.g_op rfl (S.q (q_move rfl) rfl rfl ?_)
            refine S.g_no rfl rfl rfl (rfl) rfl rfl ?_
            refine S.g_no rfl rfl rfl (rfl) rfl rfl ?_
            refine S.g_no rfl rfl rfl (rfl) rfl rfl ?_
            refine S.g_no rfl rfl rfl (rfl) rfl rfl ?_
            refine S.g_op rfl (S.q (q_pickF rfl (rfl) rfl) rfl rfl ?_)
            first | with_reducible refine S.g_nilK ?_ | refine S.g_nil ?_
            with_reducible repeat (first | refine S.then_n ?_ | refine S.then_x ?_ | refine S.then_r ?_ | refine S.inBlock_n ?_ | refine S.inBlock_r ?_ | refine S.inBlock_x rfl ?_ | refine S.noGoto_r ?_ | refine S.noGoto_n ?_ | refine S.noGoto_x ?_)
            first
            | exact S.meet ⟨_, by rw [hg9_2, decide_eq_true hg9_8, Bool.true_and, Bool.true_and]; refine decide_eq_decide.2 ?_; omega, rfl, rfl⟩ ⟨rfl, rfl, rfl, rfl, rfl, rfl, rfl, rfl, rfl, rfl, rfl, rfl, rfl, trivial⟩ Sub.ent
            | exact S.meet ⟨_, by rw [decide_eq_false (show ¬ (0 ≤ nd ∧ nd < r.d.length) by omega), Bool.and_false], rfl, rfl⟩ ⟨rfl, rfl, rfl, rfl, rfl, rfl, rfl, rfl, rfl, rfl, rfl, rfl, rfl, trivial⟩ Sub.ent
            | exact S.meet ⟨_, by rw [decide_eq_false hg9_8, Bool.and_false, Bool.false_and], rfl, rfl⟩ ⟨rfl, rfl, rfl, rfl, rfl, rfl, rfl, rfl, rfl, rfl, rfl, rfl, rfl, trivial⟩ Sub.ent
            | exact S.meet ⟨_, by rw [hg9_2, Bool.false_and, Bool.false_and], rfl, rfl⟩ ⟨rfl, rfl, rfl, rfl, rfl, rfl, rfl, rfl, rfl, rfl, rfl, rfl, rfl, trivial⟩ Sub.ent
        · rintro ρ' Γ' ⟨c, hc, rfl, rfl⟩
          refine hK16 _ _ ?_
          refine S.cond rfl (fun h3 => ?_) (fun h3 => ?_)
          · have hT := hc.symm.trans h3
            rw [hT, if_pos rfl] at hstep
            rw [Bool.and_eq_true, decide_eq_true_eq] at hT
            have hin := hT.2
            refine S.region rfl ?_
            refine S.op (S.q (q_move rfl) rfl rfl ?_)
            refine S.op (S.q (q_move rfl) rfl rfl ?_)
            refine S.op (S.q (q_field Try.fo27_0 rfl) rfl rfl ?_)
            refine S.op (S.q (q_load Try.at3 rfl rfl) rfl rfl ?_)
            refine S.op (S.q (q_move rfl) rfl rfl ?_)
            refine S.op (S.q (q_max (max len 1) rfl rfl (by omega)) rfl rfl ?_)
            refine S.op (S.callP Try.en31 (vs := [_, _]) ⟨rfl, rfl, trivial⟩ (fun w hs => rAdd_P x.at_ (max len 1) w) rfl ?_)
            refine S.op (S.q (q_indexO (nd.toNat) Try.el25 rfl (hbn (by omega)) rfl (by omega) (by omega)) rfl rfl ?_)
            refine S.op (S.storeOw (nv) (nd.toNat * 1) Try.at3 rfl rfl rfl (hbn (by omega)) (by first | rfl | exact Nat.add_assoc _ _ _ | omega) (by rw [List.length_map, rowF_length]; omega) (set_v hV hstep) ?_)
            first | with_reducible refine S.nilK ?_ | refine S.nil ?_
            with_reducible repeat (first | refine S.then_n ?_ | refine S.then_x ?_ | refine S.then_r ?_ | refine S.inBlock_n ?_ | refine S.inBlock_r ?_ | refine S.inBlock_x rfl ?_ | refine S.noGoto_r ?_ | refine S.noGoto_n ?_ | refine S.noGoto_x ?_)
            with_reducible repeat (first | refine S.then_n ?_ | refine S.then_x ?_ | refine S.then_r ?_ | refine S.inBlock_n ?_ | refine S.inBlock_r ?_ | refine S.inBlock_x rfl ?_ | refine S.noGoto_r ?_ | refine S.noGoto_n ?_ | refine S.noGoto_x ?_)
            first | exact S.meet ⟨rfl, rfl⟩ ⟨rfl, rfl, rfl, rfl, rfl, rfl, rfl, rfl, rfl, rfl, rfl, trivial⟩ Sub.ent | (rw [← hstep]; exact S.meet ⟨rfl, rfl⟩ ⟨rfl, rfl, rfl, rfl, rfl, rfl, rfl, rfl, rfl, rfl, rfl, trivial⟩ Sub.ent)
          · rw [hc.symm.trans h3, if_neg (by simp)] at hstep
            refine S.skip ?_
            with_reducible repeat (first | refine S.then_n ?_ | refine S.then_x ?_ | refine S.then_r ?_ | refine S.inBlock_n ?_ | refine S.inBlock_r ?_ | refine S.inBlock_x rfl ?_ | refine S.noGoto_r ?_ | refine S.noGoto_n ?_ | refine S.noGoto_x ?_)
            with_reducible repeat (first | refine S.then_n ?_ | refine S.then_x ?_ | refine S.then_r ?_ | refine S.inBlock_n ?_ | refine S.inBlock_r ?_ | refine S.inBlock_x rfl ?_ | refine S.noGoto_r ?_ | refine S.noGoto_n ?_ | refine S.noGoto_x ?_)
            with_reducible repeat (first | refine S.then_n ?_ | refine S.then_x ?_ | refine S.then_r ?_ | refine S.inBlock_n ?_ | refine S.inBlock_r ?_ | refine S.inBlock_x rfl ?_ | refine S.noGoto_r ?_ | refine S.noGoto_n ?_ | refine S.noGoto_x ?_)
            first | exact S.meet ⟨rfl, rfl⟩ ⟨rfl, rfl, rfl, rfl, rfl, rfl, rfl, rfl, rfl, rfl, rfl, trivial⟩ Sub.ent | (rw [← hstep]; exact S.meet ⟨rfl, rfl⟩ ⟨rfl, rfl, rfl, rfl, rfl, rfl, rfl, rfl, rfl, rfl, rfl, trivial⟩ Sub.ent)
      · rintro ρ' Γ' ⟨rfl, rfl⟩
        refine hK14 _ _ ?_
        refine S.region rfl ?_
        refine S.op (S.q (q_add rfl rfl (inI64 (by omega) (by omega))) rfl rfl ?_)
        refine S.op (S.q (q_move rfl) rfl rfl ?_)
        first | with_reducible refine S.nilK ?_ | refine S.nil ?_
        with_reducible repeat (first | refine S.then_n ?_ | refine S.then_x ?_ | refine S.then_r ?_ | refine S.inBlock_n ?_ | refine S.inBlock_r ?_ | refine S.inBlock_x rfl ?_ | refine S.noGoto_r ?_ | refine S.noGoto_n ?_ | refine S.noGoto_x ?_)
        exact S.next (m2 - 1) (⟨j + 1, by omega, rfl, rfl⟩) (by omega) (by repeat (first | exact trivial | refine ⟨rfl, ?_⟩)) Sub.ent
    · obtain rfl : j = x.nodes.length := by omega
      refine S.exit ?_
      with_reducible repeat (first | refine S.then_n ?_ | refine S.then_x ?_ | refine S.then_r ?_ | refine S.inBlock_n ?_ | refine S.inBlock_r ?_ | refine S.inBlock_x rfl ?_ | refine S.noGoto_r ?_ | refine S.noGoto_n ?_ | refine S.noGoto_x ?_)
      with_reducible refine S.inBlock_s ?_
      with_reducible repeat (first | refine S.then_n ?_ | refine S.then_x ?_ | refine S.then_r ?_ | refine S.inBlock_n ?_ | refine S.inBlock_r ?_ | refine S.inBlock_x rfl ?_ | refine S.noGoto_r ?_ | refine S.noGoto_n ?_ | refine S.noGoto_x ?_)
      refine hK10 _ _ ?_
      refine S.region rfl ?_
      refine S.op (S.q (q_move rfl) rfl rfl ?_)
      refine S.op (S.q (q_move rfl) rfl rfl ?_)
      refine S.op (S.buildSlice (pvs := [(_, _)]) [_] Try.underlying22 Try.inf25 rfl rfl ⟨⟨rfl, rfl⟩, trivial⟩ rfl rfl ?_)
      intro b59
      refine S.op (S.appendOw (s := ov) (1) ([nv.v]) Try.underlying22 Try.inf25 rfl rfl rfl (blk_slAt (b := b59) rfl (by unfold maxLen; omega)) (by first | rfl | exact allOne_bcells _) (⟨by omega, by omega⟩) rfl ?_)
      intro ov2 hov2
      rw [show rs'.flatMap rwC ++ [nv.v] = (rs' ++ [RW.mk nv (rowF x V i r.d x.nodes.length)]).flatMap rwC by simp]
      refine S.conv2 (own nv 3 1 (ints (rowF x V i r.d x.nodes.length))) (alls rs' rwB) (Ent.allsSnoc rwB rs' ⟨nv, rowF x V i r.d x.nodes.length⟩ _) ?_
      refine S.op (S.q (q_assign rfl) rfl rfl ?_)
      first | with_reducible refine S.nilK ?_ | refine S.nil ?_
      with_reducible repeat (first | refine S.then_n ?_ | refine S.then_x ?_ | refine S.then_r ?_ | refine S.inBlock_n ?_ | refine S.inBlock_r ?_ | refine S.inBlock_x rfl ?_ | refine S.noGoto_r ?_ | refine S.noGoto_n ?_ | refine S.noGoto_x ?_)
      refine hK7 _ _ ?_
      refine S.region rfl ?_
      refine S.op (S.q (q_add rfl rfl (inI64 (by omega) (by omega))) rfl rfl ?_)
      refine S.op (S.q (q_move rfl) rfl rfl ?_)
      first | with_reducible refine S.nilK ?_ | refine S.nil ?_
      with_reducible repeat (first | refine S.then_n ?_ | refine S.then_x ?_ | refine S.then_r ?_ | refine S.inBlock_n ?_ | refine S.inBlock_r ?_ | refine S.inBlock_x rfl ?_ | refine S.noGoto_r ?_ | refine S.noGoto_n ?_ | refine S.noGoto_x ?_)
      exact S.next (m - 1) (⟨i + 1, ov2, rs' ++ [⟨nv, rowF x V i r.d x.nodes.length⟩], by omega, by rw [List.take_add_one, hget, ← hd]; simp, rfl, rfl⟩) (by omega) (by repeat (first | exact trivial | refine ⟨rfl, ?_⟩)) Sub.ent
  · rw [List.take_of_length_le (by omega)] at hd
    refine S.conv2 (own ov 25 1 (rs'.flatMap rwC)) (alls rs' rwB) (Ent.prof ov rs' _) ?_
    refine S.exit ?_
    with_reducible repeat (first | refine S.then_n ?_ | refine S.then_x ?_ | refine S.then_r ?_ | refine S.inBlock_n ?_ | refine S.inBlock_r ?_ | refine S.inBlock_x rfl ?_ | refine S.noGoto_r ?_ | refine S.noGoto_n ?_ | refine S.noGoto_x ?_)
    with_reducible refine S.inBlock_s ?_
    with_reducible repeat (first | refine S.then_n ?_ | refine S.then_x ?_ | refine S.then_r ?_ | refine S.inBlock_n ?_ | refine S.inBlock_r ?_ | refine S.inBlock_x rfl ?_ | refine S.noGoto_r ?_ | refine S.noGoto_n ?_ | refine S.noGoto_x ?_)
    refine hK3 _ _ ?_
    refine S.seq fun K17 hK17 => ?_
    refine S.region rfl ?_
    refine S.op (S.q (q_move rfl) rfl rfl ?_)
    refine S.op (S.q (q_assign rfl) rfl rfl ?_)
    first | with_reducible refine S.nilK ?_ | refine S.nil ?_
    refine hK17 _ _ ?_
    refine S.ret ?_
    with_reducible repeat (first | refine S.then_n ?_ | refine S.then_x ?_ | refine S.then_r ?_ | refine S.inBlock_n ?_ | refine S.inBlock_r ?_ | refine S.inBlock_x rfl ?_ | refine S.noGoto_r ?_ | refine S.noGoto_n ?_ | refine S.noGoto_x ?_)
    exact S.fin (rs := [_]) (vs := [_]) Try.results19 (⟨rfl, trivial⟩)  (⟨ov, rs', rfl, hd, rfl⟩) Sub.ent
set_option maxHeartbeats 1000000 in
theorem rPlan_S (R A : Assn) (s : SV) (rs : List RW) (l : SV) (al : List Ak) (hs : Sml (dat rs)) (hal : al.length ≤ 1000) (hR : RdP R s rs) (hA : RdS A l al.length 2 (al.flatMap akC)) :
    Spec Try.prog 22 [s.v, l.v] [R, A] fun Γ v Θ => ∃ (u : SV) (os : List SR), v = u.v ∧ os.map SR.x = planR (dat rs) al ∧ Θ = own u 27 4 (os.flatMap srC) :: alls os srB :: R :: A :: Γ := by
  refine Spec.of_body Try.func22 rfl Try.ntmps22 rfl ?_
  intro w0 Γ
  show S _ w0 [(0, s.v), (1, l.v)] (R :: A :: Γ) _
  refine S.rCap hA fun hln _ _ => ?_
  refine S.seq fun K1 hK1 => ?_
  refine S.region rfl ?_
  refine S.op (S.q (q_assign rfl) rfl rfl ?_)
  first | with_reducible refine S.nilK ?_ | refine S.nil ?_
  refine hK1 _ _ ?_
  refine S.seq fun K2 hK2 => ?_
  refine S.region rfl ?_
  refine S.ent (show Ent _ (own SV.nil 27 4 (([] : List SR).flatMap srC) :: _) from Ent.ownNil 27 4) ?_
  refine S.ent (Ent.allsNil srB _) ?_
  refine S.op (S.q (q_assign rfl) rfl rfl ?_)
  first | with_reducible refine S.nilK ?_ | refine S.nil ?_
  refine hK2 _ _ ?_
  refine S.seq fun K3 hK3 => ?_
  refine S.seq fun K4 hK4 => ?_
  refine S.region rfl ?_
  refine S.op (S.q (q_move rfl) rfl rfl ?_)
  refine S.op (S.q (q_len Try.underlying41 rfl) rfl rfl ?_)
  refine S.op (S.q (q_move rfl) rfl rfl ?_)
  first | with_reducible refine S.nilK ?_ | refine S.nil ?_
  refine hK4 _ _ ?_
  refine S.block ?_
  refine S.loop (fun m ρ' Γ' => ∃ (i : Nat) (uo : SV) (os : List SR) (X : Assn) (sx : SV) (rx : List RW), m + i = al.length ∧ dat rx = profAt (dat rs) (al.take i) ∧ os.map SR.x = planR (dat rs) (al.take i) ∧ RdP X sx rx ∧ (∀ Γ, Ent (X :: Γ) (R :: Γ)) ∧ ρ' = [(0, sx.v), (5, uo.v), (9, l.v), (10, .int .i64 l.n), (11, .int .i64 i)] ∧ Γ' = own uo 27 4 (os.flatMap srC) :: alls os srB :: X :: A :: Γ) (m := _) (ρ0 := _) (Γ0 := _) (⟨0, SV.nil, [], R, s, rs, rfl, rfl, rfl, hR, fun Γ => Ent.refl _, rfl, rfl⟩) (by repeat (first | exact trivial | refine ⟨rfl, ?_⟩)) Sub.ent ?_
  rintro m ρ' Γ' ⟨i, uo, os, X, sx, rx, hmi, hd, hos, hX, hXR, rfl, rfl⟩
  have hsx : Sml (dat rx) := by rw [hd]; exact hs.at_ _
  have hol : os.length = i := by have := congrArg List.length hos; rw [List.length_map, planR_length, List.length_take] at this; omega
  refine S.ownLen uo fun hul _ _ => ?_
  rw [flat_length srC_len] at hul
  refine S.seq fun K5 hK5 => ?_
  refine S.region rfl ?_
  refine S.op (S.q (q_lt rfl rfl) rfl rfl ?_)
  first | with_reducible refine S.nilK ?_ | refine S.nil ?_
  refine hK5 _ _ ?_
  refine S.seq fun K6 hK6 => ?_
  refine S.condD rfl (fun h1 => ?_) (fun h1 => ?_)
  · obtain ⟨a, ha⟩ := getE (l := al) (i := i) (by omega)
    refine S.rSome hA (by omega) fun b off hb => ?_
    refine S.skip ?_
    with_reducible repeat (first | refine S.then_n ?_ | refine S.then_x ?_ | refine S.then_r ?_ | refine S.inBlock_n ?_ | refine S.inBlock_r ?_ | refine S.inBlock_x rfl ?_ | refine S.noGoto_r ?_ | refine S.noGoto_n ?_ | refine S.noGoto_x ?_)
    refine hK6 _ _ ?_
    refine S.seq fun K7 hK7 => ?_
    refine S.block ?_
    refine S.seq fun K8 hK8 => ?_
    refine S.region rfl ?_
    refine S.op (S.q (q_indexO (i) Try.el41 rfl hb rfl rfl (by omega)) rfl rfl ?_)
    refine S.op (S.q (q_loadRS hA (i * 2) (akC a) Try.ag24 rfl hb (by omega) rfl rfl (flat_seg (enc := akC) (sz := 2) akC_len ha)) rfl rfl ?_)
    refine S.op (S.alloc Try.z24 rfl ?_)
    intro b7
    refine S.op (S.storeS (cs' := [_, _]) Try.ag24 rfl rfl rfl rfl rfl rfl ?_)
    first | with_reducible refine S.nilK ?_ | refine S.nil ?_
    refine hK8 _ _ ?_
    refine S.seq fun K9 hK9 => ?_
    refine S.region rfl ?_
    refine S.op (S.q (q_move rfl) rfl rfl ?_)
    refine S.op (S.q (q_loadS [_, _] Try.ag24 rfl rfl ⟨rfl, rfl, trivial⟩) rfl rfl ?_)
    refine S.op (S.call Try.en15 (vs := [_, _]) ⟨rfl, rfl, trivial⟩ (rFirst_S X sx rx a.k a.len hsx.len hsx.each hX) rfl ?_)
    rintro v Θ ⟨u1, rfl, rfl⟩
    obtain ⟨x1, hx1⟩ : ∃ x1, x1 = firstR (dat rx) a.k := ⟨_, rfl⟩
    rw [← hx1]
    refine S.op (S.alloc Try.z27 rfl ?_)
    intro b8
    refine S.op (S.storeS (cs' := [_, _, _, _]) Try.ag27 rfl rfl rfl rfl rfl rfl ?_)
    first | with_reducible refine S.nilK ?_ | refine S.nil ?_
    refine hK9 _ _ ?_
    refine S.seq fun K10 hK10 => ?_
    refine S.region rfl ?_
    refine S.op (S.q (q_move rfl) rfl rfl ?_)
    refine S.op (S.q (q_loadS [_, _, _, _] Try.ag27 rfl rfl ⟨rfl, rfl, rfl, rfl, trivial⟩) rfl rfl ?_)
    refine S.op (S.buildSlice (pvs := [(_, _)]) [_, _, _, _] Try.underlying47 Try.inf27 rfl rfl ⟨⟨rfl, rfl⟩, trivial⟩ rfl rfl ?_)
    intro b20
    refine S.op (S.appendOw (s := uo) (1) (srC ⟨u1, x1⟩) Try.underlying47 Try.inf27 rfl rfl rfl (blk_slAt (b := b20) rfl (by unfold maxLen; omega)) (by first | rfl | exact allOne_bcells _) (⟨by omega, by omega⟩) rfl ?_)
    intro uo' huo'
    rw [flat_snoc srC os ⟨u1, x1⟩]
    refine S.op (S.q (q_assign rfl) rfl rfl ?_)
    first | with_reducible refine S.nilK ?_ | refine S.nil ?_
    refine hK10 _ _ ?_
    refine S.region rfl ?_
    refine S.op (S.q (q_move rfl) rfl rfl ?_)
    refine S.op (S.q (q_loadS [_, _, _, _] Try.ag27 rfl rfl ⟨rfl, rfl, rfl, rfl, trivial⟩) rfl rfl ?_)
    refine S.op (S.q (q_field Try.fo24_1 rfl) rfl rfl ?_)
    refine S.op (S.q (q_load Try.at3 rfl rfl) rfl rfl ?_)
    refine S.op (S.call Try.en19 (vs := [_, _, _]) ⟨rfl, rfl, rfl, trivial⟩ (rReserve_S X (own u1 3 1 (ints x1.nodes)) sx rx u1 x1 a.len hsx.len hsx.each hX rdOwnI) rfl ?_)
    rintro v Θ ⟨s', rs', rfl, hd', rfl⟩
    refine S.conv2 (own u1 3 1 (ints x1.nodes)) (alls os srB) (Ent.allsSnoc srB os ⟨u1, x1⟩ _) ?_
    refine S.conv2 (prof s' rs') X (((hXR _).cons _).trans (Ent.pack [prof s' rs', R] _)) ?_
    refine S.op (S.q (q_assign rfl) rfl rfl ?_)
    first | with_reducible refine S.nilK ?_ | refine S.nil ?_
    with_reducible repeat (first | refine S.then_n ?_ | refine S.then_x ?_ | refine S.then_r ?_ | refine S.inBlock_n ?_ | refine S.inBlock_r ?_ | refine S.inBlock_x rfl ?_ | refine S.noGoto_r ?_ | refine S.noGoto_n ?_ | refine S.noGoto_x ?_)
    refine hK7 _ _ ?_
    refine S.region rfl ?_
    have htk : al.take (i + 1) = al.take i ++ [a] := by rw [List.take_add_one, ha]; rfl
    refine S.op (S.q (q_add rfl rfl (inI64 (by omega) (by omega))) rfl rfl ?_)
    refine S.op (S.q (q_move rfl) rfl rfl ?_)
    first | with_reducible refine S.nilK ?_ | refine S.nil ?_
    with_reducible repeat (first | refine S.then_n ?_ | refine S.then_x ?_ | refine S.then_r ?_ | refine S.inBlock_n ?_ | refine S.inBlock_r ?_ | refine S.inBlock_x rfl ?_ | refine S.noGoto_r ?_ | refine S.noGoto_n ?_ | refine S.noGoto_x ?_)
    exact S.next (m - 1) (⟨i + 1, uo', os ++ [⟨u1, x1⟩], stars [prof s' rs', R], s', rs', by omega, by rw [hd', htk, profAt_snoc, ← hd, hx1], by rw [List.map_append, hos, htk, planR_snoc, ← hd, hx1]; rfl, rdPack s' rs' R, Ent.second _ _, rfl, rfl⟩) (by omega) (by repeat (first | exact trivial | refine ⟨rfl, ?_⟩)) Sub.ent
  · rw [List.take_of_length_le (by omega)] at hos
    refine S.conv X (hXR _) ?_
    refine S.exit ?_
    with_reducible repeat (first | refine S.then_n ?_ | refine S.then_x ?_ | refine S.then_r ?_ | refine S.inBlock_n ?_ | refine S.inBlock_r ?_ | refine S.inBlock_x rfl ?_ | refine S.noGoto_r ?_ | refine S.noGoto_n ?_ | refine S.noGoto_x ?_)
    with_reducible refine S.inBlock_s ?_
    with_reducible repeat (first | refine S.then_n ?_ | refine S.then_x ?_ | refine S.then_r ?_ | refine S.inBlock_n ?_ | refine S.inBlock_r ?_ | refine S.inBlock_x rfl ?_ | refine S.noGoto_r ?_ | refine S.noGoto_n ?_ | refine S.noGoto_x ?_)
    refine hK3 _ _ ?_
    refine S.seq fun K11 hK11 => ?_
    refine S.region rfl ?_
    refine S.op (S.q (q_move rfl) rfl rfl ?_)
    refine S.op (S.q (q_assign rfl) rfl rfl ?_)
    first | with_reducible refine S.nilK ?_ | refine S.nil ?_
    refine hK11 _ _ ?_
    refine S.ret ?_
    with_reducible repeat (first | refine S.then_n ?_ | refine S.then_x ?_ | refine S.then_r ?_ | refine S.inBlock_n ?_ | refine S.inBlock_r ?_ | refine S.inBlock_x rfl ?_ | refine S.noGoto_r ?_ | refine S.noGoto_n ?_ | refine S.noGoto_x ?_)
    exact S.fin (rs := [_]) (vs := [_]) Try.results22 (⟨rfl, trivial⟩)  (⟨uo, os, rfl, hos, rfl⟩) Sub.ent
end Go.Proofs.Ytknpddiffellgaa
