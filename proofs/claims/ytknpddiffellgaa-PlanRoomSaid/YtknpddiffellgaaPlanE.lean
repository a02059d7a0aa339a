/- Clone, Reserve: cells are free later. -/
import Derived.Test.YtknpddiffellgaaPlanD
namespace Go.Proofs.Ytknpddiffellgaa
open Go.RowKit
set_option maxRecDepth 20000
set_option linter.unusedVariables false
theorem S.rNone {n : Nat} {w0 : World} {ρ : Env} {Γ : List Assn} {φ : Act → World → Prop} {R : Assn} {s : SV} {m sz : Nat} {xs : List Value} (h : RdS R s m sz xs) {Δ : List Assn} [p : Pick R Γ Δ] (k : (s.a.isNone = true → m = 0) → S n w0 ρ Γ φ) : S n w0 ρ Γ φ := by
  by_cases hm : 0 < m
  · exact S.rSome h hm fun b off hb => k fun hn => by rw [hb] at hn; cases hn
  · exact k fun _ => by omega
theorem Clone_S (R : Assn) (s : SV) (l : List Int) (hl : l.length ≤ 1000) (hR : RdS R s l.length 1 (ints l)) : Spec Try.prog 29 [s.v] [R] fun Γ v Θ => ∃ u : SV, v = u.v ∧ Θ = own u 3 1 (ints l) :: R :: Γ := by
  refine Spec.of_body Try.func29 rfl Try.ntmps29 rfl ?_
  intro w0 Γ
  show S _ w0 [(0, s.v)] (R :: Γ) _
  refine S.rCap hR fun hn _ _ => ?_
  refine S.rNone hR fun hnone => ?_
  refine S.seq fun K1 hK1 => ?_
  refine S.region rfl ?_
  refine S.op (S.q (q_assign rfl) rfl rfl ?_)
  first | with_reducible refine S.nilK ?_ | refine S.nil ?_
  refine hK1 _ _ ?_
  refine S.seq fun K2 hK2 => ?_
  refine S.seq fun K3 hK3 => ?_
  refine S.region rfl ?_
  refine S.op (S.q (q_move rfl) rfl rfl ?_)
  refine S.op (S.q (q_eqSN Try.underlying25 rfl rfl) rfl rfl ?_)
  first | with_reducible refine S.nilK ?_ | refine S.nil ?_
  refine hK3 _ _ ?_
  refine S.cond rfl (fun h1 => ?_) (fun h1 => ?_)
  · refine S.seq fun K4 hK4 => ?_
    refine S.region rfl ?_
    refine S.op (S.q (q_assign rfl) rfl rfl ?_)
    first | with_reducible refine S.nilK ?_ | refine S.nil ?_
    refine hK4 _ _ ?_
    refine S.ret ?_
    with_reducible repeat (first | refine S.then_n ?_ | refine S.then_x ?_ | refine S.then_r ?_ | refine S.inBlock_n ?_ | refine S.inBlock_r ?_ | refine S.inBlock_x rfl ?_ | refine S.noGoto_r ?_ | refine S.noGoto_n ?_ | refine S.noGoto_x ?_)
    obtain rfl : l = [] := List.eq_nil_of_length_eq_zero (hnone (by simpa using h1))
    refine S.ent (show Ent _ (own SV.nil 3 1 (ints []) :: _) from Ent.ownNil 3 1) ?_
    exact S.fin (rs := [_]) (vs := [_]) Try.results29 (⟨rfl, trivial⟩)  (⟨SV.nil, rfl, rfl⟩) Sub.ent
  · refine S.skip ?_
    with_reducible repeat (first | refine S.then_n ?_ | refine S.then_x ?_ | refine S.then_r ?_ | refine S.inBlock_n ?_ | refine S.inBlock_r ?_ | refine S.inBlock_x rfl ?_ | refine S.noGoto_r ?_ | refine S.noGoto_n ?_ | refine S.noGoto_x ?_)
    refine hK2 _ _ ?_
    refine S.seq fun K5 hK5 => ?_
    refine S.region rfl ?_
    refine S.op (S.buildSlice0 Try.underlying25 Try.inf3 rfl ?_)
    intro b5 hb5
    refine S.op (S.q (q_move rfl) rfl rfl ?_)
    refine S.op (S.appendOw (s := b5) (s.n) (ints l) Try.underlying25 Try.inf3 rfl rfl rfl (fun w hs => by rw [hn]; exact hR.at_ hs) (ints_one l) (⟨by omega, by omega⟩) rfl ?_)
    intro u hu
    rw [List.nil_append]
    refine S.op (S.q (q_assign rfl) rfl rfl ?_)
    first | with_reducible refine S.nilK ?_ | refine S.nil ?_
    refine hK5 _ _ ?_
    refine S.ret ?_
    with_reducible repeat (first | refine S.then_n ?_ | refine S.then_x ?_ | refine S.then_r ?_ | refine S.inBlock_n ?_ | refine S.inBlock_r ?_ | refine S.inBlock_x rfl ?_ | refine S.noGoto_r ?_ | refine S.noGoto_n ?_ | refine S.noGoto_x ?_)
    exact S.fin (rs := [_]) (vs := [_]) Try.results29 (⟨rfl, trivial⟩)  (⟨u, rfl, rfl⟩) Sub.ent
theorem setAll_take {v : Int} {row ns : List Int} {j : Nat} {n : Int} (h : ns[j]? = some n) : setAll v row (ns.take (j + 1)) = setN v (setAll v row (ns.take j)) n := by
  unfold setAll
  rw [List.take_add_one, h, Option.toList_some, List.foldl_append]
  rfl
theorem setN_yes {v : Int} {row : List Int} {n : Int} (h : 0 ≤ n ∧ n < row.length) : setN v row n = row.set n.toNat v := if_pos h
theorem setN_no {v : Int} {row : List Int} {n : Int} (h : ¬ (0 ≤ n ∧ n < row.length)) : setN v row n = row := if_neg h
theorem ints_set (l : List Int) (i : Nat) (x : Int) : (ints l).set i (.int .i64 x) = ints (l.set i x) := (List.map_set).symm
theorem rwC_set {rs : List RW} {i : Nat} {r : RW} (hr : rs[i]? = some r) (d : List Int) : (rs.set i ⟨r.v, d⟩).flatMap rwC = rs.flatMap rwC := by
  have h := flat_set (enc := rwC) (sz := 1) rwC_len (x' := ⟨r.v, d⟩) (k := 0) (v := r.v.v) hr (by omega) rfl
  rw [← h]
  refine List.ext_getElem? fun j => ?_
  rw [List.getElem?_set]
  split
  · rename_i e
    subst e
    have := flat_get (enc := rwC) (sz := 1) (k := 0) rwC_len hr rfl
    have hlt := (List.getElem?_eq_some_iff.1 this).1
    rw [if_pos hlt, this]
  · rfl
theorem dat_set (rs : List RW) (i : Nat) (r : RW) : dat (rs.set i r) = (dat rs).set i r.d := List.map_set
theorem set_mid (A : List Value) (z v : Value) (B : List Value) : (A ++ z :: B).set A.length v = A ++ v :: B := by
  rw [List.set_append_right _ _ (Nat.le_refl _), Nat.sub_self]
  rfl
theorem set_same {α : Type} {l : List α} {i : Nat} {x : α} (h : l[i]? = some x) : l.set i x = l := by
  refine List.ext_getElem? fun j => ?_
  rw [List.getElem?_set]
  split
  · rename_i e
    subst e
    rw [if_pos (List.getElem?_eq_some_iff.1 h).1, h]
  · rfl
theorem mk_set {rs' : List RW} {k n : Nat} (h : rs'.length = k) (hk : k < n) (r : RW) : (rs'.flatMap rwC ++ zeroRow [.slice none 0 0] (n - k)).set (k * 1) r.v.v = (rs' ++ [r]).flatMap rwC ++ zeroRow [.slice none 0 0] (n - (k + 1)) := by
  have e : k * 1 = (rs'.flatMap rwC).length := by rw [flat_length rwC_len, h]
  rw [show n - k = (n - (k + 1)) + 1 by omega, e]
  refine (set_mid _ _ _ _).trans ?_
  simp
theorem resR_yes {D : List (List Int)} {x : St} {len : Int} (h1 : x.ok = true) (h2 : 0 ≤ x.row ∧ x.row < D.length) : resR D x len = D.set x.row.toNat (setAll (addI x.at_ (max len 1)) (D[x.row.toNat]?.getD []) x.nodes) := by
  unfold resR raiseR
  rw [if_pos h1, if_pos h2]
theorem resR_no {D : List (List Int)} {x : St} {len : Int} (h : ¬ (x.ok = true ∧ 0 ≤ x.row ∧ x.row < D.length)) : resR D x len = D := by
  unfold resR raiseR
  by_cases h1 : x.ok = true
  · rw [if_pos h1, if_neg (fun h2 => h ⟨h1, h2⟩)]
  · rw [if_neg h1]
theorem S.allsRow {n : Nat} {w0 : World} {ρ : Env} {Γ : List Assn} {φ : Act → World → Prop} {rs : List RW} {i : Nat} {r : RW} (hr : rs[i]? = some r) {Δ : List Assn} [p : Pick (alls rs rwB) Γ Δ] (k : r.v.n = r.d.length → S n w0 ρ Γ φ) : S n w0 ρ Γ φ := by
  intro a w ha hs hx
  obtain ⟨x, _, h⟩ := ((hs.ent p.ent).ent (Ent.allsAt rwB hr Δ)).head
  have h3 := h.1
  rw [List.length_map, Nat.mul_one] at h3
  exact k h3.symm a w ha hs hx
theorem q3_b {ok : Bool} {row : Int} {n : Nat} (h : (!ok) = false) (h2 : row < 0) : true = !(ok && decide (0 ≤ row ∧ row < n)) := by
  rw [decide_eq_false (by omega), Bool.and_false]
  rfl
theorem q3_c {ok : Bool} {row : Int} {m n : Nat} (h : (!ok) = false) (h2 : ¬ row < 0) (e : m = n) : decide ((m : Int) ≤ row) = !(ok && decide (0 ≤ row ∧ row < n)) := by
  subst e
  rw [show ok = true by simpa using h, Bool.true_and]
  by_cases h3 : row < m
  · rw [decide_eq_false (by omega), decide_eq_true (by omega)]; rfl
  · rw [decide_eq_true (by omega), decide_eq_false (by omega)]; rfl
theorem q3_a {ok : Bool} {p : Prop} [Decidable p] (h : (!ok) = true) : true = !(ok && decide p) := by cases ok <;> simp_all
set_option maxHeartbeats 1000000 in
theorem Reserve_S (R Q : Assn) (s : SV) (rs : List RW) (u : SV) (x : St) (len : Int) (hl : rs.length ≤ 1000) (hrl : ∀ r ∈ rs, r.d.length ≤ 1000) (hR : RdP R s rs) (hQ : RdS Q u x.nodes.length 1 (ints x.nodes)) :
    Spec Try.prog 18 [s.v, .agg (stC u x).toArray, .int .i64 len] [R, Q] fun Γ v Θ => ∃ (s' : SV) (rs' : List RW), v = s'.v ∧ dat rs' = resR (dat rs) x len ∧ Θ = prof s' rs' :: R :: Q :: Γ := by
  refine Spec.of_body Try.func18 rfl Try.ntmps18 rfl ?_
  intro w0 Γ
  show S _ w0 [(0, s.v), (1, .agg (stC u x).toArray), (2, .int .i64 len)] (R :: Q :: Γ) _
  refine S.rCap hR.top fun hn _ _ => ?_
  refine S.rCap hQ fun hun hunc hunm => ?_
  have hdl : (dat rs).length = rs.length := List.length_map _
  refine S.seq fun K1 hK1 => ?_
  refine S.region rfl ?_
  refine S.op (S.box (cs := [_, _, _, _]) rfl rfl rfl ?_)
  intro b4
  refine S.op (S.q (q_assign rfl) rfl rfl ?_)
  first | with_reducible refine S.nilK ?_ | refine S.nil ?_
  refine hK1 _ _ ?_
  refine S.seq fun K2 hK2 => ?_
  refine S.region rfl ?_
  refine S.op (S.q (q_move rfl) rfl rfl ?_)
  refine S.op (S.q (q_len Try.underlying29 rfl) rfl rfl ?_)
  refine S.op (S.makeSlice (s.n) (s.n) Try.underlying29 Try.inf25 rfl rfl rfl rfl rfl (Nat.le_refl _) (⟨by omega, by omega⟩) rfl ?_)
  intro ov hov
  rw [show zeroRow [.slice none 0 0] s.n = ([] : List RW).flatMap rwC ++ zeroRow [.slice none 0 0] (s.n - 0) from rfl]
  refine S.ent (Ent.allsNil rwB _) ?_
  refine S.op (S.q (q_assign rfl) rfl rfl ?_)
  first | with_reducible refine S.nilK ?_ | refine S.nil ?_
  refine hK2 _ _ ?_
  refine S.seq fun K3 hK3 => ?_
  refine S.seq fun K4 hK4 => ?_
  refine S.region rfl ?_
  refine S.op (S.q (q_move rfl) rfl rfl ?_)
  refine S.op (S.q (q_len Try.underlying29 rfl) rfl rfl ?_)
  refine S.op (S.q (q_move rfl) rfl rfl ?_)
  first | with_reducible refine S.nilK ?_ | refine S.nil ?_
  refine hK4 _ _ ?_
  refine S.block ?_
  refine S.loop (fun m ρ' Γ' => ∃ (i : Nat) (rs' : List RW), m + i = rs.length ∧ dat rs' = (dat rs).take i ∧ ρ' = [(2, .int .i64 len), (4, .pointer (some ⟨b4, 0, none⟩)), (7, ov.v), (15, s.v), (16, .int .i64 s.n), (17, .int .i64 i)] ∧ Γ' = own ov 25 1 (rs'.flatMap rwC ++ zeroRow [.slice none 0 0] (s.n - i)) :: alls rs' rwB :: blk b4 32 (stC u x).toArray :: R :: Q :: Γ) (m := _) (ρ0 := _) (Γ0 := _) (⟨0, [], rfl, rfl, rfl, rfl⟩) (by repeat (first | exact trivial | refine ⟨rfl, ?_⟩)) Sub.ent ?_
  rintro m ρ' Γ' ⟨i, rs', hmi, hd, rfl, rfl⟩
  have hrl' : rs'.length = i := by have := congrArg List.length hd; rw [List.length_map, List.length_take] at this; omega
  refine S.seq fun K5 hK5 => ?_
  refine S.region rfl ?_
  refine S.op (S.q (q_lt rfl rfl) rfl rfl ?_)
  first | with_reducible refine S.nilK ?_ | refine S.nil ?_
  refine hK5 _ _ ?_
  refine S.seq fun K6 hK6 => ?_
  refine S.condD rfl (fun h1 => ?_) (fun h1 => ?_)
  · obtain ⟨r, hr⟩ := getE (l := rs) (i := i) (by omega)
    have hrd : r.d.length ≤ 1000 := hrl r (List.mem_of_getElem? hr)
    refine S.rSome hR.top (by omega) fun b off hb => ?_
    refine S.ownSome ov (by omega) fun b' off' hb' hll hlc hlm => ?_
    refine S.skip ?_
    with_reducible repeat (first | refine S.then_n ?_ | refine S.then_x ?_ | refine S.then_r ?_ | refine S.inBlock_n ?_ | refine S.inBlock_r ?_ | refine S.inBlock_x rfl ?_ | refine S.noGoto_r ?_ | refine S.noGoto_n ?_ | refine S.noGoto_x ?_)
    refine hK6 _ _ ?_
    refine S.seq fun K7 hK7 => ?_
    refine S.block ?_
    refine S.seq fun K8 hK8 => ?_
    refine S.region rfl ?_
    refine S.op (S.q (q_move rfl) rfl rfl ?_)
    refine S.op (S.q (q_indexO (i) Try.el29 rfl hb rfl rfl (by omega)) rfl rfl ?_)
    refine S.op (S.q (q_loadR hR.top (i * 1) Try.at25 rfl hb (by omega) rfl (flat_get (enc := rwC) (sz := 1) (k := 0) rwC_len hr rfl)) rfl rfl ?_)
    refine S.op (S.q (q_assign rfl) rfl rfl ?_)
    refine S.op (S.q (q_assign rfl) rfl rfl ?_)
    first | with_reducible refine S.nilK ?_ | refine S.nil ?_
    refine hK8 _ _ ?_
    refine S.region rfl ?_
    refine S.op (S.q (q_move rfl) rfl rfl ?_)
    refine S.op (S.q (q_move rfl) rfl rfl ?_)
    refine S.op (S.q (q_move rfl) rfl rfl ?_)
    refine S.op (S.call Try.en29 (vs := [_]) ⟨rfl, trivial⟩ (Clone_S R r.v r.d hrd (hR.row hr)) rfl ?_)
    rintro v Θ ⟨u1, rfl, rfl⟩
    refine S.op (S.q (q_indexO (i) Try.el29 rfl hb' rfl rfl (by omega)) rfl rfl ?_)
    refine S.op (S.storeOw (ov) (i * 1) Try.at25 rfl rfl rfl hb' (by first | rfl | exact Nat.add_assoc _ _ _ | omega) (by omega) (mk_set hrl' (by omega) ⟨u1, r.d⟩) ?_)
    first | with_reducible refine S.nilK ?_ | refine S.nil ?_
    with_reducible repeat (first | refine S.then_n ?_ | refine S.then_x ?_ | refine S.then_r ?_ | refine S.inBlock_n ?_ | refine S.inBlock_r ?_ | refine S.inBlock_x rfl ?_ | refine S.noGoto_r ?_ | refine S.noGoto_n ?_ | refine S.noGoto_x ?_)
    refine hK7 _ _ ?_
    refine S.region rfl ?_
    refine S.conv2 (own u1 3 1 (ints r.d)) (alls rs' rwB) (Ent.allsSnoc rwB rs' ⟨u1, r.d⟩ _) ?_
    refine S.op (S.q (q_add rfl rfl (inI64 (by omega) (by omega))) rfl rfl ?_)
    refine S.op (S.q (q_move rfl) rfl rfl ?_)
    first | with_reducible refine S.nilK ?_ | refine S.nil ?_
    with_reducible repeat (first | refine S.then_n ?_ | refine S.then_x ?_ | refine S.then_r ?_ | refine S.inBlock_n ?_ | refine S.inBlock_r ?_ | refine S.inBlock_x rfl ?_ | refine S.noGoto_r ?_ | refine S.noGoto_n ?_ | refine S.noGoto_x ?_)
    exact S.next (m - 1) (⟨i + 1, rs' ++ [⟨u1, r.d⟩], by omega, by rw [List.take_add_one, List.getElem?_map, hr, ← hd]; simp, rfl, rfl⟩) (by omega) (by repeat (first | exact trivial | refine ⟨rfl, ?_⟩)) Sub.ent
  · obtain rfl : i = rs.length := by omega
    rw [List.take_of_length_le (by omega)] at hd
    rw [show s.n - rs.length = 0 by omega, show zeroRow [.slice none 0 0] 0 = [] from rfl, List.append_nil]
    refine S.exit ?_
    with_reducible repeat (first | refine S.then_n ?_ | refine S.then_x ?_ | refine S.then_r ?_ | refine S.inBlock_n ?_ | refine S.inBlock_r ?_ | refine S.inBlock_x rfl ?_ | refine S.noGoto_r ?_ | refine S.noGoto_n ?_ | refine S.noGoto_x ?_)
    with_reducible refine S.inBlock_s ?_
    with_reducible repeat (first | refine S.then_n ?_ | refine S.then_x ?_ | refine S.then_r ?_ | refine S.inBlock_n ?_ | refine S.inBlock_r ?_ | refine S.inBlock_x rfl ?_ | refine S.noGoto_r ?_ | refine S.noGoto_n ?_ | refine S.noGoto_x ?_)
    refine hK3 _ _ ?_
    refine S.seq fun K9 hK9 => ?_
    refine S.seq fun K10 hK10 => ?_
    refine S.cut (fun ρ' Γ' => ∃ c : Bool, c = !(x.ok && decide (0 ≤ x.row ∧ x.row < rs.length)) ∧ ρ' = [(2, .int .i64 len), (4, .pointer (some ⟨b4, 0, none⟩)), (7, ov.v), (42, .bool c)] ∧ Γ' = own ov 25 1 (rs'.flatMap rwC) :: alls rs' rwB :: blk b4 32 (stC u x).toArray :: R :: Q :: Γ) ?_ ?_
    · refine S.regionG ?_
      refine S.g_op rfl (S.q (q_field Try.fo32_3 rfl) rfl rfl ?_)
      refine S.g_op rfl (S.q (q_load Try.at4 rfl rfl) rfl rfl ?_)
      refine S.g_op rfl (S.q (q_not rfl) rfl rfl ?_)
      refine S.g_op rfl (S.q (q_move rfl) rfl rfl ?_)
      rcases Bool.eq_false_or_eq_true ((!x.ok)) with hg7_3 | hg7_3
      · refine S.g_no rfl rfl rfl (hg7_3) rfl rfl ?_
        refine S.g_no rfl rfl rfl (hg7_3) rfl rfl ?_
        refine S.g_no rfl rfl rfl (hg7_3) rfl rfl ?_
        refine S.g_op rfl (S.q (q_pickT rfl (hg7_3) rfl) rfl rfl ?_)
        refine S.g_op rfl (S.q (q_move rfl) rfl rfl ?_)
        refine S.g_no rfl rfl rfl (rfl) rfl rfl ?_
        refine S.g_no rfl rfl rfl (rfl) rfl rfl ?_
        refine S.g_no rfl rfl rfl (rfl) rfl rfl ?_
        refine S.g_no rfl rfl rfl (rfl) rfl rfl ?_
        refine S.g_no rfl rfl rfl (rfl) rfl rfl ?_
        refine S.g_op rfl (S.q (q_pickT rfl (rfl) rfl) rfl rfl ?_)
        first | with_reducible refine S.g_nilK ?_ | refine S.g_nil ?_
        with_reducible repeat (first | refine S.then_n ?_ | refine S.then_x ?_ | refine S.then_r ?_ | refine S.inBlock_n ?_ | refine S.inBlock_r ?_ | refine S.inBlock_x rfl ?_ | refine S.noGoto_r ?_ | refine S.noGoto_n ?_ | refine S.noGoto_x ?_)
        first | exact S.meet ⟨_, by first | exact q3_a hg7_3 | exact q3_b hg7_3 hg7_8 | exact q3_c hg7_3 hg7_8 (by omega), rfl, rfl⟩ ⟨rfl, rfl, rfl, rfl, trivial⟩ Sub.ent
      · refine S.g_yes rfl rfl rfl (hg7_3) (S.q (q_field Try.fo32_1 rfl) rfl rfl ?_)
        refine S.g_yes rfl rfl rfl (hg7_3) (S.q (q_load Try.at3 rfl rfl) rfl rfl ?_)
        refine S.g_yes rfl rfl rfl (hg7_3) (S.q (q_lt rfl rfl) rfl rfl ?_)
        refine S.g_op rfl (S.q (q_pickF rfl (hg7_3) rfl) rfl rfl ?_)
        refine S.g_op rfl (S.q (q_move rfl) rfl rfl ?_)
        by_cases hg7_8 : x.row < 0
        · refine S.g_no rfl rfl rfl (decide_eq_true hg7_8) rfl rfl ?_
          refine S.g_no rfl rfl rfl (decide_eq_true hg7_8) rfl rfl ?_
          refine S.g_no rfl rfl rfl (decide_eq_true hg7_8) rfl rfl ?_
          refine S.g_no rfl rfl rfl (decide_eq_true hg7_8) rfl rfl ?_
          refine S.g_no rfl rfl rfl (decide_eq_true hg7_8) rfl rfl ?_
          refine S.g_op rfl (S.q (q_pickT rfl (decide_eq_true hg7_8) rfl) rfl rfl ?_)
          first | with_reducible refine S.g_nilK ?_ | refine S.g_nil ?_
          with_reducible repeat (first | refine S.then_n ?_ | refine S.then_x ?_ | refine S.then_r ?_ | refine S.inBlock_n ?_ | refine S.inBlock_r ?_ | refine S.inBlock_x rfl ?_ | refine S.noGoto_r ?_ | refine S.noGoto_n ?_ | refine S.noGoto_x ?_)
          first | exact S.meet ⟨_, by first | exact q3_a hg7_3 | exact q3_b hg7_3 hg7_8 | exact q3_c hg7_3 hg7_8 (by omega), rfl, rfl⟩ ⟨rfl, rfl, rfl, rfl, trivial⟩ Sub.ent
        · refine S.g_yes rfl rfl rfl (decide_eq_false hg7_8) (S.q (q_field Try.fo32_1 rfl) rfl rfl ?_)
          refine S.g_yes rfl rfl rfl (decide_eq_false hg7_8) (S.q (q_load Try.at3 rfl rfl) rfl rfl ?_)
          refine S.g_yes rfl rfl rfl (decide_eq_false hg7_8) (S.q (q_move rfl) rfl rfl ?_)
          refine S.g_yes rfl rfl rfl (decide_eq_false hg7_8) (S.q (q_len Try.underlying29 rfl) rfl rfl ?_)
          refine S.g_yes rfl rfl rfl (decide_eq_false hg7_8) (S.q (q_ge rfl rfl) rfl rfl ?_)
          refine S.g_op rfl (S.q (q_pickF rfl (decide_eq_false hg7_8) rfl) rfl rfl ?_)
          first | with_reducible refine S.g_nilK ?_ | refine S.g_nil ?_
          with_reducible repeat (first | refine S.then_n ?_ | refine S.then_x ?_ | refine S.then_r ?_ | refine S.inBlock_n ?_ | refine S.inBlock_r ?_ | refine S.inBlock_x rfl ?_ | refine S.noGoto_r ?_ | refine S.noGoto_n ?_ | refine S.noGoto_x ?_)
          first | exact S.meet ⟨_, by first | exact q3_a hg7_3 | exact q3_b hg7_3 hg7_8 | exact q3_c hg7_3 hg7_8 (by omega), rfl, rfl⟩ ⟨rfl, rfl, rfl, rfl, trivial⟩ Sub.ent
    · rintro ρ' Γ' ⟨c, hc, rfl, rfl⟩
      refine hK10 _ _ ?_
      refine S.cond rfl (fun h2 => ?_) (fun h2 => ?_)
      · refine S.seq fun K11 hK11 => ?_
        refine S.region rfl ?_
        refine S.op (S.q (q_move rfl) rfl rfl ?_)
        refine S.op (S.q (q_assign rfl) rfl rfl ?_)
        first | with_reducible refine S.nilK ?_ | refine S.nil ?_
        refine hK11 _ _ ?_
        refine S.ret ?_
        with_reducible repeat (first | refine S.then_n ?_ | refine S.then_x ?_ | refine S.then_r ?_ | refine S.inBlock_n ?_ | refine S.inBlock_r ?_ | refine S.inBlock_x rfl ?_ | refine S.noGoto_r ?_ | refine S.noGoto_n ?_ | refine S.noGoto_x ?_)
        refine S.ent (Ent.prof ov rs' _) ?_
        exact S.fin (rs := [_]) (vs := [_]) Try.results18 (⟨rfl, trivial⟩)  (⟨ov, rs', rfl, by rw [hd, resR_no (fun h => by have := not_t hc h2; rw [h.1, Bool.true_and, decide_eq_true (by omega)] at this; cases this)], rfl⟩) Sub.ent
      · have hT := not_f hc h2
        rw [Bool.and_eq_true, decide_eq_true_eq] at hT
        obtain ⟨hok, hrow⟩ := hT
        obtain ⟨rn, hrn⟩ : ∃ rn : Nat, x.row = rn := ⟨x.row.toNat, by omega⟩
        obtain ⟨r0, hr0⟩ := getE (l := rs) (i := rn) (by omega)
        have hD0 : (dat rs)[rn]? = some r0.d := by rw [List.getElem?_map, hr0]; rfl
        have hfin : resR (dat rs) x len = (dat rs).set rn (setAll (addI x.at_ (max len 1)) r0.d x.nodes) := by
          rw [resR_yes hok (by omega), show x.row.toNat = rn by omega, hD0]
          rfl
        have hrd0 : r0.d.length ≤ 1000 := hrl r0 (List.mem_of_getElem? hr0)
        obtain ⟨V, hV⟩ : ∃ V, V = addI x.at_ (max len 1) := ⟨_, rfl⟩
        rw [← hV] at hfin
        refine S.skip ?_
        with_reducible repeat (first | refine S.then_n ?_ | refine S.then_x ?_ | refine S.then_r ?_ | refine S.inBlock_n ?_ | refine S.inBlock_r ?_ | refine S.inBlock_x rfl ?_ | refine S.noGoto_r ?_ | refine S.noGoto_n ?_ | refine S.noGoto_x ?_)
        refine hK9 _ _ ?_
        refine S.seq fun K12 hK12 => ?_
        refine S.seq fun K13 hK13 => ?_
        refine S.region rfl ?_
        refine S.op (S.q (q_field Try.fo32_2 rfl) rfl rfl ?_)
        refine S.op (S.q (q_load Try.at25 rfl rfl) rfl rfl ?_)
        refine S.op (S.q (q_len Try.underlying25 rfl) rfl rfl ?_)
        refine S.op (S.q (q_move rfl) rfl rfl ?_)
        first | with_reducible refine S.nilK ?_ | refine S.nil ?_
        refine hK13 _ _ ?_
        refine S.block ?_
        refine S.loop (fun m ρ' Γ' => ∃ (j : Nat) (rs2 : List RW), m + j = x.nodes.length ∧ dat rs2 = (dat rs).set rn (setAll V r0.d (x.nodes.take j)) ∧ ρ' = [(2, .int .i64 len), (4, .pointer (some ⟨b4, 0, none⟩)), (7, ov.v), (45, u.v), (46, .int .i64 u.n), (47, .int .i64 j)] ∧ Γ' = own ov 25 1 (rs2.flatMap rwC) :: alls rs2 rwB :: blk b4 32 (stC u x).toArray :: R :: Q :: Γ) (m := _) (ρ0 := _) (Γ0 := _) (⟨0, rs', rfl, by rw [hd]; exact (set_same hD0).symm, rfl, rfl⟩) (by repeat (first | exact trivial | refine ⟨rfl, ?_⟩)) Sub.ent ?_
        rintro m2 ρ' Γ' ⟨j, rs2, hmj, hdd, rfl, rfl⟩
        have hrl2 : rs2.length = rs.length := by have := congrArg List.length hdd; rw [List.length_map, List.length_set, hdl] at this; exact this
        refine S.seq fun K14 hK14 => ?_
        refine S.region rfl ?_
        refine S.op (S.q (q_lt rfl rfl) rfl rfl ?_)
        first | with_reducible refine S.nilK ?_ | refine S.nil ?_
        refine hK14 _ _ ?_
        refine S.seq fun K15 hK15 => ?_
        refine S.condD rfl (fun h3 => ?_) (fun h3 => ?_)
        · obtain ⟨nd, hnd⟩ := getE (l := x.nodes) (i := j) (by omega)
          obtain ⟨r2, hr2⟩ := getE (l := rs2) (i := rn) (by omega)
          have hd2 : r2.d = setAll V r0.d (x.nodes.take j) := by
            have h1 : (dat rs2)[rn]? = some r2.d := by rw [List.getElem?_map, hr2]; rfl
            rw [hdd, List.getElem?_set_self (by omega)] at h1
            exact (Option.some.inj h1).symm
          have hl2 : r2.d.length = r0.d.length := by rw [hd2, setAll_length]
          refine S.allsRow hr2 fun hr2n => ?_
          refine S.rSome hQ (by omega) fun bq oq hbq => ?_
          refine S.ownSome ov (by omega) fun b' off' hb' hll hlc hlm => ?_
          refine S.skip ?_
          with_reducible repeat (first | refine S.then_n ?_ | refine S.then_x ?_ | refine S.then_r ?_ | refine S.inBlock_n ?_ | refine S.inBlock_r ?_ | refine S.inBlock_x rfl ?_ | refine S.noGoto_r ?_ | refine S.noGoto_n ?_ | refine S.noGoto_x ?_)
          refine hK15 _ _ ?_
          refine S.seq fun K16 hK16 => ?_
          refine S.cut (fun ρ' Γ' => ∃ rs3 : List RW, dat rs3 = (dat rs).set rn (setAll V r0.d (x.nodes.take (j + 1))) ∧ ρ' = [(2, .int .i64 len), (4, .pointer (some ⟨b4, 0, none⟩)), (7, ov.v), (45, u.v), (46, .int .i64 u.n), (47, .int .i64 j)] ∧ Γ' = own ov 25 1 (rs3.flatMap rwC) :: alls rs3 rwB :: blk b4 32 (stC u x).toArray :: R :: Q :: Γ) ?_ ?_
          · refine S.block ?_
            refine S.seq fun K17 hK17 => ?_
            refine S.region rfl ?_
            refine S.op (S.q (q_indexO (j) Try.el25 rfl hbq rfl rfl (by omega)) rfl rfl ?_)
            refine S.op (S.q (q_loadR hQ j Try.at3 rfl hbq (by omega) (by omega) (ints_get hnd)) rfl rfl ?_)
            refine S.op (S.q (q_assign rfl) rfl rfl ?_)
            first | with_reducible refine S.nilK ?_ | refine S.nil ?_
            refine hK17 _ _ ?_
            refine S.seq fun K18 hK18 => ?_
            refine S.cut (fun ρ' Γ' => ∃ c : Bool, c = decide (0 ≤ nd ∧ nd < r2.d.length) ∧ ρ' = [(2, .int .i64 len), (4, .pointer (some ⟨b4, 0, none⟩)), (7, ov.v), (11, .int .i64 nd), (45, u.v), (46, .int .i64 u.n), (47, .int .i64 j), (62, .bool c)] ∧ Γ' = own ov 25 1 (rs2.flatMap rwC) :: alls rs2 rwB :: blk b4 32 (stC u x).toArray :: R :: Q :: Γ) ?_ ?_
            · refine S.regionG ?_
              refine S.g_op rfl (S.q (q_move rfl) rfl rfl ?_)
              refine S.g_op rfl (S.q (q_ge rfl rfl) rfl rfl ?_)
              refine S.g_op rfl (S.q (q_move rfl) rfl rfl ?_)
              by_cases hg12_2 : (0 : Int) ≤ nd
              · refine S.g_yes rfl rfl rfl (decide_eq_true hg12_2) (S.q (q_move rfl) rfl rfl ?_)
                refine S.g_yes rfl rfl rfl (decide_eq_true hg12_2) (S.q (q_move rfl) rfl rfl ?_)
                refine S.g_yes rfl rfl rfl (decide_eq_true hg12_2) (S.q (q_field Try.fo32_1 rfl) rfl rfl ?_)
                refine S.g_yes rfl rfl rfl (decide_eq_true hg12_2) (S.q (q_load Try.at3 rfl rfl) rfl rfl ?_)
                refine S.g_yes rfl rfl rfl (decide_eq_true hg12_2) (S.q (q_indexO (rn) Try.el29 rfl hb' rfl hrn (by omega)) rfl rfl ?_)
                refine S.g_yes rfl rfl rfl (decide_eq_true hg12_2) (S.q (q_loadOw (ov) (rn * 1) Try.at25 rfl hb' (by first | rfl | exact Nat.add_assoc _ _ _ | omega) (flat_get (enc := rwC) (sz := 1) (k := 0) rwC_len hr2 rfl)) rfl rfl ?_)
                refine S.g_yes rfl rfl rfl (decide_eq_true hg12_2) (S.q (q_len Try.underlying25 rfl) rfl rfl ?_)
                refine S.g_yes rfl rfl rfl (decide_eq_true hg12_2) (S.q (q_lt rfl rfl) rfl rfl ?_)
                refine S.g_op rfl (S.q (q_pickT rfl (decide_eq_true hg12_2) rfl) rfl rfl ?_)
                first | with_reducible refine S.g_nilK ?_ | refine S.g_nil ?_
                with_reducible repeat (first | refine S.then_n ?_ | refine S.then_x ?_ | refine S.then_r ?_ | refine S.inBlock_n ?_ | refine S.inBlock_r ?_ | refine S.inBlock_x rfl ?_ | refine S.noGoto_r ?_ | refine S.noGoto_n ?_ | refine S.noGoto_x ?_)
                first | exact S.meet ⟨_, by first | exact (decide_eq_false (fun h => hg12_2 h.1)).symm | (refine decide_eq_decide.2 ?_; omega), rfl, rfl⟩ ⟨rfl, rfl, rfl, rfl, rfl, rfl, rfl, rfl, trivial⟩ Sub.ent
              · refine S.g_no rfl rfl rfl (decide_eq_false hg12_2) rfl rfl ?_
                refine S.g_no rfl rfl rfl (decide_eq_false hg12_2) rfl rfl ?_
                refine S.g_no rfl rfl rfl (decide_eq_false hg12_2) rfl rfl ?_
                refine S.g_no rfl rfl rfl (decide_eq_false hg12_2) rfl rfl ?_
                refine S.g_no rfl rfl rfl (decide_eq_false hg12_2) rfl rfl ?_
                refine S.g_no rfl rfl rfl (decide_eq_false hg12_2) rfl rfl ?_
                refine S.g_no rfl rfl rfl (decide_eq_false hg12_2) rfl rfl ?_
                refine S.g_no rfl rfl rfl (decide_eq_false hg12_2) rfl rfl ?_
                refine S.g_op rfl (S.q (q_pickF rfl (decide_eq_false hg12_2) rfl) rfl rfl ?_)
                first | with_reducible refine S.g_nilK ?_ | refine S.g_nil ?_
                with_reducible repeat (first | refine S.then_n ?_ | refine S.then_x ?_ | refine S.then_r ?_ | refine S.inBlock_n ?_ | refine S.inBlock_r ?_ | refine S.inBlock_x rfl ?_ | refine S.noGoto_r ?_ | refine S.noGoto_n ?_ | refine S.noGoto_x ?_)
                first | exact S.meet ⟨_, by first | exact (decide_eq_false (fun h => hg12_2 h.1)).symm | (refine decide_eq_decide.2 ?_; omega), rfl, rfl⟩ ⟨rfl, rfl, rfl, rfl, rfl, rfl, rfl, rfl, trivial⟩ Sub.ent
            · rintro ρ' Γ' ⟨c, hc, rfl, rfl⟩
              refine hK18 _ _ ?_
              refine S.cond rfl (fun h4 => ?_) (fun h4 => ?_)
              · rw [h4] at hc
                have hin := of_decide_eq_true hc.symm
                refine S.conv (alls rs2 rwB) (Ent.allsAt rwB hr2 _) ?_
                refine S.ownSome r2.v (by omega) fun b3 off3 hb3 _ _ _ => ?_
                refine S.draw ([own ov 25 1 (rs2.flatMap rwC), own r2.v 3 1 (ints r2.d), blk b4 32 (stC u x).toArray]) [12] Try.mixed ?_
                refine S.dr_take 0 [3, 4, 11, 12] rfl (by kernel_rfl) rfl rfl rfl (q_move rfl) Sub.ent ?_
                refine S.dr_take 1 [2, 3, 4, 11, 12] rfl (by kernel_rfl) rfl rfl rfl (q_field Try.fo32_1 rfl) Sub.ent ?_
                refine S.dr_take 2 [3, 4, 11, 12] rfl (by kernel_rfl) rfl rfl rfl (q_load Try.at3 rfl rfl) Sub.ent ?_
                refine S.dr_take 3 [4, 11, 12] rfl (by kernel_rfl) rfl rfl rfl (q_indexO (rn) Try.el29 rfl hb' rfl hrn (by omega)) Sub.ent ?_
                refine S.dr_take 4 [11, 12] rfl (by kernel_rfl) rfl rfl rfl (q_loadOw (ov) (rn * 1) Try.at25 rfl hb' (by first | rfl | exact Nat.add_assoc _ _ _ | omega) (flat_get (enc := rwC) (sz := 1) (k := 0) rwC_len hr2 rfl)) Sub.ent ?_
                refine S.dr_take 5 [11, 12] rfl (by kernel_rfl) rfl rfl rfl (q_move rfl) Sub.ent ?_
                refine S.dr_take 6 [7, 10, 11, 12] rfl (by kernel_rfl) rfl rfl rfl (q_field Try.fo32_0 rfl) Sub.ent ?_
                refine S.dr_take 7 [10, 11, 12] rfl (by kernel_rfl) rfl rfl rfl (q_load Try.at3 rfl rfl) Sub.ent ?_
                refine S.dr_take 8 [9, 10, 11, 12] rfl (by kernel_rfl) rfl rfl rfl (q_move rfl) Sub.ent ?_
                refine S.dr_take 9 [10, 11, 12] rfl (by kernel_rfl) rfl rfl rfl (q_max (max len 1) rfl rfl (by omega)) Sub.ent ?_
                refine S.dr_1 (i := 10) (by kernel_rfl) rfl rfl ?_
                refine  (S.callP Try.en30 (vs := [_, _]) ⟨rfl, rfl, trivial⟩ (fun w hs => cAdd_P x.at_ (max len 1) w) rfl ?_)
                refine S.dr_k rfl Sub.ent ?_
                refine S.dr_take 11 [12] rfl (by kernel_rfl) rfl rfl rfl (q_indexO (nd.toNat) Try.el25 rfl hb3 rfl (by omega) (by omega)) Sub.ent ?_
                refine S.dr_1 (i := 12) (by kernel_rfl) rfl rfl ?_
                refine  (S.storeOw (r2.v) (nd.toNat * 1) Try.at3 rfl rfl rfl hb3 (by first | rfl | exact Nat.add_assoc _ _ _ | omega) (by rw [List.length_map]; omega) (by rw [Nat.mul_one, ints_set, ← hV]) ?_)
                refine S.dr_late ([]) [] rfl ?_
                first | with_reducible refine S.dr_doneK (by kernel_rfl) ?_ | refine S.dr_done (by kernel_rfl) ?_
                with_reducible repeat (first | refine S.then_n ?_ | refine S.then_x ?_ | refine S.then_r ?_ | refine S.inBlock_n ?_ | refine S.inBlock_r ?_ | refine S.inBlock_x rfl ?_ | refine S.noGoto_r ?_ | refine S.noGoto_n ?_ | refine S.noGoto_x ?_)
                with_reducible repeat (first | refine S.then_n ?_ | refine S.then_x ?_ | refine S.then_r ?_ | refine S.inBlock_n ?_ | refine S.inBlock_r ?_ | refine S.inBlock_x rfl ?_ | refine S.noGoto_r ?_ | refine S.noGoto_n ?_ | refine S.noGoto_x ?_)
                first
                | exact S.meet ⟨rs2, by rw [setAll_take hnd, setN_no (by rw [← hd2]; exact hno)]; exact hdd, rfl, rfl⟩ ⟨rfl, rfl, rfl, rfl, rfl, rfl, trivial⟩ Sub.ent
                | (refine S.conv3 (own r2.v 3 1 (ints (r2.d.set nd.toNat V))) (alls (rs2.take rn) rwB) (alls (rs2.drop (rn + 1)) rwB) (Ent.allsBack rwB (x' := ⟨r2.v, r2.d.set nd.toNat V⟩) hr2 _) ?_; rw [← rwC_set hr2 (r2.d.set nd.toNat V)]; exact S.meet ⟨rs2.set rn ⟨r2.v, r2.d.set nd.toNat V⟩, by rw [dat_set, hdd, List.set_set, setAll_take hnd, setN_yes (by rw [← hd2]; exact hin), hd2], rfl, rfl⟩ ⟨rfl, rfl, rfl, rfl, rfl, rfl, trivial⟩ Sub.ent)
              · rw [h4] at hc
                have hno := of_decide_eq_false hc.symm
                refine S.skip ?_
                with_reducible repeat (first | refine S.then_n ?_ | refine S.then_x ?_ | refine S.then_r ?_ | refine S.inBlock_n ?_ | refine S.inBlock_r ?_ | refine S.inBlock_x rfl ?_ | refine S.noGoto_r ?_ | refine S.noGoto_n ?_ | refine S.noGoto_x ?_)
                with_reducible repeat (first | refine S.then_n ?_ | refine S.then_x ?_ | refine S.then_r ?_ | refine S.inBlock_n ?_ | refine S.inBlock_r ?_ | refine S.inBlock_x rfl ?_ | refine S.noGoto_r ?_ | refine S.noGoto_n ?_ | refine S.noGoto_x ?_)
                with_reducible repeat (first | refine S.then_n ?_ | refine S.then_x ?_ | refine S.then_r ?_ | refine S.inBlock_n ?_ | refine S.inBlock_r ?_ | refine S.inBlock_x rfl ?_ | refine S.noGoto_r ?_ | refine S.noGoto_n ?_ | refine S.noGoto_x ?_)
                first
                | exact S.meet ⟨rs2, by rw [setAll_take hnd, setN_no (by rw [← hd2]; exact hno)]; exact hdd, rfl, rfl⟩ ⟨rfl, rfl, rfl, rfl, rfl, rfl, trivial⟩ Sub.ent
                | (refine S.conv3 (own r2.v 3 1 (ints (r2.d.set nd.toNat V))) (alls (rs2.take rn) rwB) (alls (rs2.drop (rn + 1)) rwB) (Ent.allsBack rwB (x' := ⟨r2.v, r2.d.set nd.toNat V⟩) hr2 _) ?_; rw [← rwC_set hr2 (r2.d.set nd.toNat V)]; exact S.meet ⟨rs2.set rn ⟨r2.v, r2.d.set nd.toNat V⟩, by rw [dat_set, hdd, List.set_set, setAll_take hnd, setN_yes (by rw [← hd2]; exact hin), hd2], rfl, rfl⟩ ⟨rfl, rfl, rfl, rfl, rfl, rfl, trivial⟩ Sub.ent)
          · rintro ρ' Γ' ⟨rs3, hd3, rfl, rfl⟩
            refine hK16 _ _ ?_
            refine S.region rfl ?_
            refine S.op (S.q (q_add rfl rfl (inI64 (by omega) (by omega))) rfl rfl ?_)
            refine S.op (S.q (q_move rfl) rfl rfl ?_)
            first | with_reducible refine S.nilK ?_ | refine S.nil ?_
            with_reducible repeat (first | refine S.then_n ?_ | refine S.then_x ?_ | refine S.then_r ?_ | refine S.inBlock_n ?_ | refine S.inBlock_r ?_ | refine S.inBlock_x rfl ?_ | refine S.noGoto_r ?_ | refine S.noGoto_n ?_ | refine S.noGoto_x ?_)
            exact S.next (m2 - 1) (⟨j + 1, rs3, by omega, hd3, rfl, rfl⟩) (by omega) (by repeat (first | exact trivial | refine ⟨rfl, ?_⟩)) Sub.ent
        · rw [List.take_of_length_le (by omega)] at hdd
          refine S.conv2 (own ov 25 1 (rs2.flatMap rwC)) (alls rs2 rwB) (Ent.prof ov rs2 _) ?_
          refine S.exit ?_
          with_reducible repeat (first | refine S.then_n ?_ | refine S.then_x ?_ | refine S.then_r ?_ | refine S.inBlock_n ?_ | refine S.inBlock_r ?_ | refine S.inBlock_x rfl ?_ | refine S.noGoto_r ?_ | refine S.noGoto_n ?_ | refine S.noGoto_x ?_)
          with_reducible refine S.inBlock_s ?_
          with_reducible repeat (first | refine S.then_n ?_ | refine S.then_x ?_ | refine S.then_r ?_ | refine S.inBlock_n ?_ | refine S.inBlock_r ?_ | refine S.inBlock_x rfl ?_ | refine S.noGoto_r ?_ | refine S.noGoto_n ?_ | refine S.noGoto_x ?_)
          refine hK12 _ _ ?_
          refine S.seq fun K19 hK19 => ?_
          refine S.region rfl ?_
          refine S.op (S.q (q_move rfl) rfl rfl ?_)
          refine S.op (S.q (q_assign rfl) rfl rfl ?_)
          first | with_reducible refine S.nilK ?_ | refine S.nil ?_
          refine hK19 _ _ ?_
          refine S.ret ?_
          with_reducible repeat (first | refine S.then_n ?_ | refine S.then_x ?_ | refine S.then_r ?_ | refine S.inBlock_n ?_ | refine S.inBlock_r ?_ | refine S.inBlock_x rfl ?_ | refine S.noGoto_r ?_ | refine S.noGoto_n ?_ | refine S.noGoto_x ?_)
          exact S.fin (rs := [_]) (vs := [_]) Try.results18 (⟨rfl, trivial⟩)  (⟨ov, rs2, rfl, by rw [hfin, hdd], rfl⟩) Sub.ent
end Go.Proofs.Ytknpddiffellgaa
