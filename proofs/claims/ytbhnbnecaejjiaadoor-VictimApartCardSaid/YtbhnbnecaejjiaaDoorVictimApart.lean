/- VictimApart: who isn't of the row that was chosen stays; the order of the telling is nothing. -/
import Derived.Test.YtbhnbnecaejjiaaDoorVicF
namespace Go.Proofs.YtbhnbnecaejjiaaDoor
open Go.RowKit
set_option maxRecDepth 20000
/-- Is a candidate one of those? -/
def lesB (m : Mx) (row tier : Int) (x : Cd) : Bool := (ofR m x.1).2.2 && decide ((ofR m x.1).1 = row) && decide (x.2 < tier)
theorem lesUp_filter {m : Mx} {row tier : Int} {l : List Cd} (h : (l.map (·.1)).Nodup) : ∀ i, i ≤ l.length → lesUp m row tier l i = (l.take i).filter (lesB m row tier)
  | 0, _ => rfl
  | i + 1, hi => by
    have hx := List.getElem?_eq_getElem (show i < l.length by omega)
    have hg : l.getD i (0, 0) = l[i] := by simp [List.getD, hx]
    have hn : ¬ (l.getD i (0, 0)).1 ∈ (l.take i).map (·.1) := fun hm => by
      rw [hg] at hm
      obtain ⟨y, hy, e⟩ := List.mem_map.1 hm
      obtain ⟨j, hj, e2⟩ := List.mem_take_iff_getElem.1 hy
      have h1 := List.pairwise_iff_getElem.1 h j i (by rw [List.length_map]; omega) (by rw [List.length_map]; omega) (by omega)
      rw [List.getElem_map, List.getElem_map, e2] at h1
      exact h1 e
    rw [lesUp, if_neg hn, lesUp_filter h i (by omega), List.take_add_one, hx, List.filter_append, hg]
    show (if lesB m row tier l[i] = true then _ else _) = _
    cases hb : lesB m row tier l[i] <;> simp [hb]
theorem srtC_sorted (l : List Cd) : (srtC l).Pairwise (fun a b => bfC b a = false) := by
  have hs2 : (srtC l).Pairwise (fun a b => (!bfC b a) = true) := List.pairwise_mergeSort (fun a b c h1 h2 => by
      simp only [bfC, Bool.not_eq_true', decide_eq_false_iff_not] at *
      omega) (fun a b => by
      simp only [bfC, Bool.or_eq_true, Bool.not_eq_true', decide_eq_false_iff_not]
      omega) l
  exact hs2.imp fun h => by simpa using h
theorem lesR_reverse {m : Mx} {row tier : Int} {l : List Cd} (h : (l.map (·.1)).Nodup) : lesR m row tier l.reverse = lesR m row tier l := by
  have h2 : (l.reverse.map (·.1)).Nodup := by rw [List.map_reverse]; exact (List.reverse_perm _).nodup_iff.2 h
  unfold lesR
  rw [lesUp_filter h2 _ (Nat.le_refl _), lesUp_filter h _ (Nat.le_refl _), List.take_length, List.take_length, List.filter_reverse]
  have hnd : (l.filter (lesB m row tier)).Pairwise (fun a b => a.1 ≠ b.1) := (List.pairwise_map.1 h).filter _
  exact srtC_eq hnd ((srtC_perm _).trans (List.reverse_perm _)) (srtC_sorted _)
theorem choR_reverse {m : Mx} {tier k : Int} {l : List Cd} (h : (l.map (·.1)).Nodup) : choR m tier k l.reverse = choR m tier k l := by
  have hv : ∀ row, ofV m row tier k l.reverse = ofV m row tier k l := fun row => by unfold ofV; rw [lesR_reverse h]
  have hc : ∀ i, chUp m tier k l.reverse i = chUp m tier k l i := fun i => by
    induction i with
    | zero => rfl
    | succ i ih => rw [chUp, chUp, ih, hv]
  exact hc m.R
theorem cdUp_rise (l : List Vd) : ∀ i, (∀ x ∈ cdUp l i, x.1 ≤ i) ∧ ((cdUp l i).map (·.1)).Pairwise (· < ·)
  | 0 => ⟨fun x hx => (by cases hx), List.Pairwise.nil⟩
  | i + 1 => by
    obtain ⟨h1, h2⟩ := cdUp_rise l i
    rw [cdUp]
    split
    · exact ⟨fun x hx => by have := h1 x hx; omega, h2⟩
    · refine ⟨fun x hx => ?_, ?_⟩
      · rcases List.mem_append.1 hx with h | h
        · have := h1 x h; omega
        · rw [List.mem_singleton] at h; rw [h]; exact Nat.le_refl _
      · rw [List.map_append]
        refine List.pairwise_append.2 ⟨h2, List.pairwise_singleton _ _, fun a ha b hb => ?_⟩
        obtain ⟨x, hx, rfl⟩ := List.mem_map.1 ha
        simp only [List.map_cons, List.map_nil, List.mem_singleton] at hb
        have := h1 x hx
        omega
theorem cdUp_job (l : List Vd) (i : Nat) : ((cdUp l i).map (·.1)).Nodup := (cdUp_rise l i).2.imp fun h => Nat.ne_of_lt h
theorem lesUp_test {m : Mx} {row tier : Int} {l : List Cd} {x : Cd} : ∀ {i : Nat}, x ∈ lesUp m row tier l i → lesB m row tier x = true
  | 0, h => by cases h
  | i + 1, h => by
    rw [lesUp] at h
    split at h
    · exact lesUp_test h
    · split at h
      · rename_i hb
        rcases List.mem_append.1 h with h | h
        · exact lesUp_test h
        · rw [List.mem_singleton] at h
          rw [h]
          exact hb
      · exact lesUp_test h
theorem ofV_test {m : Mx} {row tier k : Int} {l v : List Cd} (h : ofV m row tier k l = (v, true)) {x : Cd} (hx : x ∈ v) : (ofR m x.1).2.2 = true ∧ (ofR m x.1).1 = row ∧ x.2 < tier := by
  obtain ⟨i, h1, _⟩ := ofV_true h
  rw [h1] at hx
  have h2 := lesUp_test ((srtC_perm _).mem_iff.1 (List.mem_of_mem_take hx))
  rw [lesB, Bool.and_eq_true, Bool.and_eq_true, decide_eq_true_eq, decide_eq_true_eq] at h2
  exact ⟨h2.1.1, h2.1.2, h2.2⟩
theorem take_rev {α : Type} {l : List α} {i : Nat} {x : α} (h : l[i]? = some x) : (l.drop i).reverse = (l.drop (i + 1)).reverse ++ [x] := by
  have hi := (List.getElem?_eq_some_iff.1 h)
  rw [List.drop_eq_getElem_cons hi.1, List.reverse_cons, hi.2]
set_option maxHeartbeats 1000000 in
theorem VictimApart_S (r n t k : Int) (d : Bs) (l : List Vd) (s : SV) (hr : 0 ≤ r ∧ r ≤ 255) (hn : 0 ≤ n ∧ n ≤ 255) (hk : 0 ≤ k ∧ k ≤ 255) {W : World} (hW : TabW W) (hs : VW W s l) : LawS 9 [.int .u8 r, .int .u8 n, s.v, bsv d, .int .u8 t, .int .u8 k] W := by
  refine Spec.of_body Tryd.func9 rfl Tryd.ntmps9 rfl ?_
  intro w0 Γ
  show S _ w0 [(0, .int .u8 r), (1, .int .u8 n), (2, s.v), (3, bsv d), (4, .int .u8 t), (5, .int .u8 k)] (old W :: Γ) _
  obtain ⟨m, hm⟩ : ∃ m, m = bldR r n l d := ⟨_, rfl⟩
  obtain ⟨ask, hask⟩ : ∃ ask, ask = 1 + k % 16 := ⟨_, rfl⟩
  obtain ⟨cl, hcl⟩ : ∃ cl, cl = cdR l := ⟨_, rfl⟩
  have hcl40 : cl.length ≤ 40 := by rw [hcl, cdR]; have := cdUp_len l (min l.length 40); omega
  have hct : ∀ x ∈ cl, 0 ≤ x.2 ∧ x.2 ≤ 255 := by rw [hcl]; exact cdUp_tier hs.rng _ (by omega)
  have hjob : (cl.map (·.1)).Nodup := by rw [hcl]; exact cdUp_job _ _
  obtain ⟨best, row, found, hch⟩ : ∃ best row found, choR m t ask cl = (best, row, found) := ⟨_, _, _, rfl⟩
  have hrev : choR m t ask cl.reverse = (best, row, found) := by rw [choR_reverse hjob, hch]
  have hch2 : chUp m t ask cl m.R = (best, row, found) := hch
  have hbest : ∀ x ∈ best, (ofR m x.1).2.2 = true ∧ (ofR m x.1).1 = row := fun x hx => by
    obtain ⟨i1, i2⟩ := chUp_inv m t ask cl m.R
    rw [hch2] at i1 i2
    simp only at i1 i2
    cases hf : found with
    | false => rw [(i2 hf).1] at hx; cases hx
    | true =>
      have h9 := ofV_test (i1 hf).2 hx
      exact ⟨h9.1, h9.2.1⟩
  have hbl : best.length ≤ 1000 := by
    obtain ⟨i1, i2⟩ := chUp_inv m t ask cl m.R
    rw [hch2] at i1 i2
    simp only at i1 i2
    cases hf : found with
    | false => rw [(i2 hf).1]; simp
    | true =>
      have h9 := ofV_len m (row : Nat) t ask cl
      rw [(i1 hf).2] at h9
      have h9 : best.length ≤ cl.length := h9
      omega
  refine S.seq fun K1 hK1 => ?_
  refine S.region rfl ?_
  refine S.op (S.q (q_assign rfl) rfl rfl ?_)
  first | with_reducible refine S.nilK ?_ | refine S.nil ?_
  refine hK1 _ _ ?_
  refine S.seq fun K2 hK2 => ?_
  refine S.seq fun K3 hK3 => ?_
  refine S.region rfl ?_
  refine S.op (S.call Tryd.en31 (vs := []) trivial (awake_S hW) rfl ?_)
  rintro v Θ ⟨rfl, rfl⟩
  refine S.op (S.q (q_not rfl) rfl rfl ?_)
  first | with_reducible refine S.nilK ?_ | refine S.nil ?_
  refine hK3 _ _ ?_
  refine S.condF rfl ?_
  refine S.skip ?_
  with_reducible repeat (first | refine S.then_n ?_ | refine S.then_x ?_ | refine S.then_r ?_ | refine S.inBlock_n ?_ | refine S.inBlock_r ?_ | refine S.inBlock_x rfl ?_ | refine S.noGoto_r ?_ | refine S.noGoto_n ?_ | refine S.noGoto_x ?_)
  refine hK2 _ _ ?_
  refine S.seq fun K4 hK4 => ?_
  refine S.region rfl ?_
  refine S.op (S.q (q_move rfl) rfl rfl ?_)
  refine S.op (S.q (q_move rfl) rfl rfl ?_)
  refine S.op (S.q (q_move rfl) rfl rfl ?_)
  refine S.op (S.q (q_move rfl) rfl rfl ?_)
  refine S.op (S.call Tryd.en32 (vs := [_, _, _, _]) ⟨rfl, rfl, rfl, rfl, trivial⟩ (build_S r n l d s hr hn hs) rfl ?_)
  rintro v Θ ⟨b, c, p, q, rfl, hp, hq, rfl⟩
  rw [← hm, ← hcl] at *
  refine S.op (S.q (q_move rfl) rfl rfl ?_)
  refine S.op (S.q (q_extract rfl rfl) rfl rfl ?_)
  refine S.op (S.q (q_extract rfl rfl) rfl rfl ?_)
  refine S.op (S.q (q_extract rfl rfl) rfl rfl ?_)
  refine S.op (S.q (q_extract rfl rfl) rfl rfl ?_)
  refine S.op (S.q (q_assign rfl) rfl rfl ?_)
  refine S.op (S.q (q_assign rfl) rfl rfl ?_)
  refine S.op (S.q (q_assign rfl) rfl rfl ?_)
  refine S.op (S.q (q_assign rfl) rfl rfl ?_)
  first | with_reducible refine S.nilK ?_ | refine S.nil ?_
  refine hK4 _ _ ?_
  refine S.seq fun K5 hK5 => ?_
  refine S.region rfl ?_
  refine S.op (S.q (q_move rfl) rfl rfl ?_)
  refine S.op (S.q (q_rem rfl rfl (⟨by omega, by omega⟩)) rfl rfl ?_)
  refine S.op (S.q (q_conv Tryd.it3 (by rw [Tryd.underlying5]; rfl) rfl (inI64 (by omega) (by omega))) rfl rfl ?_)
  refine S.op (S.q (q_add rfl rfl (inI64 (by omega) (by omega))) rfl rfl ?_)
  refine S.op (S.q (q_assign rfl) rfl rfl ?_)
  first | with_reducible refine S.nilK ?_ | refine S.nil ?_
  refine hK5 _ _ ?_
  refine S.seq fun K6 hK6 => ?_
  refine S.region rfl ?_
  rw [← hask]
  refine S.op (S.q (q_move rfl) rfl rfl ?_)
  refine S.op (S.q (q_move rfl) rfl rfl ?_)
  refine S.op (S.q (q_move rfl) rfl rfl ?_)
  refine S.op (S.q (q_move rfl) rfl rfl ?_)
  refine S.op (S.call Tryd.en34 (vs := [_, _, _, _]) ⟨rfl, rfl, rfl, rfl, trivial⟩ (Choose_S b m t ask (own p 75 2 (cl.flatMap cdC)) p cl hp (by omega) hct RdS.own hW) rfl ?_)
  rintro v Θ ⟨u, rfl, hu, rfl⟩
  rw [hch] at hu ⊢
  simp only at hu ⊢
  refine S.op (S.q (q_move rfl) rfl rfl ?_)
  refine S.op (S.q (q_extract rfl rfl) rfl rfl ?_)
  refine S.op (S.q (q_extract rfl rfl) rfl rfl ?_)
  refine S.op (S.alloc Tryd.z70 rfl ?_)
  intro b18
  refine S.op (S.storeS (cs' := [_, _]) Tryd.ag70 rfl rfl rfl rfl rfl rfl ?_)
  refine S.op (S.q (q_assign rfl) rfl rfl ?_)
  first | with_reducible refine S.nilK ?_ | refine S.nil ?_
  refine hK6 _ _ ?_
  refine S.seq fun K7 hK7 => ?_
  refine S.region rfl ?_
  refine S.op (S.q (q_assign rfl) rfl rfl ?_)
  first | with_reducible refine S.nilK ?_ | refine S.nil ?_
  refine hK7 _ _ ?_
  refine S.seq fun K8 hK8 => ?_
  refine S.seq fun K9 hK9 => ?_
  refine S.region rfl ?_
  refine S.ent (Ent.ownNil 75 2) ?_
  show S _ w0 _ (own SV.nil 75 2 (([] : List Cd).flatMap cdC) :: _) _
  refine S.op (S.q (q_move rfl) rfl rfl ?_)
  refine S.op (S.q (q_len Tryd.underlying64 rfl) rfl rfl ?_)
  refine S.op (S.q (q_sub rfl rfl (inI64 (by omega) (by omega))) rfl rfl ?_)
  refine S.op (S.q (q_assign rfl) rfl rfl ?_)
  first | with_reducible refine S.nilK ?_ | refine S.nil ?_
  refine hK9 _ _ ?_
  refine S.block ?_
  refine S.loop (fun q ρ' Γ' => ∃ (i : Nat) (z : Int) (tl : List Cd) (tv : SV), q = i ∧ i ≤ cl.length ∧ z = (i : Int) - 1 ∧ tl = (cl.drop i).reverse ∧ tv.n = tl.length ∧ ρ' = [(4, .int .u8 t), (13, .pointer (some ⟨b, 0, none⟩)), (15, p.v), (17, .int .i64 ask), (18, .pointer (some ⟨b18, 0, none⟩)), (19, .bool found), (20, tv.v), (21, .int .i64 z)] ∧   Γ' = own tv 75 2 (tl.flatMap cdC) :: own p 75 2 (cl.flatMap cdC) :: blk b18 70 #[.int .i64 (row : Int), u.v] :: own u 36 1 (idsV (jobsR best)) :: MI b m :: old W :: Γ) (m := _) (ρ0 := _) (Γ0 := _) (⟨cl.length, (p.n : Int) - 1, [], SV.nil, rfl, Nat.le_refl _, by rw [hp], by rw [List.drop_length]; rfl, rfl, rfl, rfl⟩) (by repeat (first | exact trivial | refine ⟨rfl, ?_⟩)) Sub.ent ?_
  rintro q' ρ' Γ' ⟨i, z, tl, tv, hq', hi, hz, htl, htv, rfl, rfl⟩
  have htll : tl.length = cl.length - i := by rw [htl, List.length_reverse, List.length_drop]
  refine S.seq fun K10 hK10 => ?_
  refine S.seq fun K11 hK11 => ?_
  refine S.region rfl ?_
  refine S.op (S.q (q_move rfl) rfl rfl ?_)
  refine S.op (S.q (q_ge rfl rfl) rfl rfl ?_)
  first | with_reducible refine S.nilK ?_ | refine S.nil ?_
  refine hK11 _ _ ?_
  refine S.condD rfl (fun h2 => ?_) (fun h2 => ?_)
  · refine S.ownSome p (by omega) fun pb po hpa _ _ _ => ?_
    obtain ⟨x, hx⟩ := getE (show i - 1 < cl.length by omega)
    have hnx : tl ++ [x] = (cl.drop (i - 1)).reverse := by rw [take_rev hx, show i - 1 + 1 = i by omega, htl]
    refine S.skip ?_
    with_reducible repeat (first | refine S.then_n ?_ | refine S.then_x ?_ | refine S.then_r ?_ | refine S.inBlock_n ?_ | refine S.inBlock_r ?_ | refine S.inBlock_x rfl ?_ | refine S.noGoto_r ?_ | refine S.noGoto_n ?_ | refine S.noGoto_x ?_)
    refine hK10 _ _ ?_
    refine S.seq fun K12 hK12 => ?_
    refine S.block ?_
    refine S.region rfl ?_
    refine S.op (S.q (q_move rfl) rfl rfl ?_)
    refine S.op (S.q (q_move rfl) rfl rfl ?_)
    refine S.op (S.q (q_move rfl) rfl rfl ?_)
    refine S.op (S.q (q_indexO (i - 1) Tryd.el64 rfl hpa rfl (by omega) (by omega)) rfl rfl ?_)
    refine S.op (S.q (q_loadOwS (p) ((i - 1) * 2) [_, _] Tryd.ag75 rfl hpa (by first | rfl | exact Nat.add_assoc _ _ _ | omega) rfl (flat_seg (enc := cdC) (sz := 2) (fun _ => rfl) hx)) rfl rfl ?_)
    refine S.op (S.buildSlice (pvs := [(_, _)]) [_, _] Tryd.underlying64 Tryd.inf75 rfl rfl ⟨⟨rfl, rfl⟩, trivial⟩ rfl rfl ?_)
    intro b65
    refine S.op (S.appendOw (s := tv) (1) (cdC x) Tryd.underlying64 Tryd.inf75 rfl rfl rfl (blk_slAt (b := b65) rfl (by unfold maxLen; omega)) (by first | rfl | exact allOne_bcells _) (⟨by omega, by omega⟩) rfl ?_)
    intro tv2 htv2
    refine S.op (S.q (q_assign rfl) rfl rfl ?_)
    first | with_reducible refine S.nilK ?_ | refine S.nil ?_
    with_reducible repeat (first | refine S.then_n ?_ | refine S.then_x ?_ | refine S.then_r ?_ | refine S.inBlock_n ?_ | refine S.inBlock_r ?_ | refine S.inBlock_x rfl ?_ | refine S.noGoto_r ?_ | refine S.noGoto_n ?_ | refine S.noGoto_x ?_)
    refine hK12 _ _ ?_
    refine S.region rfl ?_
    refine S.op (S.q (q_move rfl) rfl rfl ?_)
    refine S.op (S.q (q_sub rfl rfl (inI64 (by omega) (by omega))) rfl rfl ?_)
    refine S.op (S.q (q_assign rfl) rfl rfl ?_)
    first | with_reducible refine S.nilK ?_ | refine S.nil ?_
    with_reducible repeat (first | refine S.then_n ?_ | refine S.then_x ?_ | refine S.then_r ?_ | refine S.inBlock_n ?_ | refine S.inBlock_r ?_ | refine S.inBlock_x rfl ?_ | refine S.noGoto_r ?_ | refine S.noGoto_n ?_ | refine S.noGoto_x ?_)
    rw [flat_snoc cdC tl x]
    exact S.next (q' - 1) (⟨i - 1, z - 1, tl ++ [x], tv2, by omega, by omega, by omega, hnx, by rw [List.length_append, List.length_singleton]; omega, rfl, rfl⟩) (by omega) (by repeat (first | exact trivial | refine ⟨rfl, ?_⟩)) Sub.ent
  · have hi0 : i = 0 := by omega
    rw [hi0, List.drop_zero] at htl
    have htct : ∀ x ∈ cl.reverse, 0 ≤ x.2 ∧ x.2 ≤ 255 := fun x hx => hct x (List.mem_reverse.1 hx)
    rw [htl] at htv ⊢
    refine S.exit ?_
    with_reducible repeat (first | refine S.then_n ?_ | refine S.then_x ?_ | refine S.then_r ?_ | refine S.inBlock_n ?_ | refine S.inBlock_r ?_ | refine S.inBlock_x rfl ?_ | refine S.noGoto_r ?_ | refine S.noGoto_n ?_ | refine S.noGoto_x ?_)
    with_reducible refine S.inBlock_s ?_
    with_reducible repeat (first | refine S.then_n ?_ | refine S.then_x ?_ | refine S.then_r ?_ | refine S.inBlock_n ?_ | refine S.inBlock_r ?_ | refine S.inBlock_x rfl ?_ | refine S.noGoto_r ?_ | refine S.noGoto_n ?_ | refine S.noGoto_x ?_)
    refine hK8 _ _ ?_
    refine S.seq fun K13 hK13 => ?_
    refine S.region rfl ?_
    refine S.op (S.q (q_move rfl) rfl rfl ?_)
    refine S.op (S.q (q_move rfl) rfl rfl ?_)
    refine S.op (S.q (q_move rfl) rfl rfl ?_)
    refine S.op (S.q (q_move rfl) rfl rfl ?_)
    refine S.op (S.call Tryd.en34 (vs := [_, _, _, _]) ⟨rfl, rfl, rfl, rfl, trivial⟩ (Choose_S b m t ask (own tv 75 2 (cl.reverse.flatMap cdC)) tv cl.reverse htv (by rw [List.length_reverse]; omega) htct RdS.own hW) rfl ?_)
    rintro v Θ ⟨u2, rfl, hu2, rfl⟩
    rw [hrev] at hu2 ⊢
    simp only at hu2 ⊢
    refine S.op (S.q (q_move rfl) rfl rfl ?_)
    refine S.op (S.q (q_extract rfl rfl) rfl rfl ?_)
    refine S.op (S.q (q_extract rfl rfl) rfl rfl ?_)
    refine S.op (S.alloc Tryd.z70 rfl ?_)
    intro b22
    refine S.op (S.storeS (cs' := [_, _]) Tryd.ag70 rfl rfl rfl rfl rfl rfl ?_)
    refine S.op (S.q (q_assign rfl) rfl rfl ?_)
    first | with_reducible refine S.nilK ?_ | refine S.nil ?_
    refine hK13 _ _ ?_
    refine S.seq fun K14 hK14 => ?_
    refine S.seq fun K15 hK15 => ?_
    refine S.region rfl ?_
    refine S.op (S.q (q_field Tryd.fo70_1 rfl) rfl rfl ?_)
    refine S.op (S.q (q_load Tryd.at34 rfl rfl) rfl rfl ?_)
    refine S.op (S.q (q_len Tryd.underlying34 rfl) rfl rfl ?_)
    refine S.ownLen u fun hul1 hul2 hul3 => ?_
    refine S.op (S.q (q_move rfl) rfl rfl ?_)
    first | with_reducible refine S.nilK ?_ | refine S.nil ?_
    refine hK15 _ _ ?_
    refine S.block ?_
    refine S.loop (fun q ρ' Γ' => ∃ i : Nat, q = best.length - i ∧ i ≤ best.length ∧ ρ' = [(13, .pointer (some ⟨b, 0, none⟩)), (18, .pointer (some ⟨b18, 0, none⟩)), (19, .bool found), (22, .pointer (some ⟨b22, 0, none⟩)), (23, .bool found), (76, u.v), (77, .int .i64 u.n), (78, .int .i64 (i : Int))] ∧   Γ' = own u2 36 1 (idsV (jobsR best)) :: blk b22 70 #[.int .i64 (row : Int), u2.v] :: blk b18 70 #[.int .i64 (row : Int), u.v] :: own u 36 1 (idsV (jobsR best)) :: MI b m :: old W :: Γ) (m := _) (ρ0 := _) (Γ0 := _) (⟨0, rfl, by omega, rfl, rfl⟩) (by repeat (first | exact trivial | refine ⟨rfl, ?_⟩)) Sub.ent ?_
    rintro q' ρ' Γ' ⟨i, hq', hi, rfl, rfl⟩
    refine S.seq fun K16 hK16 => ?_
    refine S.region rfl ?_
    refine S.op (S.q (q_lt rfl rfl) rfl rfl ?_)
    first | with_reducible refine S.nilK ?_ | refine S.nil ?_
    refine hK16 _ _ ?_
    refine S.seq fun K17 hK17 => ?_
    refine S.condD rfl (fun h3 => ?_) (fun h3 => ?_)
    · refine S.ownSome u (by omega) fun ub uo hua _ _ _ => ?_
      obtain ⟨x, hx⟩ := getE (show i < best.length by omega)
      obtain ⟨o1, o2⟩ := hbest x (List.mem_of_getElem? hx)
      refine S.skip ?_
      with_reducible repeat (first | refine S.then_n ?_ | refine S.then_x ?_ | refine S.then_r ?_ | refine S.inBlock_n ?_ | refine S.inBlock_r ?_ | refine S.inBlock_x rfl ?_ | refine S.noGoto_r ?_ | refine S.noGoto_n ?_ | refine S.noGoto_x ?_)
      refine hK17 _ _ ?_
      refine S.seq fun K18 hK18 => ?_
      refine S.block ?_
      refine S.seq fun K19 hK19 => ?_
      refine S.region rfl ?_
      refine S.op (S.q (q_indexO (i) Tryd.el34 rfl hua rfl rfl (by omega)) rfl rfl ?_)
      refine S.op (S.q (q_loadOw (u) (i) Tryd.at36 rfl hua (by first | rfl | exact Nat.add_assoc _ _ _ | omega) (idsV_get (by rw [List.getElem?_map, hx]; rfl))) rfl rfl ?_)
      refine S.op (S.q (q_assign rfl) rfl rfl ?_)
      first | with_reducible refine S.nilK ?_ | refine S.nil ?_
      refine hK19 _ _ ?_
      refine S.seq fun K20 hK20 => ?_
      refine S.region rfl ?_
      refine S.op (S.q (q_move rfl) rfl rfl ?_)
      refine S.op (S.q (q_move rfl) rfl rfl ?_)
      refine S.op (S.call Tryd.en27 (vs := [_, _]) ⟨rfl, rfl, trivial⟩ (Of_S b m x.1 hW) rfl ?_)
      rintro v Θ ⟨sv, rfl, _, rfl⟩
      rw [o1, o2]
      refine S.op (S.q (q_move rfl) rfl rfl ?_)
      refine S.op (S.q (q_extract rfl rfl) rfl rfl ?_)
      refine S.op (S.q (q_extract rfl rfl) rfl rfl ?_)
      refine S.op (S.q (q_extract rfl rfl) rfl rfl ?_)
      refine S.op (S.q (q_assign rfl) rfl rfl ?_)
      refine S.op (S.q (q_assign rfl) rfl rfl ?_)
      refine S.op (S.q (q_assign rfl) rfl rfl ?_)
      first | with_reducible refine S.nilK ?_ | refine S.nil ?_
      refine hK20 _ _ ?_
      refine S.seq fun K21 hK21 => ?_
      refine S.regionG ?_
      refine S.g_op rfl (S.q (q_move rfl) rfl rfl ?_)
      refine S.g_op rfl (S.q (q_not rfl) rfl rfl ?_)
      refine S.g_op rfl (S.q (q_move rfl) rfl rfl ?_)
      refine S.g_yes rfl rfl rfl (rfl) (S.q (q_move rfl) rfl rfl ?_)
      refine S.g_yes rfl rfl rfl (rfl) (S.q (q_field Tryd.fo70_0 rfl) rfl rfl ?_)
      refine S.g_yes rfl rfl rfl (rfl) (S.q (q_load Tryd.at3 rfl rfl) rfl rfl ?_)
      refine S.g_yes rfl rfl rfl (rfl) (S.q (q_ne rfl rfl) rfl rfl ?_)
      refine S.g_op rfl (S.q (q_pickF rfl (rfl) rfl) rfl rfl ?_)
      first | with_reducible refine S.g_nilK ?_ | refine S.g_nil ?_
      refine hK21 _ _ ?_
      refine S.condD rfl (fun h4 => ?_) (fun h4 => ?_)
      · exact absurd rfl h4
      · refine S.skip ?_
        with_reducible repeat (first | refine S.then_n ?_ | refine S.then_x ?_ | refine S.then_r ?_ | refine S.inBlock_n ?_ | refine S.inBlock_r ?_ | refine S.inBlock_x rfl ?_ | refine S.noGoto_r ?_ | refine S.noGoto_n ?_ | refine S.noGoto_x ?_)
        with_reducible repeat (first | refine S.then_n ?_ | refine S.then_x ?_ | refine S.then_r ?_ | refine S.inBlock_n ?_ | refine S.inBlock_r ?_ | refine S.inBlock_x rfl ?_ | refine S.noGoto_r ?_ | refine S.noGoto_n ?_ | refine S.noGoto_x ?_)
        refine hK18 _ _ ?_
        refine S.region rfl ?_
        refine S.op (S.q (q_add rfl rfl (inI64 (by omega) (by omega))) rfl rfl ?_)
        refine S.op (S.q (q_move rfl) rfl rfl ?_)
        first | with_reducible refine S.nilK ?_ | refine S.nil ?_
        with_reducible repeat (first | refine S.then_n ?_ | refine S.then_x ?_ | refine S.then_r ?_ | refine S.inBlock_n ?_ | refine S.inBlock_r ?_ | refine S.inBlock_x rfl ?_ | refine S.noGoto_r ?_ | refine S.noGoto_n ?_ | refine S.noGoto_x ?_)
        exact S.next (q' - 1) (⟨i + 1, by omega, by omega, rfl, rfl⟩) (by omega) (by repeat (first | exact trivial | refine ⟨rfl, ?_⟩)) Sub.ent
    · skip
      refine S.exit ?_
      with_reducible repeat (first | refine S.then_n ?_ | refine S.then_x ?_ | refine S.then_r ?_ | refine S.inBlock_n ?_ | refine S.inBlock_r ?_ | refine S.inBlock_x rfl ?_ | refine S.noGoto_r ?_ | refine S.noGoto_n ?_ | refine S.noGoto_x ?_)
      with_reducible refine S.inBlock_s ?_
      with_reducible repeat (first | refine S.then_n ?_ | refine S.then_x ?_ | refine S.then_r ?_ | refine S.inBlock_n ?_ | refine S.inBlock_r ?_ | refine S.inBlock_x rfl ?_ | refine S.noGoto_r ?_ | refine S.noGoto_n ?_ | refine S.noGoto_x ?_)
      refine hK14 _ _ ?_
      refine S.seq fun K22 hK22 => ?_
      refine S.regionG ?_
      refine S.g_op rfl (S.q (q_move rfl) rfl rfl ?_)
      refine S.g_op rfl (S.q (q_move rfl) rfl rfl ?_)
      refine S.g_op rfl (S.q (q_eqB Tryd.underlying4 rfl rfl) rfl rfl ?_)
      refine S.g_op rfl (S.q (q_move rfl) rfl rfl ?_)
      refine S.g_yes rfl rfl rfl ((decide_eq_true rfl)) (S.q (q_field Tryd.fo70_0 rfl) rfl rfl ?_)
      refine S.g_yes rfl rfl rfl ((decide_eq_true rfl)) (S.q (q_load Tryd.at3 rfl rfl) rfl rfl ?_)
      refine S.g_yes rfl rfl rfl ((decide_eq_true rfl)) (S.q (q_field Tryd.fo70_0 rfl) rfl rfl ?_)
      refine S.g_yes rfl rfl rfl ((decide_eq_true rfl)) (S.q (q_load Tryd.at3 rfl rfl) rfl rfl ?_)
      refine S.g_yes rfl rfl rfl ((decide_eq_true rfl)) (S.q (q_eq rfl rfl) rfl rfl ?_)
      refine S.g_op rfl (S.q (q_pickT rfl ((decide_eq_true rfl)) rfl) rfl rfl ?_)
      refine S.g_op rfl (S.q (q_move rfl) rfl rfl ?_)
      refine S.g_yes rfl rfl rfl ((decide_eq_true rfl)) (S.q (q_field Tryd.fo70_1 rfl) rfl rfl ?_)
      refine S.g_yes rfl rfl rfl ((decide_eq_true rfl)) (S.q (q_load Tryd.at34 rfl rfl) rfl rfl ?_)
      refine S.g_yes rfl rfl rfl ((decide_eq_true rfl)) (S.q (q_field Tryd.fo70_1 rfl) rfl rfl ?_)
      refine S.g_yes rfl rfl rfl ((decide_eq_true rfl)) (S.q (q_load Tryd.at34 rfl rfl) rfl rfl ?_)
      refine S.g_yes rfl rfl rfl ((decide_eq_true rfl)) (S.call Tryd.en25 (vs := [_, _]) ⟨rfl, rfl, trivial⟩ (Same_S (own u 36 1 (idsV (jobsR best))) (own u2 36 1 (idsV (jobsR best))) u u2 (casts (jobsR best)) (casts (jobsR best)) (rdIds u 36 (jobsR best)) (rdIds u2 36 (jobsR best)) (by rw [hu]; simp) (by rw [hu2]; simp)) rfl ?_)
      rintro v Θ ⟨rfl, rfl⟩
      refine S.g_op rfl (S.q (q_pickT rfl ((decide_eq_true rfl)) rfl) rfl rfl ?_)
      refine S.g_op rfl (S.q (q_assign rfl) rfl rfl ?_)
      first | with_reducible refine S.g_nilK ?_ | refine S.g_nil ?_
      refine hK22 _ _ ?_
      refine S.ret ?_
      with_reducible repeat (first | refine S.then_n ?_ | refine S.then_x ?_ | refine S.then_r ?_ | refine S.inBlock_n ?_ | refine S.inBlock_r ?_ | refine S.inBlock_x rfl ?_ | refine S.noGoto_r ?_ | refine S.noGoto_n ?_ | refine S.noGoto_x ?_)
      exact S.fin (rs := [_]) (vs := [_]) Tryd.results9 (⟨rfl, trivial⟩)  (⟨by simp only [resV]; simp, rfl⟩) Sub.ent
open Go.ChangeShapes Go.WideShapes Go.ChangeAt
theorem VictimApart_law {H : Type} (enc : TypeId × Value → H) : LawWalkT enc Rows.victimApartRow.laid 9 Tryd.f9 := by
  intro W base args ds before hval hA _ _ hL
  rw [Tryd.params9] at hA hval
  obtain ⟨v0, vs0, d0, ds0, p0, q0, hargs, rfl, rfl, h0, r0⟩ := trodAll_cons hA
  obtain ⟨v1, vs1, d1, ds1, p1, q1, rfl, rfl, rfl, h1, r1⟩ := trodAll_cons r0
  obtain ⟨v2, vs2, d2, ds2, p2, q2, rfl, rfl, rfl, h2, r2⟩ := trodAll_cons r1
  obtain ⟨v3, vs3, d3, ds3, p3, q3, rfl, rfl, rfl, h3, r3⟩ := trodAll_cons r2
  obtain ⟨v4, vs4, d4, ds4, p4, q4, rfl, rfl, rfl, h4, r4⟩ := trodAll_cons r3
  obtain ⟨v5, vs5, d5, ds5, p5, q5, rfl, rfl, rfl, h5, r5⟩ := trodAll_cons r4
  obtain ⟨rfl, rfl, rfl⟩ := trodAll_nil r5
  obtain rfl : args = #[v0, v1, v2, v3, v4, v5] := by cases args; simp_all
  obtain ⟨r, rfl, hr⟩ := arg_int Tryd.underlying5 (hval 0 5 v0 rfl rfl) h0
  obtain ⟨n, rfl, hn⟩ := arg_int Tryd.underlying5 (hval 1 5 v1 rfl rfl) h1
  obtain ⟨s, l, e2, hs⟩ := rd_vds (arg_slice 7 Tryd.underlying63 (by kernel_rfl) (hval 2 63 v2 rfl rfl) h2)
  simp only [List.cons.injEq, and_true] at e2
  subst e2
  obtain ⟨d, rfl, hd⟩ := arg_int Tryd.underlying28 (hval 3 28 v3 rfl rfl) h3
  obtain ⟨t, rfl, _⟩ := arg_int Tryd.underlying5 (hval 4 5 v4 rfl rfl) h4
  obtain ⟨k, rfl, hk⟩ := arg_int Tryd.underlying5 (hval 5 5 v5 rfl rfl) h5
  have hd2 := u16_rng hd
  have ed : ((BitVec.ofNat 16 d.toNat).toNat : Int) = d := by
    rw [BitVec.toNat_ofNat, Nat.mod_eq_of_lt (by omega)]
    omega
  have hlaw := VictimApart_S r n t k (BitVec.ofNat 16 d.toNat) l s (u8_rng hr) (u8_rng hn) (u8_rng hk) (tabW_of rfl hL) hs
  rw [show bsv (BitVec.ofNat 16 d.toNat) = .int .u16 d by rw [bsv, ed]] at hlaw
  exact law_run hlaw
set_option maxRecDepth 100000 in
theorem VictimApart_met (os : Os) (args : Array Value) : laidMetH Tryd.prog Rows.victimApartRow.laid ((World.doorLaid Tryd.prog 14 os).forCall (fun _ _ => 0) ⟨#[], args, []⟩).memory :=
  laidMetH_of_parts3 (fuel := 8) (laidMet_of_run' 8 (by kernel_rfl) (by kernel_rfl)) (by kernel_rfl) (by kernel_rfl)
set_option maxRecDepth 100000 in
theorem VictimApart_lifted (os : Os) (started : os.Started) (H : Type) (enc : TypeId × Value → H) :
    ReturnsInHanded {} Tryd.checked os 9 .any (fun w args => (Rows.victimApartSpec.pre enc Tryd.prog Tryd.f9 [] false w args ∧ laidMetH Tryd.prog Rows.victimApartRow.laid w) ∧ sizedMet enc Tryd.prog Tryd.f9 (OpenSpec.ofChange Rows.victimApartSpec) false w args) (Rows.victimApartSpec.post enc Tryd.prog Tryd.f9 false true false false) :=
  lift_trueT started Tryd.func9 (by kernel_rfl)
    (ChangeSpec.witness_shaped (enc := enc) (C := Tryd.checked) (os := os) (X := fun w _ => laidMetH Tryd.prog Rows.victimApartRow.laid w) false (World.doorLaid Tryd.prog 14 os) #[.int .u8 0, .int .u8 0, .slice none 0 0, .int .u16 0, .int .u8 0, .int .u8 0] 8 rfl (World.shaped_of_RefB (by kernel_rfl) (by kernel_rfl)) (by kernel_rfl) (by kernel_rfl) (by kernel_rfl) (VictimApart_met os _))
    rfl rfl (by kernel_rfl) (fun ds h => by match ds, h with | [a0, a1, a2, a3, a4, a5], _ => rfl) (VictimApart_law enc)
theorem VictimApart_over : Rows.victimApartRow.holds Tryd.pinned (OpenSpec.ofChange Rows.victimApartSpec) :=
  OpenClaim.holds_of_wide 9 Tryd.f9 rfl rfl rfl rfl rfl rfl rfl ⟨rfl, rfl, rfl, rfl, rfl⟩ rfl rfl rfl rfl rfl (by kernel_rfl) Tryd.func9 (by kernel_rfl)
    (of_decide_eq_true (by kernel_rfl)) (by unfold Func.isWrapper; first | (rw [if_pos (by decide +kernel)]; kernel_rfl) | (rw [if_neg (by decide +kernel)]; exact ⟨rfl, rfl⟩))
    (fun os started H enc _ => VictimApart_lifted os started H enc)
theorem VictimApart_holds : Rows.VictimApartCardSaid :=
  Claim7.holds_tied_plain_at .later [] [.data] true (true, "159500d8f53921207f8a94d76c36f16f18e500f3350336e687406a81b385dd96") true
    VictimApart_over (fun _ h => by cases h) (by kernel_rfl) (fun _ h => by cases h) victimApart_row_tie rfl ⟨rfl, rfl⟩ (by kernel_rfl) rfl
    (fun f fn hf hfn => by
      obtain rfl : f = 9 := Option.some.inj ((show Tryd.prog.funcNamed "quadrille/quadrillelaw15.VictimApart" = some 9 by kernel_rfl).symm.trans hf) |>.symm
      obtain rfl : fn = Tryd.f9 := (Option.some.inj (Tryd.func9.symm.trans hfn)).symm
      exact ⟨by kernel_rfl, fun j t ht => by
        rw [Tryd.params9] at ht
        have hm : t ∈ [5, 5, 63, 28, 5, 5] := by simpa using Array.mem_of_getElem? ht
        have hall : ([5, 5, 63, 28, 5, 5].all fun u => !Tryd.prog.wantsStandIn u) = true := by kernel_rfl
        exact (show Tryd.prog.wantsStandIn t = false by simpa using List.all_eq_true.1 hall t hm)⟩)
    (by kernel_rfl)
#print axioms VictimApart_holds
end Go.Proofs.YtbhnbnecaejjiaaDoor
