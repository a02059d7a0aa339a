/- RowsFirst: a job is placed in the first row that has room, at the least nodes there. -/
import Derived.Test.YtdmfjjogpmddoaaDoorRowsRound
namespace Go.Proofs.YtdmfjjogpmddoaaDoor
open Go.RowKit
set_option maxRecDepth 20000
theorem placeR_zero {m : Mx} {j : Nat} {k : Int} (h : (placeR m j k).1.2.2 = 0) : ∃ r, placeRow m k.toNat m.R = some r ∧ 1 ≤ k ∧ placeR m j k = (((r : Int), (lst (m.free r)).take k.toNat, 0), m.add ⟨j, r, leastK (m.free r) k.toNat⟩) := by
  unfold placeR at h ⊢
  by_cases h1 : j = 0 ∨ k < 1
  · rw [if_pos h1] at h; cases h
  rw [if_neg h1] at h ⊢
  by_cases h2 : (look m.js j).isSome = true
  · rw [if_pos h2] at h; cases h
  rw [if_neg h2] at h ⊢
  by_cases h3 : (m.N : Int) < k
  · rw [if_pos h3] at h; cases h
  rw [if_neg h3] at h ⊢
  cases h4 : placeRow m k.toNat m.R with
  | none => rw [h4] at h; cases h
  | some r => exact ⟨r, rfl, by omega, rfl⟩
/-- All nodes are up in what the laws build. -/
theorem placeR_N (m : Mx) (j : Nat) (k : Int) : (placeR m j k).2.N = m.N ∧ (placeR m j k).2.up = m.up ∧ (placeR m j k).2.R = m.R := by
  unfold placeR
  split
  · exact ⟨rfl, rfl, rfl⟩
  · split
    · exact ⟨rfl, rfl, rfl⟩
    · split
      · exact ⟨rfl, rfl, rfl⟩
      · split <;> exact ⟨rfl, rfl, rfl⟩
theorem removeR_N (m : Mx) (j : Nat) : (removeR m j).2.N = m.N ∧ (removeR m j).2.up = m.up ∧ (removeR m j).2.R = m.R := by
  unfold removeR
  split <;> exact ⟨rfl, rfl, rfl⟩
theorem build_up (r n : Int) (ws gs : List Int) : (buildR r n ws gs).up = mask (buildR r n ws gs).N := by
  have h1 : ∀ (m : Mx) i, m.up = mask m.N → (addUp m ws i).up = mask (addUp m ws i).N := fun m i hm => by
    induction i with
    | zero => exact hm
    | succ i ih =>
      obtain ⟨q1, q2, _⟩ := placeR_N (addUp m ws i) (i + 1) (1 + ws.getD i 0 % 6)
      rw [addUp, q1, q2, ih]
  have h2 : ∀ (m : Mx) i, m.up = mask m.N → (delUp m gs i).up = mask (delUp m gs i).N := fun m i hm => by
    induction i with
    | zero => exact hm
    | succ i ih =>
      obtain ⟨q1, q2, _⟩ := removeR_N (delUp m gs i) (gs.getD i 0).toNat
      rw [delUp, q1, q2, ih]
  exact h2 _ _ (h1 _ _ rfl)
/-- Nobody stands at a node that is not taken. -/
theorem at_zero {m : Mx} (hm : MxOk m) {r i : Nat} (hr : r < m.R) (hi : i < m.N) : atR m r i = 0 ↔ (tk m.js r).getLsbD i = false := by
  have e : atR m r i = atJ m.js r i := by rw [atR, rowB_iff.2 (by omega), nodeB_iff.2 (by omega)]; rfl
  rw [e]
  constructor
  · intro h
    cases hb : (tk m.js r).getLsbD i with
    | false => rfl
    | true =>
      obtain ⟨x, h1, h2, h3⟩ := (tk_bit m.js r i).1 hb
      have := atJ_some hm h1 h2 h3
      have := hm.id1 x h1
      omega
  · intro h
    refine atJ_none fun x hx e => ?_
    cases hb : x.ns.getLsbD i with
    | false => rfl
    | true =>
      have := (tk_bit m.js r i).2 ⟨x, hx, e, hb⟩
      rw [this] at h
      cases h
/-- How many nodes below i are free. -/
def freeUp (s : Bs) : Nat → Nat
  | 0 => 0
  | i + 1 => if s.getLsbD i then freeUp s i + 1 else freeUp s i
theorem freeUp_eq (s : Bs) : ∀ i, freeUp s i = ((lst s).filter fun x => decide (x < i)).length
  | 0 => by rw [List.filter_eq_nil_iff.2 (by simp)]; rfl
  | i + 1 => by
    rw [freeUp, freeUp_eq s i]
    have hnd : (lst s).Nodup := (lst_rise s).imp fun h => Nat.ne_of_lt h
    have e : ((lst s).filter fun x => decide (x < i + 1)).Perm (if s.getLsbD i then i :: (lst s).filter (fun x => decide (x < i)) else (lst s).filter fun x => decide (x < i)) := by
      by_cases hb : s.getLsbD i = true
      · rw [if_pos hb]
        refine (List.perm_ext_iff_of_nodup (hnd.filter _) (List.nodup_cons.2 ⟨by simp, hnd.filter _⟩)).2 fun x => ?_
        simp only [List.mem_filter, decide_eq_true_eq, List.mem_cons]
        constructor
        · rintro ⟨h1, h2⟩
          by_cases e : x = i
          · exact .inl e
          · exact .inr ⟨h1, by omega⟩
        · rintro (h1 | ⟨h1, h2⟩)
          · rw [h1]; exact ⟨mem_lst.2 hb, by omega⟩
          · exact ⟨h1, by omega⟩
      · rw [if_neg hb]
        refine (List.perm_ext_iff_of_nodup (hnd.filter _) (hnd.filter _)).2 fun x => ?_
        simp only [List.mem_filter, decide_eq_true_eq]
        constructor
        · rintro ⟨h1, h2⟩
          by_cases e : x = i
          · rw [e] at h1; exact absurd (mem_lst.1 h1) hb
          · exact ⟨h1, by omega⟩
        · rintro ⟨h1, h2⟩
          exact ⟨h1, by omega⟩
    rw [e.length_eq]
    split <;> simp
/-- The k least: as many as stand up to the last of them. -/
theorem freeUp_last (s : Bs) {k last : Nat} (hk : 1 ≤ k) (hl : k ≤ (lst s).length) (h : (lst s)[k - 1]? = some last) : freeUp s (last + 1) = k := by
  rw [freeUp_eq]
  have e : (lst s).filter (fun x => decide (x < last + 1)) = (lst s).take k := by
    refine rise_ext ((lst_rise s).filter _) (List.Pairwise.sublist (List.take_sublist _ _) (lst_rise s)) fun x => ?_
    have hp := List.pairwise_iff_getElem.1 (lst_rise s)
    have hk1 : k - 1 < (lst s).length := by omega
    have hlast : (lst s)[k - 1] = last := by rw [List.getElem?_eq_getElem hk1] at h; exact Option.some.inj h
    rw [List.mem_filter, decide_eq_true_eq, List.mem_take_iff_getElem]
    constructor
    · rintro ⟨h1, h2⟩
      obtain ⟨i, hi, e⟩ := List.getElem_of_mem h1
      refine ⟨i, ?_, e⟩
      by_cases hik : i < k
      · omega
      · have := hp (k - 1) i hk1 hi (by omega)
        omega
    · rintro ⟨i, hi, e⟩
      have hi' : i < (lst s).length := by omega
      refine ⟨e ▸ List.getElem_mem hi', ?_⟩
      by_cases hik : i = k - 1
      · subst hik; omega
      · have := hp i (k - 1) hi' hk1 (by omega)
        omega
  rw [e, List.length_take]
  omega
theorem RowsFirst_S (r n c : Int) (ws gs : List Int) (s t : SV) (hr : 0 ≤ r ∧ r ≤ 255) (hn : 0 ≤ n ∧ n ≤ 255) (hcr : 0 ≤ c ∧ c ≤ 255) {W : World} (hW : TabW W) (hs : BW W s ws) (ht : BW W t gs) : LawS 4 [.int .u8 r, .int .u8 n, s.v, t.v, .int .u8 c] W := by
  refine Spec.of_body Tryd.func4 rfl Tryd.ntmps4 rfl ?_
  intro w0 Γ
  show S _ w0 [(0, .int .u8 r), (1, .int .u8 n), (2, s.v), (3, t.v), (4, .int .u8 c)] (old W :: Γ) _
  obtain ⟨m, hm⟩ : ∃ m, m = buildR r n ws gs := ⟨_, rfl⟩
  have hok : MxOk m := by rw [hm]; exact buildR_ok r n ws gs
  have hup : m.up = mask m.N := by rw [hm]; exact build_up r n ws gs
  have hR8 := hok.R8
  have hN16 := hok.N16
  obtain ⟨k, hk⟩ : ∃ k, k = 1 + c % 8 := ⟨_, rfl⟩
  have hk8 : 1 ≤ k ∧ k ≤ 8 := by omega
  refine S.seq fun K1 hK1 => ?_
  refine S.region rfl ?_
  refine S.op (S.q (q_assign rfl) rfl rfl ?_)
  first | with_reducible refine S.nilK ?_ | refine S.nil ?_
  refine hK1 _ _ ?_
  refine S.seq fun K2 hK2 => ?_
  refine S.seq fun K3 hK3 => ?_
  refine S.region rfl ?_
  refine S.op (S.call Tryd.en10 (vs := []) trivial (awake_S hW) rfl ?_)
  rintro v Θ ⟨rfl, rfl⟩
  refine S.op (S.q (q_not rfl) rfl rfl ?_)
  first | with_reducible refine S.nilK ?_ | refine S.nil ?_
  refine hK3 _ _ ?_
  refine S.condF rfl ?_
  refine S.skip ?_
  with_reducible repeat (first | refine S.then_n ?_ | refine S.then_x ?_ | refine S.then_r ?_ | refine S.inBlock_n ?_ | refine S.inBlock_r ?_ | refine S.inBlock_x rfl ?_ | refine S.noGoto_r ?_ | refine S.noGoto_n ?_ | refine S.noGoto_x ?_)
  refine hK2 _ _ ?_
  refine S.seq fun K4 hK4 => ?_
  refine S.region rfl ?_
  refine S.op (S.q (q_move rfl) rfl rfl ?_)
  refine S.op (S.q (q_move rfl) rfl rfl ?_)
  refine S.op (S.q (q_move rfl) rfl rfl ?_)
  refine S.op (S.q (q_move rfl) rfl rfl ?_)
  refine S.op (S.call Tryd.en11 (vs := [_, _, _, _]) ⟨rfl, rfl, rfl, rfl, trivial⟩ (build_S r n ws gs s t hr hn hW hs ht) rfl ?_)
  rintro v Θ ⟨b, kk, rfl, rfl⟩
  rw [← hm]
  refine S.op (S.q (q_move rfl) rfl rfl ?_)
  refine S.op (S.q (q_extract rfl rfl) rfl rfl ?_)
  refine S.op (S.q (q_extract rfl rfl) rfl rfl ?_)
  refine S.op (S.q (q_assign rfl) rfl rfl ?_)
  refine S.op (S.q (q_assign rfl) rfl rfl ?_)
  first | with_reducible refine S.nilK ?_ | refine S.nil ?_
  refine hK4 _ _ ?_
  refine S.seq fun K5 hK5 => ?_
  refine S.region rfl ?_
  refine S.op (S.q (q_move rfl) rfl rfl ?_)
  refine S.op (S.call Tryd.en15 (vs := [_]) ⟨rfl, trivial⟩ (Copy_S b m) rfl ?_)
  rintro v Θ ⟨b2, rfl, rfl⟩
  refine S.op (S.q (q_assign rfl) rfl rfl ?_)
  first | with_reducible refine S.nilK ?_ | refine S.nil ?_
  refine hK5 _ _ ?_
  refine S.seq fun K6 hK6 => ?_
  refine S.region rfl ?_
  refine S.op (S.q (q_move rfl) rfl rfl ?_)
  refine S.op (S.q (q_rem rfl rfl (⟨by omega, by omega⟩)) rfl rfl ?_)
  refine S.op (S.q (q_conv Tryd.it3 (by rw [Tryd.underlying5]; rfl) rfl (inI64 (by omega) (by omega))) rfl rfl ?_)
  refine S.op (S.q (q_add rfl rfl (inI64 (by omega) (by omega))) rfl rfl ?_)
  rw [← hk]
  refine S.op (S.q (q_assign rfl) rfl rfl ?_)
  first | with_reducible refine S.nilK ?_ | refine S.nil ?_
  refine hK6 _ _ ?_
  refine S.seq fun K7 hK7 => ?_
  refine S.region rfl ?_
  refine S.op (S.q (q_move rfl) rfl rfl ?_)
  refine S.op (S.q (q_move rfl) rfl rfl ?_)
  refine S.op (S.call Tryd.en16 (vs := [_, _, _]) ⟨rfl, rfl, rfl, trivial⟩ (Place_S b2 m 2000 k (by omega) (by omega) hW) rfl ?_)
  rintro v Θ ⟨sv, rfl, hsv, rfl⟩
  refine S.op (S.q (q_move rfl) rfl rfl ?_)
  refine S.op (S.q (q_extract rfl rfl) rfl rfl ?_)
  refine S.op (S.q (q_extract rfl rfl) rfl rfl ?_)
  refine S.op (S.q (q_extract rfl rfl) rfl rfl ?_)
  refine S.op (S.q (q_assign rfl) rfl rfl ?_)
  refine S.op (S.q (q_assign rfl) rfl rfl ?_)
  refine S.op (S.q (q_assign rfl) rfl rfl ?_)
  first | with_reducible refine S.nilK ?_ | refine S.nil ?_
  refine hK7 _ _ ?_
  refine S.seq fun K8 hK8 => ?_
  refine S.seq fun K9 hK9 => ?_
  refine S.region rfl ?_
  refine S.op (S.q (q_move rfl) rfl rfl ?_)
  refine S.op (S.q (q_ne rfl rfl) rfl rfl ?_)
  first | with_reducible refine S.nilK ?_ | refine S.nil ?_
  refine hK9 _ _ ?_
  refine S.condD rfl (fun h2 => ?_) (fun h2 => ?_)
  · refine S.seq fun K10 hK10 => ?_
    refine S.region rfl ?_
    refine S.op (S.q (q_assign rfl) rfl rfl ?_)
    first | with_reducible refine S.nilK ?_ | refine S.nil ?_
    refine hK10 _ _ ?_
    refine S.ret ?_
    with_reducible repeat (first | refine S.then_n ?_ | refine S.then_x ?_ | refine S.then_r ?_ | refine S.inBlock_n ?_ | refine S.inBlock_r ?_ | refine S.inBlock_x rfl ?_ | refine S.noGoto_r ?_ | refine S.noGoto_n ?_ | refine S.noGoto_x ?_)
    exact S.fin (rs := [_]) (vs := [_]) Tryd.results4 (⟨rfl, trivial⟩)  (⟨rfl, rfl⟩) Sub.ent
  · obtain ⟨row, hpr, _, hpe⟩ := placeR_zero (m := m) (j := 2000) (k := k) (Classical.byContradiction h2)
    rw [hpe] at hsv ⊢
    simp only at hsv ⊢
    obtain ⟨hrR, hkl, hfirst⟩ := placeRow_some hpr
    have hsn : sv.n = k.toNat := by rw [hsv, List.length_take]; omega
    refine S.skip ?_
    with_reducible repeat (first | refine S.then_n ?_ | refine S.then_x ?_ | refine S.then_r ?_ | refine S.inBlock_n ?_ | refine S.inBlock_r ?_ | refine S.inBlock_x rfl ?_ | refine S.noGoto_r ?_ | refine S.noGoto_n ?_ | refine S.noGoto_x ?_)
    refine hK8 _ _ ?_
    refine S.seq fun K11 hK11 => ?_
    refine S.seq fun K12 hK12 => ?_
    refine S.region rfl ?_
    refine S.op (S.q (q_move rfl) rfl rfl ?_)
    refine S.op (S.q (q_move rfl) rfl rfl ?_)
    first | with_reducible refine S.nilK ?_ | refine S.nil ?_
    refine hK12 _ _ ?_
    refine S.block ?_
    refine S.loop (fun q ρ' Γ' => ∃ i : Nat, q = row - i ∧ i ≤ row ∧ ρ' = [(11, .pointer (some ⟨b, 0, none⟩)), (14, .int .i64 k), (15, .int .i64 (row : Int)), (16, sv.v), (47, .int .i64 (row : Int)), (48, .int .i64 (i : Int))] ∧ Γ' = own sv 3 1 (nds ((lst (m.free row)).take k.toNat)) :: MI b m :: old W :: Γ) (m := _) (ρ0 := _) (Γ0 := _) (⟨0, rfl, by omega, rfl, rfl⟩) (by repeat (first | exact trivial | refine ⟨rfl, ?_⟩)) Sub.ent ?_
    rintro q ρ' Γ' ⟨i, hq, hi, rfl, rfl⟩
    refine S.seq fun K13 hK13 => ?_
    refine S.region rfl ?_
    refine S.op (S.q (q_lt rfl rfl) rfl rfl ?_)
    first | with_reducible refine S.nilK ?_ | refine S.nil ?_
    refine hK13 _ _ ?_
    refine S.seq fun K14 hK14 => ?_
    refine S.condD rfl (fun h3 => ?_) (fun h3 => ?_)
    · refine S.skip ?_
      with_reducible repeat (first | refine S.then_n ?_ | refine S.then_x ?_ | refine S.then_r ?_ | refine S.inBlock_n ?_ | refine S.inBlock_r ?_ | refine S.inBlock_x rfl ?_ | refine S.noGoto_r ?_ | refine S.noGoto_n ?_ | refine S.noGoto_x ?_)
      refine hK14 _ _ ?_
      refine S.seq fun K15 hK15 => ?_
      refine S.block ?_
      refine S.seq fun K16 hK16 => ?_
      refine S.region rfl ?_
      refine S.op (S.q (q_move rfl) rfl rfl ?_)
      refine S.op (S.q (q_assign rfl) rfl rfl ?_)
      first | with_reducible refine S.nilK ?_ | refine S.nil ?_
      refine hK16 _ _ ?_
      refine S.seq fun K17 hK17 => ?_
      refine S.region rfl ?_
      refine S.op (S.q (q_move rfl) rfl rfl ?_)
      refine S.op (S.q (q_move rfl) rfl rfl ?_)
      refine S.op (S.call Tryd.en17 (vs := [_, _]) ⟨rfl, rfl, trivial⟩ (Free_S b m i) rfl ?_)
      rintro v Θ ⟨rfl, rfl⟩
      refine S.op (S.q (q_move rfl) rfl rfl ?_)
      refine S.op (S.q (q_ge rfl rfl) rfl rfl ?_)
      first | with_reducible refine S.nilK ?_ | refine S.nil ?_
      refine hK17 _ _ ?_
      refine S.condD rfl (fun h4 => ?_) (fun h4 => ?_)
      · have h9 := hfirst i (by omega)
        have e9 : freeR m i = (lst (m.free i)).length := by rw [freeR, if_pos (rowB_iff.2 (by omega)), Int.toNat_natCast]
        rw [e9] at h4
        omega
      · refine S.skip ?_
        with_reducible repeat (first | refine S.then_n ?_ | refine S.then_x ?_ | refine S.then_r ?_ | refine S.inBlock_n ?_ | refine S.inBlock_r ?_ | refine S.inBlock_x rfl ?_ | refine S.noGoto_r ?_ | refine S.noGoto_n ?_ | refine S.noGoto_x ?_)
        with_reducible repeat (first | refine S.then_n ?_ | refine S.then_x ?_ | refine S.then_r ?_ | refine S.inBlock_n ?_ | refine S.inBlock_r ?_ | refine S.inBlock_x rfl ?_ | refine S.noGoto_r ?_ | refine S.noGoto_n ?_ | refine S.noGoto_x ?_)
        refine hK15 _ _ ?_
        refine S.region rfl ?_
        refine S.op (S.q (q_add rfl rfl (inI64 (by omega) (by omega))) rfl rfl ?_)
        refine S.op (S.q (q_move rfl) rfl rfl ?_)
        first | with_reducible refine S.nilK ?_ | refine S.nil ?_
        with_reducible repeat (first | refine S.then_n ?_ | refine S.then_x ?_ | refine S.then_r ?_ | refine S.inBlock_n ?_ | refine S.inBlock_r ?_ | refine S.inBlock_x rfl ?_ | refine S.noGoto_r ?_ | refine S.noGoto_n ?_ | refine S.noGoto_x ?_)
        exact S.next (q - 1) (⟨i + 1, by omega, by omega, rfl, rfl⟩) (by omega) (by repeat (first | exact trivial | refine ⟨rfl, ?_⟩)) Sub.ent
    · refine S.ownSome sv (by omega) fun sb so hsa _ _ _ => ?_
      obtain ⟨last, hlast⟩ := getE (show k.toNat - 1 < (lst (m.free row)).length by omega)
      have hl16 : last < 16 := lst_lt (List.mem_of_getElem? hlast)
      have hlN : last < m.N := hok.up last (free_bit (mem_lst.1 (List.mem_of_getElem? hlast))).1
      have hfl := freeUp_last (m.free row) (by omega) hkl hlast
      refine S.exit ?_
      with_reducible repeat (first | refine S.then_n ?_ | refine S.then_x ?_ | refine S.then_r ?_ | refine S.inBlock_n ?_ | refine S.inBlock_r ?_ | refine S.inBlock_x rfl ?_ | refine S.noGoto_r ?_ | refine S.noGoto_n ?_ | refine S.noGoto_x ?_)
      with_reducible refine S.inBlock_s ?_
      with_reducible repeat (first | refine S.then_n ?_ | refine S.then_x ?_ | refine S.then_r ?_ | refine S.inBlock_n ?_ | refine S.inBlock_r ?_ | refine S.inBlock_x rfl ?_ | refine S.noGoto_r ?_ | refine S.noGoto_n ?_ | refine S.noGoto_x ?_)
      refine hK11 _ _ ?_
      refine S.seq fun K18 hK18 => ?_
      refine S.region rfl ?_
      refine S.op (S.q (q_move rfl) rfl rfl ?_)
      refine S.op (S.q (q_move rfl) rfl rfl ?_)
      refine S.op (S.q (q_len Tryd.underlying36 rfl) rfl rfl ?_)
      refine S.op (S.q (q_sub rfl rfl (inI64 (by omega) (by omega))) rfl rfl ?_)
      refine S.op (S.q (q_indexO (k.toNat - 1) Tryd.el36 rfl hsa rfl (by omega) (by omega)) rfl rfl ?_)
      refine S.op (S.q (q_loadOw (sv) (k.toNat - 1) Tryd.at3 rfl hsa (by first | rfl | exact Nat.add_assoc _ _ _ | omega) (by rw [List.getElem?_map, List.getElem?_take_of_lt (by omega), hlast]; rfl)) rfl rfl ?_)
      refine S.op (S.q (q_assign rfl) rfl rfl ?_)
      first | with_reducible refine S.nilK ?_ | refine S.nil ?_
      refine hK18 _ _ ?_
      refine S.seq fun K19 hK19 => ?_
      refine S.region rfl ?_
      refine S.op (S.q (q_assign rfl) rfl rfl ?_)
      first | with_reducible refine S.nilK ?_ | refine S.nil ?_
      refine hK19 _ _ ?_
      refine S.seq fun K20 hK20 => ?_
      refine S.seq fun K21 hK21 => ?_
      refine S.region rfl ?_
      refine S.op (S.q (q_move rfl) rfl rfl ?_)
      refine S.op (S.q (q_add rfl rfl (inI64 (by omega) (by omega))) rfl rfl ?_)
      refine S.op (S.q (q_move rfl) rfl rfl ?_)
      first | with_reducible refine S.nilK ?_ | refine S.nil ?_
      refine hK21 _ _ ?_
      refine S.block ?_
      refine S.loop (fun q ρ' Γ' => ∃ i : Nat, q = last + 1 - i ∧ i ≤ last + 1 ∧ ρ' = [(11, .pointer (some ⟨b, 0, none⟩)), (14, .int .i64 k), (15, .int .i64 (row : Int)), (16, sv.v), (20, .int .i64 (freeUp (m.free row) i : Nat)), (64, .int .i64 ((last : Int) + 1)), (65, .int .i64 (i : Int))] ∧ Γ' = own sv 3 1 (nds ((lst (m.free row)).take k.toNat)) :: MI b m :: old W :: Γ) (m := _) (ρ0 := _) (Γ0 := _) (⟨0, rfl, by omega, rfl, rfl⟩) (by repeat (first | exact trivial | refine ⟨rfl, ?_⟩)) Sub.ent ?_
      rintro q ρ' Γ' ⟨i, hq, hi, rfl, rfl⟩
      have hfi : freeUp (m.free row) i ≤ i := by
        clear hq hi
        induction i with
        | zero => exact Nat.le_refl _
        | succ i ih => rw [freeUp]; split <;> omega
      refine S.seq fun K22 hK22 => ?_
      refine S.region rfl ?_
      refine S.op (S.q (q_lt rfl rfl) rfl rfl ?_)
      first | with_reducible refine S.nilK ?_ | refine S.nil ?_
      refine hK22 _ _ ?_
      refine S.seq fun K23 hK23 => ?_
      refine S.condD rfl (fun h5 => ?_) (fun h5 => ?_)
      · refine S.skip ?_
        with_reducible repeat (first | refine S.then_n ?_ | refine S.then_x ?_ | refine S.then_r ?_ | refine S.inBlock_n ?_ | refine S.inBlock_r ?_ | refine S.inBlock_x rfl ?_ | refine S.noGoto_r ?_ | refine S.noGoto_n ?_ | refine S.noGoto_x ?_)
        refine hK23 _ _ ?_
        refine S.seq fun K24 hK24 => ?_
        refine S.block ?_
        refine S.seq fun K25 hK25 => ?_
        refine S.region rfl ?_
        refine S.op (S.q (q_move rfl) rfl rfl ?_)
        refine S.op (S.q (q_assign rfl) rfl rfl ?_)
        first | with_reducible refine S.nilK ?_ | refine S.nil ?_
        refine hK25 _ _ ?_
        refine S.seq fun K26 hK26 => ?_
        refine S.region rfl ?_
        refine S.op (S.q (q_move rfl) rfl rfl ?_)
        refine S.op (S.q (q_move rfl) rfl rfl ?_)
        refine S.op (S.q (q_move rfl) rfl rfl ?_)
        refine S.op (S.call Tryd.en18 (vs := [_, _, _]) ⟨rfl, rfl, rfl, trivial⟩ (At_S b m row i) rfl ?_)
        rintro v Θ ⟨rfl, rfl⟩
        refine S.op (S.q (q_eq rfl rfl) rfl rfl ?_)
        first | with_reducible refine S.nilK ?_ | refine S.nil ?_
        refine hK26 _ _ ?_
        refine S.condD rfl (fun h6 => ?_) (fun h6 => ?_)
        · have hfs : freeUp (m.free row) (i + 1) = freeUp (m.free row) i + 1 := by
            rw [freeUp, if_pos]
            rw [Mx.free, BitVec.getLsbD_and, BitVec.getLsbD_not, (at_zero hok hrR (show i < m.N by omega)).1 (by omega), hup, (mask_bit hN16 i).2 (by omega)]
            simp; omega
          refine S.region rfl ?_
          refine S.op (S.q (q_move rfl) rfl rfl ?_)
          refine S.op (S.q (q_add rfl rfl (inI64 (by omega) (by omega))) rfl rfl ?_)
          refine S.op (S.q (q_assign rfl) rfl rfl ?_)
          first | with_reducible refine S.nilK ?_ | refine S.nil ?_
          with_reducible repeat (first | refine S.then_n ?_ | refine S.then_x ?_ | refine S.then_r ?_ | refine S.inBlock_n ?_ | refine S.inBlock_r ?_ | refine S.inBlock_x rfl ?_ | refine S.noGoto_r ?_ | refine S.noGoto_n ?_ | refine S.noGoto_x ?_)
          refine hK24 _ _ ?_
          refine S.region rfl ?_
          refine S.op (S.q (q_add rfl rfl (inI64 (by omega) (by omega))) rfl rfl ?_)
          refine S.op (S.q (q_move rfl) rfl rfl ?_)
          first | with_reducible refine S.nilK ?_ | refine S.nil ?_
          with_reducible repeat (first | refine S.then_n ?_ | refine S.then_x ?_ | refine S.then_r ?_ | refine S.inBlock_n ?_ | refine S.inBlock_r ?_ | refine S.inBlock_x rfl ?_ | refine S.noGoto_r ?_ | refine S.noGoto_n ?_ | refine S.noGoto_x ?_)
          first | exact S.next (q - 1) ⟨i + 1, by omega, by omega, by rw [hfs], rfl⟩ (by omega) (by repeat (first | exact trivial | refine ⟨rfl, ?_⟩)) Sub.ent
        · have hfs : freeUp (m.free row) (i + 1) = freeUp (m.free row) i := by
            rw [freeUp, if_neg]
            intro h9
            exact h6 (by rw [(at_zero hok hrR (show i < m.N by omega)).2 (free_bit h9).2]; rfl)
          refine S.skip ?_
          with_reducible repeat (first | refine S.then_n ?_ | refine S.then_x ?_ | refine S.then_r ?_ | refine S.inBlock_n ?_ | refine S.inBlock_r ?_ | refine S.inBlock_x rfl ?_ | refine S.noGoto_r ?_ | refine S.noGoto_n ?_ | refine S.noGoto_x ?_)
          with_reducible repeat (first | refine S.then_n ?_ | refine S.then_x ?_ | refine S.then_r ?_ | refine S.inBlock_n ?_ | refine S.inBlock_r ?_ | refine S.inBlock_x rfl ?_ | refine S.noGoto_r ?_ | refine S.noGoto_n ?_ | refine S.noGoto_x ?_)
          refine hK24 _ _ ?_
          refine S.region rfl ?_
          refine S.op (S.q (q_add rfl rfl (inI64 (by omega) (by omega))) rfl rfl ?_)
          refine S.op (S.q (q_move rfl) rfl rfl ?_)
          first | with_reducible refine S.nilK ?_ | refine S.nil ?_
          with_reducible repeat (first | refine S.then_n ?_ | refine S.then_x ?_ | refine S.then_r ?_ | refine S.inBlock_n ?_ | refine S.inBlock_r ?_ | refine S.inBlock_x rfl ?_ | refine S.noGoto_r ?_ | refine S.noGoto_n ?_ | refine S.noGoto_x ?_)
          first | exact S.next (q - 1) ⟨i + 1, by omega, by omega, by rw [hfs], rfl⟩ (by omega) (by repeat (first | exact trivial | refine ⟨rfl, ?_⟩)) Sub.ent
      · rw [show i = last + 1 by omega, hfl]
        refine S.exit ?_
        with_reducible repeat (first | refine S.then_n ?_ | refine S.then_x ?_ | refine S.then_r ?_ | refine S.inBlock_n ?_ | refine S.inBlock_r ?_ | refine S.inBlock_x rfl ?_ | refine S.noGoto_r ?_ | refine S.noGoto_n ?_ | refine S.noGoto_x ?_)
        with_reducible refine S.inBlock_s ?_
        with_reducible repeat (first | refine S.then_n ?_ | refine S.then_x ?_ | refine S.then_r ?_ | refine S.inBlock_n ?_ | refine S.inBlock_r ?_ | refine S.inBlock_x rfl ?_ | refine S.noGoto_r ?_ | refine S.noGoto_n ?_ | refine S.noGoto_x ?_)
        refine hK20 _ _ ?_
        refine S.seq fun K27 hK27 => ?_
        refine S.regionG ?_
        refine S.g_op rfl (S.q (q_move rfl) rfl rfl ?_)
        refine S.g_op rfl (S.q (q_move rfl) rfl rfl ?_)
        refine S.g_op rfl (S.q (q_len Tryd.underlying36 rfl) rfl rfl ?_)
        refine S.g_op rfl (S.q (q_eq rfl rfl) rfl rfl ?_)
        refine S.g_op rfl (S.q (q_move rfl) rfl rfl ?_)
        refine S.g_yes rfl rfl rfl ((decide_eq_true (by rw [hsn]))) (S.q (q_move rfl) rfl rfl ?_)
        refine S.g_yes rfl rfl rfl ((decide_eq_true (by rw [hsn]))) (S.q (q_len Tryd.underlying36 rfl) rfl rfl ?_)
        refine S.g_yes rfl rfl rfl ((decide_eq_true (by rw [hsn]))) (S.q (q_move rfl) rfl rfl ?_)
        refine S.g_yes rfl rfl rfl ((decide_eq_true (by rw [hsn]))) (S.q (q_eq rfl rfl) rfl rfl ?_)
        refine S.g_op rfl (S.q (q_pickT rfl ((decide_eq_true (by rw [hsn]))) rfl) rfl rfl ?_)
        refine S.g_op rfl (S.q (q_assign rfl) rfl rfl ?_)
        first | with_reducible refine S.g_nilK ?_ | refine S.g_nil ?_
        refine hK27 _ _ ?_
        refine S.ret ?_
        with_reducible repeat (first | refine S.then_n ?_ | refine S.then_x ?_ | refine S.then_r ?_ | refine S.inBlock_n ?_ | refine S.inBlock_r ?_ | refine S.inBlock_x rfl ?_ | refine S.noGoto_r ?_ | refine S.noGoto_n ?_ | refine S.noGoto_x ?_)
        exact S.fin (rs := [_]) (vs := [_]) Tryd.results4 (⟨rfl, trivial⟩)  (⟨by simp only [resV]; rw [decide_eq_true (show (sv.n : Int) = k by omega)], rfl⟩) Sub.ent
open Go.ChangeShapes Go.WideShapes Go.ChangeAt
theorem RowsFirst_law {H : Type} (enc : TypeId × Value → H) : LawWalkT enc Rows.rowsFirstRow.laid 4 Tryd.f4 := by
  intro W base args ds before hval hA _ _ hL
  rw [Tryd.params4] at hA hval
  obtain ⟨v0, vs0, d0, ds0, p0, q0, hargs, rfl, rfl, h0, r0⟩ := trodAll_cons hA
  obtain ⟨v1, vs1, d1, ds1, p1, q1, rfl, rfl, rfl, h1, r1⟩ := trodAll_cons r0
  obtain ⟨v2, vs2, d2, ds2, p2, q2, rfl, rfl, rfl, h2, r2⟩ := trodAll_cons r1
  obtain ⟨v3, vs3, d3, ds3, p3, q3, rfl, rfl, rfl, h3, r3⟩ := trodAll_cons r2
  obtain ⟨v4, vs4, d4, ds4, p4, q4, rfl, rfl, rfl, h4, r4⟩ := trodAll_cons r3
  obtain ⟨rfl, rfl, rfl⟩ := trodAll_nil r4
  obtain rfl : args = #[v0, v1, v2, v3, v4] := by cases args; simp_all
  obtain ⟨r, rfl, hr⟩ := arg_int Tryd.underlying5 (hval 0 5 v0 rfl rfl) h0
  obtain ⟨n, rfl, hn⟩ := arg_int Tryd.underlying5 (hval 1 5 v1 rfl rfl) h1
  obtain ⟨s, ws, e2, hs⟩ := rd_bytes (arg_slice 4 Tryd.underlying22 (by kernel_rfl) (hval 2 22 v2 rfl rfl) h2)
  simp only [List.cons.injEq, and_true] at e2
  subst e2
  obtain ⟨t, gs, e3, ht⟩ := rd_bytes (arg_slice 4 Tryd.underlying22 (by kernel_rfl) (hval 3 22 v3 rfl rfl) h3)
  simp only [List.cons.injEq, and_true] at e3
  subst e3
  obtain ⟨z, rfl, hz⟩ := arg_int Tryd.underlying5 (hval 4 5 v4 rfl rfl) h4
  exact law_run (RowsFirst_S r n z ws gs s t (u8_rng hr) (u8_rng hn) (u8_rng hz) (tabW_of rfl hL) hs ht)
set_option maxRecDepth 100000 in
theorem RowsFirst_met (os : Os) (args : Array Value) : laidMetH Tryd.prog Rows.rowsFirstRow.laid ((World.doorLaid Tryd.prog 14 os).forCall (fun _ _ => 0) ⟨#[], args, []⟩).memory :=
  laidMetH_of_parts3 (fuel := 8) (laidMet_of_run' 8 (by kernel_rfl) (by kernel_rfl)) (by kernel_rfl) (by kernel_rfl)
set_option maxRecDepth 100000 in
theorem RowsFirst_lifted (os : Os) (started : os.Started) (H : Type) (enc : TypeId × Value → H) :
    ReturnsInHanded {} Tryd.checked os 4 .any (fun w args => (Rows.rowsFirstSpec.pre enc Tryd.prog Tryd.f4 [] false w args ∧ laidMetH Tryd.prog Rows.rowsFirstRow.laid w) ∧ sizedMet enc Tryd.prog Tryd.f4 (OpenSpec.ofChange Rows.rowsFirstSpec) false w args) (Rows.rowsFirstSpec.post enc Tryd.prog Tryd.f4 false true false false) :=
  lift_trueT started Tryd.func4 (by kernel_rfl)
    (ChangeSpec.witness_shaped (enc := enc) (C := Tryd.checked) (os := os) (X := fun w _ => laidMetH Tryd.prog Rows.rowsFirstRow.laid w) false (World.doorLaid Tryd.prog 14 os) #[.int .u8 0, .int .u8 0, .slice none 0 0, .slice none 0 0, .int .u8 0] 8 rfl (World.shaped_of_RefB (by kernel_rfl) (by kernel_rfl)) (by kernel_rfl) (by kernel_rfl) (by kernel_rfl) (RowsFirst_met os _))
    rfl rfl (by kernel_rfl) (fun ds h => by match ds, h with | [a0, a1, a2, a3, a4], _ => rfl) (RowsFirst_law enc)
theorem RowsFirst_over : Rows.rowsFirstRow.holds Tryd.pinned (OpenSpec.ofChange Rows.rowsFirstSpec) :=
  OpenClaim.holds_of_wide 4 Tryd.f4 rfl rfl rfl rfl rfl rfl rfl ⟨rfl, rfl, rfl, rfl, rfl⟩ rfl rfl rfl rfl rfl (by kernel_rfl) Tryd.func4 (by kernel_rfl)
    (of_decide_eq_true (by kernel_rfl)) (by unfold Func.isWrapper; first | (rw [if_pos (by decide +kernel)]; kernel_rfl) | (rw [if_neg (by decide +kernel)]; exact ⟨rfl, rfl⟩))
    (fun os started H enc _ => RowsFirst_lifted os started H enc)
theorem RowsFirst_holds : Rows.RowsFirstCardSaid :=
  Claim7.holds_tied_plain_at .later [] [.data] true (true, "86a1950679c6e302df567596b1ce70534988441a199adcc810f44d25cfbe767f") true
    RowsFirst_over (fun _ h => by cases h) (by kernel_rfl) (fun _ h => by cases h) rowsFirst_row_tie rfl ⟨rfl, rfl⟩ (by kernel_rfl) rfl
    (fun f fn hf hfn => by
      obtain rfl : f = 4 := Option.some.inj ((show Tryd.prog.funcNamed "quadrille/quadrillelaw12.RowsFirst" = some 4 by kernel_rfl).symm.trans hf) |>.symm
      obtain rfl : fn = Tryd.f4 := (Option.some.inj (Tryd.func4.symm.trans hfn)).symm
      exact ⟨by kernel_rfl, fun j t ht => by
        rw [Tryd.params4] at ht
        have hm : t ∈ [5, 5, 22, 22, 5] := by simpa using Array.mem_of_getElem? ht
        have hall : ([5, 5, 22, 22, 5].all fun u => !Tryd.prog.wantsStandIn u) = true := by kernel_rfl
        exact (show Tryd.prog.wantsStandIn t = false by simpa using List.all_eq_true.1 hall t hm)⟩)
    (by kernel_rfl)
#print axioms RowsFirst_holds
end Go.Proofs.YtdmfjjogpmddoaaDoor
