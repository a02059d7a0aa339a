/- The law PrioPlays: every script of who comes, changes and goes has the document's answers. -/
import Derived.Test.YthpfljiabhjodaaPrioN
namespace Go.Proofs.Ythpfljiabhjodaa
open Go.RowKit
set_option maxRecDepth 20000
structure PSt (no : Bool) (k : Nat) (st : HSt) : Prop where
  nil : no = st.isNone
  len : lenR st ≤ k
  ids : ((stL st).map (·.id)).Nodup
theorem PSt.mono {no : Bool} {k k' : Nat} {st : HSt} (h : PSt no k st) (hk : k ≤ k') : PSt no k' st := ⟨h.nil, Nat.le_trans h.len hk, h.ids⟩
theorem ins_ids {x : It} {l : List It} (h : (l.map (·.id)).Nodup) (hx : ∀ y ∈ l, y.id ≠ x.id) : ((ins x l).map (·.id)).Nodup := by
  refine ((ins_perm x l).map (fun x : It => x.id)).symm.nodup ?_
  rw [List.map_cons, List.nodup_cons]
  refine ⟨fun hm => ?_, h⟩
  obtain ⟨y, hy, e⟩ := List.mem_map.1 hm
  exact hx y hy e
theorem ins_length (x : It) (l : List It) : (ins x l).length = l.length + 1 := by rw [(ins_perm x l).length_eq]; rfl
theorem others_len (id : Int) (l : List It) : (others id l).length ≤ l.length := List.length_filter_le ..
theorem others_lt {id : Int} {l : List It} (h : hasL id l = true) : (others id l).length < l.length := by
  obtain ⟨x, hx, e⟩ := List.any_eq_true.1 h
  exact List.length_filter_lt_length_iff_exists.2 ⟨x, hx, by simp [of_decide_eq_true e]⟩
theorem others_ids {id : Int} {l : List It} (h : (l.map (·.id)).Nodup) : ((others id l).map (·.id)).Nodup := h.sublist (List.filter_sublist.map _)
theorem PSt.push {no : Bool} {k : Nat} {st : HSt} (h : PSt no k st) (x : It) : PSt no (k + 1) (pushR x st).2 := by
  cases st with
  | none => exact h.mono (Nat.le_succ _)
  | some l =>
    cases hx : hasL x.id l with
    | true => have e : (pushR x (some l)).2 = some l := by simp only [pushR, hx, if_true]
              rw [e]; exact h.mono (Nat.le_succ _)
    | false =>
      have e : (pushR x (some l)).2 = some (ins x l) := by simp only [pushR, hx]; rfl
      rw [e]
      exact ⟨h.nil, by have := h.len; simp only [lenR, ins_length] at this ⊢; omega, ins_ids h.ids (hasL_false hx)⟩
theorem PSt.pop {no : Bool} {k : Nat} {st : HSt} (h : PSt no k st) : PSt no k (popR st).2.2 ∧ stL (popR st).2.2 = (stL st).drop 1 := by
  cases st with
  | none => exact ⟨h, rfl⟩
  | some l =>
    cases l with
    | nil => exact ⟨h, rfl⟩
    | cons a l => exact ⟨⟨h.nil, by have := h.len; simp only [lenR, List.length_cons, popR] at this ⊢; omega, (List.nodup_cons.1 (show ((a.id) :: l.map (·.id)).Nodup from h.ids)).2⟩, rfl⟩
theorem PSt.remove {no : Bool} {k : Nat} {st : HSt} (h : PSt no k st) (id : Int) : PSt no k (removeR id st).2 ∧ (removeR id (some (stL st))).1 = (removeR id st).1 ∧ stL (removeR id (some (stL st))).2 = stL (removeR id st).2 := by
  cases st with
  | none => exact ⟨h, rfl, rfl⟩
  | some l =>
    refine ⟨?_, rfl, rfl⟩
    cases hx : hasL id l with
    | false => have e : (removeR id (some l)).2 = some l := by simp only [removeR, hx]; rfl
               rw [e]; exact h
    | true =>
      have e : (removeR id (some l)).2 = some (others id l) := by simp only [removeR, hx, if_true]
      rw [e]
      exact ⟨h.nil, Nat.le_trans (others_len _ _) h.len, others_ids h.ids⟩
theorem PSt.change {no : Bool} {k : Nat} {st : HSt} (h : PSt no k st) (x : It) : PSt no k (changeR x st).2 := by
  cases st with
  | none => exact h
  | some l =>
    cases hx : hasL x.id l with
    | false => have e : (changeR x (some l)).2 = some l := by simp only [changeR, hx]; rfl
               rw [e]; exact h
    | true =>
      have e : (changeR x (some l)).2 = some (ins x (others x.id l)) := by simp only [changeR, hx, if_true]
      rw [e]
      refine ⟨h.nil, ?_, ins_ids (others_ids h.ids) (others_no _ _)⟩
      have h1 := h.len
      have h2 := others_lt hx
      simp only [lenR, ins_length] at h1 ⊢
      omega
theorem hasL_others (id : Int) (l : List It) : hasL id (others id l) = false := List.any_eq_false.2 fun y hy => by
  have := others_no id l y hy
  simpa using this
theorem change_of (x : It) (st : HSt) : ((removeR x.id st).1 = 0 → (pushR x (some (stL (removeR x.id st).2))).1 = (changeR x st).1 ∧ stL (pushR x (some (stL (removeR x.id st).2))).2 = stL (changeR x st).2) ∧ ((removeR x.id st).1 ≠ 0 → (removeR x.id st).1 = (changeR x st).1 ∧ stL (removeR x.id st).2 = stL (changeR x st).2) := by
  cases st with
  | none => exact ⟨fun h => (by cases h), fun _ => ⟨rfl, rfl⟩⟩
  | some l =>
    cases hx : hasL x.id l with
    | false =>
      have e1 : removeR x.id (some l) = (6, some l) := by simp only [removeR, hx]; rfl
      have e2 : changeR x (some l) = (6, some l) := by simp only [changeR, hx]; rfl
      rw [e1, e2]
      exact ⟨fun h => (by cases h), fun _ => ⟨rfl, rfl⟩⟩
    | true =>
      have e1 : removeR x.id (some l) = (0, some (others x.id l)) := by simp only [removeR, hx, if_true]
      have e2 : changeR x (some l) = (0, some (ins x (others x.id l))) := by simp only [changeR, hx, if_true]
      have e3 : pushR x (some (others x.id l)) = (0, some (ins x (others x.id l))) := by simp only [pushR, hasL_others]; rfl
      rw [e1, e2]
      refine ⟨fun _ => ?_, fun h => absurd rfl h⟩
      rw [show stL (some (others x.id l)) = others x.id l from rfl, e3]
      exact ⟨rfl, rfl⟩
theorem find_has (id : Int) (st : HSt) : hasR id st = decide ((0 : Int) ≤ findI id (stL st) 0) := by
  have h : hasR id st = hasL id (stL st) := by cases st <;> rfl
  rw [h]
  rcases findI_spec id (stL st) 0 with ⟨e1, e2⟩ | ⟨k, x, e1, e2, _⟩
  · rw [e1, e2]; rfl
  · rw [e1, e2]; exact (decide_eq_true (by omega)).symm
structure Opp where
  od : Int
  x : It
instance : Inhabited Opp := ⟨⟨0, it0⟩⟩
abbrev oppC (r : Opp) : List Value := [.int .u8 r.od, .int .u32 r.x.id, .int .u8 r.x.tier, .int .u32 r.x.since]
theorem rd_opps {W : World} {cs : List Value} (h : Rd W (.slice 4 (.cat 1 (.int .u8) (.cat 3 (.cat 1 (.int .u32) (.cat 1 (.int .u8) (.cat 1 (.int .u32) .nil))) .nil))) cs) :
    ∃ (s : SV) (rs : List Opp), cs = [s.v] ∧ s.n = rs.length ∧ SlAt W s.v rs.length 4 (rs.flatMap oppC) := by
  obtain ⟨s, rs, h1, h2, h3, _, _⟩ := rd_slice (α := Opp) (encA := oppC) (p := fun _ => True) (fun cs hr _ => by
    obtain ⟨_, _, rfl, _, ⟨od, rfl, _⟩, _, _, rfl, _, h8, rfl⟩ := hr
    obtain ⟨x, rfl⟩ := rd_item h8
    exact ⟨⟨od, x⟩, rfl, trivial⟩) h (by omega)
  exact ⟨s, rs, h1, h2, h3⟩
set_option maxHeartbeats 2000000 in
theorem PrioPlays_S (no : Bool) (s1 : SV) (rs : List Opp) (W : World) (hn0 : s1.n = rs.length) (h0 : SlAt W s1.v rs.length 4 (rs.flatMap oppC)) : LawS 6 [.bool no, s1.v] W := by
  have hm0 := slAt_cap h0
  unfold maxLen at hm0
  refine Spec.of_body Try.func6 rfl Try.ntmps6 rfl ?_
  intro w0 Γ
  show S _ w0 [(0, .bool no), (1, s1.v)] (old W :: Γ) _
  refine S.seq fun K1 hK1 => ?_
  refine S.region rfl ?_
  refine S.op (S.q (q_assign rfl) rfl rfl ?_)
  first | with_reducible refine S.nilK ?_ | refine S.nil ?_
  refine hK1 _ _ ?_
  refine S.seq fun K2 hK2 => ?_
  refine S.seq fun K3 hK3 => ?_
  refine S.region rfl ?_
  refine S.op (S.call Try.en8 (vs := []) trivial (awake_S) rfl ?_)
  rintro v Θ ⟨rfl, rfl⟩
  refine S.op (S.q (q_not rfl) rfl rfl ?_)
  first | with_reducible refine S.nilK ?_ | refine S.nil ?_
  refine hK3 _ _ ?_
  refine S.condF rfl ?_
  refine S.skip ?_
  with_reducible repeat (first | refine S.then_n ?_ | refine S.then_x ?_ | refine S.then_r ?_ | refine S.inBlock_n ?_ | refine S.inBlock_r ?_ | refine S.inBlock_x rfl ?_ | refine S.noGoto_r ?_ | refine S.noGoto_n ?_ | refine S.noGoto_x ?_)
  refine hK2 _ _ ?_
  refine S.seq fun K4 hK4 => ?_
  refine S.region rfl ?_
  refine S.op (S.call Try.en11 (vs := []) trivial (HNew_S) rfl ?_)
  rintro v Θ ⟨pa0, rfl, rfl⟩
  refine S.op (S.q (q_assign rfl) rfl rfl ?_)
  first | with_reducible refine S.nilK ?_ | refine S.nil ?_
  refine hK4 _ _ ?_
  refine S.seq fun K5 hK5 => ?_
  refine S.seq fun K6 hK6 => ?_
  refine S.region rfl ?_
  refine S.op (S.q (q_move rfl) rfl rfl ?_)
  first | with_reducible refine S.nilK ?_ | refine S.nil ?_
  refine hK6 _ _ ?_
  refine S.cut (fun ρ' Γ' => ∃ (pa : Option Addr) (st : HSt), PSt no 0 st ∧ ρ' = [(0, .bool no), (1, s1.v), (5, .pointer pa)] ∧ Γ' = HI pa st :: old W :: Γ) ?_ ?_
  · refine S.cond rfl (fun h2 => ?_) (fun h2 => ?_)
    · refine S.region rfl ?_
      refine S.op (S.q (q_assign rfl) rfl rfl ?_)
      first | with_reducible refine S.nilK ?_ | refine S.nil ?_
      with_reducible repeat (first | refine S.then_n ?_ | refine S.then_x ?_ | refine S.then_r ?_ | refine S.inBlock_n ?_ | refine S.inBlock_r ?_ | refine S.inBlock_x rfl ?_ | refine S.noGoto_r ?_ | refine S.noGoto_n ?_ | refine S.noGoto_x ?_)
      first
      | exact S.meet ⟨none, none, ⟨h2, Nat.le_refl _, List.nodup_nil⟩, rfl, rfl⟩ ⟨rfl, rfl, rfl, trivial⟩ ((Sub.ent : Ent _ (old W :: Γ)).trans (Ent.noHI _))
      | exact S.meet ⟨pa0, some [], ⟨h2, Nat.le_refl _, List.nodup_nil⟩, rfl, rfl⟩ ⟨rfl, rfl, rfl, trivial⟩ Sub.ent
    · refine S.skip ?_
      with_reducible repeat (first | refine S.then_n ?_ | refine S.then_x ?_ | refine S.then_r ?_ | refine S.inBlock_n ?_ | refine S.inBlock_r ?_ | refine S.inBlock_x rfl ?_ | refine S.noGoto_r ?_ | refine S.noGoto_n ?_ | refine S.noGoto_x ?_)
      with_reducible repeat (first | refine S.then_n ?_ | refine S.then_x ?_ | refine S.then_r ?_ | refine S.inBlock_n ?_ | refine S.inBlock_r ?_ | refine S.inBlock_x rfl ?_ | refine S.noGoto_r ?_ | refine S.noGoto_n ?_ | refine S.noGoto_x ?_)
      first
      | exact S.meet ⟨none, none, ⟨h2, Nat.le_refl _, List.nodup_nil⟩, rfl, rfl⟩ ⟨rfl, rfl, rfl, trivial⟩ ((Sub.ent : Ent _ (old W :: Γ)).trans (Ent.noHI _))
      | exact S.meet ⟨pa0, some [], ⟨h2, Nat.le_refl _, List.nodup_nil⟩, rfl, rfl⟩ ⟨rfl, rfl, rfl, trivial⟩ Sub.ent
  · rintro ρ' Γ' ⟨pa, st0, hp0, rfl, rfl⟩
    refine hK5 _ _ ?_
    refine S.seq fun K7 hK7 => ?_
    refine S.region rfl ?_
    refine S.op (S.q (q_assign rfl) rfl rfl ?_)
    first | with_reducible refine S.nilK ?_ | refine S.nil ?_
    refine hK7 _ _ ?_
    refine S.seq fun K8 hK8 => ?_
    refine S.seq fun K9 hK9 => ?_
    refine S.region rfl ?_
    refine S.ent (show Ent _ (refO SV.nil [] :: _) from Ent.ownNil 24 3) ?_
    have hst0 : stL st0 = [] := by
      have := hp0.len
      cases st0 with
      | none => rfl
      | some l => exact (show l = [] from List.eq_nil_of_length_eq_zero (Nat.le_zero.1 this))
    rw [← hst0]
    refine S.op (S.q (q_move rfl) rfl rfl ?_)
    refine S.op (S.q (q_len Try.underlying42 rfl) rfl rfl ?_)
    refine S.op (S.q (q_move rfl) rfl rfl ?_)
    first | with_reducible refine S.nilK ?_ | refine S.nil ?_
    refine hK9 _ _ ?_
    refine S.block ?_
    refine S.loop (fun m ρ' Γ' => ∃ (k : Nat) (st : HSt) (lv : SV), m + k = rs.length ∧ k ≤ 100 ∧ PSt no k st ∧ ρ' = [(0, .bool no), (5, .pointer pa), (6, lv.v), (22, s1.v), (23, .int .i64 s1.n), (24, .int .i64 k)] ∧ Γ' = HI pa st :: refO lv (stL st) :: old W :: Γ) (m := _) (ρ0 := _) (Γ0 := _) (⟨0, st0, SV.nil, rfl, by omega, hp0, rfl, rfl⟩) (by repeat (first | exact trivial | refine ⟨rfl, ?_⟩)) Sub.ent ?_
    rintro m ρ' Γ' ⟨k, st, lv, hmk, hk100, hps, rfl, rfl⟩
    have hlen := hps.len
    have hlst : lenR st = (stL st).length := by cases st <;> rfl
    refine S.ownLen lv fun hlvl hlvc hlvm => ?_
    unfold maxLen at hlvm
    rw [flat_length itC_len] at hlvl
    refine S.seq fun K10 hK10 => ?_
    refine S.region rfl ?_
    refine S.op (S.q (q_lt rfl rfl) rfl rfl ?_)
    first | with_reducible refine S.nilK ?_ | refine S.nil ?_
    refine hK10 _ _ ?_
    refine S.seq fun K11 hK11 => ?_
    refine S.condD rfl (fun h3 => ?_) (fun h3 => ?_)
    · obtain ⟨r, hr⟩ := getE (l := rs) (i := k) (by omega)
      obtain ⟨b, off, hb, hcell⟩ := slAt_some h0 (by omega)
      refine S.skip ?_
      with_reducible repeat (first | refine S.then_n ?_ | refine S.then_x ?_ | refine S.then_r ?_ | refine S.inBlock_n ?_ | refine S.inBlock_r ?_ | refine S.inBlock_x rfl ?_ | refine S.noGoto_r ?_ | refine S.noGoto_n ?_ | refine S.noGoto_x ?_)
      refine hK11 _ _ ?_
      refine S.seq fun K12 hK12 => ?_
      refine S.block ?_
      refine S.seq fun K13 hK13 => ?_
      refine S.region rfl ?_
      refine S.op (S.q (q_move rfl) rfl rfl ?_)
      refine S.op (S.q (q_indexO (k) Try.el42 rfl hb rfl rfl (by omega)) rfl rfl ?_)
      refine S.op (S.q (q_loadWS [.int .u8 r.od, .int .u32 r.x.id, .int .u8 r.x.tier, .int .u32 r.x.since] Try.ag44 rfl rfl (fun i u hu => by rw [Nat.add_assoc]; exact hcell _ _ (flat_seg (enc := oppC) (sz := 4) (fun _ => rfl) hr i u hu))) rfl rfl ?_)
      refine S.op (S.alloc Try.z44 rfl ?_)
      intro b8
      refine S.op (S.q (q_assign rfl) rfl rfl ?_)
      refine S.op (S.storeS (cs' := [_, _, _, _]) Try.ag44 rfl rfl rfl rfl rfl rfl ?_)
      first | with_reducible refine S.nilK ?_ | refine S.nil ?_
      refine hK13 _ _ ?_
      refine S.seq fun K14 hK14 => ?_
      refine S.seq fun K15 hK15 => ?_
      refine S.region rfl ?_
      refine S.op (S.q (q_move rfl) rfl rfl ?_)
      refine S.op (S.q (q_ge rfl rfl) rfl rfl ?_)
      first | with_reducible refine S.nilK ?_ | refine S.nil ?_
      refine hK15 _ _ ?_
      refine S.condD rfl (fun h4 => ?_) (fun h4 => ?_)
      · refine S.exit ?_
        with_reducible repeat (first | refine S.then_n ?_ | refine S.then_x ?_ | refine S.then_r ?_ | refine S.inBlock_n ?_ | refine S.inBlock_r ?_ | refine S.inBlock_x rfl ?_ | refine S.noGoto_r ?_ | refine S.noGoto_n ?_ | refine S.noGoto_x ?_)
        with_reducible refine S.inBlock_s ?_
        with_reducible repeat (first | refine S.then_n ?_ | refine S.then_x ?_ | refine S.then_r ?_ | refine S.inBlock_n ?_ | refine S.inBlock_r ?_ | refine S.inBlock_x rfl ?_ | refine S.noGoto_r ?_ | refine S.noGoto_n ?_ | refine S.noGoto_x ?_)
        refine hK8 _ _ ?_
        refine S.seq fun K16 hK16 => ?_
        refine S.region rfl ?_
        refine S.op (S.q (q_assign rfl) rfl rfl ?_)
        first | with_reducible refine S.nilK ?_ | refine S.nil ?_
        refine hK16 _ _ ?_
        refine S.ret ?_
        with_reducible repeat (first | refine S.then_n ?_ | refine S.then_x ?_ | refine S.then_r ?_ | refine S.inBlock_n ?_ | refine S.inBlock_r ?_ | refine S.inBlock_x rfl ?_ | refine S.noGoto_r ?_ | refine S.noGoto_n ?_ | refine S.noGoto_x ?_)
        exact S.fin (rs := [_]) (vs := [_]) Try.results6 (⟨rfl, trivial⟩)  (⟨rfl, rfl⟩) Sub.ent
      · refine S.skip ?_
        with_reducible repeat (first | refine S.then_n ?_ | refine S.then_x ?_ | refine S.then_r ?_ | refine S.inBlock_n ?_ | refine S.inBlock_r ?_ | refine S.inBlock_x rfl ?_ | refine S.noGoto_r ?_ | refine S.noGoto_n ?_ | refine S.noGoto_x ?_)
        refine hK14 _ _ ?_
        refine S.seq fun K17 hK17 => ?_
        refine S.region rfl ?_
        refine S.op (S.q (q_field Try.fo44_1 rfl) rfl rfl ?_)
        refine S.op (S.q (q_loadS [_, _, _] Try.ag24 rfl rfl ⟨rfl, rfl, rfl, trivial⟩) rfl rfl ?_)
        refine S.op (S.alloc Try.z25 rfl ?_)
        intro b9
        refine S.op (S.storeS (cs' := [_, _, _]) Try.ag25 rfl rfl rfl rfl rfl rfl ?_)
        first | with_reducible refine S.nilK ?_ | refine S.nil ?_
        refine hK17 _ _ ?_
        refine S.seq fun K18 hK18 => ?_
        refine S.seq fun K19 hK19 => ?_
        refine S.region rfl ?_
        refine S.op (S.q (q_field Try.fo44_0 rfl) rfl rfl ?_)
        refine S.op (S.q (q_load Try.at5 rfl rfl) rfl rfl ?_)
        first | with_reducible refine S.nilK ?_ | refine S.nil ?_
        refine hK19 _ _ ?_
        refine S.cut (fun ρ' Γ' => ∃ (st' : HSt) (lv' : SV), PSt no (k + 1) st' ∧ ρ' = [(0, .bool no), (5, .pointer pa), (6, lv'.v), (22, s1.v), (23, .int .i64 s1.n), (24, .int .i64 k), (8, .pointer (some ⟨b8, 0, none⟩))] ∧ Γ' = blk b8 44 #[.int .u8 r.od, .int .u32 r.x.id, .int .u8 r.x.tier, .int .u32 r.x.since] :: HI pa st' :: refO lv' (stL st') :: old W :: Γ) ?_ ?_
        · refine S.block ?_
          refine S.seq fun K20 hK20 => ?_
          refine S.seq fun K21 hK21 => ?_
          refine S.region rfl ?_
          refine S.op (S.q (q_eq rfl rfl) rfl rfl ?_)
          refine S.op (S.q (q_assign rfl) rfl rfl ?_)
          first | with_reducible refine S.nilK ?_ | refine S.nil ?_
          refine hK21 _ _ ?_
          refine S.cut (fun ρ' Γ' => ∃ d : Bool, ρ' = [(0, .bool no), (5, .pointer pa), (6, lv.v), (22, s1.v), (23, .int .i64 s1.n), (24, .int .i64 k), (8, .pointer (some ⟨b8, 0, none⟩)), (9, .pointer (some ⟨b9, 0, none⟩)), (34, .int .u8 r.od), (35, .bool d)] ∧ Γ' = blk b8 44 #[.int .u8 r.od, .int .u32 r.x.id, .int .u8 r.x.tier, .int .u32 r.x.since] :: blk b9 25 (itC r.x).toArray :: HI pa st :: refO lv (stL st) :: old W :: Γ) ?_ ?_
          · refine S.condD rfl (fun h5 => ?_) (fun h5 => ?_)
            · refine S.skip ?_
              with_reducible repeat (first | refine S.then_n ?_ | refine S.then_x ?_ | refine S.then_r ?_ | refine S.inBlock_n ?_ | refine S.inBlock_r ?_ | refine S.inBlock_x rfl ?_ | refine S.noGoto_r ?_ | refine S.noGoto_n ?_ | refine S.noGoto_x ?_)
              with_reducible repeat (first | refine S.then_n ?_ | refine S.then_x ?_ | refine S.then_r ?_ | refine S.inBlock_n ?_ | refine S.inBlock_r ?_ | refine S.inBlock_x rfl ?_ | refine S.noGoto_r ?_ | refine S.noGoto_n ?_ | refine S.noGoto_x ?_)
              first
              | exact S.meet ⟨decide (r.od = 0), rfl, rfl⟩ ⟨rfl, rfl, rfl, rfl, rfl, rfl, rfl, rfl, rfl, rfl, trivial⟩ Sub.ent
              | exact S.meet ⟨decide (r.od = 1), rfl, rfl⟩ ⟨rfl, rfl, rfl, rfl, rfl, rfl, rfl, rfl, rfl, rfl, trivial⟩ Sub.ent
              | exact S.meet ⟨decide (r.od = 2), rfl, rfl⟩ ⟨rfl, rfl, rfl, rfl, rfl, rfl, rfl, rfl, rfl, rfl, trivial⟩ Sub.ent
            · refine S.seq fun K22 hK22 => ?_
              refine S.region rfl ?_
              refine S.op (S.q (q_eq rfl rfl) rfl rfl ?_)
              refine S.op (S.q (q_assign rfl) rfl rfl ?_)
              first | with_reducible refine S.nilK ?_ | refine S.nil ?_
              refine hK22 _ _ ?_
              refine S.condD rfl (fun h6 => ?_) (fun h6 => ?_)
              · refine S.skip ?_
                with_reducible repeat (first | refine S.then_n ?_ | refine S.then_x ?_ | refine S.then_r ?_ | refine S.inBlock_n ?_ | refine S.inBlock_r ?_ | refine S.inBlock_x rfl ?_ | refine S.noGoto_r ?_ | refine S.noGoto_n ?_ | refine S.noGoto_x ?_)
                with_reducible repeat (first | refine S.then_n ?_ | refine S.then_x ?_ | refine S.then_r ?_ | refine S.inBlock_n ?_ | refine S.inBlock_r ?_ | refine S.inBlock_x rfl ?_ | refine S.noGoto_r ?_ | refine S.noGoto_n ?_ | refine S.noGoto_x ?_)
                first
                | exact S.meet ⟨decide (r.od = 0), rfl, rfl⟩ ⟨rfl, rfl, rfl, rfl, rfl, rfl, rfl, rfl, rfl, rfl, trivial⟩ Sub.ent
                | exact S.meet ⟨decide (r.od = 1), rfl, rfl⟩ ⟨rfl, rfl, rfl, rfl, rfl, rfl, rfl, rfl, rfl, rfl, trivial⟩ Sub.ent
                | exact S.meet ⟨decide (r.od = 2), rfl, rfl⟩ ⟨rfl, rfl, rfl, rfl, rfl, rfl, rfl, rfl, rfl, rfl, trivial⟩ Sub.ent
              · refine S.region rfl ?_
                refine S.op (S.q (q_eq rfl rfl) rfl rfl ?_)
                refine S.op (S.q (q_assign rfl) rfl rfl ?_)
                first | with_reducible refine S.nilK ?_ | refine S.nil ?_
                with_reducible repeat (first | refine S.then_n ?_ | refine S.then_x ?_ | refine S.then_r ?_ | refine S.inBlock_n ?_ | refine S.inBlock_r ?_ | refine S.inBlock_x rfl ?_ | refine S.noGoto_r ?_ | refine S.noGoto_n ?_ | refine S.noGoto_x ?_)
                first
                | exact S.meet ⟨decide (r.od = 0), rfl, rfl⟩ ⟨rfl, rfl, rfl, rfl, rfl, rfl, rfl, rfl, rfl, rfl, trivial⟩ Sub.ent
                | exact S.meet ⟨decide (r.od = 1), rfl, rfl⟩ ⟨rfl, rfl, rfl, rfl, rfl, rfl, rfl, rfl, rfl, rfl, trivial⟩ Sub.ent
                | exact S.meet ⟨decide (r.od = 2), rfl, rfl⟩ ⟨rfl, rfl, rfl, rfl, rfl, rfl, rfl, rfl, rfl, rfl, trivial⟩ Sub.ent
          · rintro ρ' Γ' ⟨d, rfl, rfl⟩
            refine hK20 _ _ ?_
            refine S.cond rfl (fun h7 => ?_) (fun h7 => ?_)
            · refine S.seq fun K23 hK23 => ?_
              refine S.region rfl ?_
              refine S.op (S.q (q_move rfl) rfl rfl ?_)
              refine S.op (S.q (q_field Try.fo44_1 rfl) rfl rfl ?_)
              refine S.op (S.q (q_loadS [_, _, _] Try.ag24 rfl rfl ⟨rfl, rfl, rfl, trivial⟩) rfl rfl ?_)
              refine S.op (S.call Try.en17 (vs := [_, _]) ⟨rfl, rfl, trivial⟩ (rPush_S lv (stL st) r.x (by omega)) rfl ?_)
              rintro v Θ ⟨u, rfl, rfl⟩
              refine S.op (S.q (q_move rfl) rfl rfl ?_)
              refine S.op (S.q (q_extract rfl rfl) rfl rfl ?_)
              refine S.op (S.q (q_extract rfl rfl) rfl rfl ?_)
              refine S.op (S.q (q_assign rfl) rfl rfl ?_)
              refine S.op (S.q (q_assign rfl) rfl rfl ?_)
              first | with_reducible refine S.nilK ?_ | refine S.nil ?_
              refine hK23 _ _ ?_
              refine S.seq fun K24 hK24 => ?_
              refine S.seq fun K25 hK25 => ?_
              refine S.region rfl ?_
              refine S.op (S.q (q_move rfl) rfl rfl ?_)
              first | with_reducible refine S.nilK ?_ | refine S.nil ?_
              refine hK25 _ _ ?_
              refine S.cut (fun ρ' Γ' => ∃ (lv' : SV) (e' : Int), e' = (pushR r.x st).1 ∧ ρ' = [(0, .bool no), (5, .pointer pa), (6, lv.v), (22, s1.v), (23, .int .i64 s1.n), (24, .int .i64 k), (8, .pointer (some ⟨b8, 0, none⟩)), (9, .pointer (some ⟨b9, 0, none⟩)), (10, lv'.v), (11, .int .i64 e')] ∧ Γ' = blk b8 44 #[.int .u8 r.od, .int .u32 r.x.id, .int .u8 r.x.tier, .int .u32 r.x.since] :: blk b9 25 (itC r.x).toArray :: HI pa st :: refO lv' (stL (pushR r.x st).2) :: old W :: Γ) ?_ ?_
              · refine S.cond rfl (fun h8 => ?_) (fun h8 => ?_)
                · refine S.region rfl ?_
                  refine S.op (S.q (q_assign rfl) rfl rfl ?_)
                  refine S.op (S.q (q_assign rfl) rfl rfl ?_)
                  first | with_reducible refine S.nilK ?_ | refine S.nil ?_
                  with_reducible repeat (first | refine S.then_n ?_ | refine S.then_x ?_ | refine S.then_r ?_ | refine S.inBlock_n ?_ | refine S.inBlock_r ?_ | refine S.inBlock_x rfl ?_ | refine S.noGoto_r ?_ | refine S.noGoto_n ?_ | refine S.noGoto_x ?_)
                  first
                  | (obtain rfl : st = none := Option.isNone_iff_eq_none.1 (hps.nil.symm.trans h8); refine S.ent (show Ent _ (refO SV.nil [] :: _) from Ent.ownNil 24 3) ?_; exact S.meet ⟨SV.nil, 6, rfl, rfl, rfl⟩ ⟨rfl, rfl, rfl, rfl, rfl, rfl, rfl, rfl, rfl, rfl, trivial⟩ (Sub.ent : Ent _ (blk b8 44 #[.int .u8 r.od, .int .u32 r.x.id, .int .u8 r.x.tier, .int .u32 r.x.since] :: blk b9 25 (itC r.x).toArray :: HI pa none :: refO SV.nil [] :: old W :: Γ)))
                  | (obtain ⟨l, rfl⟩ : ∃ l, st = some l := Option.isSome_iff_exists.1 (by rw [← Option.not_isNone, ← hps.nil, h8]; rfl); refine S.conv (refO u (stL (pushR r.x (some (stL (some l)))).2)) (show Ent _ (refO u (stL (pushR r.x (some l)).2) :: _) from Ent.refl _) ?_; exact S.meet ⟨u, (pushR r.x (some l)).1, rfl, rfl, rfl⟩ ⟨rfl, rfl, rfl, rfl, rfl, rfl, rfl, rfl, rfl, rfl, trivial⟩ (show Ent _ (blk b8 44 #[.int .u8 r.od, .int .u32 r.x.id, .int .u8 r.x.tier, .int .u32 r.x.since] :: blk b9 25 (itC r.x).toArray :: HI pa (some l) :: refO u (stL (pushR r.x (some l)).2) :: old W :: Γ) from Sub.ent))
                · refine S.skip ?_
                  with_reducible repeat (first | refine S.then_n ?_ | refine S.then_x ?_ | refine S.then_r ?_ | refine S.inBlock_n ?_ | refine S.inBlock_r ?_ | refine S.inBlock_x rfl ?_ | refine S.noGoto_r ?_ | refine S.noGoto_n ?_ | refine S.noGoto_x ?_)
                  with_reducible repeat (first | refine S.then_n ?_ | refine S.then_x ?_ | refine S.then_r ?_ | refine S.inBlock_n ?_ | refine S.inBlock_r ?_ | refine S.inBlock_x rfl ?_ | refine S.noGoto_r ?_ | refine S.noGoto_n ?_ | refine S.noGoto_x ?_)
                  first
                  | (obtain rfl : st = none := Option.isNone_iff_eq_none.1 (hps.nil.symm.trans h8); refine S.ent (show Ent _ (refO SV.nil [] :: _) from Ent.ownNil 24 3) ?_; exact S.meet ⟨SV.nil, 6, rfl, rfl, rfl⟩ ⟨rfl, rfl, rfl, rfl, rfl, rfl, rfl, rfl, rfl, rfl, trivial⟩ (Sub.ent : Ent _ (blk b8 44 #[.int .u8 r.od, .int .u32 r.x.id, .int .u8 r.x.tier, .int .u32 r.x.since] :: blk b9 25 (itC r.x).toArray :: HI pa none :: refO SV.nil [] :: old W :: Γ)))
                  | (obtain ⟨l, rfl⟩ : ∃ l, st = some l := Option.isSome_iff_exists.1 (by rw [← Option.not_isNone, ← hps.nil, h8]; rfl); refine S.conv (refO u (stL (pushR r.x (some (stL (some l)))).2)) (show Ent _ (refO u (stL (pushR r.x (some l)).2) :: _) from Ent.refl _) ?_; exact S.meet ⟨u, (pushR r.x (some l)).1, rfl, rfl, rfl⟩ ⟨rfl, rfl, rfl, rfl, rfl, rfl, rfl, rfl, rfl, rfl, trivial⟩ (show Ent _ (blk b8 44 #[.int .u8 r.od, .int .u32 r.x.id, .int .u8 r.x.tier, .int .u32 r.x.since] :: blk b9 25 (itC r.x).toArray :: HI pa (some l) :: refO u (stL (pushR r.x (some l)).2) :: old W :: Γ) from Sub.ent))
              · rintro ρ' Γ' ⟨lv', e', he', rfl, rfl⟩
                refine hK24 _ _ ?_
                refine S.seq fun K26 hK26 => ?_
                refine S.region rfl ?_
                refine S.op (S.q (q_move rfl) rfl rfl ?_)
                refine S.op (S.q (q_assign rfl) rfl rfl ?_)
                first | with_reducible refine S.nilK ?_ | refine S.nil ?_
                refine hK26 _ _ ?_
                refine S.seq fun K27 hK27 => ?_
                refine S.region rfl ?_
                refine S.op (S.q (q_move rfl) rfl rfl ?_)
                refine S.op (S.q (q_loadS [_, _, _] Try.ag25 rfl rfl ⟨rfl, rfl, rfl, trivial⟩) rfl rfl ?_)
                refine S.op (S.call Try.en12 (vs := [_, _]) ⟨rfl, rfl, trivial⟩ (HPush_S pa st r.x (by omega)) rfl ?_)
                rintro v Θ ⟨rfl, rfl⟩
                obtain ⟨st', hst'⟩ : ∃ st', st' = (pushR r.x st).2 := ⟨_, rfl⟩
                have hps' : PSt no (k + 1) st' := by rw [hst']; exact hps.push r.x
                rw [← hst']
                refine S.op (S.q (q_move rfl) rfl rfl ?_)
                refine S.op (S.q (q_ne rfl rfl) rfl rfl ?_)
                first | with_reducible refine S.nilK ?_ | refine S.nil ?_
                refine hK27 _ _ ?_
                refine S.condD rfl (fun h9 => ?_) (fun h9 => ?_)
                · exact absurd he'.symm h9
                · refine S.skip ?_
                  with_reducible repeat (first | refine S.then_n ?_ | refine S.then_x ?_ | refine S.then_r ?_ | refine S.inBlock_n ?_ | refine S.inBlock_r ?_ | refine S.inBlock_x rfl ?_ | refine S.noGoto_r ?_ | refine S.noGoto_n ?_ | refine S.noGoto_x ?_)
                  with_reducible repeat (first | refine S.then_n ?_ | refine S.then_x ?_ | refine S.then_r ?_ | refine S.inBlock_n ?_ | refine S.inBlock_r ?_ | refine S.inBlock_x rfl ?_ | refine S.noGoto_r ?_ | refine S.noGoto_n ?_ | refine S.noGoto_x ?_)
                  with_reducible repeat (first | refine S.then_n ?_ | refine S.then_x ?_ | refine S.then_r ?_ | refine S.inBlock_n ?_ | refine S.inBlock_r ?_ | refine S.inBlock_x rfl ?_ | refine S.noGoto_r ?_ | refine S.noGoto_n ?_ | refine S.noGoto_x ?_)
                  first
                  | exact S.meet ⟨st', lv', hps', rfl, rfl⟩ ⟨rfl, rfl, rfl, rfl, rfl, rfl, rfl, trivial⟩ Sub.ent
                  | exact S.meet ⟨st, lv, hps.mono (Nat.le_succ _), rfl, rfl⟩ ⟨rfl, rfl, rfl, rfl, rfl, rfl, rfl, trivial⟩ Sub.ent
            · refine S.seq fun K28 hK28 => ?_
              refine S.region rfl ?_
              refine S.op (S.q (q_eq rfl rfl) rfl rfl ?_)
              refine S.op (S.q (q_assign rfl) rfl rfl ?_)
              first | with_reducible refine S.nilK ?_ | refine S.nil ?_
              refine hK28 _ _ ?_
              refine S.condD rfl (fun h10 => ?_) (fun h10 => ?_)
              · refine S.seq fun K29 hK29 => ?_
                refine S.region rfl ?_
                refine S.op (S.q (q_move rfl) rfl rfl ?_)
                refine S.op (S.call Try.en13 (vs := [_]) ⟨rfl, trivial⟩ (HPop_S pa st (by omega)) rfl ?_)
                rintro v Θ ⟨rfl, rfl⟩
                obtain ⟨y, ok, st', hpop⟩ : ∃ y ok st', popR st = (y, ok, st') := ⟨_, _, _, rfl⟩
                obtain ⟨hps0, hdrop⟩ := hps.pop
                rw [hpop] at hps0 hdrop
                have hps' : PSt no (k + 1) st' := hps0.mono (Nat.le_succ _)
                have hok : ok = decide ((0 : Int) < (lv.n : Nat)) ∧ (ok = true → (stL st)[0]? = some y) ∧ (ok = false → y = it0) := by
                  cases st with
                  | none => cases hpop; exact ⟨(decide_eq_false (by simp [stL] at hlvl; omega)).symm, fun h => (by cases h), fun _ => rfl⟩
                  | some l =>
                    cases l with
                    | nil => cases hpop; exact ⟨(decide_eq_false (by simp [stL] at hlvl; omega)).symm, fun h => (by cases h), fun _ => rfl⟩
                    | cons a l => cases hpop; exact ⟨(decide_eq_true (by simp [stL] at hlvl; omega)).symm, fun _ => rfl, fun h => (by cases h)⟩
                rw [hpop]
                refine S.op (S.q (q_move rfl) rfl rfl ?_)
                refine S.op (S.q (q_extract rfl rfl) rfl rfl ?_)
                refine S.op (S.q (q_extract rfl rfl) rfl rfl ?_)
                refine S.op (S.alloc Try.z25 rfl ?_)
                intro b12
                refine S.op (S.storeS (cs' := [_, _, _]) Try.ag25 rfl rfl rfl rfl rfl rfl ?_)
                refine S.op (S.q (q_assign rfl) rfl rfl ?_)
                first | with_reducible refine S.nilK ?_ | refine S.nil ?_
                refine hK29 _ _ ?_
                refine S.seq fun K30 hK30 => ?_
                refine S.seq fun K31 hK31 => ?_
                refine S.draw ([blk b12 25 (itC y).toArray, refO lv (stL st)]) [] Try.mixed ?_
                refine S.dr_take 0 [] rfl (by kernel_rfl) rfl rfl rfl (q_move rfl) Sub.ent ?_
                refine S.dr_take 1 [] rfl (by kernel_rfl) rfl rfl rfl (q_move rfl) Sub.ent ?_
                refine S.dr_take 2 [] rfl (by kernel_rfl) rfl rfl rfl (q_len Try.underlying30 rfl) Sub.ent ?_
                refine S.dr_take 3 [] rfl (by kernel_rfl) rfl rfl rfl (q_gt rfl rfl) Sub.ent ?_
                refine S.dr_take 4 [] rfl (by kernel_rfl) rfl rfl rfl (q_neB Try.underlying4 rfl rfl) Sub.ent ?_
                refine S.dr_take 5 [] rfl (by kernel_rfl) rfl rfl rfl (q_move rfl) Sub.ent ?_
                refine S.dr_takeY 6 [] rfl (by kernel_rfl) rfl rfl rfl ((by rw [show (y, ok, st').2.1 = ok from rfl, hok.1]; simp)) rfl rfl (q_move rfl) Sub.ent ?_
                refine S.dr_takeY 7 [] rfl (by kernel_rfl) rfl rfl rfl ((by rw [show (y, ok, st').2.1 = ok from rfl, hok.1]; simp)) rfl rfl (q_move rfl) Sub.ent ?_
                rcases Bool.eq_false_or_eq_true (ok) with hg24_7 | hg24_7
                · have hl0 := hok.2.1 hg24_7
                  have hlv0 : 0 < lv.n := by have := (List.getElem?_eq_some_iff.1 hl0).1; omega
                  refine S.ownSome lv hlv0 fun b0 off0 hb0 _ _ _ => ?_
                  refine S.dr_takeY 8 [] rfl (by kernel_rfl) rfl rfl rfl (hg24_7) rfl rfl (q_loadS [_, _, _] Try.ag25 rfl rfl ⟨rfl, rfl, rfl, trivial⟩) Sub.ent ?_
                  refine S.dr_takeY 9 [] rfl (by kernel_rfl) rfl rfl rfl (hg24_7) rfl rfl (q_move rfl) Sub.ent ?_
                  refine S.dr_takeY 10 [] rfl (by kernel_rfl) rfl rfl rfl (hg24_7) rfl rfl (q_indexO (0) Try.el30 rfl hb0 rfl rfl (hlv0)) Sub.ent ?_
                  refine S.dr_takeY 11 [] rfl (by kernel_rfl) rfl rfl rfl (hg24_7) rfl rfl (q_loadOwS (lv) (0 * 3) [_, _, _] Try.ag24 rfl hb0 (by first | rfl | exact Nat.add_assoc _ _ _ | omega) rfl (flat_seg (enc := itC) (sz := 3) (fun _ => rfl) hl0)) Sub.ent ?_
                  refine S.dr_takeY 12 [] rfl (by kernel_rfl) rfl rfl rfl (hg24_7) rfl rfl (q_neIt y y (.inr rfl) rfl rfl) Sub.ent ?_
                  refine S.dr_takeY 13 [] rfl (by kernel_rfl) rfl rfl rfl ((by rw [show (y, ok, st').2.1 = ok from rfl, hok.1]; simp)) rfl rfl (q_pickT rfl (hg24_7) rfl) Sub.ent ?_
                  refine S.dr_take 14 [] rfl (by kernel_rfl) rfl rfl rfl (q_pickF rfl ((by rw [show (y, ok, st').2.1 = ok from rfl, hok.1]; simp)) rfl) Sub.ent ?_
                  refine S.dr_take 15 [] rfl (by kernel_rfl) rfl rfl rfl (q_move rfl) Sub.ent ?_
                  refine S.dr_takeY 16 [] rfl (by kernel_rfl) rfl rfl rfl ((by simp)) rfl rfl (q_move rfl) Sub.ent ?_
                  refine S.dr_takeY 17 [] rfl (by kernel_rfl) rfl rfl rfl ((by simp)) rfl rfl (q_not rfl) Sub.ent ?_
                  refine S.dr_takeY 18 [] rfl (by kernel_rfl) rfl rfl rfl ((by simp)) rfl rfl (q_move rfl) Sub.ent ?_
                  rcases Bool.eq_false_or_eq_true ((!ok)) with hg24_18 | hg24_18
                  · refine S.dr_takeY 19 [] rfl (by kernel_rfl) rfl rfl rfl (hg24_18) rfl rfl (q_loadS [_, _, _] Try.ag25 rfl rfl ⟨rfl, rfl, rfl, trivial⟩) Sub.ent ?_
                    refine S.dr_takeY 20 [] rfl (by kernel_rfl) rfl rfl rfl (hg24_18) rfl rfl (q_build (pvs := []) [_, _, _] Try.z25 Try.p25 trivial rfl) Sub.ent ?_
                    refine S.dr_takeY 21 [] rfl (by kernel_rfl) rfl rfl rfl (hg24_18) rfl rfl (q_neIt y it0 (.inl rfl) rfl rfl) Sub.ent ?_
                    refine S.dr_takeY 22 [] rfl (by kernel_rfl) rfl rfl rfl ((by simp)) rfl rfl (q_pickT rfl (hg24_18) rfl) Sub.ent ?_
                    refine S.dr_take 23 [] rfl (by kernel_rfl) rfl rfl rfl (q_pickF rfl ((by simp)) rfl) Sub.ent ?_
                    first | with_reducible refine S.dr_doneK (by kernel_rfl) ?_ | refine S.dr_done (by kernel_rfl) ?_
                    refine hK31 _ _ ?_
                    refine S.cond rfl (fun h11 => ?_) (fun h11 => ?_)
                    · exact absurd h11 (by first | (rw [hok.2.2 hg24_7]; simp) | exact absurd hg24_18 (by rw [hg24_7]; simp))
                    · refine S.skip ?_
                      with_reducible repeat (first | refine S.then_n ?_ | refine S.then_x ?_ | refine S.then_r ?_ | refine S.inBlock_n ?_ | refine S.inBlock_r ?_ | refine S.inBlock_x rfl ?_ | refine S.noGoto_r ?_ | refine S.noGoto_n ?_ | refine S.noGoto_x ?_)
                      refine hK30 _ _ ?_
                      refine S.seq fun K32 hK32 => ?_
                      refine S.region rfl ?_
                      refine S.op (S.q (q_move rfl) rfl rfl ?_)
                      refine S.op (S.q (q_len Try.underlying30 rfl) rfl rfl ?_)
                      refine S.op (S.q (q_gt rfl rfl) rfl rfl ?_)
                      first | with_reducible refine S.nilK ?_ | refine S.nil ?_
                      refine hK32 _ _ ?_
                      refine S.condD rfl (fun h12 => ?_) (fun h12 => ?_)
                      · refine S.region rfl ?_
                        refine S.op (S.q (q_move rfl) rfl rfl ?_)
                        refine S.op (S.sliceDrop (s := lv) (1) Try.el30 rfl rfl rfl (by omega) rfl ?_)
                        intro lv' hlv'
                        rw [flat_drop itC_len, ← hdrop]
                        refine S.op (S.q (q_assign rfl) rfl rfl ?_)
                        first | with_reducible refine S.nilK ?_ | refine S.nil ?_
                        with_reducible repeat (first | refine S.then_n ?_ | refine S.then_x ?_ | refine S.then_r ?_ | refine S.inBlock_n ?_ | refine S.inBlock_r ?_ | refine S.inBlock_x rfl ?_ | refine S.noGoto_r ?_ | refine S.noGoto_n ?_ | refine S.noGoto_x ?_)
                        with_reducible repeat (first | refine S.then_n ?_ | refine S.then_x ?_ | refine S.then_r ?_ | refine S.inBlock_n ?_ | refine S.inBlock_r ?_ | refine S.inBlock_x rfl ?_ | refine S.noGoto_r ?_ | refine S.noGoto_n ?_ | refine S.noGoto_x ?_)
                        first
                        | exact S.meet ⟨st', lv', hps', rfl, rfl⟩ ⟨rfl, rfl, rfl, rfl, rfl, rfl, rfl, trivial⟩ Sub.ent
                        | exact S.meet ⟨st, lv, hps.mono (Nat.le_succ _), rfl, rfl⟩ ⟨rfl, rfl, rfl, rfl, rfl, rfl, rfl, trivial⟩ Sub.ent
                      · obtain ⟨lv', hlv'⟩ : ∃ lv', lv' = lv := ⟨_, rfl⟩
                        rw [show stL st = stL st' by rw [hdrop, List.eq_nil_of_length_eq_zero (l := stL st) (by omega)]; rfl, ← hlv']
                        refine S.skip ?_
                        with_reducible repeat (first | refine S.then_n ?_ | refine S.then_x ?_ | refine S.then_r ?_ | refine S.inBlock_n ?_ | refine S.inBlock_r ?_ | refine S.inBlock_x rfl ?_ | refine S.noGoto_r ?_ | refine S.noGoto_n ?_ | refine S.noGoto_x ?_)
                        with_reducible repeat (first | refine S.then_n ?_ | refine S.then_x ?_ | refine S.then_r ?_ | refine S.inBlock_n ?_ | refine S.inBlock_r ?_ | refine S.inBlock_x rfl ?_ | refine S.noGoto_r ?_ | refine S.noGoto_n ?_ | refine S.noGoto_x ?_)
                        with_reducible repeat (first | refine S.then_n ?_ | refine S.then_x ?_ | refine S.then_r ?_ | refine S.inBlock_n ?_ | refine S.inBlock_r ?_ | refine S.inBlock_x rfl ?_ | refine S.noGoto_r ?_ | refine S.noGoto_n ?_ | refine S.noGoto_x ?_)
                        first
                        | exact S.meet ⟨st', lv', hps', rfl, rfl⟩ ⟨rfl, rfl, rfl, rfl, rfl, rfl, rfl, trivial⟩ Sub.ent
                        | exact S.meet ⟨st, lv, hps.mono (Nat.le_succ _), rfl, rfl⟩ ⟨rfl, rfl, rfl, rfl, rfl, rfl, rfl, trivial⟩ Sub.ent
                  · refine S.dr_takeN 19 [] rfl (by kernel_rfl) rfl rfl rfl (hg24_18) rfl rfl Sub.ent ?_
                    refine S.dr_takeN 20 [] rfl (by kernel_rfl) rfl rfl rfl (hg24_18) rfl rfl Sub.ent ?_
                    refine S.dr_takeN 21 [] rfl (by kernel_rfl) rfl rfl rfl (hg24_18) rfl rfl Sub.ent ?_
                    refine S.dr_takeY 22 [] rfl (by kernel_rfl) rfl rfl rfl ((by simp)) rfl rfl (q_pickF rfl (hg24_18) rfl) Sub.ent ?_
                    refine S.dr_take 23 [] rfl (by kernel_rfl) rfl rfl rfl (q_pickF rfl ((by simp)) rfl) Sub.ent ?_
                    first | with_reducible refine S.dr_doneK (by kernel_rfl) ?_ | refine S.dr_done (by kernel_rfl) ?_
                    refine hK31 _ _ ?_
                    refine S.condF rfl ?_
                    refine S.skip ?_
                    with_reducible repeat (first | refine S.then_n ?_ | refine S.then_x ?_ | refine S.then_r ?_ | refine S.inBlock_n ?_ | refine S.inBlock_r ?_ | refine S.inBlock_x rfl ?_ | refine S.noGoto_r ?_ | refine S.noGoto_n ?_ | refine S.noGoto_x ?_)
                    refine hK30 _ _ ?_
                    refine S.seq fun K33 hK33 => ?_
                    refine S.region rfl ?_
                    refine S.op (S.q (q_move rfl) rfl rfl ?_)
                    refine S.op (S.q (q_len Try.underlying30 rfl) rfl rfl ?_)
                    refine S.op (S.q (q_gt rfl rfl) rfl rfl ?_)
                    first | with_reducible refine S.nilK ?_ | refine S.nil ?_
                    refine hK33 _ _ ?_
                    refine S.condD rfl (fun h12 => ?_) (fun h12 => ?_)
                    · refine S.region rfl ?_
                      refine S.op (S.q (q_move rfl) rfl rfl ?_)
                      refine S.op (S.sliceDrop (s := lv) (1) Try.el30 rfl rfl rfl (by omega) rfl ?_)
                      intro lv' hlv'
                      rw [flat_drop itC_len, ← hdrop]
                      refine S.op (S.q (q_assign rfl) rfl rfl ?_)
                      first | with_reducible refine S.nilK ?_ | refine S.nil ?_
                      with_reducible repeat (first | refine S.then_n ?_ | refine S.then_x ?_ | refine S.then_r ?_ | refine S.inBlock_n ?_ | refine S.inBlock_r ?_ | refine S.inBlock_x rfl ?_ | refine S.noGoto_r ?_ | refine S.noGoto_n ?_ | refine S.noGoto_x ?_)
                      with_reducible repeat (first | refine S.then_n ?_ | refine S.then_x ?_ | refine S.then_r ?_ | refine S.inBlock_n ?_ | refine S.inBlock_r ?_ | refine S.inBlock_x rfl ?_ | refine S.noGoto_r ?_ | refine S.noGoto_n ?_ | refine S.noGoto_x ?_)
                      first
                      | exact S.meet ⟨st', lv', hps', rfl, rfl⟩ ⟨rfl, rfl, rfl, rfl, rfl, rfl, rfl, trivial⟩ Sub.ent
                      | exact S.meet ⟨st, lv, hps.mono (Nat.le_succ _), rfl, rfl⟩ ⟨rfl, rfl, rfl, rfl, rfl, rfl, rfl, trivial⟩ Sub.ent
                    · obtain ⟨lv', hlv'⟩ : ∃ lv', lv' = lv := ⟨_, rfl⟩
                      rw [show stL st = stL st' by rw [hdrop, List.eq_nil_of_length_eq_zero (l := stL st) (by omega)]; rfl, ← hlv']
                      refine S.skip ?_
                      with_reducible repeat (first | refine S.then_n ?_ | refine S.then_x ?_ | refine S.then_r ?_ | refine S.inBlock_n ?_ | refine S.inBlock_r ?_ | refine S.inBlock_x rfl ?_ | refine S.noGoto_r ?_ | refine S.noGoto_n ?_ | refine S.noGoto_x ?_)
                      with_reducible repeat (first | refine S.then_n ?_ | refine S.then_x ?_ | refine S.then_r ?_ | refine S.inBlock_n ?_ | refine S.inBlock_r ?_ | refine S.inBlock_x rfl ?_ | refine S.noGoto_r ?_ | refine S.noGoto_n ?_ | refine S.noGoto_x ?_)
                      with_reducible repeat (first | refine S.then_n ?_ | refine S.then_x ?_ | refine S.then_r ?_ | refine S.inBlock_n ?_ | refine S.inBlock_r ?_ | refine S.inBlock_x rfl ?_ | refine S.noGoto_r ?_ | refine S.noGoto_n ?_ | refine S.noGoto_x ?_)
                      first
                      | exact S.meet ⟨st', lv', hps', rfl, rfl⟩ ⟨rfl, rfl, rfl, rfl, rfl, rfl, rfl, trivial⟩ Sub.ent
                      | exact S.meet ⟨st, lv, hps.mono (Nat.le_succ _), rfl, rfl⟩ ⟨rfl, rfl, rfl, rfl, rfl, rfl, rfl, trivial⟩ Sub.ent
                · refine S.dr_takeN 8 [] rfl (by kernel_rfl) rfl rfl rfl (hg24_7) rfl rfl Sub.ent ?_
                  refine S.dr_takeN 9 [] rfl (by kernel_rfl) rfl rfl rfl (hg24_7) rfl rfl Sub.ent ?_
                  refine S.dr_takeN 10 [] rfl (by kernel_rfl) rfl rfl rfl (hg24_7) rfl rfl Sub.ent ?_
                  refine S.dr_takeN 11 [] rfl (by kernel_rfl) rfl rfl rfl (hg24_7) rfl rfl Sub.ent ?_
                  refine S.dr_takeN 12 [] rfl (by kernel_rfl) rfl rfl rfl (hg24_7) rfl rfl Sub.ent ?_
                  refine S.dr_takeY 13 [] rfl (by kernel_rfl) rfl rfl rfl ((by rw [show (y, ok, st').2.1 = ok from rfl, hok.1]; simp)) rfl rfl (q_pickF rfl (hg24_7) rfl) Sub.ent ?_
                  refine S.dr_take 14 [] rfl (by kernel_rfl) rfl rfl rfl (q_pickF rfl ((by rw [show (y, ok, st').2.1 = ok from rfl, hok.1]; simp)) rfl) Sub.ent ?_
                  refine S.dr_take 15 [] rfl (by kernel_rfl) rfl rfl rfl (q_move rfl) Sub.ent ?_
                  refine S.dr_takeY 16 [] rfl (by kernel_rfl) rfl rfl rfl (rfl) rfl rfl (q_move rfl) Sub.ent ?_
                  refine S.dr_takeY 17 [] rfl (by kernel_rfl) rfl rfl rfl (rfl) rfl rfl (q_not rfl) Sub.ent ?_
                  refine S.dr_takeY 18 [] rfl (by kernel_rfl) rfl rfl rfl (rfl) rfl rfl (q_move rfl) Sub.ent ?_
                  rcases Bool.eq_false_or_eq_true ((!ok)) with hg24_18 | hg24_18
                  · refine S.dr_takeY 19 [] rfl (by kernel_rfl) rfl rfl rfl (hg24_18) rfl rfl (q_loadS [_, _, _] Try.ag25 rfl rfl ⟨rfl, rfl, rfl, trivial⟩) Sub.ent ?_
                    refine S.dr_takeY 20 [] rfl (by kernel_rfl) rfl rfl rfl (hg24_18) rfl rfl (q_build (pvs := []) [_, _, _] Try.z25 Try.p25 trivial rfl) Sub.ent ?_
                    refine S.dr_takeY 21 [] rfl (by kernel_rfl) rfl rfl rfl (hg24_18) rfl rfl (q_neIt y it0 (.inl rfl) rfl rfl) Sub.ent ?_
                    refine S.dr_takeY 22 [] rfl (by kernel_rfl) rfl rfl rfl (rfl) rfl rfl (q_pickT rfl (hg24_18) rfl) Sub.ent ?_
                    refine S.dr_take 23 [] rfl (by kernel_rfl) rfl rfl rfl (q_pickF rfl (rfl) rfl) Sub.ent ?_
                    first | with_reducible refine S.dr_doneK (by kernel_rfl) ?_ | refine S.dr_done (by kernel_rfl) ?_
                    refine hK31 _ _ ?_
                    refine S.cond rfl (fun h11 => ?_) (fun h11 => ?_)
                    · exact absurd h11 (by first | (rw [hok.2.2 hg24_7]; simp) | exact absurd hg24_18 (by rw [hg24_7]; simp))
                    · refine S.skip ?_
                      with_reducible repeat (first | refine S.then_n ?_ | refine S.then_x ?_ | refine S.then_r ?_ | refine S.inBlock_n ?_ | refine S.inBlock_r ?_ | refine S.inBlock_x rfl ?_ | refine S.noGoto_r ?_ | refine S.noGoto_n ?_ | refine S.noGoto_x ?_)
                      refine hK30 _ _ ?_
                      refine S.seq fun K34 hK34 => ?_
                      refine S.region rfl ?_
                      refine S.op (S.q (q_move rfl) rfl rfl ?_)
                      refine S.op (S.q (q_len Try.underlying30 rfl) rfl rfl ?_)
                      refine S.op (S.q (q_gt rfl rfl) rfl rfl ?_)
                      first | with_reducible refine S.nilK ?_ | refine S.nil ?_
                      refine hK34 _ _ ?_
                      refine S.condD rfl (fun h12 => ?_) (fun h12 => ?_)
                      · refine S.region rfl ?_
                        refine S.op (S.q (q_move rfl) rfl rfl ?_)
                        refine S.op (S.sliceDrop (s := lv) (1) Try.el30 rfl rfl rfl (by omega) rfl ?_)
                        intro lv' hlv'
                        rw [flat_drop itC_len, ← hdrop]
                        refine S.op (S.q (q_assign rfl) rfl rfl ?_)
                        first | with_reducible refine S.nilK ?_ | refine S.nil ?_
                        with_reducible repeat (first | refine S.then_n ?_ | refine S.then_x ?_ | refine S.then_r ?_ | refine S.inBlock_n ?_ | refine S.inBlock_r ?_ | refine S.inBlock_x rfl ?_ | refine S.noGoto_r ?_ | refine S.noGoto_n ?_ | refine S.noGoto_x ?_)
                        with_reducible repeat (first | refine S.then_n ?_ | refine S.then_x ?_ | refine S.then_r ?_ | refine S.inBlock_n ?_ | refine S.inBlock_r ?_ | refine S.inBlock_x rfl ?_ | refine S.noGoto_r ?_ | refine S.noGoto_n ?_ | refine S.noGoto_x ?_)
                        first
                        | exact S.meet ⟨st', lv', hps', rfl, rfl⟩ ⟨rfl, rfl, rfl, rfl, rfl, rfl, rfl, trivial⟩ Sub.ent
                        | exact S.meet ⟨st, lv, hps.mono (Nat.le_succ _), rfl, rfl⟩ ⟨rfl, rfl, rfl, rfl, rfl, rfl, rfl, trivial⟩ Sub.ent
                      · obtain ⟨lv', hlv'⟩ : ∃ lv', lv' = lv := ⟨_, rfl⟩
                        rw [show stL st = stL st' by rw [hdrop, List.eq_nil_of_length_eq_zero (l := stL st) (by omega)]; rfl, ← hlv']
                        refine S.skip ?_
                        with_reducible repeat (first | refine S.then_n ?_ | refine S.then_x ?_ | refine S.then_r ?_ | refine S.inBlock_n ?_ | refine S.inBlock_r ?_ | refine S.inBlock_x rfl ?_ | refine S.noGoto_r ?_ | refine S.noGoto_n ?_ | refine S.noGoto_x ?_)
                        with_reducible repeat (first | refine S.then_n ?_ | refine S.then_x ?_ | refine S.then_r ?_ | refine S.inBlock_n ?_ | refine S.inBlock_r ?_ | refine S.inBlock_x rfl ?_ | refine S.noGoto_r ?_ | refine S.noGoto_n ?_ | refine S.noGoto_x ?_)
                        with_reducible repeat (first | refine S.then_n ?_ | refine S.then_x ?_ | refine S.then_r ?_ | refine S.inBlock_n ?_ | refine S.inBlock_r ?_ | refine S.inBlock_x rfl ?_ | refine S.noGoto_r ?_ | refine S.noGoto_n ?_ | refine S.noGoto_x ?_)
                        first
                        | exact S.meet ⟨st', lv', hps', rfl, rfl⟩ ⟨rfl, rfl, rfl, rfl, rfl, rfl, rfl, trivial⟩ Sub.ent
                        | exact S.meet ⟨st, lv, hps.mono (Nat.le_succ _), rfl, rfl⟩ ⟨rfl, rfl, rfl, rfl, rfl, rfl, rfl, trivial⟩ Sub.ent
                  · refine S.dr_takeN 19 [] rfl (by kernel_rfl) rfl rfl rfl (hg24_18) rfl rfl Sub.ent ?_
                    refine S.dr_takeN 20 [] rfl (by kernel_rfl) rfl rfl rfl (hg24_18) rfl rfl Sub.ent ?_
                    refine S.dr_takeN 21 [] rfl (by kernel_rfl) rfl rfl rfl (hg24_18) rfl rfl Sub.ent ?_
                    refine S.dr_takeY 22 [] rfl (by kernel_rfl) rfl rfl rfl (rfl) rfl rfl (q_pickF rfl (hg24_18) rfl) Sub.ent ?_
                    refine S.dr_take 23 [] rfl (by kernel_rfl) rfl rfl rfl (q_pickF rfl (rfl) rfl) Sub.ent ?_
                    first | with_reducible refine S.dr_doneK (by kernel_rfl) ?_ | refine S.dr_done (by kernel_rfl) ?_
                    refine hK31 _ _ ?_
                    refine S.condF rfl ?_
                    refine S.skip ?_
                    with_reducible repeat (first | refine S.then_n ?_ | refine S.then_x ?_ | refine S.then_r ?_ | refine S.inBlock_n ?_ | refine S.inBlock_r ?_ | refine S.inBlock_x rfl ?_ | refine S.noGoto_r ?_ | refine S.noGoto_n ?_ | refine S.noGoto_x ?_)
                    refine hK30 _ _ ?_
                    refine S.seq fun K35 hK35 => ?_
                    refine S.region rfl ?_
                    refine S.op (S.q (q_move rfl) rfl rfl ?_)
                    refine S.op (S.q (q_len Try.underlying30 rfl) rfl rfl ?_)
                    refine S.op (S.q (q_gt rfl rfl) rfl rfl ?_)
                    first | with_reducible refine S.nilK ?_ | refine S.nil ?_
                    refine hK35 _ _ ?_
                    refine S.condD rfl (fun h12 => ?_) (fun h12 => ?_)
                    · refine S.region rfl ?_
                      refine S.op (S.q (q_move rfl) rfl rfl ?_)
                      refine S.op (S.sliceDrop (s := lv) (1) Try.el30 rfl rfl rfl (by omega) rfl ?_)
                      intro lv' hlv'
                      rw [flat_drop itC_len, ← hdrop]
                      refine S.op (S.q (q_assign rfl) rfl rfl ?_)
                      first | with_reducible refine S.nilK ?_ | refine S.nil ?_
                      with_reducible repeat (first | refine S.then_n ?_ | refine S.then_x ?_ | refine S.then_r ?_ | refine S.inBlock_n ?_ | refine S.inBlock_r ?_ | refine S.inBlock_x rfl ?_ | refine S.noGoto_r ?_ | refine S.noGoto_n ?_ | refine S.noGoto_x ?_)
                      with_reducible repeat (first | refine S.then_n ?_ | refine S.then_x ?_ | refine S.then_r ?_ | refine S.inBlock_n ?_ | refine S.inBlock_r ?_ | refine S.inBlock_x rfl ?_ | refine S.noGoto_r ?_ | refine S.noGoto_n ?_ | refine S.noGoto_x ?_)
                      first
                      | exact S.meet ⟨st', lv', hps', rfl, rfl⟩ ⟨rfl, rfl, rfl, rfl, rfl, rfl, rfl, trivial⟩ Sub.ent
                      | exact S.meet ⟨st, lv, hps.mono (Nat.le_succ _), rfl, rfl⟩ ⟨rfl, rfl, rfl, rfl, rfl, rfl, rfl, trivial⟩ Sub.ent
                    · obtain ⟨lv', hlv'⟩ : ∃ lv', lv' = lv := ⟨_, rfl⟩
                      rw [show stL st = stL st' by rw [hdrop, List.eq_nil_of_length_eq_zero (l := stL st) (by omega)]; rfl, ← hlv']
                      refine S.skip ?_
                      with_reducible repeat (first | refine S.then_n ?_ | refine S.then_x ?_ | refine S.then_r ?_ | refine S.inBlock_n ?_ | refine S.inBlock_r ?_ | refine S.inBlock_x rfl ?_ | refine S.noGoto_r ?_ | refine S.noGoto_n ?_ | refine S.noGoto_x ?_)
                      with_reducible repeat (first | refine S.then_n ?_ | refine S.then_x ?_ | refine S.then_r ?_ | refine S.inBlock_n ?_ | refine S.inBlock_r ?_ | refine S.inBlock_x rfl ?_ | refine S.noGoto_r ?_ | refine S.noGoto_n ?_ | refine S.noGoto_x ?_)
                      with_reducible repeat (first | refine S.then_n ?_ | refine S.then_x ?_ | refine S.then_r ?_ | refine S.inBlock_n ?_ | refine S.inBlock_r ?_ | refine S.inBlock_x rfl ?_ | refine S.noGoto_r ?_ | refine S.noGoto_n ?_ | refine S.noGoto_x ?_)
                      first
                      | exact S.meet ⟨st', lv', hps', rfl, rfl⟩ ⟨rfl, rfl, rfl, rfl, rfl, rfl, rfl, trivial⟩ Sub.ent
                      | exact S.meet ⟨st, lv, hps.mono (Nat.le_succ _), rfl, rfl⟩ ⟨rfl, rfl, rfl, rfl, rfl, rfl, rfl, trivial⟩ Sub.ent
              · refine S.seq fun K36 hK36 => ?_
                refine S.region rfl ?_
                refine S.op (S.q (q_eq rfl rfl) rfl rfl ?_)
                refine S.op (S.q (q_assign rfl) rfl rfl ?_)
                first | with_reducible refine S.nilK ?_ | refine S.nil ?_
                refine hK36 _ _ ?_
                refine S.condD rfl (fun h13 => ?_) (fun h13 => ?_)
                · refine S.seq fun K37 hK37 => ?_
                  refine S.region rfl ?_
                  refine S.op (S.q (q_move rfl) rfl rfl ?_)
                  refine S.op (S.q (q_field Try.fo44_1 rfl) rfl rfl ?_)
                  refine S.op (S.q (q_field Try.fo24_0 rfl) rfl rfl ?_)
                  refine S.op (S.q (q_load Try.at22 rfl rfl) rfl rfl ?_)
                  refine S.op (S.call Try.en18 (vs := [_, _]) ⟨rfl, rfl, trivial⟩ (rRemove_S lv (stL st) r.x.id (by omega) hps.ids) rfl ?_)
                  rintro v Θ ⟨lv', rfl, rfl⟩
                  obtain ⟨hps0, hrm1, hrm2⟩ := hps.remove r.x.id
                  rw [hrm1, hrm2]
                  obtain ⟨st', hst'⟩ : ∃ st', st' = (removeR r.x.id st).2 := ⟨_, rfl⟩
                  have hps' : PSt no (k + 1) st' := by rw [hst']; exact hps0.mono (Nat.le_succ _)
                  refine S.op (S.q (q_move rfl) rfl rfl ?_)
                  refine S.op (S.q (q_extract rfl rfl) rfl rfl ?_)
                  refine S.op (S.q (q_extract rfl rfl) rfl rfl ?_)
                  refine S.op (S.q (q_assign rfl) rfl rfl ?_)
                  refine S.op (S.q (q_assign rfl) rfl rfl ?_)
                  first | with_reducible refine S.nilK ?_ | refine S.nil ?_
                  refine hK37 _ _ ?_
                  refine S.seq fun K38 hK38 => ?_
                  refine S.region rfl ?_
                  refine S.op (S.q (q_move rfl) rfl rfl ?_)
                  refine S.op (S.q (q_assign rfl) rfl rfl ?_)
                  first | with_reducible refine S.nilK ?_ | refine S.nil ?_
                  refine hK38 _ _ ?_
                  refine S.seq fun K39 hK39 => ?_
                  refine S.region rfl ?_
                  refine S.op (S.q (q_move rfl) rfl rfl ?_)
                  refine S.op (S.q (q_field Try.fo44_1 rfl) rfl rfl ?_)
                  refine S.op (S.q (q_field Try.fo24_0 rfl) rfl rfl ?_)
                  refine S.op (S.q (q_load Try.at22 rfl rfl) rfl rfl ?_)
                  refine S.op (S.call Try.en19 (vs := [_, _]) ⟨rfl, rfl, trivial⟩ (HRemove_S pa st r.x.id (by omega)) rfl ?_)
                  rintro v Θ ⟨rfl, rfl⟩
                  rw [← hst']
                  refine S.op (S.q (q_move rfl) rfl rfl ?_)
                  refine S.op (S.q (q_ne rfl rfl) rfl rfl ?_)
                  first | with_reducible refine S.nilK ?_ | refine S.nil ?_
                  refine hK39 _ _ ?_
                  refine S.condD rfl (fun h14 => ?_) (fun h14 => ?_)
                  · exact absurd rfl h14
                  · refine S.skip ?_
                    with_reducible repeat (first | refine S.then_n ?_ | refine S.then_x ?_ | refine S.then_r ?_ | refine S.inBlock_n ?_ | refine S.inBlock_r ?_ | refine S.inBlock_x rfl ?_ | refine S.noGoto_r ?_ | refine S.noGoto_n ?_ | refine S.noGoto_x ?_)
                    with_reducible repeat (first | refine S.then_n ?_ | refine S.then_x ?_ | refine S.then_r ?_ | refine S.inBlock_n ?_ | refine S.inBlock_r ?_ | refine S.inBlock_x rfl ?_ | refine S.noGoto_r ?_ | refine S.noGoto_n ?_ | refine S.noGoto_x ?_)
                    with_reducible repeat (first | refine S.then_n ?_ | refine S.then_x ?_ | refine S.then_r ?_ | refine S.inBlock_n ?_ | refine S.inBlock_r ?_ | refine S.inBlock_x rfl ?_ | refine S.noGoto_r ?_ | refine S.noGoto_n ?_ | refine S.noGoto_x ?_)
                    first
                    | exact S.meet ⟨st', lv', hps', rfl, rfl⟩ ⟨rfl, rfl, rfl, rfl, rfl, rfl, rfl, trivial⟩ Sub.ent
                    | exact S.meet ⟨st, lv, hps.mono (Nat.le_succ _), rfl, rfl⟩ ⟨rfl, rfl, rfl, rfl, rfl, rfl, rfl, trivial⟩ Sub.ent
                · refine S.seq fun K40 hK40 => ?_
                  refine S.region rfl ?_
                  refine S.op (S.q (q_eq rfl rfl) rfl rfl ?_)
                  refine S.op (S.q (q_assign rfl) rfl rfl ?_)
                  first | with_reducible refine S.nilK ?_ | refine S.nil ?_
                  refine hK40 _ _ ?_
                  refine S.condD rfl (fun h15 => ?_) (fun h15 => ?_)
                  · refine S.seq fun K41 hK41 => ?_
                    refine S.region rfl ?_
                    refine S.op (S.q (q_move rfl) rfl rfl ?_)
                    refine S.op (S.q (q_field Try.fo44_1 rfl) rfl rfl ?_)
                    refine S.op (S.q (q_field Try.fo24_0 rfl) rfl rfl ?_)
                    refine S.op (S.q (q_load Try.at22 rfl rfl) rfl rfl ?_)
                    refine S.op (S.call Try.en18 (vs := [_, _]) ⟨rfl, rfl, trivial⟩ (rRemove_S lv (stL st) r.x.id (by omega) hps.ids) rfl ?_)
                    rintro v Θ ⟨u, rfl, rfl⟩
                    obtain ⟨hps0, hrm1, hrm2⟩ := hps.remove r.x.id
                    have hlr : (stL (removeR r.x.id st).2).length ≤ k := by have := hps0.len; rwa [show lenR (removeR r.x.id st).2 = (stL (removeR r.x.id st).2).length by cases (removeR r.x.id st).2 <;> rfl] at this
                    obtain ⟨hch1, hch2⟩ := change_of r.x st
                    rw [hrm1, hrm2]
                    refine S.op (S.q (q_move rfl) rfl rfl ?_)
                    refine S.op (S.q (q_extract rfl rfl) rfl rfl ?_)
                    refine S.op (S.q (q_extract rfl rfl) rfl rfl ?_)
                    refine S.op (S.q (q_assign rfl) rfl rfl ?_)
                    refine S.op (S.q (q_assign rfl) rfl rfl ?_)
                    first | with_reducible refine S.nilK ?_ | refine S.nil ?_
                    refine hK41 _ _ ?_
                    refine S.seq fun K42 hK42 => ?_
                    refine S.seq fun K43 hK43 => ?_
                    refine S.region rfl ?_
                    refine S.op (S.q (q_move rfl) rfl rfl ?_)
                    refine S.op (S.q (q_eq rfl rfl) rfl rfl ?_)
                    first | with_reducible refine S.nilK ?_ | refine S.nil ?_
                    refine hK43 _ _ ?_
                    refine S.cut (fun ρ' Γ' => ∃ (lv' : SV), ρ' = [(0, .bool no), (5, .pointer pa), (6, lv.v), (22, s1.v), (23, .int .i64 s1.n), (24, .int .i64 k), (8, .pointer (some ⟨b8, 0, none⟩)), (9, .pointer (some ⟨b9, 0, none⟩)), (16, lv'.v), (17, .int .i64 (changeR r.x st).1)] ∧ Γ' = blk b8 44 #[.int .u8 r.od, .int .u32 r.x.id, .int .u8 r.x.tier, .int .u32 r.x.since] :: blk b9 25 (itC r.x).toArray :: HI pa st :: refO lv' (stL (changeR r.x st).2) :: old W :: Γ) ?_ ?_
                    · refine S.condD rfl (fun h16 => ?_) (fun h16 => ?_)
                      · obtain ⟨hc1, hc2⟩ := hch1 h16
                        refine S.region rfl ?_
                        refine S.op (S.q (q_move rfl) rfl rfl ?_)
                        refine S.op (S.q (q_field Try.fo44_1 rfl) rfl rfl ?_)
                        refine S.op (S.q (q_loadS [_, _, _] Try.ag24 rfl rfl ⟨rfl, rfl, rfl, trivial⟩) rfl rfl ?_)
                        refine S.op (S.call Try.en17 (vs := [_, _]) ⟨rfl, rfl, trivial⟩ (rPush_S u (stL (removeR r.x.id st).2) r.x (by omega)) rfl ?_)
                        rintro v Θ ⟨u2, rfl, rfl⟩
                        rw [hc1, hc2]
                        refine S.op (S.q (q_move rfl) rfl rfl ?_)
                        refine S.op (S.q (q_extract rfl rfl) rfl rfl ?_)
                        refine S.op (S.q (q_extract rfl rfl) rfl rfl ?_)
                        refine S.op (S.q (q_assign rfl) rfl rfl ?_)
                        refine S.op (S.q (q_assign rfl) rfl rfl ?_)
                        first | with_reducible refine S.nilK ?_ | refine S.nil ?_
                        with_reducible repeat (first | refine S.then_n ?_ | refine S.then_x ?_ | refine S.then_r ?_ | refine S.inBlock_n ?_ | refine S.inBlock_r ?_ | refine S.inBlock_x rfl ?_ | refine S.noGoto_r ?_ | refine S.noGoto_n ?_ | refine S.noGoto_x ?_)
                        first
                        | exact S.meet ⟨u2, rfl, rfl⟩ ⟨rfl, rfl, rfl, rfl, rfl, rfl, rfl, rfl, rfl, rfl, trivial⟩ Sub.ent
                        | exact S.meet ⟨u, rfl, rfl⟩ ⟨rfl, rfl, rfl, rfl, rfl, rfl, rfl, rfl, rfl, rfl, trivial⟩ Sub.ent
                      · obtain ⟨hc1, hc2⟩ := hch2 h16
                        rw [hc1, hc2]
                        refine S.skip ?_
                        with_reducible repeat (first | refine S.then_n ?_ | refine S.then_x ?_ | refine S.then_r ?_ | refine S.inBlock_n ?_ | refine S.inBlock_r ?_ | refine S.inBlock_x rfl ?_ | refine S.noGoto_r ?_ | refine S.noGoto_n ?_ | refine S.noGoto_x ?_)
                        with_reducible repeat (first | refine S.then_n ?_ | refine S.then_x ?_ | refine S.then_r ?_ | refine S.inBlock_n ?_ | refine S.inBlock_r ?_ | refine S.inBlock_x rfl ?_ | refine S.noGoto_r ?_ | refine S.noGoto_n ?_ | refine S.noGoto_x ?_)
                        first
                        | exact S.meet ⟨u2, rfl, rfl⟩ ⟨rfl, rfl, rfl, rfl, rfl, rfl, rfl, rfl, rfl, rfl, trivial⟩ Sub.ent
                        | exact S.meet ⟨u, rfl, rfl⟩ ⟨rfl, rfl, rfl, rfl, rfl, rfl, rfl, rfl, rfl, rfl, trivial⟩ Sub.ent
                    · rintro ρ' Γ' ⟨lv', rfl, rfl⟩
                      obtain ⟨st', hst'⟩ : ∃ st', st' = (changeR r.x st).2 := ⟨_, rfl⟩
                      have hps' : PSt no (k + 1) st' := by rw [hst']; exact (hps.change r.x).mono (Nat.le_succ _)
                      refine hK42 _ _ ?_
                      refine S.seq fun K44 hK44 => ?_
                      refine S.region rfl ?_
                      refine S.op (S.q (q_move rfl) rfl rfl ?_)
                      refine S.op (S.q (q_assign rfl) rfl rfl ?_)
                      first | with_reducible refine S.nilK ?_ | refine S.nil ?_
                      refine hK44 _ _ ?_
                      refine S.seq fun K45 hK45 => ?_
                      refine S.region rfl ?_
                      refine S.op (S.q (q_move rfl) rfl rfl ?_)
                      refine S.op (S.q (q_loadS [_, _, _] Try.ag25 rfl rfl ⟨rfl, rfl, rfl, trivial⟩) rfl rfl ?_)
                      refine S.op (S.call Try.en20 (vs := [_, _]) ⟨rfl, rfl, trivial⟩ (HChange_S pa st r.x (by omega)) rfl ?_)
                      rintro v Θ ⟨rfl, rfl⟩
                      rw [← hst']
                      refine S.op (S.q (q_move rfl) rfl rfl ?_)
                      refine S.op (S.q (q_ne rfl rfl) rfl rfl ?_)
                      first | with_reducible refine S.nilK ?_ | refine S.nil ?_
                      refine hK45 _ _ ?_
                      refine S.condD rfl (fun h17 => ?_) (fun h17 => ?_)
                      · exact absurd rfl h17
                      · refine S.skip ?_
                        with_reducible repeat (first | refine S.then_n ?_ | refine S.then_x ?_ | refine S.then_r ?_ | refine S.inBlock_n ?_ | refine S.inBlock_r ?_ | refine S.inBlock_x rfl ?_ | refine S.noGoto_r ?_ | refine S.noGoto_n ?_ | refine S.noGoto_x ?_)
                        with_reducible repeat (first | refine S.then_n ?_ | refine S.then_x ?_ | refine S.then_r ?_ | refine S.inBlock_n ?_ | refine S.inBlock_r ?_ | refine S.inBlock_x rfl ?_ | refine S.noGoto_r ?_ | refine S.noGoto_n ?_ | refine S.noGoto_x ?_)
                        with_reducible repeat (first | refine S.then_n ?_ | refine S.then_x ?_ | refine S.then_r ?_ | refine S.inBlock_n ?_ | refine S.inBlock_r ?_ | refine S.inBlock_x rfl ?_ | refine S.noGoto_r ?_ | refine S.noGoto_n ?_ | refine S.noGoto_x ?_)
                        first
                        | exact S.meet ⟨st', lv', hps', rfl, rfl⟩ ⟨rfl, rfl, rfl, rfl, rfl, rfl, rfl, trivial⟩ Sub.ent
                        | exact S.meet ⟨st, lv, hps.mono (Nat.le_succ _), rfl, rfl⟩ ⟨rfl, rfl, rfl, rfl, rfl, rfl, rfl, trivial⟩ Sub.ent
                  · refine S.skip ?_
                    with_reducible repeat (first | refine S.then_n ?_ | refine S.then_x ?_ | refine S.then_r ?_ | refine S.inBlock_n ?_ | refine S.inBlock_r ?_ | refine S.inBlock_x rfl ?_ | refine S.noGoto_r ?_ | refine S.noGoto_n ?_ | refine S.noGoto_x ?_)
                    with_reducible repeat (first | refine S.then_n ?_ | refine S.then_x ?_ | refine S.then_r ?_ | refine S.inBlock_n ?_ | refine S.inBlock_r ?_ | refine S.inBlock_x rfl ?_ | refine S.noGoto_r ?_ | refine S.noGoto_n ?_ | refine S.noGoto_x ?_)
                    with_reducible repeat (first | refine S.then_n ?_ | refine S.then_x ?_ | refine S.then_r ?_ | refine S.inBlock_n ?_ | refine S.inBlock_r ?_ | refine S.inBlock_x rfl ?_ | refine S.noGoto_r ?_ | refine S.noGoto_n ?_ | refine S.noGoto_x ?_)
                    first
                    | exact S.meet ⟨st', lv', hps', rfl, rfl⟩ ⟨rfl, rfl, rfl, rfl, rfl, rfl, rfl, trivial⟩ Sub.ent
                    | exact S.meet ⟨st, lv, hps.mono (Nat.le_succ _), rfl, rfl⟩ ⟨rfl, rfl, rfl, rfl, rfl, rfl, rfl, trivial⟩ Sub.ent
        · rintro ρ' Γ' ⟨st', lv', hps', rfl, rfl⟩
          have hlen' := hps'.len
          refine hK18 _ _ ?_
          refine S.seq fun K46 hK46 => ?_
          refine S.draw ([blk b8 44 #[.int .u8 r.od, .int .u32 r.x.id, .int .u8 r.x.tier, .int .u32 r.x.since]]) [] Try.mixed ?_
          refine S.dr_take 0 [] rfl (by kernel_rfl) rfl rfl rfl (q_move rfl) Sub.ent ?_
          refine S.dr_take 1 [] rfl (by kernel_rfl) rfl rfl rfl (q_move rfl) Sub.ent ?_
          refine S.dr_1 (i := 2) (by kernel_rfl) rfl rfl ?_
          refine  (S.call Try.en21 (vs := [_, _]) ⟨rfl, rfl, trivial⟩ (same_S pa st' lv' (by omega)) rfl ?_)
          rintro v Θ ⟨rfl, rfl⟩
          refine S.dr_k rfl Sub.ent ?_
          refine S.dr_take 3 [] rfl (by kernel_rfl) rfl rfl rfl (q_not rfl) Sub.ent ?_
          refine S.dr_take 4 [] rfl (by kernel_rfl) rfl rfl rfl (q_move rfl) Sub.ent ?_
          refine S.dr_takeY 5 [] rfl (by kernel_rfl) rfl rfl rfl (rfl) rfl rfl (q_move rfl) Sub.ent ?_
          refine S.dr_takeY 6 [] rfl (by kernel_rfl) rfl rfl rfl (rfl) rfl rfl (q_field Try.fo44_1 rfl) Sub.ent ?_
          refine S.dr_takeY 7 [] rfl (by kernel_rfl) rfl rfl rfl (rfl) rfl rfl (q_field Try.fo24_0 rfl) Sub.ent ?_
          refine S.dr_takeY 8 [] rfl (by kernel_rfl) rfl rfl rfl (rfl) rfl rfl (q_load Try.at22 rfl rfl) Sub.ent ?_
          refine S.dr_takeY 10 [] rfl (by kernel_rfl) rfl rfl rfl (rfl) rfl rfl (q_move rfl) Sub.ent ?_
          refine S.dr_takeY 11 [] rfl (by kernel_rfl) rfl rfl rfl (rfl) rfl rfl (q_field Try.fo44_1 rfl) Sub.ent ?_
          refine S.dr_takeY 12 [] rfl (by kernel_rfl) rfl rfl rfl (rfl) rfl rfl (q_field Try.fo24_0 rfl) Sub.ent ?_
          refine S.dr_takeY 13 [] rfl (by kernel_rfl) rfl rfl rfl (rfl) rfl rfl (q_load Try.at22 rfl rfl) Sub.ent ?_
          refine S.dr_1Y (i := 9) (by kernel_rfl) rfl rfl rfl rfl (rfl) ?_
          refine  (S.call Try.en15 (vs := [_, _]) ⟨rfl, rfl, trivial⟩ (Has_S pa st' r.x.id) rfl ?_)
          rintro v Θ ⟨rfl, rfl⟩
          refine S.dr_k rfl Sub.ent ?_
          refine S.dr_1Y (i := 14) (by kernel_rfl) rfl rfl rfl rfl (rfl) ?_
          refine  (S.call Try.en22 (vs := [_, _]) ⟨rfl, rfl, trivial⟩ (rFind_S lv' (stL st') r.x.id) rfl ?_)
          rintro v Θ ⟨rfl, rfl⟩
          refine S.dr_k rfl Sub.ent ?_
          refine S.dr_takeY 15 [] rfl (by kernel_rfl) rfl rfl rfl (rfl) rfl rfl (q_ge rfl rfl) Sub.ent ?_
          refine S.dr_takeY 16 [] rfl (by kernel_rfl) rfl rfl rfl (rfl) rfl rfl (q_neB Try.underlying4 rfl rfl) Sub.ent ?_
          refine S.dr_take 17 [] rfl (by kernel_rfl) rfl rfl rfl (q_pickF rfl (rfl) rfl) Sub.ent ?_
          first | with_reducible refine S.dr_doneK (by kernel_rfl) ?_ | refine S.dr_done (by kernel_rfl) ?_
          refine hK46 _ _ ?_
          refine S.cond rfl (fun h18 => ?_) (fun h18 => ?_)
          · exact absurd h18 (by rw [find_has]; simp)
          · refine S.skip ?_
            with_reducible repeat (first | refine S.then_n ?_ | refine S.then_x ?_ | refine S.then_r ?_ | refine S.inBlock_n ?_ | refine S.inBlock_r ?_ | refine S.inBlock_x rfl ?_ | refine S.noGoto_r ?_ | refine S.noGoto_n ?_ | refine S.noGoto_x ?_)
            with_reducible repeat (first | refine S.then_n ?_ | refine S.then_x ?_ | refine S.then_r ?_ | refine S.inBlock_n ?_ | refine S.inBlock_r ?_ | refine S.inBlock_x rfl ?_ | refine S.noGoto_r ?_ | refine S.noGoto_n ?_ | refine S.noGoto_x ?_)
            refine hK12 _ _ ?_
            refine S.region rfl ?_
            refine S.op (S.q (q_add rfl rfl (inI64 (by omega) (by omega))) rfl rfl ?_)
            refine S.op (S.q (q_move rfl) rfl rfl ?_)
            first | with_reducible refine S.nilK ?_ | refine S.nil ?_
            with_reducible repeat (first | refine S.then_n ?_ | refine S.then_x ?_ | refine S.then_r ?_ | refine S.inBlock_n ?_ | refine S.inBlock_r ?_ | refine S.inBlock_x rfl ?_ | refine S.noGoto_r ?_ | refine S.noGoto_n ?_ | refine S.noGoto_x ?_)
            exact S.next (m - 1) (⟨k + 1, st', lv', by omega, by omega, hps', rfl, rfl⟩) (by omega) (by repeat (first | exact trivial | refine ⟨rfl, ?_⟩)) Sub.ent
    · refine S.exit ?_
      with_reducible repeat (first | refine S.then_n ?_ | refine S.then_x ?_ | refine S.then_r ?_ | refine S.inBlock_n ?_ | refine S.inBlock_r ?_ | refine S.inBlock_x rfl ?_ | refine S.noGoto_r ?_ | refine S.noGoto_n ?_ | refine S.noGoto_x ?_)
      with_reducible refine S.inBlock_s ?_
      with_reducible repeat (first | refine S.then_n ?_ | refine S.then_x ?_ | refine S.then_r ?_ | refine S.inBlock_n ?_ | refine S.inBlock_r ?_ | refine S.inBlock_x rfl ?_ | refine S.noGoto_r ?_ | refine S.noGoto_n ?_ | refine S.noGoto_x ?_)
      refine hK8 _ _ ?_
      refine S.seq fun K47 hK47 => ?_
      refine S.region rfl ?_
      refine S.op (S.q (q_assign rfl) rfl rfl ?_)
      first | with_reducible refine S.nilK ?_ | refine S.nil ?_
      refine hK47 _ _ ?_
      refine S.ret ?_
      with_reducible repeat (first | refine S.then_n ?_ | refine S.then_x ?_ | refine S.then_r ?_ | refine S.inBlock_n ?_ | refine S.inBlock_r ?_ | refine S.inBlock_x rfl ?_ | refine S.noGoto_r ?_ | refine S.noGoto_n ?_ | refine S.noGoto_x ?_)
      exact S.fin (rs := [_]) (vs := [_]) Try.results6 (⟨rfl, trivial⟩)  (⟨rfl, rfl⟩) Sub.ent
open Go.ChangeShapes Go.WideShapes Go.ChangeAt
theorem PrioPlays_law {H : Type} (enc : TypeId × Value → H) : LawWalk enc 6 Try.f6 := by
  intro W base args ds before hval hA _ _
  rw [Try.params6] at hA hval
  obtain ⟨v0, vs0, d0, ds0, p0, q0, hargs, rfl, rfl, h0, r0⟩ := trodAll_cons hA
  obtain ⟨v1, vs1, d1, ds1, p1, q1, rfl, rfl, rfl, h1, r1⟩ := trodAll_cons r0
  obtain ⟨rfl, rfl, rfl⟩ := trodAll_nil r1
  obtain rfl : args = #[v0, v1] := by cases args; simp_all
  obtain ⟨a0, rfl⟩ := arg_bool Try.underlying4 (hval 0 4 v0 rfl rfl)
  obtain ⟨s1, rs, e1, hn, hs⟩ := rd_opps (arg_slice 6 Try.underlying42 (by kernel_rfl) (hval 1 42 v1 rfl rfl) h1)
  simp only [List.cons.injEq, and_true] at e1
  subst e1
  exact law_run (PrioPlays_S a0 s1 rs W hn hs)
set_option maxRecDepth 100000 in
theorem PrioPlays_lifted (os : Os) (started : os.Started) (H : Type) (enc : TypeId × Value → H) :
    ReturnsInHanded {} Try.checked os 6 .any (Rows.prioPlaysSpec.pre6 enc Try.prog Try.f6 Rows.prioPlaysRow.domain false) (Rows.prioPlaysSpec.post enc Try.prog Try.f6 false true false false) :=
  lift_true started Try.func6 (by kernel_rfl)
    (ChangeSpec.witness6 (enc := enc) (C := Try.checked) false ⟨#[], #[.bool false, .slice none 0 0], []⟩ 8 (by kernel_rfl) (by kernel_rfl) (by kernel_rfl) (by kernel_rfl))
    rfl rfl (by kernel_rfl) (fun ds h => by match ds, h with | [a0, a1], _ => rfl) (PrioPlays_law enc)
theorem PrioPlays_over : Rows.prioPlaysRow.holds Try.pinned (OpenSpec.ofChange Rows.prioPlaysSpec) :=
  OpenClaim.holds_of_wide 6 Try.f6 rfl rfl rfl rfl rfl rfl rfl ⟨rfl, rfl, rfl, rfl, rfl⟩ rfl rfl rfl rfl rfl (by kernel_rfl) Try.func6 (by kernel_rfl)
    (of_decide_eq_true (by kernel_rfl)) (by unfold Func.isWrapper; rw [if_neg (of_decide_eq_false (by kernel_rfl))]; exact ⟨rfl, rfl⟩)
    (fun os started H enc _ => PrioPlays_lifted os started H enc)
theorem PrioPlays_holds : Rows.PrioPlaysSaid := PrioPlays_over
#print axioms PrioPlays_holds
end Go.Proofs.Ythpfljiabhjodaa
