/- The law PrioMerge: two heaps put together come out as one of all. -/
import Derived.Test.YthpfljiabhjodaaPrioI
namespace Go.Proofs.Ythpfljiabhjodaa
open Go.RowKit
set_option maxRecDepth 20000
theorem S.hiSrt' {n : Nat} {w0 : World} {ρ : Env} {Γ Δ : List Assn} {φ : Act → World → Prop} (pa : Option Addr) (l : List It) [p : Pick (HI pa (some l)) Γ Δ] (k : Srt l → S n w0 ρ Γ φ) : S n w0 ρ Γ φ := by
  intro a w ha hs hx
  obtain ⟨_, _, _, _, _, _, _, e, _⟩ := Sat.openHI (hs.ent p.ent)
  exact k e a w ha hs hx
def pushL (x : It) (l : List It) : List It := if hasL x.id l then l else ins x l
theorem pushL_eq (x : It) (l : List It) : (pushR x (some l)).2 = some (pushL x l) := by
  simp only [pushR, pushL]
  split <;> rfl
theorem pushL_len (x : It) (l : List It) : (pushL x l).length ≤ l.length + 1 := by
  unfold pushL
  split
  · omega
  · rw [(ins_perm x l).length_eq]; simp
def Ids (l : List It) : Prop := (l.map (·.id)).Nodup
theorem Ids.perm {l m : List It} (h : Ids l) (p : l.Perm m) : Ids m := (List.Perm.map (fun x : It => x.id) p).nodup h
theorem Ids.cons {l : List It} (h : Ids l) {x : It} (hx : hasL x.id l = false) : Ids (x :: l) := by
  unfold Ids
  rw [List.map_cons, List.nodup_cons]
  refine ⟨fun hm => ?_, h⟩
  obtain ⟨y, hy, e⟩ := List.mem_map.1 hm
  exact hasL_false hx y hy e
theorem Ids.push {l : List It} (h : Ids l) (x : It) : Ids (pushL x l) := by
  unfold pushL
  cases hx : hasL x.id l with
  | true => exact h
  | false => exact (h.cons hx).perm (ins_perm x l).symm
theorem Ids.tail {x : It} {l : List It} (h : Ids (x :: l)) : Ids l := (List.nodup_cons.1 (by simpa only [Ids, List.map_cons] using h)).2
theorem hasL_append (id : Int) (l m : List It) : hasL id (l ++ m) = (hasL id l || hasL id m) := List.any_append
theorem peek_true {l : List It} {y : It} (h : peekR (some l) = (y, true)) : ∃ l', l = y :: l' := by
  cases l with
  | nil => cases h
  | cons a l => cases h; exact ⟨l, rfl⟩
theorem peek_false {l : List It} {y : It} (h : peekR (some l) = (y, false)) : l = [] := by
  cases l with
  | nil => rfl
  | cons a l => cases h
theorem pop_true {l : List It} {x : It} {st : HSt} (h : popR (some l) = (x, true, st)) : ∃ l', l = x :: l' ∧ st = some l' := by
  cases l with
  | nil => cases h
  | cons a l => cases h; exact ⟨l, rfl, rfl⟩
theorem pop_false {l : List It} {x : It} {st : HSt} (h : popR (some l) = (x, false, st)) : l = [] := by
  cases l with
  | nil => rfl
  | cons a l => cases h
/-- Who is ahead of all comes out. -/
theorem merge_head {x y : It} {lk lh lg : List It} (hk : Srt (x :: lk)) (hp : (x :: lk).Perm ((y :: lh) ++ lg)) (h1 : ∀ z ∈ lh, bf y z = true) (h2 : ∀ z ∈ lg, bf y z = true) : x = y ∧ lk.Perm (lh ++ lg) := by
  have hk' := List.pairwise_cons.1 hk
  have e : x = y := by
    have hy : y ∈ x :: lk := hp.mem_iff.2 (by simp)
    rcases List.mem_cons.1 hy with e | hy
    · exact e.symm
    · have hxy := hk'.1 y hy
      have hx : x ∈ (y :: lh) ++ lg := hp.mem_iff.1 (List.mem_cons_self ..)
      rcases List.mem_append.1 hx with hx | hx
      · rcases List.mem_cons.1 hx with e | hx
        · exact e
        · have := bf_as (h1 x hx); rw [hxy] at this; cases this
      · have := bf_as (h2 x hx); rw [hxy] at this; cases this
  subst e
  exact ⟨rfl, List.Perm.cons_inv (show (x :: lk).Perm (x :: (lh ++ lg)) from hp)⟩
theorem ahead_all {y z : It} {l : List It} (hs : Srt (z :: l)) (h : bf y z = true) : ∀ w ∈ z :: l, bf y w = true := fun w hw => by
  rcases List.mem_cons.1 hw with rfl | hw
  · exact h
  · exact bf_tr h ((List.pairwise_cons.1 hs).1 w hw)
structure Mrg (lk lh lg : List It) : Prop where
  perm : lk.Perm (lh ++ lg)
  ids : Ids (lh ++ lg)
theorem Mrg.push {lk lh lg : List It} (h : Mrg lk lh lg) {x : It} (hx : hasL x.id lh = false) : Mrg (pushL x lk) lh (pushL x lg) := by
  have hk : hasL x.id lk = hasL x.id lg := by rw [hasL_perm h.perm, hasL_append, hx]; rfl
  unfold pushL
  rw [hk]
  cases hg : hasL x.id lg with
  | true => exact h
  | false =>
    have hp : (x :: (lh ++ lg)).Perm (lh ++ ins x lg) := List.perm_middle.symm.trans ((ins_perm x lg).symm.append_left lh)
    exact ⟨(ins_perm x lk).trans ((h.perm.cons x).trans hp), (h.ids.cons (by rw [hasL_append, hx, hg]; rfl)).perm hp⟩
set_option maxHeartbeats 2000000 in
theorem PrioMerge_S (s0 s1 : SV) (ra rb : List It) (W : World) (hn0 : s0.n = ra.length) (h0 : SlAt W s0.v ra.length 3 (ra.flatMap itC)) (hn1 : s1.n = rb.length) (h1' : SlAt W s1.v rb.length 3 (rb.flatMap itC)) : LawS 5 [s0.v, s1.v] W := by
  have hm0 := slAt_cap h0
  have hm1 := slAt_cap h1'
  unfold maxLen at hm0 hm1
  refine Spec.of_body Try.func5 rfl Try.ntmps5 rfl ?_
  intro w0 Γ
  show S _ w0 [(0, s0.v), (1, s1.v)] (old W :: Γ) _
  refine S.seq fun K1 hK1 => ?_
  refine S.region rfl ?_
  refine S.op (S.q (q_assign rfl) rfl rfl ?_)
  first | with_reducible refine S.nilK ?_ | refine S.nil ?_
  refine hK1 _ _ ?_
  refine S.seq fun K2 hK2 => ?_
  refine S.seq fun K3 hK3 => ?_
  refine S.region rfl ?_
  refine S.op (S.call Try.en8 (vs := []) trivial (awake_S) rfl ?_)
  rintro v Θ ⟨rfl, rfl⟩
  refine S.op (S.q (q_not rfl) rfl rfl ?_)
  first | with_reducible refine S.nilK ?_ | refine S.nil ?_
  refine hK3 _ _ ?_
  refine S.condF rfl ?_
  refine S.skip ?_
  with_reducible repeat (first | refine S.then_n ?_ | refine S.then_x ?_ | refine S.then_r ?_ | refine S.inBlock_n ?_ | refine S.inBlock_r ?_ | refine S.inBlock_x rfl ?_ | refine S.noGoto_r ?_ | refine S.noGoto_n ?_ | refine S.noGoto_x ?_)
  refine hK2 _ _ ?_
  refine S.seq fun K4 hK4 => ?_
  refine S.region rfl ?_
  refine S.op (S.call Try.en11 (vs := []) trivial (HNew_S) rfl ?_)
  rintro v Θ ⟨ph, rfl, rfl⟩
  refine S.op (S.call Try.en11 (vs := []) trivial (HNew_S) rfl ?_)
  rintro v Θ ⟨pk, rfl, rfl⟩
  refine S.op (S.q (q_assign rfl) rfl rfl ?_)
  refine S.op (S.q (q_assign rfl) rfl rfl ?_)
  first | with_reducible refine S.nilK ?_ | refine S.nil ?_
  refine hK4 _ _ ?_
  refine S.seq fun K5 hK5 => ?_
  refine S.seq fun K6 hK6 => ?_
  refine S.region rfl ?_
  refine S.op (S.q (q_move rfl) rfl rfl ?_)
  refine S.op (S.q (q_len Try.underlying30 rfl) rfl rfl ?_)
  refine S.op (S.q (q_move rfl) rfl rfl ?_)
  first | with_reducible refine S.nilK ?_ | refine S.nil ?_
  refine hK6 _ _ ?_
  refine S.block ?_
  refine S.loop (fun m ρ' Γ' => ∃ (k : Nat) (l : List It), m + k = ra.length ∧ l.length ≤ k ∧ l.length ≤ 50 ∧ Ids l ∧ ρ' = [(1, s1.v), (5, .pointer ph), (6, .pointer pk), (22, s0.v), (23, .int .i64 s0.n), (24, .int .i64 k)] ∧ Γ' = HI ph (some l) :: HI pk (some l) :: old W :: Γ) (m := _) (ρ0 := _) (Γ0 := _) (⟨0, [], rfl, Nat.le_refl _, by simp, List.nodup_nil, rfl, rfl⟩) (by repeat (first | exact trivial | refine ⟨rfl, ?_⟩)) Sub.ent ?_
  rintro m ρ' Γ' ⟨k, l, hmk, hlk, hl50, hids, rfl, rfl⟩
  refine S.seq fun K7 hK7 => ?_
  refine S.region rfl ?_
  refine S.op (S.q (q_lt rfl rfl) rfl rfl ?_)
  first | with_reducible refine S.nilK ?_ | refine S.nil ?_
  refine hK7 _ _ ?_
  refine S.seq fun K8 hK8 => ?_
  refine S.condD rfl (fun h2 => ?_) (fun h2 => ?_)
  · obtain ⟨x, hx⟩ := getE (l := ra) (i := k) (by omega)
    obtain ⟨b, off, hb, hcell⟩ := slAt_some h0 (by omega)
    have hpl := pushL_len x l
    refine S.skip ?_
    with_reducible repeat (first | refine S.then_n ?_ | refine S.then_x ?_ | refine S.then_r ?_ | refine S.inBlock_n ?_ | refine S.inBlock_r ?_ | refine S.inBlock_x rfl ?_ | refine S.noGoto_r ?_ | refine S.noGoto_n ?_ | refine S.noGoto_x ?_)
    refine hK8 _ _ ?_
    refine S.seq fun K9 hK9 => ?_
    refine S.cut (fun ρ' Γ' => ∃ l' : List It, l'.length ≤ k + 1 ∧ l'.length ≤ 50 ∧ Ids l' ∧ ρ' = [(1, s1.v), (5, .pointer ph), (6, .pointer pk), (22, s0.v), (23, .int .i64 s0.n), (24, .int .i64 k)] ∧ Γ' = HI ph (some l') :: HI pk (some l') :: old W :: Γ) ?_ ?_
    · refine S.block ?_
      refine S.seq fun K10 hK10 => ?_
      refine S.region rfl ?_
      refine S.op (S.q (q_move rfl) rfl rfl ?_)
      refine S.op (S.q (q_indexO (k) Try.el30 rfl hb rfl rfl (by omega)) rfl rfl ?_)
      refine S.op (S.q (q_loadWS (itC x) Try.ag24 rfl rfl (fun i u hu => by rw [Nat.add_assoc]; exact hcell _ _ (flat_seg (enc := itC) (sz := 3) (fun _ => rfl) hx i u hu))) rfl rfl ?_)
      refine S.op (S.alloc Try.z24 rfl ?_)
      intro b8
      refine S.op (S.q (q_assign rfl) rfl rfl ?_)
      refine S.op (S.storeS (cs' := [_, _, _]) Try.ag24 rfl rfl rfl rfl rfl rfl ?_)
      first | with_reducible refine S.nilK ?_ | refine S.nil ?_
      refine hK10 _ _ ?_
      refine S.seq fun K11 hK11 => ?_
      refine S.region rfl ?_
      refine S.op (S.q (q_move rfl) rfl rfl ?_)
      refine S.op (S.q (q_lt rfl rfl) rfl rfl ?_)
      first | with_reducible refine S.nilK ?_ | refine S.nil ?_
      refine hK11 _ _ ?_
      refine S.condD rfl (fun h3 => ?_) (fun h3 => ?_)
      · refine S.seq fun K12 hK12 => ?_
        refine S.region rfl ?_
        refine S.op (S.q (q_move rfl) rfl rfl ?_)
        refine S.op (S.q (q_loadS [_, _, _] Try.ag24 rfl rfl ⟨rfl, rfl, rfl, trivial⟩) rfl rfl ?_)
        refine S.op (S.call Try.en12 (vs := [_, _]) ⟨rfl, rfl, trivial⟩ (HPush_S ph (some l) x (by show l.length ≤ 999; omega)) rfl ?_)
        rintro v Θ ⟨rfl, rfl⟩
        rw [pushL_eq]
        first | with_reducible refine S.nilK ?_ | refine S.nil ?_
        refine hK12 _ _ ?_
        refine S.region rfl ?_
        refine S.op (S.q (q_move rfl) rfl rfl ?_)
        refine S.op (S.q (q_loadS [_, _, _] Try.ag24 rfl rfl ⟨rfl, rfl, rfl, trivial⟩) rfl rfl ?_)
        refine S.op (S.call Try.en12 (vs := [_, _]) ⟨rfl, rfl, trivial⟩ (HPush_S pk (some l) x (by show l.length ≤ 999; omega)) rfl ?_)
        rintro v Θ ⟨rfl, rfl⟩
        rw [pushL_eq]
        first | with_reducible refine S.nilK ?_ | refine S.nil ?_
        with_reducible repeat (first | refine S.then_n ?_ | refine S.then_x ?_ | refine S.then_r ?_ | refine S.inBlock_n ?_ | refine S.inBlock_r ?_ | refine S.inBlock_x rfl ?_ | refine S.noGoto_r ?_ | refine S.noGoto_n ?_ | refine S.noGoto_x ?_)
        with_reducible repeat (first | refine S.then_n ?_ | refine S.then_x ?_ | refine S.then_r ?_ | refine S.inBlock_n ?_ | refine S.inBlock_r ?_ | refine S.inBlock_x rfl ?_ | refine S.noGoto_r ?_ | refine S.noGoto_n ?_ | refine S.noGoto_x ?_)
        first
        | exact S.meet ⟨pushL x l, by omega, by omega, hids.push x, rfl, rfl⟩ ⟨rfl, rfl, rfl, rfl, rfl, rfl, trivial⟩ Sub.ent
        | exact S.meet ⟨l, by omega, hl50, hids, rfl, rfl⟩ ⟨rfl, rfl, rfl, rfl, rfl, rfl, trivial⟩ Sub.ent
      · refine S.skip ?_
        with_reducible repeat (first | refine S.then_n ?_ | refine S.then_x ?_ | refine S.then_r ?_ | refine S.inBlock_n ?_ | refine S.inBlock_r ?_ | refine S.inBlock_x rfl ?_ | refine S.noGoto_r ?_ | refine S.noGoto_n ?_ | refine S.noGoto_x ?_)
        with_reducible repeat (first | refine S.then_n ?_ | refine S.then_x ?_ | refine S.then_r ?_ | refine S.inBlock_n ?_ | refine S.inBlock_r ?_ | refine S.inBlock_x rfl ?_ | refine S.noGoto_r ?_ | refine S.noGoto_n ?_ | refine S.noGoto_x ?_)
        with_reducible repeat (first | refine S.then_n ?_ | refine S.then_x ?_ | refine S.then_r ?_ | refine S.inBlock_n ?_ | refine S.inBlock_r ?_ | refine S.inBlock_x rfl ?_ | refine S.noGoto_r ?_ | refine S.noGoto_n ?_ | refine S.noGoto_x ?_)
        first
        | exact S.meet ⟨pushL x l, by omega, by omega, hids.push x, rfl, rfl⟩ ⟨rfl, rfl, rfl, rfl, rfl, rfl, trivial⟩ Sub.ent
        | exact S.meet ⟨l, by omega, hl50, hids, rfl, rfl⟩ ⟨rfl, rfl, rfl, rfl, rfl, rfl, trivial⟩ Sub.ent
    · rintro ρ' Γ' ⟨l', hlk', hl50', hids', rfl, rfl⟩
      refine hK9 _ _ ?_
      refine S.region rfl ?_
      refine S.op (S.q (q_add rfl rfl (inI64 (by omega) (by omega))) rfl rfl ?_)
      refine S.op (S.q (q_move rfl) rfl rfl ?_)
      first | with_reducible refine S.nilK ?_ | refine S.nil ?_
      with_reducible repeat (first | refine S.then_n ?_ | refine S.then_x ?_ | refine S.then_r ?_ | refine S.inBlock_n ?_ | refine S.inBlock_r ?_ | refine S.inBlock_x rfl ?_ | refine S.noGoto_r ?_ | refine S.noGoto_n ?_ | refine S.noGoto_x ?_)
      exact S.next (m - 1) (⟨k + 1, l', by omega, by omega, hl50', hids', rfl, rfl⟩) (by omega) (by repeat (first | exact trivial | refine ⟨rfl, ?_⟩)) Sub.ent
  · refine S.exit ?_
    with_reducible repeat (first | refine S.then_n ?_ | refine S.then_x ?_ | refine S.then_r ?_ | refine S.inBlock_n ?_ | refine S.inBlock_r ?_ | refine S.inBlock_x rfl ?_ | refine S.noGoto_r ?_ | refine S.noGoto_n ?_ | refine S.noGoto_x ?_)
    with_reducible refine S.inBlock_s ?_
    with_reducible repeat (first | refine S.then_n ?_ | refine S.then_x ?_ | refine S.then_r ?_ | refine S.inBlock_n ?_ | refine S.inBlock_r ?_ | refine S.inBlock_x rfl ?_ | refine S.noGoto_r ?_ | refine S.noGoto_n ?_ | refine S.noGoto_x ?_)
    refine hK5 _ _ ?_
    refine S.seq fun K13 hK13 => ?_
    refine S.region rfl ?_
    refine S.op (S.call Try.en11 (vs := []) trivial (HNew_S) rfl ?_)
    rintro v Θ ⟨pg, rfl, rfl⟩
    refine S.op (S.q (q_assign rfl) rfl rfl ?_)
    first | with_reducible refine S.nilK ?_ | refine S.nil ?_
    refine hK13 _ _ ?_
    refine S.seq fun K14 hK14 => ?_
    refine S.seq fun K15 hK15 => ?_
    refine S.region rfl ?_
    refine S.op (S.q (q_move rfl) rfl rfl ?_)
    refine S.op (S.q (q_len Try.underlying30 rfl) rfl rfl ?_)
    refine S.op (S.q (q_move rfl) rfl rfl ?_)
    first | with_reducible refine S.nilK ?_ | refine S.nil ?_
    refine hK15 _ _ ?_
    refine S.block ?_
    refine S.loop (fun m ρ' Γ' => ∃ (k : Nat) (lg lk : List It), m + k = rb.length ∧ lg.length ≤ k ∧ lk.length ≤ l.length + lg.length ∧ lg.length ≤ 50 ∧ Mrg lk l lg ∧ ρ' = [(5, .pointer ph), (6, .pointer pk), (9, .pointer pg), (39, s1.v), (40, .int .i64 s1.n), (41, .int .i64 k)] ∧ Γ' = HI ph (some l) :: HI pg (some lg) :: HI pk (some lk) :: old W :: Γ) (m := _) (ρ0 := _) (Γ0 := _) (⟨0, [], l, rfl, Nat.le_refl _, by simp, by simp, ⟨by simp, by simpa using hids⟩, rfl, rfl⟩) (by repeat (first | exact trivial | refine ⟨rfl, ?_⟩)) Sub.ent ?_
    rintro m ρ' Γ' ⟨k, lg, lk, hmk, hgk, hkl, hg50, hmrg, rfl, rfl⟩
    refine S.seq fun K16 hK16 => ?_
    refine S.region rfl ?_
    refine S.op (S.q (q_lt rfl rfl) rfl rfl ?_)
    first | with_reducible refine S.nilK ?_ | refine S.nil ?_
    refine hK16 _ _ ?_
    refine S.seq fun K17 hK17 => ?_
    refine S.condD rfl (fun h4 => ?_) (fun h4 => ?_)
    · obtain ⟨x, hx⟩ := getE (l := rb) (i := k) (by omega)
      obtain ⟨b, off, hb, hcell⟩ := slAt_some h1' (by omega)
      have hpg := pushL_len x lg
      have hpk := pushL_len x lk
      refine S.skip ?_
      with_reducible repeat (first | refine S.then_n ?_ | refine S.then_x ?_ | refine S.then_r ?_ | refine S.inBlock_n ?_ | refine S.inBlock_r ?_ | refine S.inBlock_x rfl ?_ | refine S.noGoto_r ?_ | refine S.noGoto_n ?_ | refine S.noGoto_x ?_)
      refine hK17 _ _ ?_
      refine S.seq fun K18 hK18 => ?_
      refine S.cut (fun ρ' Γ' => ∃ lg' lk' : List It, lg'.length ≤ k + 1 ∧ lk'.length ≤ l.length + lg'.length ∧ lg'.length ≤ 50 ∧ Mrg lk' l lg' ∧ ρ' = [(5, .pointer ph), (6, .pointer pk), (9, .pointer pg), (39, s1.v), (40, .int .i64 s1.n), (41, .int .i64 k)] ∧ Γ' = HI ph (some l) :: HI pg (some lg') :: HI pk (some lk') :: old W :: Γ) ?_ ?_
      · refine S.block ?_
        refine S.seq fun K19 hK19 => ?_
        refine S.region rfl ?_
        refine S.op (S.q (q_move rfl) rfl rfl ?_)
        refine S.op (S.q (q_indexO (k) Try.el30 rfl hb rfl rfl (by omega)) rfl rfl ?_)
        refine S.op (S.q (q_loadWS (itC x) Try.ag24 rfl rfl (fun i u hu => by rw [Nat.add_assoc]; exact hcell _ _ (flat_seg (enc := itC) (sz := 3) (fun _ => rfl) hx i u hu))) rfl rfl ?_)
        refine S.op (S.alloc Try.z24 rfl ?_)
        intro b11
        refine S.op (S.q (q_assign rfl) rfl rfl ?_)
        refine S.op (S.storeS (cs' := [_, _, _]) Try.ag24 rfl rfl rfl rfl rfl rfl ?_)
        first | with_reducible refine S.nilK ?_ | refine S.nil ?_
        refine hK19 _ _ ?_
        refine S.seq fun K20 hK20 => ?_
        refine S.regionG ?_
        refine S.g_op rfl (S.q (q_move rfl) rfl rfl ?_)
        refine S.g_op rfl (S.q (q_lt rfl rfl) rfl rfl ?_)
        refine S.g_op rfl (S.q (q_move rfl) rfl rfl ?_)
        by_cases hg15_2 : ((k : Nat) : Int) < 50
        · refine S.g_yes rfl rfl rfl (decide_eq_true hg15_2) (S.q (q_move rfl) rfl rfl ?_)
          refine S.g_yes rfl rfl rfl (decide_eq_true hg15_2) (S.q (q_field Try.fo24_0 rfl) rfl rfl ?_)
          refine S.g_yes rfl rfl rfl (decide_eq_true hg15_2) (S.q (q_load Try.at22 rfl rfl) rfl rfl ?_)
          refine S.g_yes rfl rfl rfl (decide_eq_true hg15_2) (S.call Try.en15 (vs := [_, _]) ⟨rfl, rfl, trivial⟩ (Has_S ph (some l) x.id) rfl ?_)
          rintro v Θ ⟨rfl, rfl⟩
          refine S.g_yes rfl rfl rfl (decide_eq_true hg15_2) (S.q (q_not rfl) rfl rfl ?_)
          refine S.g_op rfl (S.q (q_pickT rfl (decide_eq_true hg15_2) rfl) rfl rfl ?_)
          first | with_reducible refine S.g_nilK ?_ | refine S.g_nil ?_
          refine hK20 _ _ ?_
          refine S.cond rfl (fun h5 => ?_) (fun h5 => ?_)
          · have hno : hasL x.id l = false := by simpa [hasR] using h5
            have hmrg' := hmrg.push hno
            have hkl' : (pushL x lk).length = l.length + (pushL x lg).length := by rw [hmrg'.perm.length_eq, List.length_append]
            refine S.seq fun K21 hK21 => ?_
            refine S.region rfl ?_
            refine S.op (S.q (q_move rfl) rfl rfl ?_)
            refine S.op (S.q (q_loadS [_, _, _] Try.ag24 rfl rfl ⟨rfl, rfl, rfl, trivial⟩) rfl rfl ?_)
            refine S.op (S.call Try.en12 (vs := [_, _]) ⟨rfl, rfl, trivial⟩ (HPush_S pg (some lg) x (by show lg.length ≤ 999; omega)) rfl ?_)
            rintro v Θ ⟨rfl, rfl⟩
            rw [pushL_eq]
            first | with_reducible refine S.nilK ?_ | refine S.nil ?_
            refine hK21 _ _ ?_
            refine S.region rfl ?_
            refine S.op (S.q (q_move rfl) rfl rfl ?_)
            refine S.op (S.q (q_loadS [_, _, _] Try.ag24 rfl rfl ⟨rfl, rfl, rfl, trivial⟩) rfl rfl ?_)
            refine S.op (S.call Try.en12 (vs := [_, _]) ⟨rfl, rfl, trivial⟩ (HPush_S pk (some lk) x (by show lk.length ≤ 999; omega)) rfl ?_)
            rintro v Θ ⟨rfl, rfl⟩
            rw [pushL_eq]
            first | with_reducible refine S.nilK ?_ | refine S.nil ?_
            with_reducible repeat (first | refine S.then_n ?_ | refine S.then_x ?_ | refine S.then_r ?_ | refine S.inBlock_n ?_ | refine S.inBlock_r ?_ | refine S.inBlock_x rfl ?_ | refine S.noGoto_r ?_ | refine S.noGoto_n ?_ | refine S.noGoto_x ?_)
            with_reducible repeat (first | refine S.then_n ?_ | refine S.then_x ?_ | refine S.then_r ?_ | refine S.inBlock_n ?_ | refine S.inBlock_r ?_ | refine S.inBlock_x rfl ?_ | refine S.noGoto_r ?_ | refine S.noGoto_n ?_ | refine S.noGoto_x ?_)
            first
            | exact S.meet ⟨pushL x lg, pushL x lk, by omega, by omega, by omega, hmrg', rfl, rfl⟩ ⟨rfl, rfl, rfl, rfl, rfl, rfl, trivial⟩ Sub.ent
            | exact S.meet ⟨lg, lk, by omega, hkl, hg50, hmrg, rfl, rfl⟩ ⟨rfl, rfl, rfl, rfl, rfl, rfl, trivial⟩ Sub.ent
          · refine S.skip ?_
            with_reducible repeat (first | refine S.then_n ?_ | refine S.then_x ?_ | refine S.then_r ?_ | refine S.inBlock_n ?_ | refine S.inBlock_r ?_ | refine S.inBlock_x rfl ?_ | refine S.noGoto_r ?_ | refine S.noGoto_n ?_ | refine S.noGoto_x ?_)
            with_reducible repeat (first | refine S.then_n ?_ | refine S.then_x ?_ | refine S.then_r ?_ | refine S.inBlock_n ?_ | refine S.inBlock_r ?_ | refine S.inBlock_x rfl ?_ | refine S.noGoto_r ?_ | refine S.noGoto_n ?_ | refine S.noGoto_x ?_)
            with_reducible repeat (first | refine S.then_n ?_ | refine S.then_x ?_ | refine S.then_r ?_ | refine S.inBlock_n ?_ | refine S.inBlock_r ?_ | refine S.inBlock_x rfl ?_ | refine S.noGoto_r ?_ | refine S.noGoto_n ?_ | refine S.noGoto_x ?_)
            first
            | exact S.meet ⟨pushL x lg, pushL x lk, by omega, by omega, by omega, hmrg', rfl, rfl⟩ ⟨rfl, rfl, rfl, rfl, rfl, rfl, trivial⟩ Sub.ent
            | exact S.meet ⟨lg, lk, by omega, hkl, hg50, hmrg, rfl, rfl⟩ ⟨rfl, rfl, rfl, rfl, rfl, rfl, trivial⟩ Sub.ent
        · refine S.g_no rfl rfl rfl (decide_eq_false hg15_2) rfl rfl ?_
          refine S.g_no rfl rfl rfl (decide_eq_false hg15_2) rfl rfl ?_
          refine S.g_no rfl rfl rfl (decide_eq_false hg15_2) rfl rfl ?_
          refine S.g_no rfl rfl rfl (decide_eq_false hg15_2) rfl rfl ?_
          refine S.g_no rfl rfl rfl (decide_eq_false hg15_2) rfl rfl ?_
          refine S.g_op rfl (S.q (q_pickF rfl (decide_eq_false hg15_2) rfl) rfl rfl ?_)
          first | with_reducible refine S.g_nilK ?_ | refine S.g_nil ?_
          refine hK20 _ _ ?_
          refine S.condF rfl ?_
          refine S.skip ?_
          with_reducible repeat (first | refine S.then_n ?_ | refine S.then_x ?_ | refine S.then_r ?_ | refine S.inBlock_n ?_ | refine S.inBlock_r ?_ | refine S.inBlock_x rfl ?_ | refine S.noGoto_r ?_ | refine S.noGoto_n ?_ | refine S.noGoto_x ?_)
          with_reducible repeat (first | refine S.then_n ?_ | refine S.then_x ?_ | refine S.then_r ?_ | refine S.inBlock_n ?_ | refine S.inBlock_r ?_ | refine S.inBlock_x rfl ?_ | refine S.noGoto_r ?_ | refine S.noGoto_n ?_ | refine S.noGoto_x ?_)
          with_reducible repeat (first | refine S.then_n ?_ | refine S.then_x ?_ | refine S.then_r ?_ | refine S.inBlock_n ?_ | refine S.inBlock_r ?_ | refine S.inBlock_x rfl ?_ | refine S.noGoto_r ?_ | refine S.noGoto_n ?_ | refine S.noGoto_x ?_)
          first
          | exact S.meet ⟨pushL x lg, pushL x lk, by omega, by omega, by omega, hmrg', rfl, rfl⟩ ⟨rfl, rfl, rfl, rfl, rfl, rfl, trivial⟩ Sub.ent
          | exact S.meet ⟨lg, lk, by omega, hkl, hg50, hmrg, rfl, rfl⟩ ⟨rfl, rfl, rfl, rfl, rfl, rfl, trivial⟩ Sub.ent
      · rintro ρ' Γ' ⟨lg', lk', hgk', hkl', hg50', hmrg', rfl, rfl⟩
        refine hK18 _ _ ?_
        refine S.region rfl ?_
        refine S.op (S.q (q_add rfl rfl (inI64 (by omega) (by omega))) rfl rfl ?_)
        refine S.op (S.q (q_move rfl) rfl rfl ?_)
        first | with_reducible refine S.nilK ?_ | refine S.nil ?_
        with_reducible repeat (first | refine S.then_n ?_ | refine S.then_x ?_ | refine S.then_r ?_ | refine S.inBlock_n ?_ | refine S.inBlock_r ?_ | refine S.inBlock_x rfl ?_ | refine S.noGoto_r ?_ | refine S.noGoto_n ?_ | refine S.noGoto_x ?_)
        exact S.next (m - 1) (⟨k + 1, lg', lk', by omega, hgk', hkl', hg50', hmrg', rfl, rfl⟩) (by omega) (by repeat (first | exact trivial | refine ⟨rfl, ?_⟩)) Sub.ent
    · refine S.exit ?_
      with_reducible repeat (first | refine S.then_n ?_ | refine S.then_x ?_ | refine S.then_r ?_ | refine S.inBlock_n ?_ | refine S.inBlock_r ?_ | refine S.inBlock_x rfl ?_ | refine S.noGoto_r ?_ | refine S.noGoto_n ?_ | refine S.noGoto_x ?_)
      with_reducible refine S.inBlock_s ?_
      with_reducible repeat (first | refine S.then_n ?_ | refine S.then_x ?_ | refine S.then_r ?_ | refine S.inBlock_n ?_ | refine S.inBlock_r ?_ | refine S.inBlock_x rfl ?_ | refine S.noGoto_r ?_ | refine S.noGoto_n ?_ | refine S.noGoto_x ?_)
      refine hK14 _ _ ?_
      refine S.block ?_
      refine S.loop (fun m ρ' Γ' => ∃ (lh lg lk : List It), m = lk.length ∧ lk.length ≤ 200 ∧ lh.length ≤ 200 ∧ lg.length ≤ 200 ∧ Mrg lk lh lg ∧ ρ' = [(5, .pointer ph), (6, .pointer pk), (9, .pointer pg)] ∧ Γ' = HI ph (some lh) :: HI pg (some lg) :: HI pk (some lk) :: old W :: Γ) (m := _) (ρ0 := _) (Γ0 := _) (⟨l, lg, lk, rfl, by omega, by omega, by omega, hmrg, rfl, rfl⟩) (by repeat (first | exact trivial | refine ⟨rfl, ?_⟩)) Sub.ent ?_
      rintro m ρ' Γ' ⟨lh, lg, lk, hm, hk2, hh2, hg2, hmrg, rfl, rfl⟩
      obtain ⟨x, some1, st', hpop⟩ : ∃ x s st', popR (some lk) = (x, s, st') := ⟨_, _, _, rfl⟩
      obtain ⟨y, one, hone⟩ : ∃ y s, peekR (some lh) = (y, s) := ⟨_, _, rfl⟩
      obtain ⟨z, two, htwo⟩ : ∃ y s, peekR (some lg) = (y, s) := ⟨_, _, rfl⟩
      refine S.hiSrt' ph lh fun hsh => ?_
      refine S.hiSrt' pg lg fun hsg => ?_
      refine S.hiSrt' pk lk fun hsk => ?_
      refine S.block ?_
      refine S.seq fun K22 hK22 => ?_
      refine S.region rfl ?_
      refine S.op (S.q (q_move rfl) rfl rfl ?_)
      refine S.op (S.call Try.en13 (vs := [_]) ⟨rfl, trivial⟩ (HPop_S pk (some lk) (by show lk.length ≤ 1000; omega)) rfl ?_)
      rintro v Θ ⟨rfl, rfl⟩
      rw [hpop]
      refine S.op (S.q (q_move rfl) rfl rfl ?_)
      refine S.op (S.q (q_extract rfl rfl) rfl rfl ?_)
      refine S.op (S.q (q_extract rfl rfl) rfl rfl ?_)
      refine S.op (S.alloc Try.z25 rfl ?_)
      intro b12
      refine S.op (S.storeS (cs' := [_, _, _]) Try.ag25 rfl rfl rfl rfl rfl rfl ?_)
      refine S.op (S.q (q_assign rfl) rfl rfl ?_)
      first | with_reducible refine S.nilK ?_ | refine S.nil ?_
      refine hK22 _ _ ?_
      refine S.seq fun K23 hK23 => ?_
      refine S.region rfl ?_
      refine S.op (S.q (q_move rfl) rfl rfl ?_)
      refine S.op (S.call Try.en16 (vs := [_]) ⟨rfl, trivial⟩ (Peek_S ph (some lh)) rfl ?_)
      rintro v Θ ⟨rfl, rfl⟩
      rw [hone]
      refine S.op (S.q (q_move rfl) rfl rfl ?_)
      refine S.op (S.q (q_extract rfl rfl) rfl rfl ?_)
      refine S.op (S.q (q_extract rfl rfl) rfl rfl ?_)
      refine S.op (S.alloc Try.z25 rfl ?_)
      intro b14
      refine S.op (S.storeS (cs' := [_, _, _]) Try.ag25 rfl rfl rfl rfl rfl rfl ?_)
      refine S.op (S.q (q_assign rfl) rfl rfl ?_)
      first | with_reducible refine S.nilK ?_ | refine S.nil ?_
      refine hK23 _ _ ?_
      refine S.seq fun K24 hK24 => ?_
      refine S.region rfl ?_
      refine S.op (S.q (q_move rfl) rfl rfl ?_)
      refine S.op (S.call Try.en16 (vs := [_]) ⟨rfl, trivial⟩ (Peek_S pg (some lg)) rfl ?_)
      rintro v Θ ⟨rfl, rfl⟩
      rw [htwo]
      refine S.op (S.q (q_move rfl) rfl rfl ?_)
      refine S.op (S.q (q_extract rfl rfl) rfl rfl ?_)
      refine S.op (S.q (q_extract rfl rfl) rfl rfl ?_)
      refine S.op (S.alloc Try.z25 rfl ?_)
      intro b16
      refine S.op (S.storeS (cs' := [_, _, _]) Try.ag25 rfl rfl rfl rfl rfl rfl ?_)
      refine S.op (S.q (q_assign rfl) rfl rfl ?_)
      first | with_reducible refine S.nilK ?_ | refine S.nil ?_
      refine hK24 _ _ ?_
      refine S.seq fun K25 hK25 => ?_
      refine S.seq fun K26 hK26 => ?_
      refine S.region rfl ?_
      refine S.op (S.q (q_move rfl) rfl rfl ?_)
      refine S.op (S.q (q_not rfl) rfl rfl ?_)
      first | with_reducible refine S.nilK ?_ | refine S.nil ?_
      refine hK26 _ _ ?_
      refine S.cond rfl (fun h6 => ?_) (fun h6 => ?_)
      · obtain rfl : some1 = false := by simpa using h6
        obtain rfl := pop_false hpop
        have hnil := List.nil_perm.1 hmrg.perm
        obtain ⟨rfl, rfl⟩ := List.append_eq_nil_iff.1 hnil
        cases hone
        cases htwo
        refine S.seq fun K27 hK27 => ?_
        refine S.regionG ?_
        refine S.g_op rfl (S.q (q_move rfl) rfl rfl ?_)
        refine S.g_op rfl (S.q (q_not rfl) rfl rfl ?_)
        refine S.g_op rfl (S.q (q_move rfl) rfl rfl ?_)
        refine S.g_yes rfl rfl rfl (rfl) (S.q (q_move rfl) rfl rfl ?_)
        refine S.g_yes rfl rfl rfl (rfl) (S.q (q_not rfl) rfl rfl ?_)
        refine S.g_op rfl (S.q (q_pickT rfl (rfl) rfl) rfl rfl ?_)
        refine S.g_op rfl (S.q (q_assign rfl) rfl rfl ?_)
        first | with_reducible refine S.g_nilK ?_ | refine S.g_nil ?_
        refine hK27 _ _ ?_
        refine S.ret ?_
        with_reducible repeat (first | refine S.then_n ?_ | refine S.then_x ?_ | refine S.then_r ?_ | refine S.inBlock_n ?_ | refine S.inBlock_r ?_ | refine S.inBlock_x rfl ?_ | refine S.noGoto_r ?_ | refine S.noGoto_n ?_ | refine S.noGoto_x ?_)
        exact S.fin (rs := [_]) (vs := [_]) Try.results5 (⟨rfl, trivial⟩)  (⟨rfl, rfl⟩) Sub.ent
      · obtain rfl : some1 = true := by simpa using h6
        obtain ⟨lk', rfl, rfl⟩ := pop_true hpop
        have htf : two = false → ∀ w ∈ lg, bf y w = true := fun e w hw => by
          subst e
          rw [peek_false htwo] at hw
          cases hw
        have htt : two = true → bf y z = true → ∀ w ∈ lg, bf y w = true := fun e hb => by
          subst e
          obtain ⟨lg', rfl⟩ := peek_true htwo
          exact ahead_all hsg hb
        have hof : one = false → ∀ w ∈ lh, bf z w = true := fun e w hw => by
          subst e
          rw [peek_false hone] at hw
          cases hw
        have hot : one = true → two = true → bf y z = false → ∀ w ∈ lh, bf z w = true := fun e1 e2 hb => by
          subst e1 e2
          obtain ⟨lh', rfl⟩ := peek_true hone
          obtain ⟨lg', rfl⟩ := peek_true htwo
          have hne : y.id ≠ z.id := fun e => by
            have := hmrg.ids
            unfold Ids at this
            rw [List.map_append, List.nodup_append] at this
            exact this.2.2 y.id (by simp) z.id (by simp) e
          exact ahead_all hsh ((bf_tot hne).resolve_left (by rw [hb]; simp))
        rw [List.length_cons] at hk2
        refine S.skip ?_
        with_reducible repeat (first | refine S.then_n ?_ | refine S.then_x ?_ | refine S.then_r ?_ | refine S.inBlock_n ?_ | refine S.inBlock_r ?_ | refine S.inBlock_x rfl ?_ | refine S.noGoto_r ?_ | refine S.noGoto_n ?_ | refine S.noGoto_x ?_)
        refine hK25 _ _ ?_
        refine S.seq fun K28 hK28 => ?_
        refine S.seq fun K29 hK29 => ?_
        refine S.regionG ?_
        refine S.g_op rfl (S.q (q_move rfl) rfl rfl ?_)
        refine S.g_op rfl (S.q (q_move rfl) rfl rfl ?_)
        rcases Bool.eq_false_or_eq_true (one) with hg24_1 | hg24_1
        · refine S.g_yes rfl rfl rfl (hg24_1) (S.q (q_move rfl) rfl rfl ?_)
          refine S.g_yes rfl rfl rfl (hg24_1) (S.q (q_not rfl) rfl rfl ?_)
          refine S.g_yes rfl rfl rfl (hg24_1) (S.q (q_move rfl) rfl rfl ?_)
          rcases Bool.eq_false_or_eq_true ((!two)) with hg24_4 | hg24_4
          · refine S.g_no rfl rfl rfl (hg24_4) rfl rfl ?_
            refine S.g_no rfl rfl rfl (hg24_4) rfl rfl ?_
            refine S.g_no rfl rfl rfl (hg24_4) rfl rfl ?_
            refine S.g_yes rfl rfl rfl (hg24_1) (S.q (q_pickT rfl (hg24_4) rfl) rfl rfl ?_)
            refine S.g_op rfl (S.q (q_pickT rfl (hg24_1) rfl) rfl rfl ?_)
            first | with_reducible refine S.g_nilK ?_ | refine S.g_nil ?_
            refine hK29 _ _ ?_
            refine S.cut (fun ρ' Γ' => ∃ lh' lg' : List It, lh'.length ≤ 200 ∧ lg'.length ≤ 200 ∧ Mrg lk' lh' lg' ∧ ρ' = [(5, .pointer ph), (6, .pointer pk), (9, .pointer pg), (12, .pointer (some ⟨b12, 0, none⟩)), (14, .pointer (some ⟨b14, 0, none⟩))] ∧ Γ' = HI ph (some lh') :: HI pg (some lg') :: HI pk (some lk') :: blk b12 25 (itC x).toArray :: blk b14 25 (itC x).toArray :: old W :: Γ) ?_ ?_
            · refine S.condT rfl ?_
              refine S.region rfl ?_
              have hall : ∀ w ∈ lg, bf y w = true := by
                first
                | exact htf (by simpa using hg24_4)
                | exact htt (by simpa using hg24_4) h7
              obtain rfl : one = true := hg24_1
              obtain ⟨lh', rfl⟩ := peek_true hone
              obtain ⟨rfl, hperm'⟩ := merge_head hsk hmrg.perm (List.pairwise_cons.1 hsh).1 hall
              have hids' : Ids (lh' ++ lg) := Ids.tail (x := x) hmrg.ids
              rw [List.length_cons] at hh2
              refine S.op (S.q (q_move rfl) rfl rfl ?_)
              refine S.op (S.call Try.en13 (vs := [_]) ⟨rfl, trivial⟩ (HPop_S ph (some (x :: lh')) (by show lh'.length + 1 ≤ 1000; omega)) rfl ?_)
              rintro v Θ ⟨rfl, rfl⟩
              rw [show popR (some (x :: lh')) = (x, true, some lh') from rfl]
              first | with_reducible refine S.nilK ?_ | refine S.nil ?_
              with_reducible repeat (first | refine S.then_n ?_ | refine S.then_x ?_ | refine S.then_r ?_ | refine S.inBlock_n ?_ | refine S.inBlock_r ?_ | refine S.inBlock_x rfl ?_ | refine S.noGoto_r ?_ | refine S.noGoto_n ?_ | refine S.noGoto_x ?_)
              first
              | exact S.meet ⟨lh', lg, by omega, hg2, ⟨hperm', hids'⟩, rfl, rfl⟩ ⟨rfl, rfl, rfl, rfl, rfl, trivial⟩ Sub.ent
              | exact S.meet ⟨lh, lg', hh2, by omega, ⟨hperm2, hids'⟩, rfl, rfl⟩ ⟨rfl, rfl, rfl, rfl, rfl, trivial⟩ Sub.ent
            · rintro ρ' Γ' ⟨lh2, lg2, hh22, hg22, hmrg2, rfl, rfl⟩
              refine hK28 _ _ ?_
              refine S.seq fun K30 hK30 => ?_
              refine S.region rfl ?_
              refine S.op (S.q (q_loadS [_, _, _] Try.ag25 rfl rfl ⟨rfl, rfl, rfl, trivial⟩) rfl rfl ?_)
              refine S.op (S.q (q_loadS [_, _, _] Try.ag25 rfl rfl ⟨rfl, rfl, rfl, trivial⟩) rfl rfl ?_)
              refine S.op (S.q (q_neIt x x (.inl rfl) rfl rfl) rfl rfl ?_)
              first | with_reducible refine S.nilK ?_ | refine S.nil ?_
              refine hK30 _ _ ?_
              refine S.cond rfl (fun h9 => ?_) (fun h9 => ?_)
              · exact absurd h9 (by simp)
              · refine S.skip ?_
                with_reducible repeat (first | refine S.then_n ?_ | refine S.then_x ?_ | refine S.then_r ?_ | refine S.inBlock_n ?_ | refine S.inBlock_r ?_ | refine S.inBlock_x rfl ?_ | refine S.noGoto_r ?_ | refine S.noGoto_n ?_ | refine S.noGoto_x ?_)
                with_reducible repeat (first | refine S.then_n ?_ | refine S.then_x ?_ | refine S.then_r ?_ | refine S.inBlock_n ?_ | refine S.inBlock_r ?_ | refine S.inBlock_x rfl ?_ | refine S.noGoto_r ?_ | refine S.noGoto_n ?_ | refine S.noGoto_x ?_)
                with_reducible repeat (first | refine S.then_n ?_ | refine S.then_x ?_ | refine S.then_r ?_ | refine S.inBlock_n ?_ | refine S.inBlock_r ?_ | refine S.inBlock_x rfl ?_ | refine S.noGoto_r ?_ | refine S.noGoto_n ?_ | refine S.noGoto_x ?_)
                exact S.next (lk'.length) (⟨lh2, lg2, lk', rfl, by omega, hh22, hg22, hmrg2, rfl, rfl⟩) (by rw [hm, List.length_cons]; omega) (by repeat (first | exact trivial | refine ⟨rfl, ?_⟩)) Sub.ent
          · refine S.g_yes rfl rfl rfl (hg24_4) (S.q (q_loadS [_, _, _] Try.ag25 rfl rfl ⟨rfl, rfl, rfl, trivial⟩) rfl rfl ?_)
            refine S.g_yes rfl rfl rfl (hg24_4) (S.q (q_loadS [_, _, _] Try.ag25 rfl rfl ⟨rfl, rfl, rfl, trivial⟩) rfl rfl ?_)
            refine S.g_yes rfl rfl rfl (hg24_4) (S.callP Try.en9 (vs := [_, _]) ⟨rfl, rfl, trivial⟩ (fun w hs => First_P y z w) rfl ?_)
            refine S.g_yes rfl rfl rfl (hg24_1) (S.q (q_pickF rfl (hg24_4) rfl) rfl rfl ?_)
            refine S.g_op rfl (S.q (q_pickT rfl (hg24_1) rfl) rfl rfl ?_)
            first | with_reducible refine S.g_nilK ?_ | refine S.g_nil ?_
            refine hK29 _ _ ?_
            refine S.cut (fun ρ' Γ' => ∃ lh' lg' : List It, lh'.length ≤ 200 ∧ lg'.length ≤ 200 ∧ Mrg lk' lh' lg' ∧ ρ' = [(5, .pointer ph), (6, .pointer pk), (9, .pointer pg), (12, .pointer (some ⟨b12, 0, none⟩)), (14, .pointer (some ⟨b14, 0, none⟩))] ∧ Γ' = HI ph (some lh') :: HI pg (some lg') :: HI pk (some lk') :: blk b12 25 (itC x).toArray :: blk b14 25 (itC x).toArray :: old W :: Γ) ?_ ?_
            · refine S.cond rfl (fun h7 => ?_) (fun h7 => ?_)
              · refine S.region rfl ?_
                have hall : ∀ w ∈ lg, bf y w = true := by
                  first
                  | exact htf (by simpa using hg24_4)
                  | exact htt (by simpa using hg24_4) h7
                obtain rfl : one = true := hg24_1
                obtain ⟨lh', rfl⟩ := peek_true hone
                obtain ⟨rfl, hperm'⟩ := merge_head hsk hmrg.perm (List.pairwise_cons.1 hsh).1 hall
                have hids' : Ids (lh' ++ lg) := Ids.tail (x := x) hmrg.ids
                rw [List.length_cons] at hh2
                refine S.op (S.q (q_move rfl) rfl rfl ?_)
                refine S.op (S.call Try.en13 (vs := [_]) ⟨rfl, trivial⟩ (HPop_S ph (some (x :: lh')) (by show lh'.length + 1 ≤ 1000; omega)) rfl ?_)
                rintro v Θ ⟨rfl, rfl⟩
                rw [show popR (some (x :: lh')) = (x, true, some lh') from rfl]
                first | with_reducible refine S.nilK ?_ | refine S.nil ?_
                with_reducible repeat (first | refine S.then_n ?_ | refine S.then_x ?_ | refine S.then_r ?_ | refine S.inBlock_n ?_ | refine S.inBlock_r ?_ | refine S.inBlock_x rfl ?_ | refine S.noGoto_r ?_ | refine S.noGoto_n ?_ | refine S.noGoto_x ?_)
                first
                | exact S.meet ⟨lh', lg, by omega, hg2, ⟨hperm', hids'⟩, rfl, rfl⟩ ⟨rfl, rfl, rfl, rfl, rfl, trivial⟩ Sub.ent
                | exact S.meet ⟨lh, lg', hh2, by omega, ⟨hperm2, hids'⟩, rfl, rfl⟩ ⟨rfl, rfl, rfl, rfl, rfl, trivial⟩ Sub.ent
              · refine S.seq fun K31 hK31 => ?_
                refine S.region rfl ?_
                refine S.op (S.q (q_move rfl) rfl rfl ?_)
                first | with_reducible refine S.nilK ?_ | refine S.nil ?_
                refine hK31 _ _ ?_
                refine S.cond rfl (fun h8 => ?_) (fun h8 => ?_)
                · have hall : ∀ w ∈ lh, bf z w = true := by
                    first
                    | exact hof hg24_1
                    | exact hot hg24_1 h8 h7
                  obtain rfl : two = true := h8
                  obtain ⟨lg', rfl⟩ := peek_true htwo
                  have hpz : (lh ++ z :: lg').Perm (z :: (lg' ++ lh)) := List.perm_append_comm
                  obtain ⟨rfl, hperm'⟩ := merge_head (lh := lg') (lg := lh) hsk (hmrg.perm.trans hpz) (List.pairwise_cons.1 hsg).1 hall
                  have hids' : Ids (lh ++ lg') := (Ids.tail (hmrg.ids.perm hpz)).perm List.perm_append_comm
                  have hperm2 : lk'.Perm (lh ++ lg') := hperm'.trans List.perm_append_comm
                  rw [List.length_cons] at hg2
                  refine S.seq fun K32 hK32 => ?_
                  refine S.region rfl ?_
                  refine S.op (S.q (q_move rfl) rfl rfl ?_)
                  refine S.op (S.call Try.en13 (vs := [_]) ⟨rfl, trivial⟩ (HPop_S pg (some (x :: lg')) (by show lg'.length + 1 ≤ 1000; omega)) rfl ?_)
                  rintro v Θ ⟨rfl, rfl⟩
                  rw [show popR (some (x :: lg')) = (x, true, some lg') from rfl]
                  first | with_reducible refine S.nilK ?_ | refine S.nil ?_
                  refine hK32 _ _ ?_
                  refine S.region rfl ?_
                  refine S.op (S.q (q_loadS [_, _, _] Try.ag25 rfl rfl ⟨rfl, rfl, rfl, trivial⟩) rfl rfl ?_)
                  refine S.op (S.storeS (cs' := [_, _, _]) Try.ag25 rfl rfl rfl rfl rfl rfl ?_)
                  first | with_reducible refine S.nilK ?_ | refine S.nil ?_
                  with_reducible repeat (first | refine S.then_n ?_ | refine S.then_x ?_ | refine S.then_r ?_ | refine S.inBlock_n ?_ | refine S.inBlock_r ?_ | refine S.inBlock_x rfl ?_ | refine S.noGoto_r ?_ | refine S.noGoto_n ?_ | refine S.noGoto_x ?_)
                  first
                  | exact S.meet ⟨lh', lg, by omega, hg2, ⟨hperm', hids'⟩, rfl, rfl⟩ ⟨rfl, rfl, rfl, rfl, rfl, trivial⟩ Sub.ent
                  | exact S.meet ⟨lh, lg', hh2, by omega, ⟨hperm2, hids'⟩, rfl, rfl⟩ ⟨rfl, rfl, rfl, rfl, rfl, trivial⟩ Sub.ent
                · exact absurd hmrg.perm.length_eq (by first | exact absurd h8 (by simpa using hg24_4) | (rw [show lg = [] from peek_false (y := z) (htwo.trans (by rw [show two = false from h8])), show lh = [] from peek_false (y := y) (hone.trans (by rw [show one = false from hg24_1]))]; simp))
            · rintro ρ' Γ' ⟨lh2, lg2, hh22, hg22, hmrg2, rfl, rfl⟩
              refine hK28 _ _ ?_
              refine S.seq fun K33 hK33 => ?_
              refine S.region rfl ?_
              refine S.op (S.q (q_loadS [_, _, _] Try.ag25 rfl rfl ⟨rfl, rfl, rfl, trivial⟩) rfl rfl ?_)
              refine S.op (S.q (q_loadS [_, _, _] Try.ag25 rfl rfl ⟨rfl, rfl, rfl, trivial⟩) rfl rfl ?_)
              refine S.op (S.q (q_neIt x x (.inl rfl) rfl rfl) rfl rfl ?_)
              first | with_reducible refine S.nilK ?_ | refine S.nil ?_
              refine hK33 _ _ ?_
              refine S.cond rfl (fun h9 => ?_) (fun h9 => ?_)
              · exact absurd h9 (by simp)
              · refine S.skip ?_
                with_reducible repeat (first | refine S.then_n ?_ | refine S.then_x ?_ | refine S.then_r ?_ | refine S.inBlock_n ?_ | refine S.inBlock_r ?_ | refine S.inBlock_x rfl ?_ | refine S.noGoto_r ?_ | refine S.noGoto_n ?_ | refine S.noGoto_x ?_)
                with_reducible repeat (first | refine S.then_n ?_ | refine S.then_x ?_ | refine S.then_r ?_ | refine S.inBlock_n ?_ | refine S.inBlock_r ?_ | refine S.inBlock_x rfl ?_ | refine S.noGoto_r ?_ | refine S.noGoto_n ?_ | refine S.noGoto_x ?_)
                with_reducible repeat (first | refine S.then_n ?_ | refine S.then_x ?_ | refine S.then_r ?_ | refine S.inBlock_n ?_ | refine S.inBlock_r ?_ | refine S.inBlock_x rfl ?_ | refine S.noGoto_r ?_ | refine S.noGoto_n ?_ | refine S.noGoto_x ?_)
                exact S.next (lk'.length) (⟨lh2, lg2, lk', rfl, by omega, hh22, hg22, hmrg2, rfl, rfl⟩) (by rw [hm, List.length_cons]; omega) (by repeat (first | exact trivial | refine ⟨rfl, ?_⟩)) Sub.ent
        · refine S.g_no rfl rfl rfl (hg24_1) rfl rfl ?_
          refine S.g_no rfl rfl rfl (hg24_1) rfl rfl ?_
          refine S.g_no rfl rfl rfl (hg24_1) rfl rfl ?_
          refine S.g_noU rfl rfl rfl rfl rfl ?_
          refine S.g_noU rfl rfl rfl rfl rfl ?_
          refine S.g_noU rfl rfl rfl rfl rfl ?_
          refine S.g_no rfl rfl rfl (hg24_1) rfl rfl ?_
          refine S.g_op rfl (S.q (q_pickF rfl (hg24_1) rfl) rfl rfl ?_)
          first | with_reducible refine S.g_nilK ?_ | refine S.g_nil ?_
          refine hK29 _ _ ?_
          refine S.cut (fun ρ' Γ' => ∃ lh' lg' : List It, lh'.length ≤ 200 ∧ lg'.length ≤ 200 ∧ Mrg lk' lh' lg' ∧ ρ' = [(5, .pointer ph), (6, .pointer pk), (9, .pointer pg), (12, .pointer (some ⟨b12, 0, none⟩)), (14, .pointer (some ⟨b14, 0, none⟩))] ∧ Γ' = HI ph (some lh') :: HI pg (some lg') :: HI pk (some lk') :: blk b12 25 (itC x).toArray :: blk b14 25 (itC x).toArray :: old W :: Γ) ?_ ?_
          · refine S.condF rfl ?_
            refine S.seq fun K34 hK34 => ?_
            refine S.region rfl ?_
            refine S.op (S.q (q_move rfl) rfl rfl ?_)
            first | with_reducible refine S.nilK ?_ | refine S.nil ?_
            refine hK34 _ _ ?_
            refine S.cond rfl (fun h8 => ?_) (fun h8 => ?_)
            · have hall : ∀ w ∈ lh, bf z w = true := by
                first
                | exact hof hg24_1
                | exact hot hg24_1 h8 h7
              obtain rfl : two = true := h8
              obtain ⟨lg', rfl⟩ := peek_true htwo
              have hpz : (lh ++ z :: lg').Perm (z :: (lg' ++ lh)) := List.perm_append_comm
              obtain ⟨rfl, hperm'⟩ := merge_head (lh := lg') (lg := lh) hsk (hmrg.perm.trans hpz) (List.pairwise_cons.1 hsg).1 hall
              have hids' : Ids (lh ++ lg') := (Ids.tail (hmrg.ids.perm hpz)).perm List.perm_append_comm
              have hperm2 : lk'.Perm (lh ++ lg') := hperm'.trans List.perm_append_comm
              rw [List.length_cons] at hg2
              refine S.seq fun K35 hK35 => ?_
              refine S.region rfl ?_
              refine S.op (S.q (q_move rfl) rfl rfl ?_)
              refine S.op (S.call Try.en13 (vs := [_]) ⟨rfl, trivial⟩ (HPop_S pg (some (x :: lg')) (by show lg'.length + 1 ≤ 1000; omega)) rfl ?_)
              rintro v Θ ⟨rfl, rfl⟩
              rw [show popR (some (x :: lg')) = (x, true, some lg') from rfl]
              first | with_reducible refine S.nilK ?_ | refine S.nil ?_
              refine hK35 _ _ ?_
              refine S.region rfl ?_
              refine S.op (S.q (q_loadS [_, _, _] Try.ag25 rfl rfl ⟨rfl, rfl, rfl, trivial⟩) rfl rfl ?_)
              refine S.op (S.storeS (cs' := [_, _, _]) Try.ag25 rfl rfl rfl rfl rfl rfl ?_)
              first | with_reducible refine S.nilK ?_ | refine S.nil ?_
              with_reducible repeat (first | refine S.then_n ?_ | refine S.then_x ?_ | refine S.then_r ?_ | refine S.inBlock_n ?_ | refine S.inBlock_r ?_ | refine S.inBlock_x rfl ?_ | refine S.noGoto_r ?_ | refine S.noGoto_n ?_ | refine S.noGoto_x ?_)
              first
              | exact S.meet ⟨lh', lg, by omega, hg2, ⟨hperm', hids'⟩, rfl, rfl⟩ ⟨rfl, rfl, rfl, rfl, rfl, trivial⟩ Sub.ent
              | exact S.meet ⟨lh, lg', hh2, by omega, ⟨hperm2, hids'⟩, rfl, rfl⟩ ⟨rfl, rfl, rfl, rfl, rfl, trivial⟩ Sub.ent
            · exact absurd hmrg.perm.length_eq (by first | exact absurd h8 (by simpa using hg24_4) | (rw [show lg = [] from peek_false (y := z) (htwo.trans (by rw [show two = false from h8])), show lh = [] from peek_false (y := y) (hone.trans (by rw [show one = false from hg24_1]))]; simp))
          · rintro ρ' Γ' ⟨lh2, lg2, hh22, hg22, hmrg2, rfl, rfl⟩
            refine hK28 _ _ ?_
            refine S.seq fun K36 hK36 => ?_
            refine S.region rfl ?_
            refine S.op (S.q (q_loadS [_, _, _] Try.ag25 rfl rfl ⟨rfl, rfl, rfl, trivial⟩) rfl rfl ?_)
            refine S.op (S.q (q_loadS [_, _, _] Try.ag25 rfl rfl ⟨rfl, rfl, rfl, trivial⟩) rfl rfl ?_)
            refine S.op (S.q (q_neIt x x (.inl rfl) rfl rfl) rfl rfl ?_)
            first | with_reducible refine S.nilK ?_ | refine S.nil ?_
            refine hK36 _ _ ?_
            refine S.cond rfl (fun h9 => ?_) (fun h9 => ?_)
            · exact absurd h9 (by simp)
            · refine S.skip ?_
              with_reducible repeat (first | refine S.then_n ?_ | refine S.then_x ?_ | refine S.then_r ?_ | refine S.inBlock_n ?_ | refine S.inBlock_r ?_ | refine S.inBlock_x rfl ?_ | refine S.noGoto_r ?_ | refine S.noGoto_n ?_ | refine S.noGoto_x ?_)
              with_reducible repeat (first | refine S.then_n ?_ | refine S.then_x ?_ | refine S.then_r ?_ | refine S.inBlock_n ?_ | refine S.inBlock_r ?_ | refine S.inBlock_x rfl ?_ | refine S.noGoto_r ?_ | refine S.noGoto_n ?_ | refine S.noGoto_x ?_)
              with_reducible repeat (first | refine S.then_n ?_ | refine S.then_x ?_ | refine S.then_r ?_ | refine S.inBlock_n ?_ | refine S.inBlock_r ?_ | refine S.inBlock_x rfl ?_ | refine S.noGoto_r ?_ | refine S.noGoto_n ?_ | refine S.noGoto_x ?_)
              exact S.next (lk'.length) (⟨lh2, lg2, lk', rfl, by omega, hh22, hg22, hmrg2, rfl, rfl⟩) (by rw [hm, List.length_cons]; omega) (by repeat (first | exact trivial | refine ⟨rfl, ?_⟩)) Sub.ent
open Go.ChangeShapes Go.WideShapes Go.ChangeAt
theorem PrioMerge_law {H : Type} (enc : TypeId × Value → H) : LawWalk enc 5 Try.f5 := by
  intro W base args ds before hval hA _ _
  rw [Try.params5] at hA hval
  obtain ⟨v0, vs0, d0, ds0, p0, q0, hargs, rfl, rfl, h0, r0⟩ := trodAll_cons hA
  obtain ⟨v1, vs1, d1, ds1, p1, q1, rfl, rfl, rfl, h1, r1⟩ := trodAll_cons r0
  obtain ⟨rfl, rfl, rfl⟩ := trodAll_nil r1
  obtain rfl : args = #[v0, v1] := by cases args; simp_all
  obtain ⟨s0, ra, e0, hn0, hs0⟩ := rd_items (arg_slice 5 Try.underlying30 (by kernel_rfl) (hval 0 30 v0 rfl rfl) h0)
  obtain ⟨s1, rb, e1, hn1, hs1⟩ := rd_items (arg_slice 5 Try.underlying30 (by kernel_rfl) (hval 1 30 v1 rfl rfl) h1)
  simp only [List.cons.injEq, and_true] at e0 e1
  subst e0 e1
  exact law_run (PrioMerge_S s0 s1 ra rb W hn0 hs0 hn1 hs1)
set_option maxRecDepth 100000 in
theorem PrioMerge_lifted (os : Os) (started : os.Started) (H : Type) (enc : TypeId × Value → H) :
    ReturnsInHanded {} Try.checked os 5 .any (Rows.prioMergeSpec.pre6 enc Try.prog Try.f5 Rows.prioMergeRow.domain false) (Rows.prioMergeSpec.post enc Try.prog Try.f5 false true false false) :=
  lift_true started Try.func5 (by kernel_rfl)
    (ChangeSpec.witness6 (enc := enc) (C := Try.checked) false ⟨#[], #[.slice none 0 0, .slice none 0 0], []⟩ 8 (by kernel_rfl) (by kernel_rfl) (by kernel_rfl) (by kernel_rfl))
    rfl rfl (by kernel_rfl) (fun ds h => by match ds, h with | [a0, a1], _ => rfl) (PrioMerge_law enc)
theorem PrioMerge_over : Rows.prioMergeRow.holds Try.pinned (OpenSpec.ofChange Rows.prioMergeSpec) :=
  OpenClaim.holds_of_wide 5 Try.f5 rfl rfl rfl rfl rfl rfl rfl ⟨rfl, rfl, rfl, rfl, rfl⟩ rfl rfl rfl rfl rfl (by kernel_rfl) Try.func5 (by kernel_rfl)
    (of_decide_eq_true (by kernel_rfl)) (by unfold Func.isWrapper; rw [if_neg (of_decide_eq_false (by kernel_rfl))]; exact ⟨rfl, rfl⟩)
    (fun os started H enc _ => PrioMerge_lifted os started H enc)
theorem PrioMerge_holds : Rows.PrioMergeSaid := PrioMerge_over
#print axioms PrioMerge_holds
end Go.Proofs.Ythpfljiabhjodaa
