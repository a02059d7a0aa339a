/- The document's Remove; whether a heap has just these. -/
import Derived.Test.YthpfljiabhjodaaPrioM
import Derived.Test.YthpfljiabhjodaaTake
namespace Go.Proofs.Ythpfljiabhjodaa
open Go.RowKit
set_option maxRecDepth 20000
theorem erase_others {l : List It} (hn : (l.map (·.id)).Nodup) {i : Nat} {x : It} (hi : l[i]? = some x) : l.eraseIdx i = others x.id l := by
  induction l generalizing i with
  | nil => simp at hi
  | cons y l ih =>
    rw [List.map_cons, List.nodup_cons] at hn
    cases i with
    | zero =>
      simp at hi
      subst hi
      unfold others
      rw [List.filter_cons, if_neg (by simp), List.eraseIdx_cons_zero]
      exact (List.filter_eq_self.2 fun z hz => decide_eq_true (show z.id ≠ y.id from fun e => hn.1 (List.mem_map.2 ⟨z, hz, e⟩))).symm
    | succ i =>
      simp only [List.getElem?_cons_succ] at hi
      have hne : y.id ≠ x.id := fun e => hn.1 (e ▸ List.mem_map_of_mem (List.mem_of_getElem? hi))
      unfold others
      rw [List.eraseIdx_cons_succ, List.filter_cons, if_pos (decide_eq_true hne), ih hn.2 hi]
      rfl
theorem rRemove_S (lv : SV) (l : List It) (id : Int) (hl : l.length ≤ 1000) (hn : (l.map (·.id)).Nodup) : Spec Try.prog 18 [lv.v, .int .u32 id] [refO lv l] fun Γ v Θ => ∃ u : SV, v = .tuple #[u.v, .int .i64 (removeR id (some l)).1] ∧ Θ = refO u (stL (removeR id (some l)).2) :: Γ := by
  refine Spec.of_body Try.func18 rfl Try.ntmps18 rfl ?_
  intro w0 Γ
  show S _ w0 [(0, lv.v), (1, .int .u32 id)] (refO lv l :: Γ) _
  refine S.ownLen lv fun hlen hnc hcm => ?_
  unfold maxLen at hcm
  rw [flat_length itC_len] at hlen
  have hfs := findI_spec id l 0
  refine S.seq fun K1 hK1 => ?_
  refine S.region rfl ?_
  refine S.op (S.q (q_assign rfl) rfl rfl ?_)
  refine S.op (S.q (q_assign rfl) rfl rfl ?_)
  first | with_reducible refine S.nilK ?_ | refine S.nil ?_
  refine hK1 _ _ ?_
  refine S.seq fun K2 hK2 => ?_
  refine S.region rfl ?_
  refine S.op (S.q (q_move rfl) rfl rfl ?_)
  refine S.op (S.q (q_move rfl) rfl rfl ?_)
  refine S.op (S.call Try.en22 (vs := [_, _]) ⟨rfl, rfl, trivial⟩ (rFind_S lv l id) rfl ?_)
  rintro v Θ ⟨rfl, rfl⟩
  refine S.op (S.q (q_assign rfl) rfl rfl ?_)
  first | with_reducible refine S.nilK ?_ | refine S.nil ?_
  refine hK2 _ _ ?_
  refine S.seq fun K3 hK3 => ?_
  refine S.seq fun K4 hK4 => ?_
  refine S.region rfl ?_
  refine S.op (S.q (q_move rfl) rfl rfl ?_)
  refine S.op (S.q (q_lt rfl rfl) rfl rfl ?_)
  first | with_reducible refine S.nilK ?_ | refine S.nil ?_
  refine hK4 _ _ ?_
  refine S.condD rfl (fun h1 => ?_) (fun h1 => ?_)
  · have hno : hasL id l = false := by
      rcases hfs with ⟨_, e⟩ | ⟨_, _, e, _⟩
      · exact e
      · omega
    have hr1 : (removeR id (some l)).1 = 6 := by simp only [removeR, hno]; rfl
    have hr2 : stL (removeR id (some l)).2 = l := by simp only [removeR, hno]; rfl
    refine S.seq fun K5 hK5 => ?_
    refine S.region rfl ?_
    refine S.op (S.q (q_move rfl) rfl rfl ?_)
    refine S.op (S.q (q_assign rfl) rfl rfl ?_)
    refine S.op (S.q (q_assign rfl) rfl rfl ?_)
    first | with_reducible refine S.nilK ?_ | refine S.nil ?_
    refine hK5 _ _ ?_
    refine S.ret ?_
    with_reducible repeat (first | refine S.then_n ?_ | refine S.then_x ?_ | refine S.then_r ?_ | refine S.inBlock_n ?_ | refine S.inBlock_r ?_ | refine S.inBlock_x rfl ?_ | refine S.noGoto_r ?_ | refine S.noGoto_n ?_ | refine S.noGoto_x ?_)
    exact S.fin (rs := [_, _]) (vs := [_, _]) Try.results18 (⟨rfl, rfl, trivial⟩)  (⟨lv, by simp only [resV]; rw [hr1], by rw [hr2]⟩) Sub.ent
  · obtain ⟨i, x, hfi, hyes, hi, hxid⟩ := hfs.resolve_left (fun h => by omega)
    rw [Nat.zero_add] at hfi
    have hil := (List.getElem?_eq_some_iff.1 hi).1
    have hr1 : (removeR id (some l)).1 = 0 := by simp only [removeR, hyes, if_true]
    have hr2 : stL (removeR id (some l)).2 = l.eraseIdx i := by simp only [removeR, hyes, if_true, stL]; rw [erase_others hn hi, hxid]
    rw [hfi]
    refine S.skip ?_
    with_reducible repeat (first | refine S.then_n ?_ | refine S.then_x ?_ | refine S.then_r ?_ | refine S.inBlock_n ?_ | refine S.inBlock_r ?_ | refine S.inBlock_x rfl ?_ | refine S.noGoto_r ?_ | refine S.noGoto_n ?_ | refine S.noGoto_x ?_)
    refine hK3 _ _ ?_
    refine S.seq fun K6 hK6 => ?_
    refine S.draw ([]) [] Try.mixed ?_
    refine S.dr_take 1 [] rfl (by kernel_rfl) rfl rfl rfl (q_move rfl) Sub.ent ?_
    refine S.dr_take 2 [] rfl (by kernel_rfl) rfl rfl rfl (q_move rfl) Sub.ent ?_
    refine S.dr_take 3 [] rfl (by kernel_rfl) rfl rfl rfl (q_sliceTo (i) Try.el30 rfl rfl rfl (by omega)) Sub.ent ?_
    refine S.dr_take 5 [] rfl (by kernel_rfl) rfl rfl rfl (q_move rfl) Sub.ent ?_
    refine S.dr_take 6 [] rfl (by kernel_rfl) rfl rfl rfl (q_move rfl) Sub.ent ?_
    refine S.dr_take 7 [] rfl (by kernel_rfl) rfl rfl rfl (q_add rfl rfl (inI64 (by omega) (by omega))) Sub.ent ?_
    refine S.dr_take 8 [] rfl (by kernel_rfl) rfl rfl rfl (q_sliceFrom (i + 1) Try.el30 rfl rfl rfl (by omega)) Sub.ent ?_
    refine S.dr_1 (i := 0) (by kernel_rfl) rfl rfl ?_
    refine  (S.buildSlice0 Try.underlying30 Try.inf24 rfl ?_)
    intro b13 hb13
    refine S.dr_k rfl Sub.ent ?_
    refine S.dr_1 (i := 4) (by kernel_rfl) rfl rfl ?_
    refine  (S.appendOw (s := b13) (i) ((l.take i).flatMap itC) Try.underlying30 Try.inf24 rfl rfl rfl (fun w hs => own_takeG itC_len (by omega) (HasOw.slAt inferInstance hs) (by omega)) (itC_one _) (⟨by omega, by omega⟩) rfl ?_)
    intro s1 hs1
    rw [List.nil_append]
    refine S.dr_k rfl Sub.ent ?_
    refine S.dr_1 (i := 9) (by kernel_rfl) rfl rfl ?_
    refine  (S.appendOw (s := s1) (lv.n - (i + 1)) ((l.drop (i + 1)).flatMap itC) Try.underlying30 Try.inf24 rfl rfl rfl (fun w hs => own_dropG itC_len (by omega) (HasOw.slAt inferInstance hs) (by omega)) (itC_one _) (⟨by omega, by omega⟩) rfl ?_)
    intro u hu
    rw [← List.flatMap_append, ← List.eraseIdx_eq_take_drop_succ]
    refine S.dr_k rfl Sub.ent ?_
    refine S.dr_take 10 [] rfl (by kernel_rfl) rfl rfl rfl (q_assign rfl) Sub.ent ?_
    refine S.dr_take 11 [] rfl (by kernel_rfl) rfl rfl rfl (q_assign rfl) Sub.ent ?_
    first | with_reducible refine S.dr_doneK (by kernel_rfl) ?_ | refine S.dr_done (by kernel_rfl) ?_
    refine hK6 _ _ ?_
    refine S.ret ?_
    with_reducible repeat (first | refine S.then_n ?_ | refine S.then_x ?_ | refine S.then_r ?_ | refine S.inBlock_n ?_ | refine S.inBlock_r ?_ | refine S.inBlock_x rfl ?_ | refine S.noGoto_r ?_ | refine S.noGoto_n ?_ | refine S.noGoto_x ?_)
    exact S.fin (rs := [_, _]) (vs := [_, _]) Try.results18 (⟨rfl, rfl, trivial⟩)  (⟨u, by simp only [resV]; rw [hr1], by rw [hr2]⟩) Sub.ent
theorem same_S (pa : Option Addr) (st : HSt) (lv : SV) (hl : lenR st ≤ 1000) : Spec Try.prog 21 [.pointer pa, lv.v] [HI pa st, refO lv (stL st)] fun Γ v Θ => v = .bool true ∧ Θ = HI pa st :: refO lv (stL st) :: Γ := by
  refine Spec.of_body Try.func21 rfl Try.ntmps21 rfl ?_
  intro w0 Γ
  show S _ w0 [(0, .pointer pa), (1, lv.v)] (HI pa st :: refO lv (stL st) :: Γ) _
  refine S.ownLen lv fun hlen hnc hcm => ?_
  unfold maxLen at hcm
  rw [flat_length itC_len] at hlen
  have hls : lenR st = (stL st).length := by cases st <;> rfl
  obtain ⟨fst, ok, hpk⟩ : ∃ y s, peekR st = (y, s) := ⟨_, _, rfl⟩
  have hok : ok = decide ((0 : Int) < (lv.n : Nat)) ∧ (ok = true → (stL st)[0]? = some fst) := by
    cases st with
    | none => cases hpk; exact ⟨(decide_eq_false (by simp [stL] at hlen; omega)).symm, fun h => by cases h⟩
    | some l =>
      cases l with
      | nil => cases hpk; exact ⟨(decide_eq_false (by simp [stL] at hlen; omega)).symm, fun h => by cases h⟩
      | cons a l => cases hpk; exact ⟨(decide_eq_true (by simp [stL] at hlen; omega)).symm, fun _ => rfl⟩
  refine S.seq fun K1 hK1 => ?_
  refine S.region rfl ?_
  refine S.op (S.q (q_assign rfl) rfl rfl ?_)
  first | with_reducible refine S.nilK ?_ | refine S.nil ?_
  refine hK1 _ _ ?_
  refine S.seq fun K2 hK2 => ?_
  refine S.region rfl ?_
  refine S.op (S.q (q_move rfl) rfl rfl ?_)
  refine S.op (S.call Try.en23 (vs := [_]) ⟨rfl, trivial⟩ (List_S pa st hl) rfl ?_)
  rintro v Θ ⟨u, rfl, rfl⟩
  refine S.ownLen u fun hul huc hum => ?_
  unfold maxLen at hum
  rw [flat_length itC_len] at hul
  refine S.op (S.q (q_assign rfl) rfl rfl ?_)
  first | with_reducible refine S.nilK ?_ | refine S.nil ?_
  refine hK2 _ _ ?_
  refine S.seq fun K3 hK3 => ?_
  refine S.region rfl ?_
  refine S.op (S.q (q_move rfl) rfl rfl ?_)
  refine S.op (S.call Try.en16 (vs := [_]) ⟨rfl, trivial⟩ (Peek_S pa st) rfl ?_)
  rintro v Θ ⟨rfl, rfl⟩
  rw [hpk]
  refine S.op (S.q (q_move rfl) rfl rfl ?_)
  refine S.op (S.q (q_extract rfl rfl) rfl rfl ?_)
  refine S.op (S.q (q_extract rfl rfl) rfl rfl ?_)
  refine S.op (S.alloc Try.z25 rfl ?_)
  intro b6
  refine S.op (S.storeS (cs' := [_, _, _]) Try.ag25 rfl rfl rfl rfl rfl rfl ?_)
  refine S.op (S.q (q_assign rfl) rfl rfl ?_)
  first | with_reducible refine S.nilK ?_ | refine S.nil ?_
  refine hK3 _ _ ?_
  refine S.seq fun K4 hK4 => ?_
  refine S.seq fun K5 hK5 => ?_
  refine S.draw ([own u 25 3 ((stL st).flatMap itC), refO lv (stL st), blk b6 25 (itC fst).toArray]) [] Try.mixed ?_
  refine S.dr_take 0 [] rfl (by kernel_rfl) rfl rfl rfl (q_move rfl) Sub.ent ?_
  refine S.dr_take 1 [] rfl (by kernel_rfl) rfl rfl rfl (q_len Try.underlying52 rfl) Sub.ent ?_
  refine S.dr_take 2 [] rfl (by kernel_rfl) rfl rfl rfl (q_move rfl) Sub.ent ?_
  refine S.dr_take 3 [] rfl (by kernel_rfl) rfl rfl rfl (q_len Try.underlying30 rfl) Sub.ent ?_
  refine S.dr_take 4 [] rfl (by kernel_rfl) rfl rfl rfl (q_ne rfl rfl) Sub.ent ?_
  refine S.dr_take 5 [] rfl (by kernel_rfl) rfl rfl rfl (q_move rfl) Sub.ent ?_
  refine S.dr_takeY 6 [] rfl (by kernel_rfl) rfl rfl rfl ((decide_eq_false (by omega))) rfl rfl (q_move rfl) Sub.ent ?_
  refine S.dr_takeY 8 [] rfl (by kernel_rfl) rfl rfl rfl ((decide_eq_false (by omega))) rfl rfl (q_move rfl) Sub.ent ?_
  refine S.dr_takeY 9 [] rfl (by kernel_rfl) rfl rfl rfl ((decide_eq_false (by omega))) rfl rfl (q_len Try.underlying30 rfl) Sub.ent ?_
  refine S.dr_1Y (i := 7) (by kernel_rfl) rfl rfl rfl rfl ((decide_eq_false (by omega))) ?_
  refine  (S.call Try.en14 (vs := [_]) ⟨rfl, trivial⟩ (Len_S pa st) rfl ?_)
  rintro v Θ ⟨rfl, rfl⟩
  refine S.dr_k rfl Sub.ent ?_
  refine S.dr_takeY 10 [] rfl (by kernel_rfl) rfl rfl rfl ((decide_eq_false (by omega))) rfl rfl (q_ne rfl rfl) Sub.ent ?_
  refine S.dr_take 11 [] rfl (by kernel_rfl) rfl rfl rfl (q_pickF rfl ((decide_eq_false (by omega))) rfl) Sub.ent ?_
  refine S.dr_take 12 [] rfl (by kernel_rfl) rfl rfl rfl (q_move rfl) Sub.ent ?_
  refine S.dr_takeY 13 [] rfl (by kernel_rfl) rfl rfl rfl ((decide_eq_false (by omega))) rfl rfl (q_move rfl) Sub.ent ?_
  refine S.dr_takeY 14 [] rfl (by kernel_rfl) rfl rfl rfl ((decide_eq_false (by omega))) rfl rfl (q_move rfl) Sub.ent ?_
  refine S.dr_takeY 15 [] rfl (by kernel_rfl) rfl rfl rfl ((decide_eq_false (by omega))) rfl rfl (q_len Try.underlying30 rfl) Sub.ent ?_
  refine S.dr_takeY 16 [] rfl (by kernel_rfl) rfl rfl rfl ((decide_eq_false (by omega))) rfl rfl (q_gt rfl rfl) Sub.ent ?_
  refine S.dr_takeY 17 [] rfl (by kernel_rfl) rfl rfl rfl ((decide_eq_false (by omega))) rfl rfl (q_neB Try.underlying4 rfl rfl) Sub.ent ?_
  refine S.dr_take 18 [] rfl (by kernel_rfl) rfl rfl rfl (q_pickF rfl ((decide_eq_false (by omega))) rfl) Sub.ent ?_
  refine S.dr_take 19 [] rfl (by kernel_rfl) rfl rfl rfl (q_move rfl) Sub.ent ?_
  refine S.dr_takeY 20 [] rfl (by kernel_rfl) rfl rfl rfl ((by rw [show (fst, ok).2 = ok from rfl, hok.1]; simp)) rfl rfl (q_move rfl) Sub.ent ?_
  refine S.dr_takeY 21 [] rfl (by kernel_rfl) rfl rfl rfl ((by rw [show (fst, ok).2 = ok from rfl, hok.1]; simp)) rfl rfl (q_move rfl) Sub.ent ?_
  rcases Bool.eq_false_or_eq_true (ok) with hg3_21 | hg3_21
  · have hl0 := hok.2 hg3_21
    have hlv0 : 0 < lv.n := by have := (List.getElem?_eq_some_iff.1 hl0).1; omega
    refine S.ownSome lv hlv0 fun b0 off0 hb0 _ _ _ => ?_
    refine S.dr_takeY 22 [] rfl (by kernel_rfl) rfl rfl rfl (hg3_21) rfl rfl (q_loadS [_, _, _] Try.ag25 rfl rfl ⟨rfl, rfl, rfl, trivial⟩) Sub.ent ?_
    refine S.dr_takeY 23 [] rfl (by kernel_rfl) rfl rfl rfl (hg3_21) rfl rfl (q_move rfl) Sub.ent ?_
    refine S.dr_takeY 24 [] rfl (by kernel_rfl) rfl rfl rfl (hg3_21) rfl rfl (q_indexO (0) Try.el30 rfl hb0 rfl rfl (hlv0)) Sub.ent ?_
    refine S.dr_takeY 25 [] rfl (by kernel_rfl) rfl rfl rfl (hg3_21) rfl rfl (q_loadOwS (lv) (0 * 3) [_, _, _] Try.ag24 rfl hb0 (by first | rfl | exact Nat.add_assoc _ _ _ | omega) rfl (flat_seg (enc := itC) (sz := 3) (fun _ => rfl) hl0)) Sub.ent ?_
    refine S.dr_takeY 26 [] rfl (by kernel_rfl) rfl rfl rfl (hg3_21) rfl rfl (q_neIt fst fst (.inr rfl) rfl rfl) Sub.ent ?_
    refine S.dr_takeY 27 [] rfl (by kernel_rfl) rfl rfl rfl ((by rw [show (fst, ok).2 = ok from rfl, hok.1]; simp)) rfl rfl (q_pickT rfl (hg3_21) rfl) Sub.ent ?_
    refine S.dr_take 28 [] rfl (by kernel_rfl) rfl rfl rfl (q_pickF rfl ((by rw [show (fst, ok).2 = ok from rfl, hok.1]; simp)) rfl) Sub.ent ?_
    first | with_reducible refine S.dr_doneK (by kernel_rfl) ?_ | refine S.dr_done (by kernel_rfl) ?_
    refine hK5 _ _ ?_
    refine S.cond rfl (fun h1 => ?_) (fun h1 => ?_)
    · exact absurd h1 (by simp)
    · refine S.skip ?_
      with_reducible repeat (first | refine S.then_n ?_ | refine S.then_x ?_ | refine S.then_r ?_ | refine S.inBlock_n ?_ | refine S.inBlock_r ?_ | refine S.inBlock_x rfl ?_ | refine S.noGoto_r ?_ | refine S.noGoto_n ?_ | refine S.noGoto_x ?_)
      refine hK4 _ _ ?_
      refine S.seq fun K6 hK6 => ?_
      refine S.seq fun K7 hK7 => ?_
      refine S.region rfl ?_
      refine S.op (S.q (q_move rfl) rfl rfl ?_)
      refine S.op (S.q (q_len Try.underlying52 rfl) rfl rfl ?_)
      refine S.op (S.q (q_move rfl) rfl rfl ?_)
      first | with_reducible refine S.nilK ?_ | refine S.nil ?_
      refine hK7 _ _ ?_
      refine S.block ?_
      refine S.loop (fun m ρ' Γ' => ∃ k : Nat, m + k = (stL st).length ∧ ρ' = [(1, lv.v), (5, u.v), (46, .int .i64 u.n), (47, .int .i64 k)] ∧ Γ' = HI pa st :: own u 25 3 ((stL st).flatMap itC) :: refO lv (stL st) :: Γ) (m := _) (ρ0 := _) (Γ0 := _) (⟨0, rfl, rfl, rfl⟩) (by repeat (first | exact trivial | refine ⟨rfl, ?_⟩)) Sub.ent ?_
      rintro m ρ' Γ' ⟨k, hmk, rfl, rfl⟩
      refine S.seq fun K8 hK8 => ?_
      refine S.region rfl ?_
      refine S.op (S.q (q_lt rfl rfl) rfl rfl ?_)
      first | with_reducible refine S.nilK ?_ | refine S.nil ?_
      refine hK8 _ _ ?_
      refine S.seq fun K9 hK9 => ?_
      refine S.condD rfl (fun h2 => ?_) (fun h2 => ?_)
      · obtain ⟨x, hx⟩ := getE (l := stL st) (i := k) (by omega)
        refine S.ownSome lv (by omega) fun b off hb _ _ _ => ?_
        refine S.ownSome u (by omega) fun bu ou hbu _ _ _ => ?_
        refine S.skip ?_
        with_reducible repeat (first | refine S.then_n ?_ | refine S.then_x ?_ | refine S.then_r ?_ | refine S.inBlock_n ?_ | refine S.inBlock_r ?_ | refine S.inBlock_x rfl ?_ | refine S.noGoto_r ?_ | refine S.noGoto_n ?_ | refine S.noGoto_x ?_)
        refine hK9 _ _ ?_
        refine S.seq fun K10 hK10 => ?_
        refine S.block ?_
        refine S.seq fun K11 hK11 => ?_
        refine S.region rfl ?_
        refine S.op (S.q (q_move rfl) rfl rfl ?_)
        refine S.op (S.q (q_assign rfl) rfl rfl ?_)
        first | with_reducible refine S.nilK ?_ | refine S.nil ?_
        refine hK11 _ _ ?_
        refine S.seq fun K12 hK12 => ?_
        refine S.draw ([own u 25 3 ((stL st).flatMap itC), refO lv (stL st)]) [] Try.mixed ?_
        refine S.dr_take 0 [] rfl (by kernel_rfl) rfl rfl rfl (q_move rfl) Sub.ent ?_
        refine S.dr_take 1 [] rfl (by kernel_rfl) rfl rfl rfl (q_move rfl) Sub.ent ?_
        refine S.dr_take 2 [] rfl (by kernel_rfl) rfl rfl rfl (q_indexO (k) Try.el52 rfl hbu rfl rfl (by omega)) Sub.ent ?_
        refine S.dr_take 3 [] rfl (by kernel_rfl) rfl rfl rfl (q_loadOwS (u) (k * 3) [_, _, _] Try.ag25 rfl hbu (by first | rfl | exact Nat.add_assoc _ _ _ | omega) rfl (flat_seg (enc := itC) (sz := 3) (fun _ => rfl) hx)) Sub.ent ?_
        refine S.dr_take 4 [] rfl (by kernel_rfl) rfl rfl rfl (q_move rfl) Sub.ent ?_
        refine S.dr_take 5 [] rfl (by kernel_rfl) rfl rfl rfl (q_move rfl) Sub.ent ?_
        refine S.dr_take 6 [] rfl (by kernel_rfl) rfl rfl rfl (q_indexO (k) Try.el30 rfl hb rfl rfl (by omega)) Sub.ent ?_
        refine S.dr_take 7 [] rfl (by kernel_rfl) rfl rfl rfl (q_loadOwS (lv) (k * 3) [_, _, _] Try.ag24 rfl hb (by first | rfl | exact Nat.add_assoc _ _ _ | omega) rfl (flat_seg (enc := itC) (sz := 3) (fun _ => rfl) hx)) Sub.ent ?_
        refine S.dr_take 8 [] rfl (by kernel_rfl) rfl rfl rfl (q_neIt x x (.inr rfl) rfl rfl) Sub.ent ?_
        first | with_reducible refine S.dr_doneK (by kernel_rfl) ?_ | refine S.dr_done (by kernel_rfl) ?_
        refine hK12 _ _ ?_
        refine S.cond rfl (fun h3 => ?_) (fun h3 => ?_)
        · exact absurd h3 (by simp)
        · refine S.skip ?_
          with_reducible repeat (first | refine S.then_n ?_ | refine S.then_x ?_ | refine S.then_r ?_ | refine S.inBlock_n ?_ | refine S.inBlock_r ?_ | refine S.inBlock_x rfl ?_ | refine S.noGoto_r ?_ | refine S.noGoto_n ?_ | refine S.noGoto_x ?_)
          with_reducible repeat (first | refine S.then_n ?_ | refine S.then_x ?_ | refine S.then_r ?_ | refine S.inBlock_n ?_ | refine S.inBlock_r ?_ | refine S.inBlock_x rfl ?_ | refine S.noGoto_r ?_ | refine S.noGoto_n ?_ | refine S.noGoto_x ?_)
          refine hK10 _ _ ?_
          refine S.region rfl ?_
          refine S.op (S.q (q_add rfl rfl (inI64 (by omega) (by omega))) rfl rfl ?_)
          refine S.op (S.q (q_move rfl) rfl rfl ?_)
          first | with_reducible refine S.nilK ?_ | refine S.nil ?_
          with_reducible repeat (first | refine S.then_n ?_ | refine S.then_x ?_ | refine S.then_r ?_ | refine S.inBlock_n ?_ | refine S.inBlock_r ?_ | refine S.inBlock_x rfl ?_ | refine S.noGoto_r ?_ | refine S.noGoto_n ?_ | refine S.noGoto_x ?_)
          exact S.next (m - 1) (⟨k + 1, by omega, rfl, rfl⟩) (by omega) (by repeat (first | exact trivial | refine ⟨rfl, ?_⟩)) Sub.ent
      · refine S.exit ?_
        with_reducible repeat (first | refine S.then_n ?_ | refine S.then_x ?_ | refine S.then_r ?_ | refine S.inBlock_n ?_ | refine S.inBlock_r ?_ | refine S.inBlock_x rfl ?_ | refine S.noGoto_r ?_ | refine S.noGoto_n ?_ | refine S.noGoto_x ?_)
        with_reducible refine S.inBlock_s ?_
        with_reducible repeat (first | refine S.then_n ?_ | refine S.then_x ?_ | refine S.then_r ?_ | refine S.inBlock_n ?_ | refine S.inBlock_r ?_ | refine S.inBlock_x rfl ?_ | refine S.noGoto_r ?_ | refine S.noGoto_n ?_ | refine S.noGoto_x ?_)
        refine hK6 _ _ ?_
        refine S.seq fun K13 hK13 => ?_
        refine S.region rfl ?_
        refine S.op (S.q (q_assign rfl) rfl rfl ?_)
        first | with_reducible refine S.nilK ?_ | refine S.nil ?_
        refine hK13 _ _ ?_
        refine S.ret ?_
        with_reducible repeat (first | refine S.then_n ?_ | refine S.then_x ?_ | refine S.then_r ?_ | refine S.inBlock_n ?_ | refine S.inBlock_r ?_ | refine S.inBlock_x rfl ?_ | refine S.noGoto_r ?_ | refine S.noGoto_n ?_ | refine S.noGoto_x ?_)
        exact S.fin (rs := [_]) (vs := [_]) Try.results21 (⟨rfl, trivial⟩)  (⟨rfl, rfl⟩) Sub.ent
  · refine S.dr_takeN 22 [] rfl (by kernel_rfl) rfl rfl rfl (hg3_21) rfl rfl Sub.ent ?_
    refine S.dr_takeN 23 [] rfl (by kernel_rfl) rfl rfl rfl (hg3_21) rfl rfl Sub.ent ?_
    refine S.dr_takeN 24 [] rfl (by kernel_rfl) rfl rfl rfl (hg3_21) rfl rfl Sub.ent ?_
    refine S.dr_takeN 25 [] rfl (by kernel_rfl) rfl rfl rfl (hg3_21) rfl rfl Sub.ent ?_
    refine S.dr_takeN 26 [] rfl (by kernel_rfl) rfl rfl rfl (hg3_21) rfl rfl Sub.ent ?_
    refine S.dr_takeY 27 [] rfl (by kernel_rfl) rfl rfl rfl ((by rw [show (fst, ok).2 = ok from rfl, hok.1]; simp)) rfl rfl (q_pickF rfl (hg3_21) rfl) Sub.ent ?_
    refine S.dr_take 28 [] rfl (by kernel_rfl) rfl rfl rfl (q_pickF rfl ((by rw [show (fst, ok).2 = ok from rfl, hok.1]; simp)) rfl) Sub.ent ?_
    first | with_reducible refine S.dr_doneK (by kernel_rfl) ?_ | refine S.dr_done (by kernel_rfl) ?_
    refine hK5 _ _ ?_
    refine S.condF rfl ?_
    refine S.skip ?_
    with_reducible repeat (first | refine S.then_n ?_ | refine S.then_x ?_ | refine S.then_r ?_ | refine S.inBlock_n ?_ | refine S.inBlock_r ?_ | refine S.inBlock_x rfl ?_ | refine S.noGoto_r ?_ | refine S.noGoto_n ?_ | refine S.noGoto_x ?_)
    refine hK4 _ _ ?_
    refine S.seq fun K14 hK14 => ?_
    refine S.seq fun K15 hK15 => ?_
    refine S.region rfl ?_
    refine S.op (S.q (q_move rfl) rfl rfl ?_)
    refine S.op (S.q (q_len Try.underlying52 rfl) rfl rfl ?_)
    refine S.op (S.q (q_move rfl) rfl rfl ?_)
    first | with_reducible refine S.nilK ?_ | refine S.nil ?_
    refine hK15 _ _ ?_
    refine S.block ?_
    refine S.loop (fun m ρ' Γ' => ∃ k : Nat, m + k = (stL st).length ∧ ρ' = [(1, lv.v), (5, u.v), (46, .int .i64 u.n), (47, .int .i64 k)] ∧ Γ' = HI pa st :: own u 25 3 ((stL st).flatMap itC) :: refO lv (stL st) :: Γ) (m := _) (ρ0 := _) (Γ0 := _) (⟨0, rfl, rfl, rfl⟩) (by repeat (first | exact trivial | refine ⟨rfl, ?_⟩)) Sub.ent ?_
    rintro m ρ' Γ' ⟨k, hmk, rfl, rfl⟩
    refine S.seq fun K16 hK16 => ?_
    refine S.region rfl ?_
    refine S.op (S.q (q_lt rfl rfl) rfl rfl ?_)
    first | with_reducible refine S.nilK ?_ | refine S.nil ?_
    refine hK16 _ _ ?_
    refine S.seq fun K17 hK17 => ?_
    refine S.condD rfl (fun h2 => ?_) (fun h2 => ?_)
    · obtain ⟨x, hx⟩ := getE (l := stL st) (i := k) (by omega)
      refine S.ownSome lv (by omega) fun b off hb _ _ _ => ?_
      refine S.ownSome u (by omega) fun bu ou hbu _ _ _ => ?_
      refine S.skip ?_
      with_reducible repeat (first | refine S.then_n ?_ | refine S.then_x ?_ | refine S.then_r ?_ | refine S.inBlock_n ?_ | refine S.inBlock_r ?_ | refine S.inBlock_x rfl ?_ | refine S.noGoto_r ?_ | refine S.noGoto_n ?_ | refine S.noGoto_x ?_)
      refine hK17 _ _ ?_
      refine S.seq fun K18 hK18 => ?_
      refine S.block ?_
      refine S.seq fun K19 hK19 => ?_
      refine S.region rfl ?_
      refine S.op (S.q (q_move rfl) rfl rfl ?_)
      refine S.op (S.q (q_assign rfl) rfl rfl ?_)
      first | with_reducible refine S.nilK ?_ | refine S.nil ?_
      refine hK19 _ _ ?_
      refine S.seq fun K20 hK20 => ?_
      refine S.draw ([own u 25 3 ((stL st).flatMap itC), refO lv (stL st)]) [] Try.mixed ?_
      refine S.dr_take 0 [] rfl (by kernel_rfl) rfl rfl rfl (q_move rfl) Sub.ent ?_
      refine S.dr_take 1 [] rfl (by kernel_rfl) rfl rfl rfl (q_move rfl) Sub.ent ?_
      refine S.dr_take 2 [] rfl (by kernel_rfl) rfl rfl rfl (q_indexO (k) Try.el52 rfl hbu rfl rfl (by omega)) Sub.ent ?_
      refine S.dr_take 3 [] rfl (by kernel_rfl) rfl rfl rfl (q_loadOwS (u) (k * 3) [_, _, _] Try.ag25 rfl hbu (by first | rfl | exact Nat.add_assoc _ _ _ | omega) rfl (flat_seg (enc := itC) (sz := 3) (fun _ => rfl) hx)) Sub.ent ?_
      refine S.dr_take 4 [] rfl (by kernel_rfl) rfl rfl rfl (q_move rfl) Sub.ent ?_
      refine S.dr_take 5 [] rfl (by kernel_rfl) rfl rfl rfl (q_move rfl) Sub.ent ?_
      refine S.dr_take 6 [] rfl (by kernel_rfl) rfl rfl rfl (q_indexO (k) Try.el30 rfl hb rfl rfl (by omega)) Sub.ent ?_
      refine S.dr_take 7 [] rfl (by kernel_rfl) rfl rfl rfl (q_loadOwS (lv) (k * 3) [_, _, _] Try.ag24 rfl hb (by first | rfl | exact Nat.add_assoc _ _ _ | omega) rfl (flat_seg (enc := itC) (sz := 3) (fun _ => rfl) hx)) Sub.ent ?_
      refine S.dr_take 8 [] rfl (by kernel_rfl) rfl rfl rfl (q_neIt x x (.inr rfl) rfl rfl) Sub.ent ?_
      first | with_reducible refine S.dr_doneK (by kernel_rfl) ?_ | refine S.dr_done (by kernel_rfl) ?_
      refine hK20 _ _ ?_
      refine S.cond rfl (fun h3 => ?_) (fun h3 => ?_)
      · exact absurd h3 (by simp)
      · refine S.skip ?_
        with_reducible repeat (first | refine S.then_n ?_ | refine S.then_x ?_ | refine S.then_r ?_ | refine S.inBlock_n ?_ | refine S.inBlock_r ?_ | refine S.inBlock_x rfl ?_ | refine S.noGoto_r ?_ | refine S.noGoto_n ?_ | refine S.noGoto_x ?_)
        with_reducible repeat (first | refine S.then_n ?_ | refine S.then_x ?_ | refine S.then_r ?_ | refine S.inBlock_n ?_ | refine S.inBlock_r ?_ | refine S.inBlock_x rfl ?_ | refine S.noGoto_r ?_ | refine S.noGoto_n ?_ | refine S.noGoto_x ?_)
        refine hK18 _ _ ?_
        refine S.region rfl ?_
        refine S.op (S.q (q_add rfl rfl (inI64 (by omega) (by omega))) rfl rfl ?_)
        refine S.op (S.q (q_move rfl) rfl rfl ?_)
        first | with_reducible refine S.nilK ?_ | refine S.nil ?_
        with_reducible repeat (first | refine S.then_n ?_ | refine S.then_x ?_ | refine S.then_r ?_ | refine S.inBlock_n ?_ | refine S.inBlock_r ?_ | refine S.inBlock_x rfl ?_ | refine S.noGoto_r ?_ | refine S.noGoto_n ?_ | refine S.noGoto_x ?_)
        exact S.next (m - 1) (⟨k + 1, by omega, rfl, rfl⟩) (by omega) (by repeat (first | exact trivial | refine ⟨rfl, ?_⟩)) Sub.ent
    · refine S.exit ?_
      with_reducible repeat (first | refine S.then_n ?_ | refine S.then_x ?_ | refine S.then_r ?_ | refine S.inBlock_n ?_ | refine S.inBlock_r ?_ | refine S.inBlock_x rfl ?_ | refine S.noGoto_r ?_ | refine S.noGoto_n ?_ | refine S.noGoto_x ?_)
      with_reducible refine S.inBlock_s ?_
      with_reducible repeat (first | refine S.then_n ?_ | refine S.then_x ?_ | refine S.then_r ?_ | refine S.inBlock_n ?_ | refine S.inBlock_r ?_ | refine S.inBlock_x rfl ?_ | refine S.noGoto_r ?_ | refine S.noGoto_n ?_ | refine S.noGoto_x ?_)
      refine hK14 _ _ ?_
      refine S.seq fun K21 hK21 => ?_
      refine S.region rfl ?_
      refine S.op (S.q (q_assign rfl) rfl rfl ?_)
      first | with_reducible refine S.nilK ?_ | refine S.nil ?_
      refine hK21 _ _ ?_
      refine S.ret ?_
      with_reducible repeat (first | refine S.then_n ?_ | refine S.then_x ?_ | refine S.then_r ?_ | refine S.inBlock_n ?_ | refine S.inBlock_r ?_ | refine S.inBlock_x rfl ?_ | refine S.noGoto_r ?_ | refine S.noGoto_n ?_ | refine S.noGoto_x ?_)
      exact S.fin (rs := [_]) (vs := [_]) Try.results21 (⟨rfl, trivial⟩)  (⟨rfl, rfl⟩) Sub.ent
end Go.Proofs.Ythpfljiabhjodaa
