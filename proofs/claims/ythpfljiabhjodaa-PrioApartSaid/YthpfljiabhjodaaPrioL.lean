/- Type Heap: Remove and Change at any state. -/
import Derived.Test.YthpfljiabhjodaaPrioK
namespace Go.Proofs.Ythpfljiabhjodaa
open Go.RowKit
set_option maxRecDepth 20000
def others (id : Int) (l : List It) : List It := l.filter fun y => decide (y.id ≠ id)
def removeR (id : Int) : HSt → Int × HSt
  | none => (6, none)
  | some l => if hasL id l then (0, some (others id l)) else (6, some l)
def changeR (x : It) : HSt → Int × HSt
  | none => (6, none)
  | some l => if hasL x.id l then (0, some (ins x (others x.id l))) else (6, some l)
theorem others_perm {L l L' : List It} {x : It} (hn : (L.map (·.id)).Nodup) (hp : L.Perm l) (h : L.Perm (x :: L')) : L'.Perm (others x.id l) := by
  have h1 : (others x.id L).Perm (others x.id l) := hp.filter _
  have h2 : (others x.id L).Perm (others x.id (x :: L')) := h.filter _
  have hn' : ((x :: L').map (·.id)).Nodup := (h.map (fun x : It => x.id)).nodup hn
  rw [List.map_cons, List.nodup_cons] at hn'
  have h3 : others x.id (x :: L') = L' := by
    unfold others
    rw [List.filter_cons, if_neg (by simp)]
    exact List.filter_eq_self.2 fun y hy => decide_eq_true fun e => hn'.1 (List.mem_map.2 ⟨y, hy, e⟩)
  rw [h3] at h2
  exact h2.symm.trans h1
theorem others_srt {id : Int} {l : List It} (h : Srt l) : Srt (others id l) := h.sublist List.filter_sublist
theorem others_no (id : Int) (l : List It) : ∀ y ∈ others id l, y.id ≠ id := fun y hy => by
  have := (List.mem_filter.1 hy).2
  exact of_decide_eq_true this
theorem AtOk.where_ {L : List It} {M : List (Int × Value)} (h : AtOk L M) {id : Int} (hs : hasL id L = true) : ∃ (i : Nat) (x : It), L[i]? = some x ∧ x.id = id ∧ alGet id M = some (.int .i64 i) := by
  obtain ⟨x, hx, e⟩ := List.any_eq_true.1 hs
  obtain ⟨i, hi⟩ := List.getElem?_of_mem hx
  have e2 : x.id = id := of_decide_eq_true e
  exact ⟨i, x, hi, e2, by rw [← e2]; exact h.1 i x hi⟩
theorem AtOk.set {L : List It} {M : List (Int × Value)} (h : AtOk L M) {i : Nat} {x y : It} (hi : L[i]? = some y) (e : x.id = y.id) : AtOk (L.set i x) M := by
  have hlt := (List.getElem?_eq_some_iff.1 hi).1
  refine ⟨fun k z hk => ?_, fun z v hz => ?_⟩
  · by_cases hki : i = k
    · subst hki
      rw [List.getElem?_set_self hlt] at hk
      cases hk
      rw [e]
      exact h.1 i y hi
    · rw [List.getElem?_set_ne hki] at hk
      exact h.1 k z hk
  · obtain ⟨k, w, hk, hw⟩ := h.2 z v hz
    by_cases hki : i = k
    · subst hki
      rw [hi] at hk
      cases hk
      exact ⟨i, x, List.getElem?_set_self hlt, e.trans hw⟩
    · exact ⟨k, w, by rw [List.getElem?_set_ne hki]; exact hk, hw⟩
theorem set_perm {L : List It} {i : Nat} {x y : It} (hi : L[i]? = some y) : L.Perm (y :: L.eraseIdx i) ∧ (L.set i x).Perm (x :: L.eraseIdx i) := by
  obtain ⟨hlt, e⟩ := List.getElem?_eq_some_iff.1 hi
  rw [List.eraseIdx_eq_take_drop_succ, List.set_eq_take_append_cons_drop, if_pos hlt]
  refine ⟨?_, List.perm_middle⟩
  conv => lhs; rw [← List.take_append_drop i L, List.drop_eq_getElem_cons hlt, e]
  exact List.perm_middle
theorem HRemove_S (pa : Option Addr) (st : HSt) (id : Int) (hl : lenR st ≤ 1000) : Spec Try.prog 19 [.pointer pa, .int .u32 id] [HI pa st] fun Γ v Θ => v = .int .i64 (removeR id st).1 ∧ Θ = HI pa (removeR id st).2 :: Γ := by
  cases st with
  | none =>
    refine Spec.noHI fun e => ?_
    subst e
    have h0 : Spec Try.prog 19 [.pointer none, .int .u32 id] [] fun Γ v Θ => v = .int .i64 6 ∧ Θ = Γ := by
      refine Spec.of_body Try.func19 rfl Try.ntmps19 rfl ?_
      intro w0 Γ
      show S _ w0 [(0, .pointer none), (1, .int .u32 id)] Γ _
      refine S.seq fun K1 hK1 => ?_
      refine S.region rfl ?_
      refine S.op (S.q (q_assign rfl) rfl rfl ?_)
      first | with_reducible refine S.nilK ?_ | refine S.nil ?_
      refine hK1 _ _ ?_
      refine S.seq fun K2 hK2 => ?_
      refine S.region rfl ?_
      refine S.op (S.q (q_move rfl) rfl rfl ?_)
      refine S.op (S.q (q_move rfl) rfl rfl ?_)
      refine S.op (S.call Try.en28 (vs := [_, _]) ⟨rfl, rfl, trivial⟩ (where0_S id) rfl ?_)
      rintro v Θ ⟨rfl, rfl⟩
      refine S.op (S.q (q_move rfl) rfl rfl ?_)
      refine S.op (S.q (q_extract rfl rfl) rfl rfl ?_)
      refine S.op (S.q (q_extract rfl rfl) rfl rfl ?_)
      refine S.op (S.q (q_assign rfl) rfl rfl ?_)
      refine S.op (S.q (q_assign rfl) rfl rfl ?_)
      first | with_reducible refine S.nilK ?_ | refine S.nil ?_
      refine hK2 _ _ ?_
      refine S.seq fun K3 hK3 => ?_
      refine S.seq fun K4 hK4 => ?_
      refine S.region rfl ?_
      refine S.op (S.q (q_move rfl) rfl rfl ?_)
      refine S.op (S.q (q_not rfl) rfl rfl ?_)
      first | with_reducible refine S.nilK ?_ | refine S.nil ?_
      refine hK4 _ _ ?_
      refine S.condT rfl ?_
      refine S.seq fun K5 hK5 => ?_
      refine S.region rfl ?_
      refine S.op (S.q (q_assign rfl) rfl rfl ?_)
      first | with_reducible refine S.nilK ?_ | refine S.nil ?_
      refine hK5 _ _ ?_
      refine S.ret ?_
      with_reducible repeat (first | refine S.then_n ?_ | refine S.then_x ?_ | refine S.then_r ?_ | refine S.inBlock_n ?_ | refine S.inBlock_r ?_ | refine S.inBlock_x rfl ?_ | refine S.noGoto_r ?_ | refine S.noGoto_n ?_ | refine S.noGoto_x ?_)
      exact S.fin (rs := [_]) (vs := [_]) Try.results19 (⟨rfl, trivial⟩)  (⟨rfl, rfl⟩) Sub.ent
    refine h0.weaken fun Γ => ⟨Γ, Ent.refl _, ?_⟩
    rintro v Θ ⟨rfl, rfl⟩
    exact ⟨_, ⟨rfl, rfl⟩, Ent.noHI _⟩
  | some l =>
    refine Spec.hiSome fun t e => ?_
    subst e
    simp only [lenR] at hl
    refine Spec.of_body Try.func19 rfl Try.ntmps19 rfl ?_
    intro w0 Γ
    show S _ w0 [(0, .pointer (some ⟨t, 0, none⟩)), (1, .int .u32 id)] (HI (some ⟨t, 0, none⟩) (some l) :: Γ) _
    refine S.hiOpen t l fun m lv L M hp hs hh hat hn => ?_
    have hll := hp.length_eq
    have hhas := hat.has id
    rw [hasL_perm hp] at hhas
    refine S.seq fun K1 hK1 => ?_
    refine S.region rfl ?_
    refine S.op (S.q (q_assign rfl) rfl rfl ?_)
    first | with_reducible refine S.nilK ?_ | refine S.nil ?_
    refine hK1 _ _ ?_
    refine S.seq fun K2 hK2 => ?_
    refine S.region rfl ?_
    refine S.op (S.q (q_move rfl) rfl rfl ?_)
    refine S.op (S.q (q_move rfl) rfl rfl ?_)
    refine S.op (S.call Try.en28 (vs := [_, _]) ⟨rfl, rfl, trivial⟩ (where_S t m lv M id) rfl ?_)
    rintro v Θ ⟨rfl, rfl⟩
    refine S.op (S.q (q_move rfl) rfl rfl ?_)
    refine S.op (S.q (q_extract rfl rfl) rfl rfl ?_)
    refine S.op (S.q (q_extract rfl rfl) rfl rfl ?_)
    refine S.op (S.q (q_assign rfl) rfl rfl ?_)
    refine S.op (S.q (q_assign rfl) rfl rfl ?_)
    first | with_reducible refine S.nilK ?_ | refine S.nil ?_
    refine hK2 _ _ ?_
    refine S.seq fun K3 hK3 => ?_
    refine S.seq fun K4 hK4 => ?_
    refine S.region rfl ?_
    refine S.op (S.q (q_move rfl) rfl rfl ?_)
    refine S.op (S.q (q_not rfl) rfl rfl ?_)
    first | with_reducible refine S.nilK ?_ | refine S.nil ?_
    refine hK4 _ _ ?_
    refine S.cond rfl (fun h1 => ?_) (fun h1 => ?_)
    · have hno : hasL id l = false := by rw [← hhas]; simpa using h1
      have hpr : removeR id (some l) = (6, some l) := by simp only [removeR, hno]; rfl
      refine S.seq fun K5 hK5 => ?_
      refine S.region rfl ?_
      refine S.op (S.q (q_assign rfl) rfl rfl ?_)
      first | with_reducible refine S.nilK ?_ | refine S.nil ?_
      refine hK5 _ _ ?_
      refine S.ret ?_
      with_reducible repeat (first | refine S.then_n ?_ | refine S.then_x ?_ | refine S.then_r ?_ | refine S.inBlock_n ?_ | refine S.inBlock_r ?_ | refine S.inBlock_x rfl ?_ | refine S.noGoto_r ?_ | refine S.noGoto_n ?_ | refine S.noGoto_x ?_)
      refine S.ent ((Sub.ent : Ent _ (HB t m lv L M Γ)).trans (Ent.closeHI (t := t) hp hs hh hat _)) ?_
      exact S.fin (rs := [_]) (vs := [_]) Try.results19 (⟨rfl, trivial⟩)  (⟨by simp only [resV]; rw [hpr], by rw [hpr]⟩) Sub.ent
    · have hyes : hasL id l = true := by rw [← hhas]; simpa using h1
      have hpr : removeR id (some l) = (0, some (others id l)) := by simp only [removeR, hyes, if_true]
      obtain ⟨i, x, hi, hxid, hget⟩ := hat.where_ (by rw [hasL_perm hp]; exact hyes)
      subst hxid
      rw [hget]
      refine S.skip ?_
      with_reducible repeat (first | refine S.then_n ?_ | refine S.then_x ?_ | refine S.then_r ?_ | refine S.inBlock_n ?_ | refine S.inBlock_r ?_ | refine S.inBlock_x rfl ?_ | refine S.noGoto_r ?_ | refine S.noGoto_n ?_ | refine S.noGoto_x ?_)
      refine hK3 _ _ ?_
      refine S.seq fun K6 hK6 => ?_
      refine S.region rfl ?_
      refine S.op (S.q (q_move rfl) rfl rfl ?_)
      refine S.op (S.q (q_nilCheck rfl) rfl rfl ?_)
      refine S.op (S.q (q_field Try.fo60_0 rfl) rfl rfl ?_)
      refine S.op (S.q (q_makeInterface (by rw [Try.underlying62]) rfl) rfl rfl ?_)
      refine S.op (S.q (q_move rfl) rfl rfl ?_)
      refine S.op (S.call Try.en29 (vs := [_, _]) ⟨rfl, rfl, trivial⟩ (hRemove_S t m lv L M i x (by omega) hat hh hi) rfl ?_)
      rintro v Θ ⟨lv', L', M', hp', hat', hh', rfl⟩
      refine S.ent (Ent.closeHI (t := t) (l := others x.id l) (others_perm hat.nodup hp hp') (others_srt hs) hh' hat' _) ?_
      first | with_reducible refine S.nilK ?_ | refine S.nil ?_
      refine hK6 _ _ ?_
      refine S.seq fun K7 hK7 => ?_
      refine S.region rfl ?_
      refine S.op (S.q (q_assign rfl) rfl rfl ?_)
      first | with_reducible refine S.nilK ?_ | refine S.nil ?_
      refine hK7 _ _ ?_
      refine S.ret ?_
      with_reducible repeat (first | refine S.then_n ?_ | refine S.then_x ?_ | refine S.then_r ?_ | refine S.inBlock_n ?_ | refine S.inBlock_r ?_ | refine S.inBlock_x rfl ?_ | refine S.noGoto_r ?_ | refine S.noGoto_n ?_ | refine S.noGoto_x ?_)
      exact S.fin (rs := [_]) (vs := [_]) Try.results19 (⟨rfl, trivial⟩)  (⟨by simp only [resV]; rw [hpr], by rw [hpr]⟩) Sub.ent
theorem HChange_S (pa : Option Addr) (st : HSt) (x : It) (hl : lenR st ≤ 1000) : Spec Try.prog 20 [.pointer pa, .agg (itC x).toArray] [HI pa st] fun Γ v Θ => v = .int .i64 (changeR x st).1 ∧ Θ = HI pa (changeR x st).2 :: Γ := by
  cases st with
  | none =>
    refine Spec.noHI fun e => ?_
    subst e
    have h0 : Spec Try.prog 20 [.pointer none, .agg (itC x).toArray] [] fun Γ v Θ => v = .int .i64 6 ∧ Θ = Γ := by
      refine Spec.of_body Try.func20 rfl Try.ntmps20 rfl ?_
      intro w0 Γ
      show S _ w0 [(0, .pointer none), (1, .agg (itC x).toArray)] Γ _
      refine S.seq fun K1 hK1 => ?_
      refine S.region rfl ?_
      refine S.op (S.box (cs := [_, _, _]) rfl rfl rfl ?_)
      intro b3
      refine S.op (S.q (q_assign rfl) rfl rfl ?_)
      first | with_reducible refine S.nilK ?_ | refine S.nil ?_
      refine hK1 _ _ ?_
      refine S.seq fun K2 hK2 => ?_
      refine S.region rfl ?_
      refine S.op (S.q (q_move rfl) rfl rfl ?_)
      refine S.op (S.q (q_field Try.fo25_0 rfl) rfl rfl ?_)
      refine S.op (S.q (q_load Try.at22 rfl rfl) rfl rfl ?_)
      refine S.op (S.call Try.en28 (vs := [_, _]) ⟨rfl, rfl, trivial⟩ (where0_S x.id) rfl ?_)
      rintro v Θ ⟨rfl, rfl⟩
      refine S.op (S.q (q_move rfl) rfl rfl ?_)
      refine S.op (S.q (q_extract rfl rfl) rfl rfl ?_)
      refine S.op (S.q (q_extract rfl rfl) rfl rfl ?_)
      refine S.op (S.q (q_assign rfl) rfl rfl ?_)
      refine S.op (S.q (q_assign rfl) rfl rfl ?_)
      first | with_reducible refine S.nilK ?_ | refine S.nil ?_
      refine hK2 _ _ ?_
      refine S.seq fun K3 hK3 => ?_
      refine S.seq fun K4 hK4 => ?_
      refine S.region rfl ?_
      refine S.op (S.q (q_move rfl) rfl rfl ?_)
      refine S.op (S.q (q_not rfl) rfl rfl ?_)
      first | with_reducible refine S.nilK ?_ | refine S.nil ?_
      refine hK4 _ _ ?_
      refine S.condT rfl ?_
      refine S.seq fun K5 hK5 => ?_
      refine S.region rfl ?_
      refine S.op (S.q (q_assign rfl) rfl rfl ?_)
      first | with_reducible refine S.nilK ?_ | refine S.nil ?_
      refine hK5 _ _ ?_
      refine S.ret ?_
      with_reducible repeat (first | refine S.then_n ?_ | refine S.then_x ?_ | refine S.then_r ?_ | refine S.inBlock_n ?_ | refine S.inBlock_r ?_ | refine S.inBlock_x rfl ?_ | refine S.noGoto_r ?_ | refine S.noGoto_n ?_ | refine S.noGoto_x ?_)
      exact S.fin (rs := [_]) (vs := [_]) Try.results20 (⟨rfl, trivial⟩)  (⟨rfl, rfl⟩) Sub.ent
    refine h0.weaken fun Γ => ⟨Γ, Ent.refl _, ?_⟩
    rintro v Θ ⟨rfl, rfl⟩
    exact ⟨_, ⟨rfl, rfl⟩, Ent.noHI _⟩
  | some l =>
    refine Spec.hiSome fun t e => ?_
    subst e
    simp only [lenR] at hl
    refine Spec.of_body Try.func20 rfl Try.ntmps20 rfl ?_
    intro w0 Γ
    show S _ w0 [(0, .pointer (some ⟨t, 0, none⟩)), (1, .agg (itC x).toArray)] (HI (some ⟨t, 0, none⟩) (some l) :: Γ) _
    refine S.hiOpen t l fun m lv L M hp hs hh hat hn => ?_
    have hll := hp.length_eq
    have hhas := hat.has x.id
    rw [hasL_perm hp] at hhas
    refine S.seq fun K1 hK1 => ?_
    refine S.region rfl ?_
    refine S.op (S.box (cs := [_, _, _]) rfl rfl rfl ?_)
    intro b3
    refine S.op (S.q (q_assign rfl) rfl rfl ?_)
    first | with_reducible refine S.nilK ?_ | refine S.nil ?_
    refine hK1 _ _ ?_
    refine S.seq fun K2 hK2 => ?_
    refine S.region rfl ?_
    refine S.op (S.q (q_move rfl) rfl rfl ?_)
    refine S.op (S.q (q_field Try.fo25_0 rfl) rfl rfl ?_)
    refine S.op (S.q (q_load Try.at22 rfl rfl) rfl rfl ?_)
    refine S.op (S.call Try.en28 (vs := [_, _]) ⟨rfl, rfl, trivial⟩ (where_S t m lv M x.id) rfl ?_)
    rintro v Θ ⟨rfl, rfl⟩
    refine S.op (S.q (q_move rfl) rfl rfl ?_)
    refine S.op (S.q (q_extract rfl rfl) rfl rfl ?_)
    refine S.op (S.q (q_extract rfl rfl) rfl rfl ?_)
    refine S.op (S.q (q_assign rfl) rfl rfl ?_)
    refine S.op (S.q (q_assign rfl) rfl rfl ?_)
    first | with_reducible refine S.nilK ?_ | refine S.nil ?_
    refine hK2 _ _ ?_
    refine S.seq fun K3 hK3 => ?_
    refine S.seq fun K4 hK4 => ?_
    refine S.region rfl ?_
    refine S.op (S.q (q_move rfl) rfl rfl ?_)
    refine S.op (S.q (q_not rfl) rfl rfl ?_)
    first | with_reducible refine S.nilK ?_ | refine S.nil ?_
    refine hK4 _ _ ?_
    refine S.cond rfl (fun h1 => ?_) (fun h1 => ?_)
    · have hno : hasL x.id l = false := by rw [← hhas]; simpa using h1
      have hpr : changeR x (some l) = (6, some l) := by simp only [changeR, hno]; rfl
      refine S.seq fun K5 hK5 => ?_
      refine S.region rfl ?_
      refine S.op (S.q (q_assign rfl) rfl rfl ?_)
      first | with_reducible refine S.nilK ?_ | refine S.nil ?_
      refine hK5 _ _ ?_
      refine S.ret ?_
      with_reducible repeat (first | refine S.then_n ?_ | refine S.then_x ?_ | refine S.then_r ?_ | refine S.inBlock_n ?_ | refine S.inBlock_r ?_ | refine S.inBlock_x rfl ?_ | refine S.noGoto_r ?_ | refine S.noGoto_n ?_ | refine S.noGoto_x ?_)
      refine S.ent ((Sub.ent : Ent _ (HB t m lv L M Γ)).trans (Ent.closeHI (t := t) hp hs hh hat _)) ?_
      exact S.fin (rs := [_]) (vs := [_]) Try.results20 (⟨rfl, trivial⟩)  (⟨by simp only [resV]; rw [hpr], by rw [hpr]⟩) Sub.ent
    · have hyes : hasL x.id l = true := by rw [← hhas]; simpa using h1
      have hpr : changeR x (some l) = (0, some (ins x (others x.id l))) := by simp only [changeR, hyes, if_true]
      obtain ⟨i, y, hi, hyid, hget⟩ := hat.where_ (by rw [hasL_perm hp]; exact hyes)
      rw [hget]
      have hil := (List.getElem?_eq_some_iff.1 hi).1
      refine S.ownSome lv (by omega) fun b off hb _ _ _ => ?_
      have hsl : (L.set i x).length = L.length := List.length_set
      obtain ⟨hq1, hq2⟩ := set_perm (x := x) hi
      have hrest := others_perm hat.nodup hp hq1
      rw [hyid] at hrest
      refine S.skip ?_
      with_reducible repeat (first | refine S.then_n ?_ | refine S.then_x ?_ | refine S.then_r ?_ | refine S.inBlock_n ?_ | refine S.inBlock_r ?_ | refine S.inBlock_x rfl ?_ | refine S.noGoto_r ?_ | refine S.noGoto_n ?_ | refine S.noGoto_x ?_)
      refine hK3 _ _ ?_
      refine S.seq fun K6 hK6 => ?_
      refine S.draw ([blk t 60 (hpC lv m), blk b3 25 (itC x).toArray]) [8] Try.mixed ?_
      refine S.dr_take 0 [1, 2, 3, 4, 7, 8] rfl (by kernel_rfl) rfl rfl rfl (q_move rfl) Sub.ent ?_
      refine S.dr_take 1 [2, 3, 4, 7, 8] rfl (by kernel_rfl) rfl rfl rfl (q_nilCheck rfl) Sub.ent ?_
      refine S.dr_take 2 [3, 4, 7, 8] rfl (by kernel_rfl) rfl rfl rfl (q_field Try.fo60_0 rfl) Sub.ent ?_
      refine S.dr_take 3 [4, 7, 8] rfl (by kernel_rfl) rfl rfl rfl (q_field Try.fo58_0 rfl) Sub.ent ?_
      refine S.dr_take 4 [7, 8] rfl (by kernel_rfl) rfl rfl rfl (q_load Try.at52 rfl rfl) Sub.ent ?_
      refine S.dr_take 5 [7, 8] rfl (by kernel_rfl) rfl rfl rfl (q_move rfl) Sub.ent ?_
      refine S.dr_take 6 [7, 8] rfl (by kernel_rfl) rfl rfl rfl (q_loadS [_, _, _] Try.ag25 rfl rfl ⟨rfl, rfl, rfl, trivial⟩) Sub.ent ?_
      refine S.dr_take 7 [8] rfl (by kernel_rfl) rfl rfl rfl (q_indexO (i) Try.el52 rfl hb rfl rfl (by omega)) Sub.ent ?_
      refine S.dr_1 (i := 8) (by kernel_rfl) rfl rfl ?_
      refine  (S.storeOwS (lv) (i * 3) Try.ag25 rfl rfl rfl rfl hb (by first | rfl | exact Nat.add_assoc _ _ _ | omega) (by rw [flat_length itC_len]; show i * 3 + 3 ≤ _; omega) (flat_put itC_len hil x) ?_)
      refine S.dr_late ([]) [] rfl ?_
      first | with_reducible refine S.dr_doneK (by kernel_rfl) ?_ | refine S.dr_done (by kernel_rfl) ?_
      refine hK6 _ _ ?_
      refine S.seq fun K7 hK7 => ?_
      refine S.region rfl ?_
      refine S.op (S.q (q_move rfl) rfl rfl ?_)
      refine S.op (S.q (q_nilCheck rfl) rfl rfl ?_)
      refine S.op (S.q (q_field Try.fo60_0 rfl) rfl rfl ?_)
      refine S.op (S.q (q_makeInterface (by rw [Try.underlying62]) rfl) rfl rfl ?_)
      refine S.op (S.q (q_move rfl) rfl rfl ?_)
      refine S.op (S.call Try.en30 (vs := [_, _]) ⟨rfl, rfl, trivial⟩ (hFix_S t m lv (L.set i x) M i (by omega) (by omega) (hat.set hi hyid.symm) (fixOk (L := L) (by rw [hsl]; exact hh) (by omega) hi (fun k _ hk => List.getElem?_set_ne (Ne.symm hk)))) rfl ?_)
      rintro v Θ ⟨L', M', hp', hat', hh', rfl⟩
      refine S.ent (Ent.closeHI (t := t) (l := ins x (others x.id l)) ((hp'.trans hq2).trans ((hrest.cons x).trans (ins_perm x _).symm)) (ins_srt (others_srt hs) (others_no _ _)) hh' hat' _) ?_
      first | with_reducible refine S.nilK ?_ | refine S.nil ?_
      refine hK7 _ _ ?_
      refine S.seq fun K8 hK8 => ?_
      refine S.region rfl ?_
      refine S.op (S.q (q_assign rfl) rfl rfl ?_)
      first | with_reducible refine S.nilK ?_ | refine S.nil ?_
      refine hK8 _ _ ?_
      refine S.ret ?_
      with_reducible repeat (first | refine S.then_n ?_ | refine S.then_x ?_ | refine S.then_r ?_ | refine S.inBlock_n ?_ | refine S.inBlock_r ?_ | refine S.inBlock_x rfl ?_ | refine S.noGoto_r ?_ | refine S.noGoto_n ?_ | refine S.noGoto_x ?_)
      exact S.fin (rs := [_]) (vs := [_]) Try.results20 (⟨rfl, trivial⟩)  (⟨by simp only [resV]; rw [hpr], by rw [hpr]⟩) Sub.ent
end Go.Proofs.Ythpfljiabhjodaa
