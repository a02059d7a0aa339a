/- TalkOnce: the closure that ticks. -/
import Derived.Test.YtdlddggjjibeaaaOnceB
namespace Go.Proofs.Ytdlddggjjibeaaa
open Go.RowKit
def toldP (h : Int) (z : Int × List Int) : Pak := ⟨2, 3, 4, z.1, h, false, z.2⟩
def toA (h : Int) (p : Pk) : PkA := ⟨⟨2, 3, 4, p.seq, h, false, p.data⟩, p.v⟩
theorem toA_flat (h : Int) (ps : List Pk) : ps.flatMap (pkE 2 3 4 h) = (ps.map (toA h)).flatMap paE := by
  induction ps with
  | nil => rfl
  | cons p ps ih => simp only [List.map_cons, List.flatMap_cons, ih]; rfl
theorem toA_alls (h : Int) (ps : List Pk) (Γ : List Assn) : Ent (alls ps pkB :: Γ) (alls (ps.map (toA h)) paB :: Γ) := Ent.allsCongr (by rw [List.map_map]; rfl) Γ
theorem paE_one (l : List PkA) : allOne (l.flatMap paE) = true := List.all_eq_true.2 fun u hu => by
  obtain ⟨x, _, h⟩ := List.mem_flatMap.1 hu
  simp only [paE, List.mem_cons, List.not_mem_nil, or_false] at h
  rcases h with rfl | rfl | rfl | rfl | rfl | rfl | rfl <;> rfl
/-- Behind i ends' ticks. -/
def sts (st : Nat → Sto) (i : Nat) : Nat → Sto := fun j => if j < i then (tickR (st j)).2 else st j
/-- What came into the air. -/
def Told (st : Nat → Sto) (i : Nat) (A A' : Nat → List PkA) : Prop := ∀ j, j < 2 → ∃ ts : List PkA, A' (1 - j) = A (1 - j) ++ ts ∧ ts.map (·.k) = if j < i then (tickR (st j)).1.map (toldP (hdR (st j))) else []
theorem tick_len {m : Nat} {st : Sto} (h : OkT m st) : (tickR st).1.length ≤ m := by
  cases st with
  | none => exact Nat.zero_le _
  | some x =>
    obtain ⟨h1, h2, h3, h4, h5, h6, h7⟩ := h
    simp only [tickR]
    cases quietT x.L with
    | true => exact Nat.zero_le _
    | false => simp only [cond_false, told_len]; omega
theorem sts_succ (st : Nat → Sto) (i : Nat) : upd (sts st i) i (tickR (st i)).2 = sts st (i + 1) := by
  funext j
  unfold upd sts
  by_cases h : j = i
  · subst h; simp
  · rw [if_neg h]
    by_cases h2 : j < i
    · rw [if_pos h2, if_pos (by omega)]
    · rw [if_neg h2, if_neg (by omega)]
theorem Told.succ {st : Nat → Sto} {i : Nat} {A A' : Nat → List PkA} (h : Told st i A A') (hi : i < 2) {ts : List PkA} (hk : ts.map (·.k) = (tickR (st i)).1.map (toldP (hdR (st i)))) : Told st (i + 1) A (upd A' (1 - i) (A (1 - i) ++ ts)) := fun j hj => by
  by_cases e : j = i
  · subst e
    exact ⟨ts, upd_same _ _ _, by rw [if_pos (by omega)]; exact hk⟩
  · obtain ⟨us, e1, e2⟩ := h j hj
    refine ⟨us, by rw [upd_other _ _ (by omega)]; exact e1, ?_⟩
    rw [e2]
    by_cases h2 : j < i
    · rw [if_pos h2, if_pos (by omega)]
    · rw [if_neg h2, if_neg (by omega)]
set_option maxHeartbeats 800000 in
theorem tick_S (t3 t6 : Nat) (pp : Nat → Option Addr) (st : Nat → Sto) (m0 : Nat) (hm : m0 ≤ 200) (ok : ∀ j, j < 2 → OkT m0 (st j)) (a : Nat → SV) (A : Nat → List PkA) (hA : ∀ j, j < 2 → (A j).length ≤ 100000) :
    Spec Try.prog 13 [.pointer (some ⟨t6, 0, none⟩), .pointer (some ⟨t3, 0, none⟩)]
      [blk t6 31 #[(a 0).v, (a 1).v], blk t3 27 #[.pointer (pp 0), .pointer (pp 1)], TI 2 3 4 (pp 0) (st 0), TI 2 3 4 (pp 1) (st 1), own (a 0) 34 7 ((A 0).flatMap paE), own (a 1) 34 7 ((A 1).flatMap paE), alls (A 0) paB, alls (A 1) paB] fun Γ _ Θ =>
      ∃ (a' : Nat → SV) (A' : Nat → List PkA), Told st 2 A A' ∧
        Θ = blk t6 31 #[(a' 0).v, (a' 1).v] :: blk t3 27 #[.pointer (pp 0), .pointer (pp 1)] :: TI 2 3 4 (pp 0) (sts st 2 0) :: TI 2 3 4 (pp 1) (sts st 2 1) :: own (a' 0) 34 7 ((A' 0).flatMap paE) :: own (a' 1) 34 7 ((A' 1).flatMap paE) :: alls (A' 0) paB :: alls (A' 1) paB :: Γ := by
  refine Spec.of_body Try.func13 rfl Try.ntmps13 rfl ?_
  intro w0 Γ
  show S _ w0 [(0, .pointer (some ⟨t6, 0, none⟩)), (1, .pointer (some ⟨t3, 0, none⟩))] (blk t6 31 #[(a 0).v, (a 1).v] :: blk t3 27 #[.pointer (pp 0), .pointer (pp 1)] :: TI 2 3 4 (pp 0) (st 0) :: TI 2 3 4 (pp 1) (st 1) :: own (a 0) 34 7 ((A 0).flatMap paE) :: own (a 1) 34 7 ((A 1).flatMap paE) :: alls (A 0) paB :: alls (A 1) paB :: Γ) _
  refine S.seq fun K1 hK1 => ?_
  refine S.region rfl ?_
  refine S.op (S.q (q_move rfl) rfl rfl ?_)
  first | with_reducible refine S.nilK ?_ | refine S.nil ?_
  refine hK1 _ _ ?_
  refine S.block ?_
  refine S.loop (fun m ρ' Γ' => ∃ (i : Nat) (a' : Nat → SV) (A' : Nat → List PkA) (st' : Nat → Sto), m + i = 2 ∧ Told st i A A' ∧ st' = sts st i ∧ ρ' = [(0, .pointer (some ⟨t6, 0, none⟩)), (1, .pointer (some ⟨t3, 0, none⟩)), (3, .int .i64 i)] ∧ Γ' = blk t6 31 #[(a' 0).v, (a' 1).v] :: blk t3 27 #[.pointer (pp 0), .pointer (pp 1)] :: TI 2 3 4 (pp 0) (st' 0) :: TI 2 3 4 (pp 1) (st' 1) :: own (a' 0) 34 7 ((A' 0).flatMap paE) :: own (a' 1) 34 7 ((A' 1).flatMap paE) :: alls (A' 0) paB :: alls (A' 1) paB :: Γ) (m := _) (ρ0 := _) (Γ0 := _) (⟨0, a, A, st, rfl, fun j _ => ⟨[], by simp, by simp⟩, by funext j; simp [sts], rfl, rfl⟩) (by repeat (first | exact trivial | refine ⟨rfl, ?_⟩)) Sub.ent ?_
  rintro m ρ' Γ' ⟨i, a', A', st', hmi, htold, hst', rfl, rfl⟩
  refine S.seq fun K2 hK2 => ?_
  refine S.region rfl ?_
  refine S.op (S.q (q_lt rfl rfl) rfl rfl ?_)
  first | with_reducible refine S.nilK ?_ | refine S.nil ?_
  refine hK2 _ _ ?_
  refine S.seq fun K3 hK3 => ?_
  refine S.condD rfl (fun h1 => ?_) (fun h1 => ?_)
  · have hi : i < 2 := by omega
    have hsti : st' i = st i := by rw [hst']; simp [sts]
    have hAi : A' (1 - i) = A (1 - i) := by
      obtain ⟨ts, e1, e2⟩ := htold i hi
      rw [if_neg (by omega)] at e2
      rw [e1, List.map_eq_nil_iff.1 e2, List.append_nil]
    have hAl := hA (1 - i) (by omega)
    refine S.conv2 (TI 2 3 4 (pp 0) (st' 0)) (TI 2 3 4 (pp 1) (st' 1)) (Ent.two (fun j => TI 2 3 4 (pp j) (st' j)) hi _) ?_
    refine S.conv2 (own (a' 0) 34 7 ((A' 0).flatMap paE)) (own (a' 1) 34 7 ((A' 1).flatMap paE)) (Ent.two (fun j => own (a' j) 34 7 ((A' j).flatMap paE)) hi _) ?_
    refine S.conv2 (alls (A' 0) paB) (alls (A' 1) paB) (Ent.two (fun j => alls (A' j) paB) hi _) ?_
    rw [hsti, hAi]
    refine S.ownLen (a' (1 - i)) fun ha1 _ _ => ?_
    rw [flat_length paE_len] at ha1
    refine S.skip ?_
    with_reducible repeat (first | refine S.then_n ?_ | refine S.then_x ?_ | refine S.then_r ?_ | refine S.inBlock_n ?_ | refine S.inBlock_r ?_ | refine S.inBlock_x rfl ?_ | refine S.noGoto_r ?_ | refine S.noGoto_n ?_ | refine S.noGoto_x ?_)
    refine hK3 _ _ ?_
    refine S.seq fun K4 hK4 => ?_
    refine S.block ?_
    refine S.seq fun K5 hK5 => ?_
    refine S.region rfl ?_
    refine S.op (S.q (q_move rfl) rfl rfl ?_)
    refine S.op (S.q (q_assign rfl) rfl rfl ?_)
    first | with_reducible refine S.nilK ?_ | refine S.nil ?_
    refine hK5 _ _ ?_
    refine S.draw ([blk t6 31 #[(a' 0).v, (a' 1).v], blk t3 27 #[.pointer (pp 0), .pointer (pp 1)]]) [12] Try.mixed ?_
    refine S.dr_take 0 [1, 11, 12] rfl (by kernel_rfl) rfl rfl rfl (q_move rfl) Sub.ent ?_
    refine S.dr_take 1 [11, 12] rfl (by kernel_rfl) rfl rfl rfl (q_sub rfl rfl (inI64 (by omega) (by omega))) Sub.ent ?_
    refine S.dr_take 2 [3, 4, 5, 10, 11, 12] rfl (by kernel_rfl) rfl rfl rfl (q_move rfl) Sub.ent ?_
    refine S.dr_take 3 [4, 5, 10, 11, 12] rfl (by kernel_rfl) rfl rfl rfl (q_sub rfl rfl (inI64 (by omega) (by omega))) Sub.ent ?_
    refine S.dr_take 4 [5, 10, 11, 12] rfl (by kernel_rfl) rfl rfl rfl (q_indexTwo (1 - i) Try.ar31 rfl rfl (by omega) (by omega)) Sub.ent ?_
    refine S.dr_take 5 [10, 11, 12] rfl (by kernel_rfl) rfl rfl rfl (q_loadTwo (fun j => (a' j).v) (1 - i) (by omega) Try.at30 rfl) Sub.ent ?_
    refine S.dr_take 6 [7, 8, 9, 10, 11, 12] rfl (by kernel_rfl) rfl rfl rfl (q_move rfl) Sub.ent ?_
    refine S.dr_take 7 [8, 9, 10, 11, 12] rfl (by kernel_rfl) rfl rfl rfl (q_indexTwo i Try.ar27 rfl rfl rfl hi) Sub.ent ?_
    refine S.dr_take 8 [9, 10, 11, 12] rfl (by kernel_rfl) rfl rfl rfl (q_loadTwo (fun j => .pointer (pp j)) i hi Try.at24 rfl) Sub.ent ?_
    refine S.dr_1 (i := 9) (by kernel_rfl) rfl rfl ?_
    refine  (S.call Try.en14 (vs := [_]) ⟨rfl, trivial⟩ (TTick 2 3 4 (pp i) (st i) m0 hm (ok i hi)) rfl ?_)
    rintro v Θ ⟨out, ps, rfl, hps, rfl⟩
    obtain ⟨H, hH⟩ : ∃ H, H = hdR (st i) := ⟨_, rfl⟩
    rw [← hH, toA_flat H ps]
    refine S.conv (alls ps pkB) (toA_alls H ps _) ?_
    obtain ⟨ts, hts⟩ : ∃ ts, ts = ps.map (toA H) := ⟨_, rfl⟩
    rw [← hts]
    have htl : ts.length ≤ 1000 := by have h1 := tick_len (ok i hi); rw [← hps, List.length_map] at h1; rw [hts, List.length_map]; omega
    refine S.ownLen out fun hol _ _ => ?_
    rw [flat_length paE_len] at hol
    refine S.dr_k rfl Sub.ent ?_
    refine S.dr_1 (i := 10) (by kernel_rfl) rfl rfl ?_
    refine  (S.appendOw (s := a' (1 - i)) (out.n) (ts.flatMap paE) Try.underlying30 Try.inf34 rfl rfl rfl (fun w hs => HasOw.slAt inferInstance hs) (paE_one ts) (⟨by omega, by omega⟩) rfl ?_)
    intro an han
    rw [← List.flatMap_append]
    refine S.conv2 (alls (A (1 - i)) paB) (alls ts paB) (Ent.allsAppend paB (A (1 - i)) ts _) ?_
    refine S.dr_k rfl Sub.ent ?_
    refine S.dr_take 11 [12] rfl (by kernel_rfl) rfl rfl rfl (q_indexTwo (1 - i) Try.ar31 rfl rfl (by omega) (by omega)) Sub.ent ?_
    refine S.dr_1 (i := 12) (by kernel_rfl) rfl rfl ?_
    refine  (S.storeTwo (fun j => (a' j).v) (1 - i) (by omega) Try.at30 rfl rfl rfl ?_)
    refine S.dr_late ([]) [] rfl ?_
    first | with_reducible refine S.dr_doneK (by kernel_rfl) ?_ | refine S.dr_done (by kernel_rfl) ?_
    with_reducible repeat (first | refine S.then_n ?_ | refine S.then_x ?_ | refine S.then_r ?_ | refine S.inBlock_n ?_ | refine S.inBlock_r ?_ | refine S.inBlock_x rfl ?_ | refine S.noGoto_r ?_ | refine S.noGoto_n ?_ | refine S.noGoto_x ?_)
    refine hK4 _ _ ?_
    refine S.region rfl ?_
    rw [upd_v, upd_v]
    have hk2 : ts.map (·.k) = (tickR (st i)).1.map (toldP (hdR (st i))) := by rw [hts, ← hps, List.map_map, List.map_map, ← hH]; rfl
    refine S.conv2 (TI 2 3 4 (pp i) (tickR (st i)).2) (TI 2 3 4 (pp (1 - i)) (st' (1 - i))) (show Ent _ (TI 2 3 4 (pp 0) (upd st' i (tickR (st i)).2 0) :: TI 2 3 4 (pp 1) (upd st' i (tickR (st i)).2 1) :: _) from by have := Ent.twoBack (fun j => TI 2 3 4 (pp j) (upd st' i (tickR (st i)).2 j)) hi; simp only [upd_same, upd_not _ _ hi] at this; exact this _) ?_
    refine S.conv2 (own (a' i) 34 7 ((A' i).flatMap paE)) (own an 34 7 ((A (1 - i) ++ ts).flatMap paE)) (show Ent _ (own (upd a' (1 - i) an 0) 34 7 ((upd A' (1 - i) (A (1 - i) ++ ts) 0).flatMap paE) :: own (upd a' (1 - i) an 1) 34 7 ((upd A' (1 - i) (A (1 - i) ++ ts) 1).flatMap paE) :: _) from by have := Ent.twoBack (fun j => own (upd a' (1 - i) an j) 34 7 ((upd A' (1 - i) (A (1 - i) ++ ts) j).flatMap paE)) hi; simp only [upd_same, upd_other _ _ (show i ≠ 1 - i by omega)] at this; exact this _) ?_
    refine S.conv2 (alls (A' i) paB) (alls (A (1 - i) ++ ts) paB) (show Ent _ (alls (upd A' (1 - i) (A (1 - i) ++ ts) 0) paB :: alls (upd A' (1 - i) (A (1 - i) ++ ts) 1) paB :: _) from by have := Ent.twoBack (fun j => alls (upd A' (1 - i) (A (1 - i) ++ ts) j) paB) hi; simp only [upd_same, upd_other _ _ (show i ≠ 1 - i by omega)] at this; exact this _) ?_
    refine S.op (S.q (q_add rfl rfl (inI64 (by omega) (by omega))) rfl rfl ?_)
    refine S.op (S.q (q_move rfl) rfl rfl ?_)
    first | with_reducible refine S.nilK ?_ | refine S.nil ?_
    with_reducible repeat (first | refine S.then_n ?_ | refine S.then_x ?_ | refine S.then_r ?_ | refine S.inBlock_n ?_ | refine S.inBlock_r ?_ | refine S.inBlock_x rfl ?_ | refine S.noGoto_r ?_ | refine S.noGoto_n ?_ | refine S.noGoto_x ?_)
    exact S.next (m - 1) (⟨i + 1, upd a' (1 - i) an, upd A' (1 - i) (A (1 - i) ++ ts), upd st' i (tickR (st i)).2, by omega, htold.succ hi hk2, by rw [hst', sts_succ], rfl, rfl⟩) (by omega) (by repeat (first | exact trivial | refine ⟨rfl, ?_⟩)) Sub.ent
  · refine S.exit ?_
    with_reducible repeat (first | refine S.then_n ?_ | refine S.then_x ?_ | refine S.then_r ?_ | refine S.inBlock_n ?_ | refine S.inBlock_r ?_ | refine S.inBlock_x rfl ?_ | refine S.noGoto_r ?_ | refine S.noGoto_n ?_ | refine S.noGoto_x ?_)
    with_reducible refine S.inBlock_s ?_
    with_reducible repeat (first | refine S.then_n ?_ | refine S.then_x ?_ | refine S.then_r ?_ | refine S.inBlock_n ?_ | refine S.inBlock_r ?_ | refine S.inBlock_x rfl ?_ | refine S.noGoto_r ?_ | refine S.noGoto_n ?_ | refine S.noGoto_x ?_)
    with_reducible repeat (first | refine S.then_n ?_ | refine S.then_x ?_ | refine S.then_r ?_ | refine S.inBlock_n ?_ | refine S.inBlock_r ?_ | refine S.inBlock_x rfl ?_ | refine S.noGoto_r ?_ | refine S.noGoto_n ?_ | refine S.noGoto_x ?_)
    obtain rfl : i = 2 := by omega
    subst hst'
    exact S.finN (rs := []) (vs := []) Try.results13 (trivial)  (⟨a', A', htold, rfl⟩) Sub.ent
end Go.Proofs.Ytdlddggjjibeaaa
