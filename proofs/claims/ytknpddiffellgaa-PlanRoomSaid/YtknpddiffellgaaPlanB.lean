/- soonest: the k cells of a row that are free the soonest. -/
import Derived.Test.YtknpddiffellgaaPlanA
import Derived.Test.YtknpddiffellgaaSortI
namespace Go.Proofs.Ytknpddiffellgaa
open Go.RowKit
set_option maxRecDepth 20000
theorem SortI_S (s : SV) (l : List Int) (hl : l.length ≤ 1000000) : Spec Try.prog 26 [s.v] [own s 3 1 (ints l)] fun Γ _ Θ => Θ = own s 3 1 (ints (srtI l)) :: Γ := by
  have h := SortInts_S Try.lays189 3 s l (by omega)
  rw [mergeSort_srtI] at h
  exact h
def soonL (row : List Int) (k : Int) : List Ce := if k ≤ row.length then (srt row).take k.toNat else []
theorem flat_take {α : Type} {enc : α → List Value} {sz : Nat} (he : ∀ x, (enc x).length = sz) (os : List α) (k : Nat) : (os.flatMap enc).take (k * sz) = (os.take k).flatMap enc := by
  induction os generalizing k with
  | nil => simp
  | cons x l ih =>
    cases k with
    | zero => simp
    | succ k =>
      rw [List.flatMap_cons, List.take_succ_cons, List.flatMap_cons, List.take_append, he, List.take_of_length_le (by rw [he, Nat.succ_mul]; omega), show (k + 1) * sz - sz = k * sz by rw [Nat.succ_mul]; omega, ih]
theorem soonest_S (R : Assn) (s : SV) (row : List Int) (k : Int) (hk : 1 ≤ k) (hl : row.length ≤ 1000) (hR : RdS R s row.length 1 (ints row)) :
    Spec Try.prog 25 [s.v, .int .i64 k] [R] fun Γ v Θ => ∃ u : SV, (k ≤ row.length → u.n = k.toNat) ∧ v = .tuple #[u.v, .bool (decide (k ≤ row.length))] ∧ Θ = own u 60 2 ((soonL row k).flatMap ceC) :: R :: Γ := by
  obtain ⟨kn, rfl⟩ : ∃ kn : Nat, k = (kn : Int) := ⟨k.toNat, by omega⟩
  rw [Int.toNat_natCast]
  have hsn : soonL row (kn : Int) = if (kn : Int) ≤ row.length then (srt row).take kn else [] := rfl
  refine Spec.of_body Try.func25 rfl Try.ntmps25 rfl ?_
  intro w0 Γ
  show S _ w0 [(0, s.v), (1, .int .i64 kn)] (R :: Γ) _
  refine S.rCap hR fun hn _ _ => ?_
  refine S.seq fun K1 hK1 => ?_
  refine S.region rfl ?_
  refine S.op (S.q (q_assign rfl) rfl rfl ?_)
  refine S.op (S.q (q_assign rfl) rfl rfl ?_)
  first | with_reducible refine S.nilK ?_ | refine S.nil ?_
  refine hK1 _ _ ?_
  refine S.seq fun K2 hK2 => ?_
  refine S.region rfl ?_
  refine S.ent (show Ent _ (own SV.nil 60 2 (((cellsR row).take 0).flatMap ceC) :: _) from Ent.ownNil 60 2) ?_
  refine S.op (S.q (q_assign rfl) rfl rfl ?_)
  first | with_reducible refine S.nilK ?_ | refine S.nil ?_
  refine hK2 _ _ ?_
  refine S.seq fun K3 hK3 => ?_
  refine S.seq fun K4 hK4 => ?_
  refine S.region rfl ?_
  refine S.op (S.q (q_move rfl) rfl rfl ?_)
  refine S.op (S.q (q_len Try.underlying25 rfl) rfl rfl ?_)
  refine S.op (S.q (q_move rfl) rfl rfl ?_)
  first | with_reducible refine S.nilK ?_ | refine S.nil ?_
  refine hK4 _ _ ?_
  refine S.block ?_
  refine S.loop (fun m ρ' Γ' => ∃ (i : Nat) (lv : SV), m + i = row.length ∧ ρ' = [(1, .int .i64 kn), (6, lv.v), (9, s.v), (10, .int .i64 s.n), (11, .int .i64 i)] ∧ Γ' = own lv 60 2 (((cellsR row).take i).flatMap ceC) :: R :: Γ) (m := _) (ρ0 := _) (Γ0 := _) (⟨0, SV.nil, rfl, rfl, rfl⟩) (by repeat (first | exact trivial | refine ⟨rfl, ?_⟩)) Sub.ent ?_
  rintro m ρ' Γ' ⟨i, lv, hmi, rfl, rfl⟩
  refine S.ownLen lv fun hlen _ _ => ?_
  rw [flat_length ceC_len, List.length_take, cellsF_length, Nat.min_eq_left (by omega)] at hlen
  refine S.seq fun K5 hK5 => ?_
  refine S.region rfl ?_
  refine S.op (S.q (q_lt rfl rfl) rfl rfl ?_)
  first | with_reducible refine S.nilK ?_ | refine S.nil ?_
  refine hK5 _ _ ?_
  refine S.seq fun K6 hK6 => ?_
  refine S.condD rfl (fun h1 => ?_) (fun h1 => ?_)
  · obtain ⟨x, hx⟩ := getE (l := row) (i := i) (by omega)
    refine S.rSome hR (by omega) fun b off hb => ?_
    refine S.skip ?_
    with_reducible repeat (first | refine S.then_n ?_ | refine S.then_x ?_ | refine S.then_r ?_ | refine S.inBlock_n ?_ | refine S.inBlock_r ?_ | refine S.inBlock_x rfl ?_ | refine S.noGoto_r ?_ | refine S.noGoto_n ?_ | refine S.noGoto_x ?_)
    refine hK6 _ _ ?_
    refine S.seq fun K7 hK7 => ?_
    refine S.block ?_
    refine S.seq fun K8 hK8 => ?_
    refine S.region rfl ?_
    refine S.op (S.q (q_move rfl) rfl rfl ?_)
    refine S.op (S.q (q_indexO (i) Try.el25 rfl hb rfl rfl (by omega)) rfl rfl ?_)
    refine S.op (S.q (q_loadR hR i Try.at3 rfl hb (by omega) (by omega) (ints_get hx)) rfl rfl ?_)
    refine S.op (S.q (q_assign rfl) rfl rfl ?_)
    refine S.op (S.q (q_assign rfl) rfl rfl ?_)
    first | with_reducible refine S.nilK ?_ | refine S.nil ?_
    refine hK8 _ _ ?_
    refine S.region rfl ?_
    refine S.op (S.q (q_move rfl) rfl rfl ?_)
    refine S.op (S.q (q_move rfl) rfl rfl ?_)
    refine S.op (S.q (q_move rfl) rfl rfl ?_)
    refine S.op (S.callP Try.en32 (vs := [_]) ⟨rfl, trivial⟩ (fun w hs => pin_P x w) rfl ?_)
    refine S.op (S.q (q_build (pvs := [(_, _), (_, _)]) [_, _] Try.z60 Try.p60 ⟨⟨rfl, rfl⟩, ⟨rfl, rfl⟩, trivial⟩ rfl) rfl rfl ?_)
    refine S.op (S.buildSlice (pvs := [(_, _)]) [_, _] Try.underlying56 Try.inf60 rfl rfl ⟨⟨rfl, rfl⟩, trivial⟩ rfl rfl ?_)
    intro b21
    refine S.op (S.appendOw (s := lv) (1) (ceC ((i : Int), inI x)) Try.underlying56 Try.inf60 rfl rfl rfl (blk_slAt (b := b21) rfl (by unfold maxLen; omega)) (by first | rfl | exact allOne_bcells _) (⟨by omega, by omega⟩) rfl ?_)
    intro lv' hlv'
    rw [show ((cellsR row).take i).flatMap ceC ++ ceC ((i : Int), inI x) = ((cellsR row).take (i + 1)).flatMap ceC by rw [cellsR_snoc row i x hx, List.flatMap_append]; rfl]
    refine S.op (S.q (q_assign rfl) rfl rfl ?_)
    first | with_reducible refine S.nilK ?_ | refine S.nil ?_
    with_reducible repeat (first | refine S.then_n ?_ | refine S.then_x ?_ | refine S.then_r ?_ | refine S.inBlock_n ?_ | refine S.inBlock_r ?_ | refine S.inBlock_x rfl ?_ | refine S.noGoto_r ?_ | refine S.noGoto_n ?_ | refine S.noGoto_x ?_)
    refine hK7 _ _ ?_
    refine S.region rfl ?_
    refine S.op (S.q (q_add rfl rfl (inI64 (by omega) (by omega))) rfl rfl ?_)
    refine S.op (S.q (q_move rfl) rfl rfl ?_)
    first | with_reducible refine S.nilK ?_ | refine S.nil ?_
    with_reducible repeat (first | refine S.then_n ?_ | refine S.then_x ?_ | refine S.then_r ?_ | refine S.inBlock_n ?_ | refine S.inBlock_r ?_ | refine S.inBlock_x rfl ?_ | refine S.noGoto_r ?_ | refine S.noGoto_n ?_ | refine S.noGoto_x ?_)
    exact S.next (m - 1) (⟨i + 1, lv', by omega, rfl, rfl⟩) (by omega) (by repeat (first | exact trivial | refine ⟨rfl, ?_⟩)) Sub.ent
  · refine S.exit ?_
    with_reducible repeat (first | refine S.then_n ?_ | refine S.then_x ?_ | refine S.then_r ?_ | refine S.inBlock_n ?_ | refine S.inBlock_r ?_ | refine S.inBlock_x rfl ?_ | refine S.noGoto_r ?_ | refine S.noGoto_n ?_ | refine S.noGoto_x ?_)
    with_reducible refine S.inBlock_s ?_
    with_reducible repeat (first | refine S.then_n ?_ | refine S.then_x ?_ | refine S.then_r ?_ | refine S.inBlock_n ?_ | refine S.inBlock_r ?_ | refine S.inBlock_x rfl ?_ | refine S.noGoto_r ?_ | refine S.noGoto_n ?_ | refine S.noGoto_x ?_)
    refine hK3 _ _ ?_
    refine S.seq fun K9 hK9 => ?_
    refine S.seq fun K10 hK10 => ?_
    refine S.region rfl ?_
    refine S.op (S.q (q_move rfl) rfl rfl ?_)
    refine S.op (S.q (q_len Try.underlying56 rfl) rfl rfl ?_)
    refine S.op (S.q (q_move rfl) rfl rfl ?_)
    refine S.op (S.q (q_lt rfl rfl) rfl rfl ?_)
    first | with_reducible refine S.nilK ?_ | refine S.nil ?_
    refine hK10 _ _ ?_
    refine S.condD rfl (fun h2 => ?_) (fun h2 => ?_)
    · obtain rfl : i = row.length := by omega
      refine S.seq fun K11 hK11 => ?_
      refine S.region rfl ?_
      refine S.op (S.q (q_assign rfl) rfl rfl ?_)
      refine S.op (S.q (q_assign rfl) rfl rfl ?_)
      first | with_reducible refine S.nilK ?_ | refine S.nil ?_
      refine hK11 _ _ ?_
      refine S.ret ?_
      with_reducible repeat (first | refine S.then_n ?_ | refine S.then_x ?_ | refine S.then_r ?_ | refine S.inBlock_n ?_ | refine S.inBlock_r ?_ | refine S.inBlock_x rfl ?_ | refine S.noGoto_r ?_ | refine S.noGoto_n ?_ | refine S.noGoto_x ?_)
      refine S.ent (show Ent _ (own SV.nil 60 2 (([] : List Ce).flatMap ceC) :: _) from Ent.ownNil 60 2) ?_
      exact S.fin (rs := [_, _]) (vs := [_, _]) Try.results25 (⟨rfl, rfl, trivial⟩)  (⟨SV.nil, fun h => by omega, by rw [decide_eq_false (by omega)]; rfl, by rw [hsn, if_neg (by omega)]⟩) Sub.ent
    · obtain rfl : i = row.length := by omega
      rw [List.take_of_length_le (by rw [cellsF_length]; exact Nat.le_refl _)]
      refine S.skip ?_
      with_reducible repeat (first | refine S.then_n ?_ | refine S.then_x ?_ | refine S.then_r ?_ | refine S.inBlock_n ?_ | refine S.inBlock_r ?_ | refine S.inBlock_x rfl ?_ | refine S.noGoto_r ?_ | refine S.noGoto_n ?_ | refine S.noGoto_x ?_)
      refine hK9 _ _ ?_
      refine S.seq fun K12 hK12 => ?_
      refine S.region rfl ?_
      refine S.op (S.q (q_move rfl) rfl rfl ?_)
      refine S.op (S.call Try.en33 (vs := [_, _]) ⟨rfl, rfl, trivial⟩ (SortC_S lv (cellsR row) (by rw [cellsF_length]; omega)) rfl ?_)
      rintro v Θ ⟨l', hp, hsr, rfl⟩
      obtain rfl := srt_eq hp hsr
      first | with_reducible refine S.nilK ?_ | refine S.nil ?_
      refine hK12 _ _ ?_
      refine S.seq fun K13 hK13 => ?_
      refine S.region rfl ?_
      refine S.op (S.q (q_move rfl) rfl rfl ?_)
      refine S.op (S.q (q_move rfl) rfl rfl ?_)
      refine S.conv (own lv 60 2 ((srt row).flatMap ceC)) (Ent.ownTake lv 60 2 _ (k := kn) (by omega) _) ?_
      refine S.op (S.q (q_sliceTo (kn) Try.el56 rfl rfl rfl (by omega)) rfl rfl ?_)
      refine S.op (S.q (q_assign rfl) rfl rfl ?_)
      refine S.op (S.q (q_assign rfl) rfl rfl ?_)
      first | with_reducible refine S.nilK ?_ | refine S.nil ?_
      refine hK13 _ _ ?_
      refine S.ret ?_
      with_reducible repeat (first | refine S.then_n ?_ | refine S.then_x ?_ | refine S.then_r ?_ | refine S.inBlock_n ?_ | refine S.inBlock_r ?_ | refine S.inBlock_x rfl ?_ | refine S.noGoto_r ?_ | refine S.noGoto_n ?_ | refine S.noGoto_x ?_)
      exact S.fin (rs := [_, _]) (vs := [_, _]) Try.results25 (⟨rfl, rfl, trivial⟩)  (⟨⟨lv.a, kn, lv.c⟩, fun _ => rfl, by rw [decide_eq_true (by omega)]; rfl, by rw [hsn, if_pos (by omega), ← flat_take ceC_len]⟩) Sub.ent
end Go.Proofs.Ytknpddiffellgaa
