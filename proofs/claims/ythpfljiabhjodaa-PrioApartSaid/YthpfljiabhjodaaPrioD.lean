/- The heap: Push, Pop of its own; up, down, Push, Pop of package heap. -/
import Derived.Test.YthpfljiabhjodaaPrioC
namespace Go.Proofs.Ythpfljiabhjodaa
open Go.RowKit
set_option maxRecDepth 20000
theorem iPush_S (t m : Nat) (lv : SV) (L : List It) (M : List (Int × Value)) (x : It) (hl : L.length ≤ 1000) :
    Spec Try.prog 76 [.pointer (some ⟨t, 0, none⟩), .iface 25 (.agg (itC x).toArray)] [blk t 60 (hpC lv m), own lv 25 3 (L.flatMap itC), mapL m .u32 M] fun Γ _ Θ => ∃ lv' : SV, Θ = blk t 60 (hpC lv' m) :: own lv' 25 3 ((L ++ [x]).flatMap itC) :: mapL m .u32 (alPut x.id (.int .i64 L.length) M) :: Γ := by
  refine Spec.of_body Try.func76 rfl Try.ntmps76 rfl ?_
  intro w0 Γ
  show S _ w0 [(0, .pointer (some ⟨t, 0, none⟩)), (1, .iface 25 (.agg (itC x).toArray))] (blk t 60 (hpC lv m) :: own lv 25 3 (L.flatMap itC) :: mapL m .u32 M :: Γ) _
  refine S.ownLen lv fun hlen _ _ => ?_
  rw [flat_length itC_len] at hlen
  have hll : lv.n = L.length := by omega
  refine S.seq fun K1 hK1 => ?_
  refine S.region rfl ?_
  refine S.op (S.q (q_move rfl) rfl rfl ?_)
  refine S.op (S.q (q_assertOk (by rw [Try.underlying25]) rfl) rfl rfl ?_)
  refine S.op (S.q (q_move rfl) rfl rfl ?_)
  refine S.op (S.q (q_extract rfl rfl) rfl rfl ?_)
  refine S.op (S.q (q_extract rfl rfl) rfl rfl ?_)
  refine S.op (S.alloc Try.z25 rfl ?_)
  intro b4
  refine S.op (S.storeS (cs' := [_, _, _]) Try.ag25 rfl rfl rfl rfl rfl rfl ?_)
  refine S.op (S.q (q_assign rfl) rfl rfl ?_)
  first | with_reducible refine S.nilK ?_ | refine S.nil ?_
  refine hK1 _ _ ?_
  refine S.seq fun K2 hK2 => ?_
  refine S.region rfl ?_
  refine S.op (S.q (q_move rfl) rfl rfl ?_)
  first | with_reducible refine S.nilK ?_ | refine S.nil ?_
  refine hK2 _ _ ?_
  refine S.condT rfl ?_
  refine S.seq fun K3 hK3 => ?_
  refine S.draw ([blk t 60 (hpC lv m), blk b4 25 (itC x).toArray]) [11] Try.mixed ?_
  refine S.dr_take 0 [1, 2, 3, 11] rfl (by kernel_rfl) rfl rfl rfl (q_move rfl) Sub.ent ?_
  refine S.dr_take 1 [2, 3, 11] rfl (by kernel_rfl) rfl rfl rfl (q_nilCheck rfl) Sub.ent ?_
  refine S.dr_take 2 [3, 11] rfl (by kernel_rfl) rfl rfl rfl (q_field Try.fo58_1 rfl) Sub.ent ?_
  refine S.dr_take 3 [11] rfl (by kernel_rfl) rfl rfl rfl (q_load Try.at56 rfl rfl) Sub.ent ?_
  refine S.dr_take 4 [5, 11] rfl (by kernel_rfl) rfl rfl rfl (q_field Try.fo25_0 rfl) Sub.ent ?_
  refine S.dr_take 5 [11] rfl (by kernel_rfl) rfl rfl rfl (q_load Try.at22 rfl rfl) Sub.ent ?_
  refine S.dr_take 6 [7, 8, 9, 10, 11] rfl (by kernel_rfl) rfl rfl rfl (q_move rfl) Sub.ent ?_
  refine S.dr_take 7 [8, 9, 10, 11] rfl (by kernel_rfl) rfl rfl rfl (q_nilCheck rfl) Sub.ent ?_
  refine S.dr_take 8 [9, 10, 11] rfl (by kernel_rfl) rfl rfl rfl (q_field Try.fo58_0 rfl) Sub.ent ?_
  refine S.dr_take 9 [10, 11] rfl (by kernel_rfl) rfl rfl rfl (q_load Try.at52 rfl rfl) Sub.ent ?_
  refine S.dr_take 10 [11] rfl (by kernel_rfl) rfl rfl rfl (q_len Try.underlying52 rfl) Sub.ent ?_
  refine S.dr_1 (i := 11) (by kernel_rfl) rfl rfl ?_
  refine  (S.mapUpdate Try.underlying56 Try.underlying22 rfl rfl rfl rfl ?_)
  rw [show (lv.n : Int) = L.length by omega]
  refine S.dr_late ([]) [] rfl ?_
  first | with_reducible refine S.dr_doneK (by kernel_rfl) ?_ | refine S.dr_done (by kernel_rfl) ?_
  refine hK3 _ _ ?_
  refine S.draw ([blk t 60 (hpC lv m), blk b4 25 (itC x).toArray]) [10] Try.mixed ?_
  refine S.dr_take 0 [8, 9, 10] rfl (by kernel_rfl) rfl rfl rfl (q_move rfl) Sub.ent ?_
  refine S.dr_take 1 [2, 3, 4, 7, 8, 9, 10] rfl (by kernel_rfl) rfl rfl rfl (q_move rfl) Sub.ent ?_
  refine S.dr_take 2 [3, 4, 7, 8, 9, 10] rfl (by kernel_rfl) rfl rfl rfl (q_nilCheck rfl) Sub.ent ?_
  refine S.dr_take 3 [4, 7, 8, 9, 10] rfl (by kernel_rfl) rfl rfl rfl (q_field Try.fo58_0 rfl) Sub.ent ?_
  refine S.dr_take 4 [7, 8, 9, 10] rfl (by kernel_rfl) rfl rfl rfl (q_load Try.at52 rfl rfl) Sub.ent ?_
  refine S.dr_take 5 [6, 7, 8, 9, 10] rfl (by kernel_rfl) rfl rfl rfl (q_loadS [_, _, _] Try.ag25 rfl rfl ⟨rfl, rfl, rfl, trivial⟩) Sub.ent ?_
  refine S.dr_1 (i := 6) (by kernel_rfl) rfl rfl ?_
  refine  (S.buildSlice (pvs := [(_, _)]) [_, _, _] Try.underlying52 Try.inf25 rfl rfl ⟨⟨rfl, rfl⟩, trivial⟩ rfl rfl ?_)
  intro b29
  refine S.dr_k rfl Sub.ent ?_
  refine S.dr_1 (i := 7) (by kernel_rfl) rfl rfl ?_
  refine  (S.appendOw (s := lv) (1) (itC x) Try.underlying52 Try.inf25 rfl rfl rfl (blk_slAt (b := b29) rfl (by unfold maxLen; omega)) (by first | rfl | exact allOne_bcells _) (⟨by omega, by omega⟩) rfl ?_)
  intro lv' hlv'
  rw [flat_snoc itC L x]
  refine S.dr_k rfl Sub.ent ?_
  refine S.dr_take 8 [9, 10] rfl (by kernel_rfl) rfl rfl rfl (q_nilCheck rfl) Sub.ent ?_
  refine S.dr_take 9 [10] rfl (by kernel_rfl) rfl rfl rfl (q_field Try.fo58_0 rfl) Sub.ent ?_
  refine S.dr_1 (i := 10) (by kernel_rfl) rfl rfl ?_
  refine  (S.store (cs' := [_, _]) Try.at52 rfl rfl rfl rfl rfl ?_)
  refine S.dr_late ([]) [] rfl ?_
  first | with_reducible refine S.dr_doneK (by kernel_rfl) ?_ | refine S.dr_done (by kernel_rfl) ?_
  with_reducible repeat (first | refine S.then_n ?_ | refine S.then_x ?_ | refine S.then_r ?_ | refine S.inBlock_n ?_ | refine S.inBlock_r ?_ | refine S.inBlock_x rfl ?_ | refine S.noGoto_r ?_ | refine S.noGoto_n ?_ | refine S.noGoto_x ?_)
  exact S.finN (rs := []) (vs := []) Try.results76 (trivial)  (⟨lv', rfl⟩) Sub.ent
theorem iPop_S (t m : Nat) (lv : SV) (L : List It) (M : List (Int × Value)) (x : It) (hl : L.length ≤ 1000) :
    Spec Try.prog 75 [.pointer (some ⟨t, 0, none⟩)] [blk t 60 (hpC lv m), own lv 25 3 ((L ++ [x]).flatMap itC), mapL m .u32 M] fun Γ v Θ => ∃ lv' : SV, v = .iface 25 (.agg (itC x).toArray) ∧ Θ = blk t 60 (hpC lv' m) :: own lv' 25 3 (L.flatMap itC) :: mapL m .u32 (alDel x.id M) :: Γ := by
  refine Spec.of_body Try.func75 rfl Try.ntmps75 rfl ?_
  intro w0 Γ
  show S _ w0 [(0, .pointer (some ⟨t, 0, none⟩))] (blk t 60 (hpC lv m) :: own lv 25 3 ((L ++ [x]).flatMap itC) :: mapL m .u32 M :: Γ) _
  refine S.ownLen lv fun hlen hnc _ => ?_
  rw [flat_length itC_len] at hlen
  have hll : lv.n = L.length + 1 := by simp at hlen; omega
  refine S.ownSome lv (by omega) fun b off hb _ _ _ => ?_
  have hx : (L ++ [x])[L.length]? = some x := by simp
  refine S.seq fun K1 hK1 => ?_
  refine S.region rfl ?_
  refine S.op (S.q (q_assign rfl) rfl rfl ?_)
  first | with_reducible refine S.nilK ?_ | refine S.nil ?_
  refine hK1 _ _ ?_
  refine S.seq fun K2 hK2 => ?_
  refine S.region rfl ?_
  refine S.op (S.q (q_move rfl) rfl rfl ?_)
  refine S.op (S.q (q_nilCheck rfl) rfl rfl ?_)
  refine S.op (S.q (q_field Try.fo58_0 rfl) rfl rfl ?_)
  refine S.op (S.q (q_load Try.at52 rfl rfl) rfl rfl ?_)
  refine S.op (S.q (q_len Try.underlying52 rfl) rfl rfl ?_)
  refine S.op (S.q (q_sub rfl rfl (inI64 (by omega) (by omega))) rfl rfl ?_)
  refine S.op (S.q (q_assign rfl) rfl rfl ?_)
  first | with_reducible refine S.nilK ?_ | refine S.nil ?_
  refine hK2 _ _ ?_
  refine S.seq fun K3 hK3 => ?_
  refine S.region rfl ?_
  rw [show ((lv.n : Int) - 1) = (L.length : Int) by omega]
  refine S.op (S.q (q_move rfl) rfl rfl ?_)
  refine S.op (S.q (q_nilCheck rfl) rfl rfl ?_)
  refine S.op (S.q (q_field Try.fo58_0 rfl) rfl rfl ?_)
  refine S.op (S.q (q_load Try.at52 rfl rfl) rfl rfl ?_)
  refine S.op (S.q (q_move rfl) rfl rfl ?_)
  refine S.op (S.q (q_indexO (L.length) Try.el52 rfl hb rfl rfl (by omega)) rfl rfl ?_)
  refine S.op (S.q (q_loadOwS (lv) (L.length * 3) [_, _, _] Try.ag25 rfl hb (by first | rfl | exact Nat.add_assoc _ _ _ | omega) rfl (flat_seg (enc := itC) (sz := 3) (fun _ => rfl) hx)) rfl rfl ?_)
  refine S.op (S.alloc Try.z25 rfl ?_)
  intro b4
  refine S.op (S.storeS (cs' := [_, _, _]) Try.ag25 rfl rfl rfl rfl rfl rfl ?_)
  first | with_reducible refine S.nilK ?_ | refine S.nil ?_
  refine hK3 _ _ ?_
  refine S.seq fun K4 hK4 => ?_
  refine S.region rfl ?_
  refine S.op (S.q (q_move rfl) rfl rfl ?_)
  refine S.op (S.q (q_move rfl) rfl rfl ?_)
  refine S.op (S.q (q_nilCheck rfl) rfl rfl ?_)
  refine S.op (S.q (q_field Try.fo58_0 rfl) rfl rfl ?_)
  refine S.op (S.q (q_load Try.at52 rfl rfl) rfl rfl ?_)
  refine S.op (S.q (q_move rfl) rfl rfl ?_)
  refine S.op (S.q (q_sliceTo (L.length) Try.el52 rfl rfl rfl (by omega)) rfl rfl ?_)
  refine S.op (S.q (q_nilCheck rfl) rfl rfl ?_)
  refine S.op (S.q (q_field Try.fo58_0 rfl) rfl rfl ?_)
  refine S.op (S.store (cs' := [_, _]) Try.at52 rfl rfl rfl rfl rfl ?_)
  first | with_reducible refine S.nilK ?_ | refine S.nil ?_
  refine hK4 _ _ ?_
  refine S.seq fun K5 hK5 => ?_
  refine S.draw ([blk t 60 (hpC ⟨lv.a, L.length, lv.c⟩ m), blk b4 25 (itC x).toArray]) [6] Try.mixed ?_
  refine S.dr_take 0 [1, 2, 3, 6] rfl (by kernel_rfl) rfl rfl rfl (q_move rfl) Sub.ent ?_
  refine S.dr_take 1 [2, 3, 6] rfl (by kernel_rfl) rfl rfl rfl (q_nilCheck rfl) Sub.ent ?_
  refine S.dr_take 2 [3, 6] rfl (by kernel_rfl) rfl rfl rfl (q_field Try.fo58_1 rfl) Sub.ent ?_
  refine S.dr_take 3 [6] rfl (by kernel_rfl) rfl rfl rfl (q_load Try.at56 rfl rfl) Sub.ent ?_
  refine S.dr_take 4 [5, 6] rfl (by kernel_rfl) rfl rfl rfl (q_field Try.fo25_0 rfl) Sub.ent ?_
  refine S.dr_take 5 [6] rfl (by kernel_rfl) rfl rfl rfl (q_load Try.at22 rfl rfl) Sub.ent ?_
  refine S.dr_1 (i := 6) (by kernel_rfl) rfl rfl ?_
  refine  (S.mapDelete Try.underlying56 Try.underlying22 rfl rfl rfl ?_)
  refine S.dr_late ([]) [] rfl ?_
  first | with_reducible refine S.dr_doneK (by kernel_rfl) ?_ | refine S.dr_done (by kernel_rfl) ?_
  refine hK5 _ _ ?_
  refine S.seq fun K6 hK6 => ?_
  refine S.region rfl ?_
  refine S.op (S.q (q_loadS [_, _, _] Try.ag25 rfl rfl ⟨rfl, rfl, rfl, trivial⟩) rfl rfl ?_)
  refine S.op (S.q (q_makeInterface (by rw [Try.underlying25]) rfl) rfl rfl ?_)
  refine S.op (S.q (q_assign rfl) rfl rfl ?_)
  first | with_reducible refine S.nilK ?_ | refine S.nil ?_
  refine hK6 _ _ ?_
  refine S.ret ?_
  with_reducible repeat (first | refine S.then_n ?_ | refine S.then_x ?_ | refine S.then_r ?_ | refine S.inBlock_n ?_ | refine S.inBlock_r ?_ | refine S.inBlock_x rfl ?_ | refine S.noGoto_r ?_ | refine S.noGoto_n ?_ | refine S.noGoto_x ?_)
  refine S.conv (own lv 25 3 ((L ++ [x]).flatMap itC)) (Ent.ownTake lv 25 3 _ (k := L.length) (by omega) _) ?_
  rw [show ((L ++ [x]).flatMap itC).take (L.length * 3) = L.flatMap itC by rw [List.flatMap_append, ← flat_length itC_len L, List.take_left]]
  exact S.fin (rs := [_]) (vs := [_]) Try.results75 (⟨rfl, trivial⟩)  (⟨⟨lv.a, L.length, lv.c⟩, rfl, rfl⟩) Sub.ent
/-- The state of a heap's memory, whatever its elements. -/
abbrev HB (t m : Nat) (lv : SV) (L : List It) (M : List (Int × Value)) (Γ : List Assn) : List Assn := blk t 60 (hpC lv m) :: own lv 25 3 (L.flatMap itC) :: mapL m .u32 M :: Γ
theorem up_S (t m : Nat) (lv : SV) (n : Nat) (L : List It) (M : List (Int × Value)) (j : Nat) (hj : j < n) (hn : n ≤ L.length) (hl : L.length ≤ 1000) (hat : AtOk L M) (hu : UpOk n L j) :
    Spec Try.prog 36 [.iface 62 (.pointer (some ⟨t, 0, none⟩)), .int .i64 j] [blk t 60 (hpC lv m), own lv 25 3 (L.flatMap itC), mapL m .u32 M] fun Γ _ Θ =>
      ∃ L' M', L'.Perm L ∧ AtOk L' M' ∧ Heaped n L' ∧ (∀ k, n ≤ k → L'[k]? = L[k]?) ∧ Θ = HB t m lv L' M' Γ := by
  refine Spec.of_body Try.func36 rfl Try.ntmps36 rfl ?_
  intro w0 Γ
  show S _ w0 [(0, .iface 62 (.pointer (some ⟨t, 0, none⟩))), (1, .int .i64 j)] (HB t m lv L M Γ) _
  refine S.block ?_
  refine S.loop (fun mm ρ' Γ' => ∃ L' M', mm < n ∧ L'.Perm L ∧ AtOk L' M' ∧ UpOk n L' mm ∧ (∀ k, n ≤ k → L'[k]? = L[k]?) ∧ ρ' = [(0, .iface 62 (.pointer (some ⟨t, 0, none⟩))), (1, .int .i64 mm)] ∧ Γ' = HB t m lv L' M' Γ) (m := _) (ρ0 := _) (Γ0 := _) (⟨L, M, hj, .refl _, hat, hu, fun _ _ => rfl, rfl, rfl⟩) (by repeat (first | exact trivial | refine ⟨rfl, ?_⟩)) Sub.ent ?_
  rintro j ρ' Γ' ⟨L', M', hj', hperm, hat', hu', htail, rfl, rfl⟩
  have hll : L'.length = L.length := hperm.length_eq
  obtain ⟨x, hx⟩ := getE (l := L') (i := (j - 1) / 2) (by omega)
  obtain ⟨y, hy⟩ := getE (l := L') (i := j) (by omega)
  refine S.block ?_
  refine S.seq fun K1 hK1 => ?_
  refine S.region rfl ?_
  refine S.op (S.q (q_move rfl) rfl rfl ?_)
  refine S.op (S.q (q_sub rfl rfl (inI64 (by omega) (by omega))) rfl rfl ?_)
  refine S.op (S.q (q_half j rfl rfl (by omega)) rfl rfl ?_)
  refine S.op (S.q (q_assign rfl) rfl rfl ?_)
  first | with_reducible refine S.nilK ?_ | refine S.nil ?_
  refine hK1 _ _ ?_
  refine S.seq fun K2 hK2 => ?_
  refine S.seq fun K3 hK3 => ?_
  refine S.regionG ?_
  refine S.g_op rfl (S.q (q_move rfl) rfl rfl ?_)
  refine S.g_op rfl (S.q (q_move rfl) rfl rfl ?_)
  refine S.g_op rfl (S.q (q_eq rfl rfl) rfl rfl ?_)
  refine S.g_op rfl (S.q (q_move rfl) rfl rfl ?_)
  by_cases hg1_3 : (((j - 1) / 2 : Nat) : Int) = j
  · refine S.g_no rfl rfl rfl (decide_eq_true hg1_3) rfl rfl ?_
    refine S.g_no rfl rfl rfl (decide_eq_true hg1_3) rfl rfl ?_
    refine S.g_no rfl rfl rfl (decide_eq_true hg1_3) rfl rfl ?_
    refine S.g_no rfl rfl rfl (decide_eq_true hg1_3) rfl rfl ?_
    refine S.g_no rfl rfl rfl (decide_eq_true hg1_3) rfl rfl ?_
    refine S.g_op rfl (S.q (q_pickT rfl (decide_eq_true hg1_3) rfl) rfl rfl ?_)
    first | with_reducible refine S.g_nilK ?_ | refine S.g_nil ?_
    refine hK3 _ _ ?_
    refine S.condT rfl ?_
    refine S.exit ?_
    with_reducible repeat (first | refine S.then_n ?_ | refine S.then_x ?_ | refine S.then_r ?_ | refine S.inBlock_n ?_ | refine S.inBlock_r ?_ | refine S.inBlock_x rfl ?_ | refine S.noGoto_r ?_ | refine S.noGoto_n ?_ | refine S.noGoto_x ?_)
    with_reducible refine S.inBlock_s ?_
    with_reducible repeat (first | refine S.then_n ?_ | refine S.then_x ?_ | refine S.then_r ?_ | refine S.inBlock_n ?_ | refine S.inBlock_r ?_ | refine S.inBlock_x rfl ?_ | refine S.noGoto_r ?_ | refine S.noGoto_n ?_ | refine S.noGoto_x ?_)
    with_reducible repeat (first | refine S.then_n ?_ | refine S.then_x ?_ | refine S.then_r ?_ | refine S.inBlock_n ?_ | refine S.inBlock_r ?_ | refine S.inBlock_x rfl ?_ | refine S.noGoto_r ?_ | refine S.noGoto_n ?_ | refine S.noGoto_x ?_)
    exact S.finN (rs := []) (vs := []) Try.results36 (trivial)  (⟨L', M', hperm, hat', by first | exact upStop0 ((show j = 0 by omega) ▸ hu') | exact upStop hu' hx hy (by simpa using h1), htail, rfl⟩) Sub.ent
  · refine S.g_yes rfl rfl rfl (decide_eq_false hg1_3) (S.q (q_move rfl) rfl rfl ?_)
    refine S.g_yes rfl rfl rfl (decide_eq_false hg1_3) (S.q (q_move rfl) rfl rfl ?_)
    refine S.g_yes rfl rfl rfl (decide_eq_false hg1_3) (S.q (q_move rfl) rfl rfl ?_)
    refine S.g_yes rfl rfl rfl (decide_eq_false hg1_3) (S.callI (f := 74) (vs := [_, _]) (by kernel_rfl) Try.en74 rfl ⟨rfl, rfl, trivial⟩ (Less_S t m lv L' j ((j - 1) / 2) y x hy hx) rfl ?_)
    rintro v Θ ⟨rfl, rfl⟩
    refine S.g_yes rfl rfl rfl (decide_eq_false hg1_3) (S.q (q_not rfl) rfl rfl ?_)
    refine S.g_op rfl (S.q (q_pickF rfl (decide_eq_false hg1_3) rfl) rfl rfl ?_)
    first | with_reducible refine S.g_nilK ?_ | refine S.g_nil ?_
    refine hK3 _ _ ?_
    refine S.cond rfl (fun h1 => ?_) (fun h1 => ?_)
    · refine S.exit ?_
      with_reducible repeat (first | refine S.then_n ?_ | refine S.then_x ?_ | refine S.then_r ?_ | refine S.inBlock_n ?_ | refine S.inBlock_r ?_ | refine S.inBlock_x rfl ?_ | refine S.noGoto_r ?_ | refine S.noGoto_n ?_ | refine S.noGoto_x ?_)
      with_reducible refine S.inBlock_s ?_
      with_reducible repeat (first | refine S.then_n ?_ | refine S.then_x ?_ | refine S.then_r ?_ | refine S.inBlock_n ?_ | refine S.inBlock_r ?_ | refine S.inBlock_x rfl ?_ | refine S.noGoto_r ?_ | refine S.noGoto_n ?_ | refine S.noGoto_x ?_)
      with_reducible repeat (first | refine S.then_n ?_ | refine S.then_x ?_ | refine S.then_r ?_ | refine S.inBlock_n ?_ | refine S.inBlock_r ?_ | refine S.inBlock_x rfl ?_ | refine S.noGoto_r ?_ | refine S.noGoto_n ?_ | refine S.noGoto_x ?_)
      exact S.finN (rs := []) (vs := []) Try.results36 (trivial)  (⟨L', M', hperm, hat', by first | exact upStop0 ((show j = 0 by omega) ▸ hu') | exact upStop hu' hx hy (by simpa using h1), htail, rfl⟩) Sub.ent
    · refine S.skip ?_
      with_reducible repeat (first | refine S.then_n ?_ | refine S.then_x ?_ | refine S.then_r ?_ | refine S.inBlock_n ?_ | refine S.inBlock_r ?_ | refine S.inBlock_x rfl ?_ | refine S.noGoto_r ?_ | refine S.noGoto_n ?_ | refine S.noGoto_x ?_)
      refine hK2 _ _ ?_
      refine S.seq fun K4 hK4 => ?_
      refine S.region rfl ?_
      refine S.op (S.q (q_move rfl) rfl rfl ?_)
      refine S.op (S.q (q_move rfl) rfl rfl ?_)
      refine S.op (S.q (q_move rfl) rfl rfl ?_)
      refine S.op (S.callI (f := 77) (vs := [_, _]) (by kernel_rfl) Try.en77 rfl ⟨rfl, rfl, trivial⟩ (Swap_S t m lv L' M' hat' ((j - 1) / 2) j x y hx hy) rfl ?_)
      rintro v Θ rfl
      first | with_reducible refine S.nilK ?_ | refine S.nil ?_
      refine hK4 _ _ ?_
      refine S.region rfl ?_
      refine S.op (S.q (q_move rfl) rfl rfl ?_)
      refine S.op (S.q (q_assign rfl) rfl rfl ?_)
      first | with_reducible refine S.nilK ?_ | refine S.nil ?_
      with_reducible repeat (first | refine S.then_n ?_ | refine S.then_x ?_ | refine S.then_r ?_ | refine S.inBlock_n ?_ | refine S.inBlock_r ?_ | refine S.inBlock_x rfl ?_ | refine S.noGoto_r ?_ | refine S.noGoto_n ?_ | refine S.noGoto_x ?_)
      with_reducible repeat (first | refine S.then_n ?_ | refine S.then_x ?_ | refine S.then_r ?_ | refine S.inBlock_n ?_ | refine S.inBlock_r ?_ | refine S.inBlock_x rfl ?_ | refine S.noGoto_r ?_ | refine S.noGoto_n ?_ | refine S.noGoto_x ?_)
      exact S.next ((j - 1) / 2) (⟨swp L' ((j - 1) / 2) j x y, _, by omega, (swp_perm hx hy).trans hperm, hat'.swap hx hy, upStep hu' (by omega) hj' hx hy (by simpa using h1), fun k hk => by rw [swp_get hx hy, if_neg (by omega), if_neg (by omega)]; exact htail k hk, rfl, rfl⟩) (by omega) (by repeat (first | exact trivial | refine ⟨rfl, ?_⟩)) Sub.ent
theorem down_S (t m : Nat) (lv : SV) (n i0 : Nat) (L : List It) (M : List (Int × Value)) (hi : i0 ≤ n) (hn : n ≤ L.length) (hl : L.length ≤ 1000) (hat : AtOk L M) (hd : DownOk n i0 L i0) :
    Spec Try.prog 37 [.iface 62 (.pointer (some ⟨t, 0, none⟩)), .int .i64 i0, .int .i64 n] [blk t 60 (hpC lv m), own lv 25 3 (L.flatMap itC), mapL m .u32 M] fun Γ v Θ =>
      ∃ L' M' i, v = .bool (decide ((i0 : Int) < (i : Nat))) ∧ L'.Perm L ∧ AtOk L' M' ∧ i0 ≤ i ∧ (i = i0 → L' = L) ∧ (∀ c, 0 < c → c < n → (c = i0 ∧ i = i0) ∨ Ok L' c) ∧ (∀ k, n ≤ k → L'[k]? = L[k]?) ∧ Θ = HB t m lv L' M' Γ := by
  refine Spec.of_body Try.func37 rfl Try.ntmps37 rfl ?_
  intro w0 Γ
  show S _ w0 [(0, .iface 62 (.pointer (some ⟨t, 0, none⟩))), (1, .int .i64 i0), (2, .int .i64 n)] (HB t m lv L M Γ) _
  refine S.seq fun K1 hK1 => ?_
  refine S.region rfl ?_
  refine S.op (S.q (q_assign rfl) rfl rfl ?_)
  first | with_reducible refine S.nilK ?_ | refine S.nil ?_
  refine hK1 _ _ ?_
  refine S.seq fun K2 hK2 => ?_
  refine S.region rfl ?_
  refine S.op (S.q (q_move rfl) rfl rfl ?_)
  refine S.op (S.q (q_assign rfl) rfl rfl ?_)
  first | with_reducible refine S.nilK ?_ | refine S.nil ?_
  refine hK2 _ _ ?_
  refine S.seq fun K3 hK3 => ?_
  refine S.cut (fun ρ' Γ' => ∃ i L' M', L'.Perm L ∧ AtOk L' M' ∧ i0 ≤ i ∧ (i = i0 → L' = L) ∧ (∀ c, 0 < c → c < n → (c = i0 ∧ i = i0) ∨ Ok L' c) ∧ (∀ k, n ≤ k → L'[k]? = L[k]?) ∧ ρ' = [(1, .int .i64 i0), (7, .int .i64 (i : Nat))] ∧ Γ' = HB t m lv L' M' Γ) ?_ ?_
  · refine S.block ?_
    refine S.loop (fun mm ρ' Γ' => ∃ i L' M', mm = n - i ∧ i ≤ n ∧ i0 ≤ i ∧ (i = i0 → L' = L) ∧ L'.Perm L ∧ AtOk L' M' ∧ DownOk n i0 L' i ∧ (∀ k, n ≤ k → L'[k]? = L[k]?) ∧ ρ' = [(0, .iface 62 (.pointer (some ⟨t, 0, none⟩))), (1, .int .i64 i0), (2, .int .i64 n), (7, .int .i64 (i : Nat))] ∧ Γ' = HB t m lv L' M' Γ) (m := _) (ρ0 := _) (Γ0 := _) (⟨i0, L, M, rfl, hi, Nat.le_refl _, fun _ => rfl, .refl _, hat, hd, fun _ _ => rfl, rfl, rfl⟩) (by repeat (first | exact trivial | refine ⟨rfl, ?_⟩)) Sub.ent ?_
    rintro mm ρ' Γ' ⟨i, L', M', hmm, hin, hi0, hsame, hperm, hat', hdo, htail, rfl, rfl⟩
    have hll : L'.length = L.length := hperm.length_eq
    refine S.block ?_
    refine S.seq fun K4 hK4 => ?_
    refine S.region rfl ?_
    refine S.op (S.q (q_move rfl) rfl rfl ?_)
    refine S.op (S.q (q_mul rfl rfl (inI64 (by omega) (by omega))) rfl rfl ?_)
    refine S.op (S.q (q_add rfl rfl (inI64 (by omega) (by omega))) rfl rfl ?_)
    refine S.op (S.q (q_assign rfl) rfl rfl ?_)
    first | with_reducible refine S.nilK ?_ | refine S.nil ?_
    refine hK4 _ _ ?_
    refine S.seq fun K5 hK5 => ?_
    refine S.seq fun K6 hK6 => ?_
    refine S.regionG ?_
    refine S.g_op rfl (S.q (q_move rfl) rfl rfl ?_)
    refine S.g_op rfl (S.q (q_move rfl) rfl rfl ?_)
    refine S.g_op rfl (S.q (q_ge rfl rfl) rfl rfl ?_)
    refine S.g_op rfl (S.q (q_move rfl) rfl rfl ?_)
    by_cases hg3_3 : (n : Int) ≤ 2 * (i : Nat) + 1
    · refine S.g_no rfl rfl rfl (decide_eq_true hg3_3) rfl rfl ?_
      refine S.g_no rfl rfl rfl (decide_eq_true hg3_3) rfl rfl ?_
      refine S.g_op rfl (S.q (q_pickT rfl (decide_eq_true hg3_3) rfl) rfl rfl ?_)
      first | with_reducible refine S.g_nilK ?_ | refine S.g_nil ?_
      refine hK6 _ _ ?_
      refine S.condT rfl ?_
      refine S.exit ?_
      with_reducible repeat (first | refine S.then_n ?_ | refine S.then_x ?_ | refine S.then_r ?_ | refine S.inBlock_n ?_ | refine S.inBlock_r ?_ | refine S.inBlock_x rfl ?_ | refine S.noGoto_r ?_ | refine S.noGoto_n ?_ | refine S.noGoto_x ?_)
      with_reducible refine S.inBlock_s ?_
      with_reducible repeat (first | refine S.then_n ?_ | refine S.then_x ?_ | refine S.then_r ?_ | refine S.inBlock_n ?_ | refine S.inBlock_r ?_ | refine S.inBlock_x rfl ?_ | refine S.noGoto_r ?_ | refine S.noGoto_n ?_ | refine S.noGoto_x ?_)
      with_reducible repeat (first | refine S.then_n ?_ | refine S.then_x ?_ | refine S.then_r ?_ | refine S.inBlock_n ?_ | refine S.inBlock_r ?_ | refine S.inBlock_x rfl ?_ | refine S.noGoto_r ?_ | refine S.noGoto_n ?_ | refine S.noGoto_x ?_)
      first
      | exact S.meet ⟨i, L', M', hperm, hat', hi0, hsame, downStop hdo (fun c c0 cn ce => by omega), htail, rfl, rfl⟩ ⟨rfl, rfl, trivial⟩ Sub.ent
      | exact S.meet ⟨i, L', M', hperm, hat', hi0, hsame, downStop hdo (fun c c0 cn ce a p ha hp => by rw [ce, hx] at hp; cases hp; exact bf_nt (hmin c a c0 cn ce ha) (by simpa using h3)), htail, rfl, rfl⟩ ⟨rfl, rfl, trivial⟩ Sub.ent
    · refine S.g_yes rfl rfl rfl (decide_eq_false hg3_3) (S.q (q_move rfl) rfl rfl ?_)
      refine S.g_yes rfl rfl rfl (decide_eq_false hg3_3) (S.q (q_lt rfl rfl) rfl rfl ?_)
      refine S.g_op rfl (S.q (q_pickF rfl (decide_eq_false hg3_3) rfl) rfl rfl ?_)
      first | with_reducible refine S.g_nilK ?_ | refine S.g_nil ?_
      refine hK6 _ _ ?_
      refine S.condD rfl (fun h1 => ?_) (fun h1 => ?_)
      · exact absurd h1 (by omega)
      · refine S.skip ?_
        with_reducible repeat (first | refine S.then_n ?_ | refine S.then_x ?_ | refine S.then_r ?_ | refine S.inBlock_n ?_ | refine S.inBlock_r ?_ | refine S.inBlock_x rfl ?_ | refine S.noGoto_r ?_ | refine S.noGoto_n ?_ | refine S.noGoto_x ?_)
        refine hK5 _ _ ?_
        refine S.seq fun K7 hK7 => ?_
        refine S.region rfl ?_
        refine S.op (S.q (q_move rfl) rfl rfl ?_)
        refine S.op (S.q (q_assign rfl) rfl rfl ?_)
        first | with_reducible refine S.nilK ?_ | refine S.nil ?_
        refine hK7 _ _ ?_
        refine S.seq fun K8 hK8 => ?_
        refine S.seq fun K9 hK9 => ?_
        refine S.region rfl ?_
        refine S.op (S.q (q_move rfl) rfl rfl ?_)
        refine S.op (S.q (q_add rfl rfl (inI64 (by omega) (by omega))) rfl rfl ?_)
        refine S.op (S.q (q_assign rfl) rfl rfl ?_)
        first | with_reducible refine S.nilK ?_ | refine S.nil ?_
        refine hK9 _ _ ?_
        refine S.seq fun K10 hK10 => ?_
        refine S.regionG ?_
        obtain ⟨x, hx⟩ := getE (l := L') (i := i) (by omega)
        obtain ⟨y1, hy1⟩ := getE (l := L') (i := 2 * i + 1) (by omega)
        refine S.g_op rfl (S.q (q_move rfl) rfl rfl ?_)
        refine S.g_op rfl (S.q (q_move rfl) rfl rfl ?_)
        refine S.g_op rfl (S.q (q_lt rfl rfl) rfl rfl ?_)
        refine S.g_op rfl (S.q (q_move rfl) rfl rfl ?_)
        by_cases hg6_3 : 2 * ((i : Nat) : Int) + 1 + 1 < n
        · obtain ⟨y2, hy2⟩ := getE (l := L') (i := 2 * i + 2) (by omega)
          refine S.g_yes rfl rfl rfl (decide_eq_true hg6_3) (S.q (q_move rfl) rfl rfl ?_)
          refine S.g_yes rfl rfl rfl (decide_eq_true hg6_3) (S.q (q_move rfl) rfl rfl ?_)
          refine S.g_yes rfl rfl rfl (decide_eq_true hg6_3) (S.q (q_move rfl) rfl rfl ?_)
          refine S.g_yes rfl rfl rfl (decide_eq_true hg6_3) (S.callI (f := 74) (vs := [_, _]) (by kernel_rfl) Try.en74 rfl ⟨rfl, rfl, trivial⟩ (Less_S t m lv L' (2 * i + 2) (2 * i + 1) y2 y1 hy2 hy1) rfl ?_)
          rintro v Θ ⟨rfl, rfl⟩
          refine S.g_op rfl (S.q (q_pickT rfl (decide_eq_true hg6_3) rfl) rfl rfl ?_)
          first | with_reducible refine S.g_nilK ?_ | refine S.g_nil ?_
          refine hK10 _ _ ?_
          refine S.cut (fun ρ' Γ' => ∃ (j : Nat) (y : It), (j = 2 * i + 1 ∨ j = 2 * i + 2) ∧ j < n ∧ L'[j]? = some y ∧ (∀ c a, 0 < c → c < n → (c - 1) / 2 = i → L'[c]? = some a → bf a y = false) ∧ ρ' = [(0, .iface 62 (.pointer (some ⟨t, 0, none⟩))), (1, .int .i64 i0), (2, .int .i64 n), (7, .int .i64 (i : Nat)), (9, .int .i64 (j : Nat))] ∧ Γ' = HB t m lv L' M' Γ) ?_ ?_
          · refine S.cond rfl (fun h2 => ?_) (fun h2 => ?_)
            · refine S.region rfl ?_
              refine S.op (S.q (q_move rfl) rfl rfl ?_)
              refine S.op (S.q (q_assign rfl) rfl rfl ?_)
              first | with_reducible refine S.nilK ?_ | refine S.nil ?_
              with_reducible repeat (first | refine S.then_n ?_ | refine S.then_x ?_ | refine S.then_r ?_ | refine S.inBlock_n ?_ | refine S.inBlock_r ?_ | refine S.inBlock_x rfl ?_ | refine S.noGoto_r ?_ | refine S.noGoto_n ?_ | refine S.noGoto_x ?_)
              first
              | exact S.meet ⟨2 * i + 1, y1, .inl rfl, by omega, hy1, fun c a c0 cn ce ha => (by obtain rfl : c = 2 * i + 1 := (by omega); rw [hy1] at ha; cases ha; exact bf_irr _), rfl, rfl⟩ ⟨rfl, rfl, rfl, rfl, rfl, trivial⟩ Sub.ent
              | exact S.meet ⟨2 * i + 2, y2, .inr rfl, by omega, hy2, fun c a c0 cn ce ha => (by rcases (show c = 2 * i + 1 ∨ c = 2 * i + 2 by omega) with rfl | rfl <;> first | (rw [hy1] at ha; cases ha; exact bf_as h2) | (rw [hy2] at ha; cases ha; exact bf_irr _)), rfl, rfl⟩ ⟨rfl, rfl, rfl, rfl, rfl, trivial⟩ Sub.ent
              | exact S.meet ⟨2 * i + 1, y1, .inl rfl, by omega, hy1, fun c a c0 cn ce ha => (by rcases (show c = 2 * i + 1 ∨ c = 2 * i + 2 by omega) with rfl | rfl <;> first | (rw [hy1] at ha; cases ha; exact bf_irr _) | (rw [hy2] at ha; cases ha; exact h2)), rfl, rfl⟩ ⟨rfl, rfl, rfl, rfl, rfl, trivial⟩ Sub.ent
            · refine S.skip ?_
              with_reducible repeat (first | refine S.then_n ?_ | refine S.then_x ?_ | refine S.then_r ?_ | refine S.inBlock_n ?_ | refine S.inBlock_r ?_ | refine S.inBlock_x rfl ?_ | refine S.noGoto_r ?_ | refine S.noGoto_n ?_ | refine S.noGoto_x ?_)
              with_reducible repeat (first | refine S.then_n ?_ | refine S.then_x ?_ | refine S.then_r ?_ | refine S.inBlock_n ?_ | refine S.inBlock_r ?_ | refine S.inBlock_x rfl ?_ | refine S.noGoto_r ?_ | refine S.noGoto_n ?_ | refine S.noGoto_x ?_)
              first
              | exact S.meet ⟨2 * i + 1, y1, .inl rfl, by omega, hy1, fun c a c0 cn ce ha => (by obtain rfl : c = 2 * i + 1 := (by omega); rw [hy1] at ha; cases ha; exact bf_irr _), rfl, rfl⟩ ⟨rfl, rfl, rfl, rfl, rfl, trivial⟩ Sub.ent
              | exact S.meet ⟨2 * i + 2, y2, .inr rfl, by omega, hy2, fun c a c0 cn ce ha => (by rcases (show c = 2 * i + 1 ∨ c = 2 * i + 2 by omega) with rfl | rfl <;> first | (rw [hy1] at ha; cases ha; exact bf_as h2) | (rw [hy2] at ha; cases ha; exact bf_irr _)), rfl, rfl⟩ ⟨rfl, rfl, rfl, rfl, rfl, trivial⟩ Sub.ent
              | exact S.meet ⟨2 * i + 1, y1, .inl rfl, by omega, hy1, fun c a c0 cn ce ha => (by rcases (show c = 2 * i + 1 ∨ c = 2 * i + 2 by omega) with rfl | rfl <;> first | (rw [hy1] at ha; cases ha; exact bf_irr _) | (rw [hy2] at ha; cases ha; exact h2)), rfl, rfl⟩ ⟨rfl, rfl, rfl, rfl, rfl, trivial⟩ Sub.ent
          · rintro ρ' Γ' ⟨j, y, hj12, hjn, hy, hmin, rfl, rfl⟩
            refine hK8 _ _ ?_
            refine S.seq fun K11 hK11 => ?_
            refine S.seq fun K12 hK12 => ?_
            refine S.region rfl ?_
            refine S.op (S.q (q_move rfl) rfl rfl ?_)
            refine S.op (S.q (q_move rfl) rfl rfl ?_)
            refine S.op (S.q (q_move rfl) rfl rfl ?_)
            refine S.op (S.callI (f := 74) (vs := [_, _]) (by kernel_rfl) Try.en74 rfl ⟨rfl, rfl, trivial⟩ (Less_S t m lv L' j i y x hy hx) rfl ?_)
            rintro v Θ ⟨rfl, rfl⟩
            refine S.op (S.q (q_not rfl) rfl rfl ?_)
            first | with_reducible refine S.nilK ?_ | refine S.nil ?_
            refine hK12 _ _ ?_
            refine S.cond rfl (fun h3 => ?_) (fun h3 => ?_)
            · refine S.exit ?_
              with_reducible repeat (first | refine S.then_n ?_ | refine S.then_x ?_ | refine S.then_r ?_ | refine S.inBlock_n ?_ | refine S.inBlock_r ?_ | refine S.inBlock_x rfl ?_ | refine S.noGoto_r ?_ | refine S.noGoto_n ?_ | refine S.noGoto_x ?_)
              with_reducible refine S.inBlock_s ?_
              with_reducible repeat (first | refine S.then_n ?_ | refine S.then_x ?_ | refine S.then_r ?_ | refine S.inBlock_n ?_ | refine S.inBlock_r ?_ | refine S.inBlock_x rfl ?_ | refine S.noGoto_r ?_ | refine S.noGoto_n ?_ | refine S.noGoto_x ?_)
              with_reducible repeat (first | refine S.then_n ?_ | refine S.then_x ?_ | refine S.then_r ?_ | refine S.inBlock_n ?_ | refine S.inBlock_r ?_ | refine S.inBlock_x rfl ?_ | refine S.noGoto_r ?_ | refine S.noGoto_n ?_ | refine S.noGoto_x ?_)
              first
              | exact S.meet ⟨i, L', M', hperm, hat', hi0, hsame, downStop hdo (fun c c0 cn ce => by omega), htail, rfl, rfl⟩ ⟨rfl, rfl, trivial⟩ Sub.ent
              | exact S.meet ⟨i, L', M', hperm, hat', hi0, hsame, downStop hdo (fun c c0 cn ce a p ha hp => by rw [ce, hx] at hp; cases hp; exact bf_nt (hmin c a c0 cn ce ha) (by simpa using h3)), htail, rfl, rfl⟩ ⟨rfl, rfl, trivial⟩ Sub.ent
            · refine S.skip ?_
              with_reducible repeat (first | refine S.then_n ?_ | refine S.then_x ?_ | refine S.then_r ?_ | refine S.inBlock_n ?_ | refine S.inBlock_r ?_ | refine S.inBlock_x rfl ?_ | refine S.noGoto_r ?_ | refine S.noGoto_n ?_ | refine S.noGoto_x ?_)
              refine hK11 _ _ ?_
              refine S.seq fun K13 hK13 => ?_
              refine S.region rfl ?_
              refine S.op (S.q (q_move rfl) rfl rfl ?_)
              refine S.op (S.q (q_move rfl) rfl rfl ?_)
              refine S.op (S.q (q_move rfl) rfl rfl ?_)
              refine S.op (S.callI (f := 77) (vs := [_, _]) (by kernel_rfl) Try.en77 rfl ⟨rfl, rfl, trivial⟩ (Swap_S t m lv L' M' hat' i j x y hx hy) rfl ?_)
              rintro v Θ rfl
              first | with_reducible refine S.nilK ?_ | refine S.nil ?_
              refine hK13 _ _ ?_
              refine S.region rfl ?_
              refine S.op (S.q (q_move rfl) rfl rfl ?_)
              refine S.op (S.q (q_assign rfl) rfl rfl ?_)
              first | with_reducible refine S.nilK ?_ | refine S.nil ?_
              with_reducible repeat (first | refine S.then_n ?_ | refine S.then_x ?_ | refine S.then_r ?_ | refine S.inBlock_n ?_ | refine S.inBlock_r ?_ | refine S.inBlock_x rfl ?_ | refine S.noGoto_r ?_ | refine S.noGoto_n ?_ | refine S.noGoto_x ?_)
              with_reducible repeat (first | refine S.then_n ?_ | refine S.then_x ?_ | refine S.then_r ?_ | refine S.inBlock_n ?_ | refine S.inBlock_r ?_ | refine S.inBlock_x rfl ?_ | refine S.noGoto_r ?_ | refine S.noGoto_n ?_ | refine S.noGoto_x ?_)
              exact S.next (n - j) (⟨j, swp L' i j x y, _, rfl, by omega, by omega, fun e => by omega, (swp_perm hx hy).trans hperm, hat'.swap hx hy, downStep hdo (by omega) (by omega) hjn hx hy (by simpa using h3) hmin, fun k hk => by rw [swp_get hx hy, if_neg (by omega), if_neg (by omega)]; exact htail k hk, rfl, rfl⟩) (by omega) (by repeat (first | exact trivial | refine ⟨rfl, ?_⟩)) Sub.ent
        · refine S.g_no rfl rfl rfl (decide_eq_false hg6_3) rfl rfl ?_
          refine S.g_no rfl rfl rfl (decide_eq_false hg6_3) rfl rfl ?_
          refine S.g_no rfl rfl rfl (decide_eq_false hg6_3) rfl rfl ?_
          refine S.g_no rfl rfl rfl (decide_eq_false hg6_3) rfl rfl ?_
          refine S.g_op rfl (S.q (q_pickF rfl (decide_eq_false hg6_3) rfl) rfl rfl ?_)
          first | with_reducible refine S.g_nilK ?_ | refine S.g_nil ?_
          refine hK10 _ _ ?_
          refine S.cut (fun ρ' Γ' => ∃ (j : Nat) (y : It), (j = 2 * i + 1 ∨ j = 2 * i + 2) ∧ j < n ∧ L'[j]? = some y ∧ (∀ c a, 0 < c → c < n → (c - 1) / 2 = i → L'[c]? = some a → bf a y = false) ∧ ρ' = [(0, .iface 62 (.pointer (some ⟨t, 0, none⟩))), (1, .int .i64 i0), (2, .int .i64 n), (7, .int .i64 (i : Nat)), (9, .int .i64 (j : Nat))] ∧ Γ' = HB t m lv L' M' Γ) ?_ ?_
          · refine S.condF rfl ?_
            refine S.skip ?_
            with_reducible repeat (first | refine S.then_n ?_ | refine S.then_x ?_ | refine S.then_r ?_ | refine S.inBlock_n ?_ | refine S.inBlock_r ?_ | refine S.inBlock_x rfl ?_ | refine S.noGoto_r ?_ | refine S.noGoto_n ?_ | refine S.noGoto_x ?_)
            with_reducible repeat (first | refine S.then_n ?_ | refine S.then_x ?_ | refine S.then_r ?_ | refine S.inBlock_n ?_ | refine S.inBlock_r ?_ | refine S.inBlock_x rfl ?_ | refine S.noGoto_r ?_ | refine S.noGoto_n ?_ | refine S.noGoto_x ?_)
            first
            | exact S.meet ⟨2 * i + 1, y1, .inl rfl, by omega, hy1, fun c a c0 cn ce ha => (by obtain rfl : c = 2 * i + 1 := (by omega); rw [hy1] at ha; cases ha; exact bf_irr _), rfl, rfl⟩ ⟨rfl, rfl, rfl, rfl, rfl, trivial⟩ Sub.ent
            | exact S.meet ⟨2 * i + 2, y2, .inr rfl, by omega, hy2, fun c a c0 cn ce ha => (by rcases (show c = 2 * i + 1 ∨ c = 2 * i + 2 by omega) with rfl | rfl <;> first | (rw [hy1] at ha; cases ha; exact bf_as h2) | (rw [hy2] at ha; cases ha; exact bf_irr _)), rfl, rfl⟩ ⟨rfl, rfl, rfl, rfl, rfl, trivial⟩ Sub.ent
            | exact S.meet ⟨2 * i + 1, y1, .inl rfl, by omega, hy1, fun c a c0 cn ce ha => (by rcases (show c = 2 * i + 1 ∨ c = 2 * i + 2 by omega) with rfl | rfl <;> first | (rw [hy1] at ha; cases ha; exact bf_irr _) | (rw [hy2] at ha; cases ha; exact h2)), rfl, rfl⟩ ⟨rfl, rfl, rfl, rfl, rfl, trivial⟩ Sub.ent
          · rintro ρ' Γ' ⟨j, y, hj12, hjn, hy, hmin, rfl, rfl⟩
            refine hK8 _ _ ?_
            refine S.seq fun K14 hK14 => ?_
            refine S.seq fun K15 hK15 => ?_
            refine S.region rfl ?_
            refine S.op (S.q (q_move rfl) rfl rfl ?_)
            refine S.op (S.q (q_move rfl) rfl rfl ?_)
            refine S.op (S.q (q_move rfl) rfl rfl ?_)
            refine S.op (S.callI (f := 74) (vs := [_, _]) (by kernel_rfl) Try.en74 rfl ⟨rfl, rfl, trivial⟩ (Less_S t m lv L' j i y x hy hx) rfl ?_)
            rintro v Θ ⟨rfl, rfl⟩
            refine S.op (S.q (q_not rfl) rfl rfl ?_)
            first | with_reducible refine S.nilK ?_ | refine S.nil ?_
            refine hK15 _ _ ?_
            refine S.cond rfl (fun h3 => ?_) (fun h3 => ?_)
            · refine S.exit ?_
              with_reducible repeat (first | refine S.then_n ?_ | refine S.then_x ?_ | refine S.then_r ?_ | refine S.inBlock_n ?_ | refine S.inBlock_r ?_ | refine S.inBlock_x rfl ?_ | refine S.noGoto_r ?_ | refine S.noGoto_n ?_ | refine S.noGoto_x ?_)
              with_reducible refine S.inBlock_s ?_
              with_reducible repeat (first | refine S.then_n ?_ | refine S.then_x ?_ | refine S.then_r ?_ | refine S.inBlock_n ?_ | refine S.inBlock_r ?_ | refine S.inBlock_x rfl ?_ | refine S.noGoto_r ?_ | refine S.noGoto_n ?_ | refine S.noGoto_x ?_)
              with_reducible repeat (first | refine S.then_n ?_ | refine S.then_x ?_ | refine S.then_r ?_ | refine S.inBlock_n ?_ | refine S.inBlock_r ?_ | refine S.inBlock_x rfl ?_ | refine S.noGoto_r ?_ | refine S.noGoto_n ?_ | refine S.noGoto_x ?_)
              first
              | exact S.meet ⟨i, L', M', hperm, hat', hi0, hsame, downStop hdo (fun c c0 cn ce => by omega), htail, rfl, rfl⟩ ⟨rfl, rfl, trivial⟩ Sub.ent
              | exact S.meet ⟨i, L', M', hperm, hat', hi0, hsame, downStop hdo (fun c c0 cn ce a p ha hp => by rw [ce, hx] at hp; cases hp; exact bf_nt (hmin c a c0 cn ce ha) (by simpa using h3)), htail, rfl, rfl⟩ ⟨rfl, rfl, trivial⟩ Sub.ent
            · refine S.skip ?_
              with_reducible repeat (first | refine S.then_n ?_ | refine S.then_x ?_ | refine S.then_r ?_ | refine S.inBlock_n ?_ | refine S.inBlock_r ?_ | refine S.inBlock_x rfl ?_ | refine S.noGoto_r ?_ | refine S.noGoto_n ?_ | refine S.noGoto_x ?_)
              refine hK14 _ _ ?_
              refine S.seq fun K16 hK16 => ?_
              refine S.region rfl ?_
              refine S.op (S.q (q_move rfl) rfl rfl ?_)
              refine S.op (S.q (q_move rfl) rfl rfl ?_)
              refine S.op (S.q (q_move rfl) rfl rfl ?_)
              refine S.op (S.callI (f := 77) (vs := [_, _]) (by kernel_rfl) Try.en77 rfl ⟨rfl, rfl, trivial⟩ (Swap_S t m lv L' M' hat' i j x y hx hy) rfl ?_)
              rintro v Θ rfl
              first | with_reducible refine S.nilK ?_ | refine S.nil ?_
              refine hK16 _ _ ?_
              refine S.region rfl ?_
              refine S.op (S.q (q_move rfl) rfl rfl ?_)
              refine S.op (S.q (q_assign rfl) rfl rfl ?_)
              first | with_reducible refine S.nilK ?_ | refine S.nil ?_
              with_reducible repeat (first | refine S.then_n ?_ | refine S.then_x ?_ | refine S.then_r ?_ | refine S.inBlock_n ?_ | refine S.inBlock_r ?_ | refine S.inBlock_x rfl ?_ | refine S.noGoto_r ?_ | refine S.noGoto_n ?_ | refine S.noGoto_x ?_)
              with_reducible repeat (first | refine S.then_n ?_ | refine S.then_x ?_ | refine S.then_r ?_ | refine S.inBlock_n ?_ | refine S.inBlock_r ?_ | refine S.inBlock_x rfl ?_ | refine S.noGoto_r ?_ | refine S.noGoto_n ?_ | refine S.noGoto_x ?_)
              exact S.next (n - j) (⟨j, swp L' i j x y, _, rfl, by omega, by omega, fun e => by omega, (swp_perm hx hy).trans hperm, hat'.swap hx hy, downStep hdo (by omega) (by omega) hjn hx hy (by simpa using h3) hmin, fun k hk => by rw [swp_get hx hy, if_neg (by omega), if_neg (by omega)]; exact htail k hk, rfl, rfl⟩) (by omega) (by repeat (first | exact trivial | refine ⟨rfl, ?_⟩)) Sub.ent
  · rintro ρ' Γ' ⟨i, L', M', hperm, hat', hi0, hsame, hok, htail, rfl, rfl⟩
    refine hK3 _ _ ?_
    refine S.seq fun K17 hK17 => ?_
    refine S.region rfl ?_
    refine S.op (S.q (q_move rfl) rfl rfl ?_)
    refine S.op (S.q (q_move rfl) rfl rfl ?_)
    refine S.op (S.q (q_gt rfl rfl) rfl rfl ?_)
    refine S.op (S.q (q_assign rfl) rfl rfl ?_)
    first | with_reducible refine S.nilK ?_ | refine S.nil ?_
    refine hK17 _ _ ?_
    refine S.ret ?_
    with_reducible repeat (first | refine S.then_n ?_ | refine S.then_x ?_ | refine S.then_r ?_ | refine S.inBlock_n ?_ | refine S.inBlock_r ?_ | refine S.inBlock_x rfl ?_ | refine S.noGoto_r ?_ | refine S.noGoto_n ?_ | refine S.noGoto_x ?_)
    exact S.fin (rs := [_]) (vs := [_]) Try.results37 (⟨rfl, trivial⟩)  (⟨L', M', i, rfl, hperm, hat', hi0, hsame, hok, htail, rfl⟩) Sub.ent
end Go.Proofs.Ythpfljiabhjodaa
