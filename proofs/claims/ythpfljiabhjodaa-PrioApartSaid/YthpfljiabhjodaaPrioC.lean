/- The heap's own methods. -/
import Derived.Test.YthpfljiabhjodaaPrioB
namespace Go.Proofs.Ythpfljiabhjodaa
open Go.RowKit
set_option maxRecDepth 20000
theorem Ent.ownTake (s : SV) (e sz : Nat) (xs : List Value) {k : Nat} (hk : k ≤ s.n) (Γ : List Assn) : Ent (own s e sz xs :: Γ) (own ⟨s.a, k, s.c⟩ e sz (xs.take (k * sz)) :: Γ) := Ent.mono1 Γ fun h p => by
  have hm : k * sz ≤ s.n * sz := Nat.mul_le_mul_right _ hk
  refine ⟨by rw [List.length_take, p.1]; exact Nat.min_eq_left hm, ?_⟩
  rcases p.2 with ⟨h1, h2, h3⟩ | ⟨b, off, cur, h1, h2, h3, h4, h5, h6⟩
  · exact .inl ⟨h1, by simp only; omega, h3⟩
  · exact .inr ⟨b, off, cur, h1, h2, by simp only; omega, h4, h5, by rw [← h6, List.take_take, Nat.min_eq_left hm]⟩
section
variable {P : Program} {n : Nat} {ρ : Env} {Γ : List Assn} {ty : TypeId} {pos : String} {af : Array Edge} {gd : Option (Nat × Bool)} {ds : Option Tmp}
/-- (j - 1) / 2, as Go has it. -/
theorem q_half {t yt : TypeId} {x y : Operand} (j : Nat) (hx : ev ρ x = some (.int .i64 ((j : Int) - 1))) (hy : ev ρ y = some (.int .i64 2)) (hj : j ≤ 1000000) : Qv P n ρ Γ ⟨ds, .binOp .quo t x y yt, ty, pos, af, gd⟩ (.int .i64 ((j - 1) / 2 : Nat)) :=
  q_bin hx hy fun w => by
    have h0 : ((j : Int) - 1).tdiv 2 = (((j - 1) / 2 : Nat) : Int) := by
      cases j with
      | zero => rfl
      | succ j =>
        rw [Int.tdiv_eq_ediv_of_nonneg (by omega)]
        omega
    simp [binOp, Op.intDiv, h0, wrap_in (k := .i64) (inI64 (x := ((j - 1 : Nat) : Int) / 2) (by omega) (by omega))]
end
abbrev hpC (lv : SV) (m : Nat) : Array Value := #[lv.v, .map (some m)]
theorem iLen_S (t m : Nat) (lv : SV) : Spec Try.prog 27 [.pointer (some ⟨t, 0, none⟩)] [blk t 60 (hpC lv m)] fun Γ v Θ => v = .int .i64 lv.n ∧ Θ = blk t 60 (hpC lv m) :: Γ := by
  refine Spec.of_body Try.func27 rfl Try.ntmps27 rfl ?_
  intro w0 Γ
  show S _ w0 [(0, .pointer (some ⟨t, 0, none⟩))] (blk t 60 (hpC lv m) :: Γ) _
  refine S.seq fun K1 hK1 => ?_
  refine S.region rfl ?_
  refine S.op (S.q (q_assign rfl) rfl rfl ?_)
  first | with_reducible refine S.nilK ?_ | refine S.nil ?_
  refine hK1 _ _ ?_
  refine S.seq fun K2 hK2 => ?_
  refine S.region rfl ?_
  refine S.op (S.q (q_move rfl) rfl rfl ?_)
  refine S.op (S.q (q_nilCheck rfl) rfl rfl ?_)
  refine S.op (S.q (q_field Try.fo58_0 rfl) rfl rfl ?_)
  refine S.op (S.q (q_load Try.at52 rfl rfl) rfl rfl ?_)
  refine S.op (S.q (q_len Try.underlying52 rfl) rfl rfl ?_)
  refine S.op (S.q (q_assign rfl) rfl rfl ?_)
  first | with_reducible refine S.nilK ?_ | refine S.nil ?_
  refine hK2 _ _ ?_
  refine S.ret ?_
  with_reducible repeat (first | refine S.then_n ?_ | refine S.then_x ?_ | refine S.then_r ?_ | refine S.inBlock_n ?_ | refine S.inBlock_r ?_ | refine S.inBlock_x rfl ?_ | refine S.noGoto_r ?_ | refine S.noGoto_n ?_ | refine S.noGoto_x ?_)
  exact S.fin (rs := [_]) (vs := [_]) Try.results27 (⟨rfl, trivial⟩)  (⟨rfl, rfl⟩) Sub.ent
theorem Less_S (t m : Nat) (lv : SV) (L : List It) (i j : Nat) (x y : It) (hi : L[i]? = some x) (hj : L[j]? = some y) :
    Spec Try.prog 74 [.pointer (some ⟨t, 0, none⟩), .int .i64 i, .int .i64 j] [blk t 60 (hpC lv m), own lv 25 3 (L.flatMap itC)] fun Γ v Θ => v = .bool (bf x y) ∧ Θ = blk t 60 (hpC lv m) :: own lv 25 3 (L.flatMap itC) :: Γ := by
  refine Spec.of_body Try.func74 rfl Try.ntmps74 rfl ?_
  intro w0 Γ
  show S _ w0 [(0, .pointer (some ⟨t, 0, none⟩)), (1, .int .i64 i), (2, .int .i64 j)] (blk t 60 (hpC lv m) :: own lv 25 3 (L.flatMap itC) :: Γ) _
  have hil := (List.getElem?_eq_some_iff.1 hi).1
  have hjl := (List.getElem?_eq_some_iff.1 hj).1
  refine S.ownLen lv fun hlen _ _ => ?_
  rw [flat_length itC_len] at hlen
  refine S.ownSome lv (by omega) fun b off hb _ _ _ => ?_
  refine S.seq fun K1 hK1 => ?_
  refine S.region rfl ?_
  refine S.op (S.q (q_assign rfl) rfl rfl ?_)
  first | with_reducible refine S.nilK ?_ | refine S.nil ?_
  refine hK1 _ _ ?_
  refine S.seq fun K2 hK2 => ?_
  refine S.draw ([blk t 60 (hpC lv m), own lv 25 3 (L.flatMap itC)]) [] Try.mixed ?_
  refine S.dr_take 0 [] rfl (by kernel_rfl) rfl rfl rfl (q_move rfl) Sub.ent ?_
  refine S.dr_take 1 [] rfl (by kernel_rfl) rfl rfl rfl (q_nilCheck rfl) Sub.ent ?_
  refine S.dr_take 2 [] rfl (by kernel_rfl) rfl rfl rfl (q_field Try.fo58_0 rfl) Sub.ent ?_
  refine S.dr_take 3 [] rfl (by kernel_rfl) rfl rfl rfl (q_load Try.at52 rfl rfl) Sub.ent ?_
  refine S.dr_take 4 [] rfl (by kernel_rfl) rfl rfl rfl (q_move rfl) Sub.ent ?_
  refine S.dr_take 5 [] rfl (by kernel_rfl) rfl rfl rfl (q_indexO (i) Try.el52 rfl hb rfl rfl (by omega)) Sub.ent ?_
  refine S.dr_take 6 [] rfl (by kernel_rfl) rfl rfl rfl (q_loadOwS (lv) (i * 3) [_, _, _] Try.ag25 rfl hb (by first | rfl | exact Nat.add_assoc _ _ _ | omega) rfl (flat_seg (enc := itC) (sz := 3) (fun _ => rfl) hi)) Sub.ent ?_
  refine S.dr_take 7 [] rfl (by kernel_rfl) rfl rfl rfl (q_move rfl) Sub.ent ?_
  refine S.dr_take 8 [] rfl (by kernel_rfl) rfl rfl rfl (q_nilCheck rfl) Sub.ent ?_
  refine S.dr_take 9 [] rfl (by kernel_rfl) rfl rfl rfl (q_field Try.fo58_0 rfl) Sub.ent ?_
  refine S.dr_take 10 [] rfl (by kernel_rfl) rfl rfl rfl (q_load Try.at52 rfl rfl) Sub.ent ?_
  refine S.dr_take 11 [] rfl (by kernel_rfl) rfl rfl rfl (q_move rfl) Sub.ent ?_
  refine S.dr_take 12 [] rfl (by kernel_rfl) rfl rfl rfl (q_indexO (j) Try.el52 rfl hb rfl rfl (by omega)) Sub.ent ?_
  refine S.dr_take 13 [] rfl (by kernel_rfl) rfl rfl rfl (q_loadOwS (lv) (j * 3) [_, _, _] Try.ag25 rfl hb (by first | rfl | exact Nat.add_assoc _ _ _ | omega) rfl (flat_seg (enc := itC) (sz := 3) (fun _ => rfl) hj)) Sub.ent ?_
  refine S.dr_1 (i := 14) (by kernel_rfl) rfl rfl ?_
  refine  (S.callP Try.en9 (vs := [_, _]) ⟨rfl, rfl, trivial⟩ (fun w hs => First_P x y w) rfl ?_)
  refine S.dr_k rfl Sub.ent ?_
  refine S.dr_take 15 [] rfl (by kernel_rfl) rfl rfl rfl (q_assign rfl) Sub.ent ?_
  first | with_reducible refine S.dr_doneK (by kernel_rfl) ?_ | refine S.dr_done (by kernel_rfl) ?_
  refine hK2 _ _ ?_
  refine S.ret ?_
  with_reducible repeat (first | refine S.then_n ?_ | refine S.then_x ?_ | refine S.then_r ?_ | refine S.inBlock_n ?_ | refine S.inBlock_r ?_ | refine S.inBlock_x rfl ?_ | refine S.noGoto_r ?_ | refine S.noGoto_n ?_ | refine S.noGoto_x ?_)
  exact S.fin (rs := [_]) (vs := [_]) Try.results74 (⟨rfl, trivial⟩)  (⟨rfl, rfl⟩) Sub.ent
theorem Swap_S (t m : Nat) (lv : SV) (L : List It) (M : List (Int × Value)) (hat : AtOk L M) (i j : Nat) (x y : It) (hi : L[i]? = some x) (hj : L[j]? = some y) :
    Spec Try.prog 77 [.pointer (some ⟨t, 0, none⟩), .int .i64 i, .int .i64 j] [blk t 60 (hpC lv m), own lv 25 3 (L.flatMap itC), mapL m .u32 M] fun Γ _ Θ => Θ = blk t 60 (hpC lv m) :: own lv 25 3 ((swp L i j x y).flatMap itC) :: mapL m .u32 (alPut x.id (.int .i64 j) (alPut y.id (.int .i64 i) M)) :: Γ := by
  refine Spec.of_body Try.func77 rfl Try.ntmps77 rfl ?_
  intro w0 Γ
  show S _ w0 [(0, .pointer (some ⟨t, 0, none⟩)), (1, .int .i64 i), (2, .int .i64 j)] (blk t 60 (hpC lv m) :: own lv 25 3 (L.flatMap itC) :: mapL m .u32 M :: Γ) _
  have hil := (List.getElem?_eq_some_iff.1 hi).1
  have hjl := (List.getElem?_eq_some_iff.1 hj).1
  refine S.ownLen lv fun hlen _ _ => ?_
  rw [flat_length itC_len] at hlen
  refine S.ownSome lv (by omega) fun b off hb _ _ _ => ?_
  have hs1 := swp_get hi hj
  have hi' : (swp L i j x y)[i]? = some y := by
    rw [hs1]
    by_cases e : i = j
    · subst e; rw [if_pos rfl]; rw [hi] at hj; exact hj
    · rw [if_neg e, if_pos rfl]
  have hj' : (swp L i j x y)[j]? = some x := by rw [hs1, if_pos rfl]
  have hll := swp_len L i j x y
  have hxL := hat.1 i x hi
  have hyL := hat.1 j y hj
  obtain ⟨v2, hv2⟩ : ∃ v, alGet x.id (alPut y.id (.int .i64 i) M) = some v := by
    rw [alGet_put]
    by_cases e : x.id = y.id
    · rw [if_pos e]; exact ⟨_, rfl⟩
    · rw [if_neg e]; exact ⟨_, hxL⟩
  refine S.seq fun K1 hK1 => ?_
  refine S.draw ([blk t 60 (hpC lv m), own lv 25 3 (L.flatMap itC)]) [25] Try.mixed ?_
  refine S.dr_take 0 [1, 2, 3, 24, 25, 26, 27] rfl (by kernel_rfl) rfl rfl rfl (q_move rfl) Sub.ent ?_
  refine S.dr_take 1 [2, 3, 24, 25, 26, 27] rfl (by kernel_rfl) rfl rfl rfl (q_nilCheck rfl) Sub.ent ?_
  refine S.dr_take 2 [3, 24, 25, 26, 27] rfl (by kernel_rfl) rfl rfl rfl (q_field Try.fo58_0 rfl) Sub.ent ?_
  refine S.dr_take 3 [24, 25, 26, 27] rfl (by kernel_rfl) rfl rfl rfl (q_load Try.at52 rfl rfl) Sub.ent ?_
  refine S.dr_take 4 [24, 25, 26, 27] rfl (by kernel_rfl) rfl rfl rfl (q_move rfl) Sub.ent ?_
  refine S.dr_take 5 [6, 7, 8, 24, 25, 26, 27] rfl (by kernel_rfl) rfl rfl rfl (q_move rfl) Sub.ent ?_
  refine S.dr_take 6 [7, 8, 24, 25, 26, 27] rfl (by kernel_rfl) rfl rfl rfl (q_nilCheck rfl) Sub.ent ?_
  refine S.dr_take 7 [8, 24, 25, 26, 27] rfl (by kernel_rfl) rfl rfl rfl (q_field Try.fo58_0 rfl) Sub.ent ?_
  refine S.dr_take 8 [24, 25, 26, 27] rfl (by kernel_rfl) rfl rfl rfl (q_load Try.at52 rfl rfl) Sub.ent ?_
  refine S.dr_take 10 [11, 12, 13, 15, 16, 24, 25, 26, 27] rfl (by kernel_rfl) rfl rfl rfl (q_move rfl) Sub.ent ?_
  refine S.dr_take 11 [12, 13, 15, 16, 24, 25, 26, 27] rfl (by kernel_rfl) rfl rfl rfl (q_nilCheck rfl) Sub.ent ?_
  refine S.dr_take 12 [13, 15, 16, 24, 25, 26, 27] rfl (by kernel_rfl) rfl rfl rfl (q_field Try.fo58_0 rfl) Sub.ent ?_
  refine S.dr_take 13 [15, 16, 24, 25, 26, 27] rfl (by kernel_rfl) rfl rfl rfl (q_load Try.at52 rfl rfl) Sub.ent ?_
  refine S.dr_take 14 [15, 16, 24, 25, 26, 27] rfl (by kernel_rfl) rfl rfl rfl (q_move rfl) Sub.ent ?_
  refine S.dr_take 15 [16, 24, 25, 26, 27] rfl (by kernel_rfl) rfl rfl rfl (q_indexO (j) Try.el52 rfl hb rfl rfl (by omega)) Sub.ent ?_
  refine S.dr_take 16 [24, 25, 26, 27] rfl (by kernel_rfl) rfl rfl rfl (q_loadOwS (lv) (j * 3) [_, _, _] Try.ag25 rfl hb (by first | rfl | exact Nat.add_assoc _ _ _ | omega) rfl (flat_seg (enc := itC) (sz := 3) (fun _ => rfl) hj)) Sub.ent ?_
  refine S.dr_take 17 [18, 19, 20, 22, 23, 24, 25, 26, 27] rfl (by kernel_rfl) rfl rfl rfl (q_move rfl) Sub.ent ?_
  refine S.dr_take 18 [19, 20, 22, 23, 24, 25, 26, 27] rfl (by kernel_rfl) rfl rfl rfl (q_nilCheck rfl) Sub.ent ?_
  refine S.dr_take 19 [20, 22, 23, 24, 25, 26, 27] rfl (by kernel_rfl) rfl rfl rfl (q_field Try.fo58_0 rfl) Sub.ent ?_
  refine S.dr_take 20 [22, 23, 24, 25, 26, 27] rfl (by kernel_rfl) rfl rfl rfl (q_load Try.at52 rfl rfl) Sub.ent ?_
  refine S.dr_take 21 [22, 23, 24, 25, 26, 27] rfl (by kernel_rfl) rfl rfl rfl (q_move rfl) Sub.ent ?_
  refine S.dr_take 22 [23, 24, 25, 26, 27] rfl (by kernel_rfl) rfl rfl rfl (q_indexO (i) Try.el52 rfl hb rfl rfl (by omega)) Sub.ent ?_
  refine S.dr_take 23 [24, 25, 26, 27] rfl (by kernel_rfl) rfl rfl rfl (q_loadOwS (lv) (i * 3) [_, _, _] Try.ag25 rfl hb (by first | rfl | exact Nat.add_assoc _ _ _ | omega) rfl (flat_seg (enc := itC) (sz := 3) (fun _ => rfl) hi)) Sub.ent ?_
  refine S.dr_take 24 [25, 26, 27] rfl (by kernel_rfl) rfl rfl rfl (q_indexO (i) Try.el52 rfl hb rfl rfl (by omega)) Sub.ent ?_
  refine S.dr_2 (i := 9) (j := 25) (by kernel_rfl) rfl rfl rfl rfl ?_ ?_
  · refine  (S.q (q_move rfl) rfl rfl ?_)
    refine S.dr_k rfl Sub.ent ?_
    refine S.dr_1 (i := 25) (by kernel_rfl) rfl rfl ?_
    refine  (S.storeOwS (lv) (i * 3) Try.ag25 rfl rfl rfl rfl hb (by first | rfl | exact Nat.add_assoc _ _ _ | omega) (by rw [flat_length itC_len]; show i * 3 + 3 ≤ _; omega) (flat_put itC_len hil y) ?_)
    refine S.dr_late ([]) [] rfl ?_
    refine S.dr_take 26 [] rfl (by kernel_rfl) rfl rfl rfl (q_indexO (j) Try.el52 rfl hb rfl rfl (by omega)) Sub.ent ?_
    refine S.dr_1 (i := 27) (by kernel_rfl) rfl rfl ?_
    refine  (S.storeOwS (lv) (j * 3) Try.ag25 rfl rfl rfl rfl hb (by first | rfl | exact Nat.add_assoc _ _ _ | omega) (by rw [flat_length itC_len, List.length_set]; show j * 3 + 3 ≤ _; omega) (show _ = (swp L i j x y).flatMap itC from flat_put itC_len (by rw [List.length_set]; exact hjl) x) ?_)
    refine S.dr_k rfl Sub.ent ?_
    first | with_reducible refine S.dr_doneK (by kernel_rfl) ?_ | refine S.dr_done (by kernel_rfl) ?_
    refine hK1 _ _ ?_
    refine S.draw ([blk t 60 (hpC lv m), own lv 25 3 ((swp L i j x y).flatMap itC)]) [26] Try.mixed ?_
    refine S.dr_take 0 [1, 2, 3, 26, 27, 28, 29, 30, 31] rfl (by kernel_rfl) rfl rfl rfl (q_move rfl) Sub.ent ?_
    refine S.dr_take 1 [2, 3, 26, 27, 28, 29, 30, 31] rfl (by kernel_rfl) rfl rfl rfl (q_nilCheck rfl) Sub.ent ?_
    refine S.dr_take 2 [3, 26, 27, 28, 29, 30, 31] rfl (by kernel_rfl) rfl rfl rfl (q_field Try.fo58_1 rfl) Sub.ent ?_
    refine S.dr_take 3 [26, 27, 28, 29, 30, 31] rfl (by kernel_rfl) rfl rfl rfl (q_load Try.at56 rfl rfl) Sub.ent ?_
    refine S.dr_take 4 [5, 6, 7, 9, 10, 11, 26, 27, 28, 29, 30, 31] rfl (by kernel_rfl) rfl rfl rfl (q_move rfl) Sub.ent ?_
    refine S.dr_take 5 [6, 7, 9, 10, 11, 26, 27, 28, 29, 30, 31] rfl (by kernel_rfl) rfl rfl rfl (q_nilCheck rfl) Sub.ent ?_
    refine S.dr_take 6 [7, 9, 10, 11, 26, 27, 28, 29, 30, 31] rfl (by kernel_rfl) rfl rfl rfl (q_field Try.fo58_0 rfl) Sub.ent ?_
    refine S.dr_take 7 [9, 10, 11, 26, 27, 28, 29, 30, 31] rfl (by kernel_rfl) rfl rfl rfl (q_load Try.at52 rfl rfl) Sub.ent ?_
    refine S.dr_take 8 [9, 10, 11, 26, 27, 28, 29, 30, 31] rfl (by kernel_rfl) rfl rfl rfl (q_move rfl) Sub.ent ?_
    refine S.dr_take 9 [10, 11, 26, 27, 28, 29, 30, 31] rfl (by kernel_rfl) rfl rfl rfl (q_indexO (i) Try.el52 rfl hb rfl rfl (by omega)) Sub.ent ?_
    refine S.dr_take 10 [11, 26, 27, 28, 29, 30, 31] rfl (by kernel_rfl) rfl rfl rfl (q_field Try.fo25_0 rfl) Sub.ent ?_
    refine S.dr_take 11 [26, 27, 28, 29, 30, 31] rfl (by kernel_rfl) rfl rfl rfl (q_loadOw (lv) (i * 3) Try.at22 rfl hb (by first | rfl | exact Nat.add_assoc _ _ _ | omega) (flat_seg (enc := itC) (sz := 3) (fun _ => rfl) hi' 0 _ rfl)) Sub.ent ?_
    refine S.dr_take 12 [13, 14, 15, 26, 27, 28, 29, 30, 31] rfl (by kernel_rfl) rfl rfl rfl (q_move rfl) Sub.ent ?_
    refine S.dr_take 13 [14, 15, 26, 27, 28, 29, 30, 31] rfl (by kernel_rfl) rfl rfl rfl (q_nilCheck rfl) Sub.ent ?_
    refine S.dr_take 14 [15, 26, 27, 28, 29, 30, 31] rfl (by kernel_rfl) rfl rfl rfl (q_field Try.fo58_1 rfl) Sub.ent ?_
    refine S.dr_take 15 [26, 27, 28, 29, 30, 31] rfl (by kernel_rfl) rfl rfl rfl (q_load Try.at56 rfl rfl) Sub.ent ?_
    refine S.dr_take 16 [17, 18, 19, 21, 22, 23, 26, 27, 28, 29, 30, 31] rfl (by kernel_rfl) rfl rfl rfl (q_move rfl) Sub.ent ?_
    refine S.dr_take 17 [18, 19, 21, 22, 23, 26, 27, 28, 29, 30, 31] rfl (by kernel_rfl) rfl rfl rfl (q_nilCheck rfl) Sub.ent ?_
    refine S.dr_take 18 [19, 21, 22, 23, 26, 27, 28, 29, 30, 31] rfl (by kernel_rfl) rfl rfl rfl (q_field Try.fo58_0 rfl) Sub.ent ?_
    refine S.dr_take 19 [21, 22, 23, 26, 27, 28, 29, 30, 31] rfl (by kernel_rfl) rfl rfl rfl (q_load Try.at52 rfl rfl) Sub.ent ?_
    refine S.dr_take 20 [21, 22, 23, 26, 27, 28, 29, 30, 31] rfl (by kernel_rfl) rfl rfl rfl (q_move rfl) Sub.ent ?_
    refine S.dr_take 21 [22, 23, 26, 27, 28, 29, 30, 31] rfl (by kernel_rfl) rfl rfl rfl (q_indexO (j) Try.el52 rfl hb rfl rfl (by omega)) Sub.ent ?_
    refine S.dr_take 22 [23, 26, 27, 28, 29, 30, 31] rfl (by kernel_rfl) rfl rfl rfl (q_field Try.fo25_0 rfl) Sub.ent ?_
    refine S.dr_take 23 [26, 27, 28, 29, 30, 31] rfl (by kernel_rfl) rfl rfl rfl (q_loadOw (lv) (j * 3) Try.at22 rfl hb (by first | rfl | exact Nat.add_assoc _ _ _ | omega) (flat_seg (enc := itC) (sz := 3) (fun _ => rfl) hj' 0 _ rfl)) Sub.ent ?_
    refine S.dr_3 (i := 24) (j := 25) (l := 26) (by kernel_rfl) rfl rfl rfl rfl rfl rfl ?_ ?_ ?_
    · refine  (S.q (q_move rfl) rfl rfl ?_)
      refine S.dr_k rfl Sub.ent ?_
      refine S.dr_2 (i := 25) (j := 26) (by kernel_rfl) rfl rfl rfl rfl ?_ ?_
      · refine  (S.q (q_move rfl) rfl rfl ?_)
        refine S.dr_k rfl Sub.ent ?_
        refine S.dr_1 (i := 26) (by kernel_rfl) rfl rfl ?_
        refine  (S.mapEntry Try.underlying56 Try.underlying22 rfl rfl rfl (hyL) rfl ?_)
        intro s58
        refine S.dr_late ([]) [] rfl ?_
        refine S.dr_take 27 [] rfl (by kernel_rfl) rfl rfl rfl (q_extract rfl rfl) Sub.ent ?_
        refine S.dr_1 (i := 28) (by kernel_rfl) rfl rfl ?_
        refine  (S.entryStore rfl rfl rfl ?_)
        refine S.dr_k rfl Sub.ent ?_
        refine S.dr_1 (i := 29) (by kernel_rfl) rfl rfl ?_
        refine  (S.mapEntry Try.underlying56 Try.underlying22 rfl rfl rfl (hv2) rfl ?_)
        intro s60
        refine S.dr_k rfl Sub.ent ?_
        refine S.dr_take 30 [] rfl (by kernel_rfl) rfl rfl rfl (q_extract rfl rfl) Sub.ent ?_
        refine S.dr_1 (i := 31) (by kernel_rfl) rfl rfl ?_
        refine  (S.entryStore rfl rfl rfl ?_)
        refine S.dr_k rfl Sub.ent ?_
        first | with_reducible refine S.dr_doneK (by kernel_rfl) ?_ | refine S.dr_done (by kernel_rfl) ?_
        with_reducible repeat (first | refine S.then_n ?_ | refine S.then_x ?_ | refine S.then_r ?_ | refine S.inBlock_n ?_ | refine S.inBlock_r ?_ | refine S.inBlock_x rfl ?_ | refine S.noGoto_r ?_ | refine S.noGoto_n ?_ | refine S.noGoto_x ?_)
        exact S.finN (rs := []) (vs := []) Try.results77 (trivial)  (rfl) Sub.ent
      · refine  (S.mapEntry Try.underlying56 Try.underlying22 rfl rfl rfl (hyL) rfl ?_)
        intro s58
        refine S.dr_late ([]) [] rfl ?_
        refine S.dr_take 25 [] rfl (by kernel_rfl) rfl rfl rfl (q_move rfl) Sub.ent ?_
        refine S.dr_take 27 [] rfl (by kernel_rfl) rfl rfl rfl (q_extract rfl rfl) Sub.ent ?_
        refine S.dr_1 (i := 28) (by kernel_rfl) rfl rfl ?_
        refine  (S.entryStore rfl rfl rfl ?_)
        refine S.dr_k rfl Sub.ent ?_
        refine S.dr_1 (i := 29) (by kernel_rfl) rfl rfl ?_
        refine  (S.mapEntry Try.underlying56 Try.underlying22 rfl rfl rfl (hv2) rfl ?_)
        intro s60
        refine S.dr_k rfl Sub.ent ?_
        refine S.dr_take 30 [] rfl (by kernel_rfl) rfl rfl rfl (q_extract rfl rfl) Sub.ent ?_
        refine S.dr_1 (i := 31) (by kernel_rfl) rfl rfl ?_
        refine  (S.entryStore rfl rfl rfl ?_)
        refine S.dr_k rfl Sub.ent ?_
        first | with_reducible refine S.dr_doneK (by kernel_rfl) ?_ | refine S.dr_done (by kernel_rfl) ?_
        with_reducible repeat (first | refine S.then_n ?_ | refine S.then_x ?_ | refine S.then_r ?_ | refine S.inBlock_n ?_ | refine S.inBlock_r ?_ | refine S.inBlock_x rfl ?_ | refine S.noGoto_r ?_ | refine S.noGoto_n ?_ | refine S.noGoto_x ?_)
        exact S.finN (rs := []) (vs := []) Try.results77 (trivial)  (rfl) Sub.ent
    · refine  (S.q (q_move rfl) rfl rfl ?_)
      refine S.dr_k rfl Sub.ent ?_
      refine S.dr_2 (i := 24) (j := 26) (by kernel_rfl) rfl rfl rfl rfl ?_ ?_
      · refine  (S.q (q_move rfl) rfl rfl ?_)
        refine S.dr_k rfl Sub.ent ?_
        refine S.dr_1 (i := 26) (by kernel_rfl) rfl rfl ?_
        refine  (S.mapEntry Try.underlying56 Try.underlying22 rfl rfl rfl (hyL) rfl ?_)
        intro s58
        refine S.dr_late ([]) [] rfl ?_
        refine S.dr_take 27 [] rfl (by kernel_rfl) rfl rfl rfl (q_extract rfl rfl) Sub.ent ?_
        refine S.dr_1 (i := 28) (by kernel_rfl) rfl rfl ?_
        refine  (S.entryStore rfl rfl rfl ?_)
        refine S.dr_k rfl Sub.ent ?_
        refine S.dr_1 (i := 29) (by kernel_rfl) rfl rfl ?_
        refine  (S.mapEntry Try.underlying56 Try.underlying22 rfl rfl rfl (hv2) rfl ?_)
        intro s60
        refine S.dr_k rfl Sub.ent ?_
        refine S.dr_take 30 [] rfl (by kernel_rfl) rfl rfl rfl (q_extract rfl rfl) Sub.ent ?_
        refine S.dr_1 (i := 31) (by kernel_rfl) rfl rfl ?_
        refine  (S.entryStore rfl rfl rfl ?_)
        refine S.dr_k rfl Sub.ent ?_
        first | with_reducible refine S.dr_doneK (by kernel_rfl) ?_ | refine S.dr_done (by kernel_rfl) ?_
        with_reducible repeat (first | refine S.then_n ?_ | refine S.then_x ?_ | refine S.then_r ?_ | refine S.inBlock_n ?_ | refine S.inBlock_r ?_ | refine S.inBlock_x rfl ?_ | refine S.noGoto_r ?_ | refine S.noGoto_n ?_ | refine S.noGoto_x ?_)
        exact S.finN (rs := []) (vs := []) Try.results77 (trivial)  (rfl) Sub.ent
      · refine  (S.mapEntry Try.underlying56 Try.underlying22 rfl rfl rfl (hyL) rfl ?_)
        intro s58
        refine S.dr_late ([]) [] rfl ?_
        refine S.dr_take 24 [] rfl (by kernel_rfl) rfl rfl rfl (q_move rfl) Sub.ent ?_
        refine S.dr_take 27 [] rfl (by kernel_rfl) rfl rfl rfl (q_extract rfl rfl) Sub.ent ?_
        refine S.dr_1 (i := 28) (by kernel_rfl) rfl rfl ?_
        refine  (S.entryStore rfl rfl rfl ?_)
        refine S.dr_k rfl Sub.ent ?_
        refine S.dr_1 (i := 29) (by kernel_rfl) rfl rfl ?_
        refine  (S.mapEntry Try.underlying56 Try.underlying22 rfl rfl rfl (hv2) rfl ?_)
        intro s60
        refine S.dr_k rfl Sub.ent ?_
        refine S.dr_take 30 [] rfl (by kernel_rfl) rfl rfl rfl (q_extract rfl rfl) Sub.ent ?_
        refine S.dr_1 (i := 31) (by kernel_rfl) rfl rfl ?_
        refine  (S.entryStore rfl rfl rfl ?_)
        refine S.dr_k rfl Sub.ent ?_
        first | with_reducible refine S.dr_doneK (by kernel_rfl) ?_ | refine S.dr_done (by kernel_rfl) ?_
        with_reducible repeat (first | refine S.then_n ?_ | refine S.then_x ?_ | refine S.then_r ?_ | refine S.inBlock_n ?_ | refine S.inBlock_r ?_ | refine S.inBlock_x rfl ?_ | refine S.noGoto_r ?_ | refine S.noGoto_n ?_ | refine S.noGoto_x ?_)
        exact S.finN (rs := []) (vs := []) Try.results77 (trivial)  (rfl) Sub.ent
    · refine  (S.mapEntry Try.underlying56 Try.underlying22 rfl rfl rfl (hyL) rfl ?_)
      intro s58
      refine S.dr_late ([]) [] rfl ?_
      refine S.dr_take 24 [] rfl (by kernel_rfl) rfl rfl rfl (q_move rfl) Sub.ent ?_
      refine S.dr_take 25 [] rfl (by kernel_rfl) rfl rfl rfl (q_move rfl) Sub.ent ?_
      refine S.dr_take 27 [] rfl (by kernel_rfl) rfl rfl rfl (q_extract rfl rfl) Sub.ent ?_
      refine S.dr_1 (i := 28) (by kernel_rfl) rfl rfl ?_
      refine  (S.entryStore rfl rfl rfl ?_)
      refine S.dr_k rfl Sub.ent ?_
      refine S.dr_1 (i := 29) (by kernel_rfl) rfl rfl ?_
      refine  (S.mapEntry Try.underlying56 Try.underlying22 rfl rfl rfl (hv2) rfl ?_)
      intro s60
      refine S.dr_k rfl Sub.ent ?_
      refine S.dr_take 30 [] rfl (by kernel_rfl) rfl rfl rfl (q_extract rfl rfl) Sub.ent ?_
      refine S.dr_1 (i := 31) (by kernel_rfl) rfl rfl ?_
      refine  (S.entryStore rfl rfl rfl ?_)
      refine S.dr_k rfl Sub.ent ?_
      first | with_reducible refine S.dr_doneK (by kernel_rfl) ?_ | refine S.dr_done (by kernel_rfl) ?_
      with_reducible repeat (first | refine S.then_n ?_ | refine S.then_x ?_ | refine S.then_r ?_ | refine S.inBlock_n ?_ | refine S.inBlock_r ?_ | refine S.inBlock_x rfl ?_ | refine S.noGoto_r ?_ | refine S.noGoto_n ?_ | refine S.noGoto_x ?_)
      exact S.finN (rs := []) (vs := []) Try.results77 (trivial)  (rfl) Sub.ent
  · refine  (S.storeOwS (lv) (i * 3) Try.ag25 rfl rfl rfl rfl hb (by first | rfl | exact Nat.add_assoc _ _ _ | omega) (by rw [flat_length itC_len]; show i * 3 + 3 ≤ _; omega) (flat_put itC_len hil y) ?_)
    refine S.dr_late ([]) [] rfl ?_
    refine S.dr_take 9 [] rfl (by kernel_rfl) rfl rfl rfl (q_move rfl) Sub.ent ?_
    refine S.dr_take 26 [] rfl (by kernel_rfl) rfl rfl rfl (q_indexO (j) Try.el52 rfl hb rfl rfl (by omega)) Sub.ent ?_
    refine S.dr_1 (i := 27) (by kernel_rfl) rfl rfl ?_
    refine  (S.storeOwS (lv) (j * 3) Try.ag25 rfl rfl rfl rfl hb (by first | rfl | exact Nat.add_assoc _ _ _ | omega) (by rw [flat_length itC_len, List.length_set]; show j * 3 + 3 ≤ _; omega) (show _ = (swp L i j x y).flatMap itC from flat_put itC_len (by rw [List.length_set]; exact hjl) x) ?_)
    refine S.dr_k rfl Sub.ent ?_
    first | with_reducible refine S.dr_doneK (by kernel_rfl) ?_ | refine S.dr_done (by kernel_rfl) ?_
    refine hK1 _ _ ?_
    refine S.draw ([blk t 60 (hpC lv m), own lv 25 3 ((swp L i j x y).flatMap itC)]) [26] Try.mixed ?_
    refine S.dr_take 0 [1, 2, 3, 26, 27, 28, 29, 30, 31] rfl (by kernel_rfl) rfl rfl rfl (q_move rfl) Sub.ent ?_
    refine S.dr_take 1 [2, 3, 26, 27, 28, 29, 30, 31] rfl (by kernel_rfl) rfl rfl rfl (q_nilCheck rfl) Sub.ent ?_
    refine S.dr_take 2 [3, 26, 27, 28, 29, 30, 31] rfl (by kernel_rfl) rfl rfl rfl (q_field Try.fo58_1 rfl) Sub.ent ?_
    refine S.dr_take 3 [26, 27, 28, 29, 30, 31] rfl (by kernel_rfl) rfl rfl rfl (q_load Try.at56 rfl rfl) Sub.ent ?_
    refine S.dr_take 4 [5, 6, 7, 9, 10, 11, 26, 27, 28, 29, 30, 31] rfl (by kernel_rfl) rfl rfl rfl (q_move rfl) Sub.ent ?_
    refine S.dr_take 5 [6, 7, 9, 10, 11, 26, 27, 28, 29, 30, 31] rfl (by kernel_rfl) rfl rfl rfl (q_nilCheck rfl) Sub.ent ?_
    refine S.dr_take 6 [7, 9, 10, 11, 26, 27, 28, 29, 30, 31] rfl (by kernel_rfl) rfl rfl rfl (q_field Try.fo58_0 rfl) Sub.ent ?_
    refine S.dr_take 7 [9, 10, 11, 26, 27, 28, 29, 30, 31] rfl (by kernel_rfl) rfl rfl rfl (q_load Try.at52 rfl rfl) Sub.ent ?_
    refine S.dr_take 8 [9, 10, 11, 26, 27, 28, 29, 30, 31] rfl (by kernel_rfl) rfl rfl rfl (q_move rfl) Sub.ent ?_
    refine S.dr_take 9 [10, 11, 26, 27, 28, 29, 30, 31] rfl (by kernel_rfl) rfl rfl rfl (q_indexO (i) Try.el52 rfl hb rfl rfl (by omega)) Sub.ent ?_
    refine S.dr_take 10 [11, 26, 27, 28, 29, 30, 31] rfl (by kernel_rfl) rfl rfl rfl (q_field Try.fo25_0 rfl) Sub.ent ?_
    refine S.dr_take 11 [26, 27, 28, 29, 30, 31] rfl (by kernel_rfl) rfl rfl rfl (q_loadOw (lv) (i * 3) Try.at22 rfl hb (by first | rfl | exact Nat.add_assoc _ _ _ | omega) (flat_seg (enc := itC) (sz := 3) (fun _ => rfl) hi' 0 _ rfl)) Sub.ent ?_
    refine S.dr_take 12 [13, 14, 15, 26, 27, 28, 29, 30, 31] rfl (by kernel_rfl) rfl rfl rfl (q_move rfl) Sub.ent ?_
    refine S.dr_take 13 [14, 15, 26, 27, 28, 29, 30, 31] rfl (by kernel_rfl) rfl rfl rfl (q_nilCheck rfl) Sub.ent ?_
    refine S.dr_take 14 [15, 26, 27, 28, 29, 30, 31] rfl (by kernel_rfl) rfl rfl rfl (q_field Try.fo58_1 rfl) Sub.ent ?_
    refine S.dr_take 15 [26, 27, 28, 29, 30, 31] rfl (by kernel_rfl) rfl rfl rfl (q_load Try.at56 rfl rfl) Sub.ent ?_
    refine S.dr_take 16 [17, 18, 19, 21, 22, 23, 26, 27, 28, 29, 30, 31] rfl (by kernel_rfl) rfl rfl rfl (q_move rfl) Sub.ent ?_
    refine S.dr_take 17 [18, 19, 21, 22, 23, 26, 27, 28, 29, 30, 31] rfl (by kernel_rfl) rfl rfl rfl (q_nilCheck rfl) Sub.ent ?_
    refine S.dr_take 18 [19, 21, 22, 23, 26, 27, 28, 29, 30, 31] rfl (by kernel_rfl) rfl rfl rfl (q_field Try.fo58_0 rfl) Sub.ent ?_
    refine S.dr_take 19 [21, 22, 23, 26, 27, 28, 29, 30, 31] rfl (by kernel_rfl) rfl rfl rfl (q_load Try.at52 rfl rfl) Sub.ent ?_
    refine S.dr_take 20 [21, 22, 23, 26, 27, 28, 29, 30, 31] rfl (by kernel_rfl) rfl rfl rfl (q_move rfl) Sub.ent ?_
    refine S.dr_take 21 [22, 23, 26, 27, 28, 29, 30, 31] rfl (by kernel_rfl) rfl rfl rfl (q_indexO (j) Try.el52 rfl hb rfl rfl (by omega)) Sub.ent ?_
    refine S.dr_take 22 [23, 26, 27, 28, 29, 30, 31] rfl (by kernel_rfl) rfl rfl rfl (q_field Try.fo25_0 rfl) Sub.ent ?_
    refine S.dr_take 23 [26, 27, 28, 29, 30, 31] rfl (by kernel_rfl) rfl rfl rfl (q_loadOw (lv) (j * 3) Try.at22 rfl hb (by first | rfl | exact Nat.add_assoc _ _ _ | omega) (flat_seg (enc := itC) (sz := 3) (fun _ => rfl) hj' 0 _ rfl)) Sub.ent ?_
    refine S.dr_3 (i := 24) (j := 25) (l := 26) (by kernel_rfl) rfl rfl rfl rfl rfl rfl ?_ ?_ ?_
    · refine  (S.q (q_move rfl) rfl rfl ?_)
      refine S.dr_k rfl Sub.ent ?_
      refine S.dr_2 (i := 25) (j := 26) (by kernel_rfl) rfl rfl rfl rfl ?_ ?_
      · refine  (S.q (q_move rfl) rfl rfl ?_)
        refine S.dr_k rfl Sub.ent ?_
        refine S.dr_1 (i := 26) (by kernel_rfl) rfl rfl ?_
        refine  (S.mapEntry Try.underlying56 Try.underlying22 rfl rfl rfl (hyL) rfl ?_)
        intro s58
        refine S.dr_late ([]) [] rfl ?_
        refine S.dr_take 27 [] rfl (by kernel_rfl) rfl rfl rfl (q_extract rfl rfl) Sub.ent ?_
        refine S.dr_1 (i := 28) (by kernel_rfl) rfl rfl ?_
        refine  (S.entryStore rfl rfl rfl ?_)
        refine S.dr_k rfl Sub.ent ?_
        refine S.dr_1 (i := 29) (by kernel_rfl) rfl rfl ?_
        refine  (S.mapEntry Try.underlying56 Try.underlying22 rfl rfl rfl (hv2) rfl ?_)
        intro s60
        refine S.dr_k rfl Sub.ent ?_
        refine S.dr_take 30 [] rfl (by kernel_rfl) rfl rfl rfl (q_extract rfl rfl) Sub.ent ?_
        refine S.dr_1 (i := 31) (by kernel_rfl) rfl rfl ?_
        refine  (S.entryStore rfl rfl rfl ?_)
        refine S.dr_k rfl Sub.ent ?_
        first | with_reducible refine S.dr_doneK (by kernel_rfl) ?_ | refine S.dr_done (by kernel_rfl) ?_
        with_reducible repeat (first | refine S.then_n ?_ | refine S.then_x ?_ | refine S.then_r ?_ | refine S.inBlock_n ?_ | refine S.inBlock_r ?_ | refine S.inBlock_x rfl ?_ | refine S.noGoto_r ?_ | refine S.noGoto_n ?_ | refine S.noGoto_x ?_)
        exact S.finN (rs := []) (vs := []) Try.results77 (trivial)  (rfl) Sub.ent
      · refine  (S.mapEntry Try.underlying56 Try.underlying22 rfl rfl rfl (hyL) rfl ?_)
        intro s58
        refine S.dr_late ([]) [] rfl ?_
        refine S.dr_take 25 [] rfl (by kernel_rfl) rfl rfl rfl (q_move rfl) Sub.ent ?_
        refine S.dr_take 27 [] rfl (by kernel_rfl) rfl rfl rfl (q_extract rfl rfl) Sub.ent ?_
        refine S.dr_1 (i := 28) (by kernel_rfl) rfl rfl ?_
        refine  (S.entryStore rfl rfl rfl ?_)
        refine S.dr_k rfl Sub.ent ?_
        refine S.dr_1 (i := 29) (by kernel_rfl) rfl rfl ?_
        refine  (S.mapEntry Try.underlying56 Try.underlying22 rfl rfl rfl (hv2) rfl ?_)
        intro s60
        refine S.dr_k rfl Sub.ent ?_
        refine S.dr_take 30 [] rfl (by kernel_rfl) rfl rfl rfl (q_extract rfl rfl) Sub.ent ?_
        refine S.dr_1 (i := 31) (by kernel_rfl) rfl rfl ?_
        refine  (S.entryStore rfl rfl rfl ?_)
        refine S.dr_k rfl Sub.ent ?_
        first | with_reducible refine S.dr_doneK (by kernel_rfl) ?_ | refine S.dr_done (by kernel_rfl) ?_
        with_reducible repeat (first | refine S.then_n ?_ | refine S.then_x ?_ | refine S.then_r ?_ | refine S.inBlock_n ?_ | refine S.inBlock_r ?_ | refine S.inBlock_x rfl ?_ | refine S.noGoto_r ?_ | refine S.noGoto_n ?_ | refine S.noGoto_x ?_)
        exact S.finN (rs := []) (vs := []) Try.results77 (trivial)  (rfl) Sub.ent
    · refine  (S.q (q_move rfl) rfl rfl ?_)
      refine S.dr_k rfl Sub.ent ?_
      refine S.dr_2 (i := 24) (j := 26) (by kernel_rfl) rfl rfl rfl rfl ?_ ?_
      · refine  (S.q (q_move rfl) rfl rfl ?_)
        refine S.dr_k rfl Sub.ent ?_
        refine S.dr_1 (i := 26) (by kernel_rfl) rfl rfl ?_
        refine  (S.mapEntry Try.underlying56 Try.underlying22 rfl rfl rfl (hyL) rfl ?_)
        intro s58
        refine S.dr_late ([]) [] rfl ?_
        refine S.dr_take 27 [] rfl (by kernel_rfl) rfl rfl rfl (q_extract rfl rfl) Sub.ent ?_
        refine S.dr_1 (i := 28) (by kernel_rfl) rfl rfl ?_
        refine  (S.entryStore rfl rfl rfl ?_)
        refine S.dr_k rfl Sub.ent ?_
        refine S.dr_1 (i := 29) (by kernel_rfl) rfl rfl ?_
        refine  (S.mapEntry Try.underlying56 Try.underlying22 rfl rfl rfl (hv2) rfl ?_)
        intro s60
        refine S.dr_k rfl Sub.ent ?_
        refine S.dr_take 30 [] rfl (by kernel_rfl) rfl rfl rfl (q_extract rfl rfl) Sub.ent ?_
        refine S.dr_1 (i := 31) (by kernel_rfl) rfl rfl ?_
        refine  (S.entryStore rfl rfl rfl ?_)
        refine S.dr_k rfl Sub.ent ?_
        first | with_reducible refine S.dr_doneK (by kernel_rfl) ?_ | refine S.dr_done (by kernel_rfl) ?_
        with_reducible repeat (first | refine S.then_n ?_ | refine S.then_x ?_ | refine S.then_r ?_ | refine S.inBlock_n ?_ | refine S.inBlock_r ?_ | refine S.inBlock_x rfl ?_ | refine S.noGoto_r ?_ | refine S.noGoto_n ?_ | refine S.noGoto_x ?_)
        exact S.finN (rs := []) (vs := []) Try.results77 (trivial)  (rfl) Sub.ent
      · refine  (S.mapEntry Try.underlying56 Try.underlying22 rfl rfl rfl (hyL) rfl ?_)
        intro s58
        refine S.dr_late ([]) [] rfl ?_
        refine S.dr_take 24 [] rfl (by kernel_rfl) rfl rfl rfl (q_move rfl) Sub.ent ?_
        refine S.dr_take 27 [] rfl (by kernel_rfl) rfl rfl rfl (q_extract rfl rfl) Sub.ent ?_
        refine S.dr_1 (i := 28) (by kernel_rfl) rfl rfl ?_
        refine  (S.entryStore rfl rfl rfl ?_)
        refine S.dr_k rfl Sub.ent ?_
        refine S.dr_1 (i := 29) (by kernel_rfl) rfl rfl ?_
        refine  (S.mapEntry Try.underlying56 Try.underlying22 rfl rfl rfl (hv2) rfl ?_)
        intro s60
        refine S.dr_k rfl Sub.ent ?_
        refine S.dr_take 30 [] rfl (by kernel_rfl) rfl rfl rfl (q_extract rfl rfl) Sub.ent ?_
        refine S.dr_1 (i := 31) (by kernel_rfl) rfl rfl ?_
        refine  (S.entryStore rfl rfl rfl ?_)
        refine S.dr_k rfl Sub.ent ?_
        first | with_reducible refine S.dr_doneK (by kernel_rfl) ?_ | refine S.dr_done (by kernel_rfl) ?_
        with_reducible repeat (first | refine S.then_n ?_ | refine S.then_x ?_ | refine S.then_r ?_ | refine S.inBlock_n ?_ | refine S.inBlock_r ?_ | refine S.inBlock_x rfl ?_ | refine S.noGoto_r ?_ | refine S.noGoto_n ?_ | refine S.noGoto_x ?_)
        exact S.finN (rs := []) (vs := []) Try.results77 (trivial)  (rfl) Sub.ent
    · refine  (S.mapEntry Try.underlying56 Try.underlying22 rfl rfl rfl (hyL) rfl ?_)
      intro s58
      refine S.dr_late ([]) [] rfl ?_
      refine S.dr_take 24 [] rfl (by kernel_rfl) rfl rfl rfl (q_move rfl) Sub.ent ?_
      refine S.dr_take 25 [] rfl (by kernel_rfl) rfl rfl rfl (q_move rfl) Sub.ent ?_
      refine S.dr_take 27 [] rfl (by kernel_rfl) rfl rfl rfl (q_extract rfl rfl) Sub.ent ?_
      refine S.dr_1 (i := 28) (by kernel_rfl) rfl rfl ?_
      refine  (S.entryStore rfl rfl rfl ?_)
      refine S.dr_k rfl Sub.ent ?_
      refine S.dr_1 (i := 29) (by kernel_rfl) rfl rfl ?_
      refine  (S.mapEntry Try.underlying56 Try.underlying22 rfl rfl rfl (hv2) rfl ?_)
      intro s60
      refine S.dr_k rfl Sub.ent ?_
      refine S.dr_take 30 [] rfl (by kernel_rfl) rfl rfl rfl (q_extract rfl rfl) Sub.ent ?_
      refine S.dr_1 (i := 31) (by kernel_rfl) rfl rfl ?_
      refine  (S.entryStore rfl rfl rfl ?_)
      refine S.dr_k rfl Sub.ent ?_
      first | with_reducible refine S.dr_doneK (by kernel_rfl) ?_ | refine S.dr_done (by kernel_rfl) ?_
      with_reducible repeat (first | refine S.then_n ?_ | refine S.then_x ?_ | refine S.then_r ?_ | refine S.inBlock_n ?_ | refine S.inBlock_r ?_ | refine S.inBlock_x rfl ?_ | refine S.noGoto_r ?_ | refine S.noGoto_n ?_ | refine S.noGoto_x ?_)
      exact S.finN (rs := []) (vs := []) Try.results77 (trivial)  (rfl) Sub.ent
end Go.Proofs.Ythpfljiabhjodaa
