/- Air: Fly, find, Land, Echo, Lose, At, Oldest, Len, Clear. -/
import Derived.Test.YthbckdjncmipeaaAirA
namespace Go.Proofs.Ythbckdjncmipeaa
open Go.RowKit
theorem flt_seg {os : List Flt} {i : Nat} {x : Flt} (hx : os[i]? = some x) : ∀ k u, [Value.int .i64 x.dst, x.v.v][k]? = some u → (os.flatMap fltC)[i * 3 + 1 + k]? = some u := fun k u h => by
  have := flat_get fltC_len hx (k := 1 + k) (v := u) (by rw [Nat.add_comm 1 k]; exact h)
  rw [← this, Nat.add_assoc]
theorem flt_erase (os : List Flt) (i : Nat) : (os.flatMap fltC).take (i * 3) ++ (os.flatMap fltC).drop ((i + 1) * 3) = (os.eraseIdx i).flatMap fltC := by
  rw [flat_drop fltC_len, List.eraseIdx_eq_take_drop_succ, List.flatMap_append]
  congr 1
  induction os generalizing i with
  | nil => simp
  | cons y os ih =>
    cases i with
    | zero => simp
    | succ i => rw [Nat.succ_mul, List.flatMap_cons, Nat.add_comm, List.take_append, List.take_of_length_le (by simp), fltC_len, Nat.add_sub_cancel_left, ih]; simp
theorem flt_out {os : List Flt} {i : Nat} {x : Flt} (hx : os[i]? = some x) (Γ : List Assn) : Ent (alls os fltB :: Γ) (fltB x :: alls (os.eraseIdx i) fltB :: Γ) := by
  rw [List.eraseIdx_eq_take_drop_succ]
  exact (Ent.allsAt fltB hx Γ).trans ((Ent.allsAppend fltB _ _ Γ).cons _)
theorem alls_bytes {os : List Flt} {i : Nat} {x : Flt} {Γ : List Assn} {w : World} (hs : Sat w (alls os fltB :: Γ)) (hx : os[i]? = some x) : BytesAt w x.v.v x.data :=
  obytes_at (hs.ent (Ent.allsAt fltB hx Γ))
theorem stands_at {os : List Flt} (ha : os.Pairwise fun a b => a.id < b.id) {i j : Nat} {x : Flt} (hx : os[i]? = some x) (h : Stands os x.id j) : j = i := by
  rcases Nat.lt_trichotomy i j with h1 | h1 | h1
  · have := ((h.2 i x hx).1 h1); omega
  · exact h1.symm
  · have hl := (List.getElem?_eq_some_iff.1 hx).1
    have hx' : os[j]? = some os[j] := List.getElem?_eq_getElem (by omega)
    have h2 := ((h.2 j _ hx').2 (Nat.le_refl _))
    obtain ⟨_, rfl⟩ := List.getElem?_eq_some_iff.1 hx
    have := List.pairwise_iff_getElem.1 ha j i (by omega) hl h1
    omega
theorem Fly_S (t : Nat) (most next : Int) (lv : SV) (os : List Flt) (dst : Int) (dv : SV) (l : List Int) (R : Assn) (hR : ∀ Γ w, Sat w (R :: Γ) → BytesAt w dv.v l) (hl : l.length ≤ 140737488355328) (hn : lv.n = os.length) (hm : most ≤ 2048) (hos : (os.length : Int) < most) (h0 : 0 ≤ next) (h1' : next < 18446744073709551615) :
    Spec Try.prog 9 [.pointer (some ⟨t, 0, none⟩), .agg #[.int .i64 dst, dv.v]] [blk t 67 (airC most next lv).toArray, own lv 70 3 (os.flatMap fltC), R] fun Γ v Θ =>
      ∃ u lv', v = .tuple #[.int .u64 next, .int .i64 0] ∧ lv'.n = os.length + 1 ∧ Θ = obytes u l :: blk t 67 (airC most (next + 1) lv').toArray :: own lv' 70 3 ((os ++ [(⟨next, dst, u, l⟩ : Flt)]).flatMap fltC) :: R :: Γ := by
  refine Spec.of_body Try.func9 rfl Try.ntmps9 rfl ?_
  intro w0 Γ
  show S _ w0 [(0, .pointer (some ⟨t, 0, none⟩)), (1, .agg #[.int .i64 dst, dv.v])] (blk t 67 (airC most next lv).toArray :: own lv 70 3 (os.flatMap fltC) :: R :: Γ) _
  refine S.ownLen lv fun hlen hnc hcm => ?_
  refine S.seq fun K1 hK1 => ?_
  refine S.region rfl ?_
  refine S.op (S.box (cs := [_, _]) rfl rfl rfl ?_)
  intro b3
  refine S.op (S.q (q_assign rfl) rfl rfl ?_)
  refine S.op (S.q (q_assign rfl) rfl rfl ?_)
  first | with_reducible refine S.nilK ?_ | refine S.nil ?_
  refine hK1 _ _ ?_
  refine S.seq fun K2 hK2 => ?_
  refine S.block ?_
  refine S.seq fun K3 hK3 => ?_
  refine S.region rfl ?_
  refine S.op (S.q (q_move rfl) rfl rfl ?_)
  refine S.op (S.q (q_eqN Try.underlying24 rfl rfl) rfl rfl ?_)
  refine S.op (S.q (q_assign rfl) rfl rfl ?_)
  first | with_reducible refine S.nilK ?_ | refine S.nil ?_
  refine hK3 _ _ ?_
  refine S.condF rfl ?_
  refine S.seq fun K4 hK4 => ?_
  refine S.draw ([blk t 67 (airC most next lv).toArray]) [] Try.mixed ?_
  refine S.dr_take 0 [] rfl (by kernel_rfl) rfl rfl rfl (q_move rfl) Sub.ent ?_
  refine S.dr_take 1 [] rfl (by kernel_rfl) rfl rfl rfl (q_nilCheck rfl) Sub.ent ?_
  refine S.dr_take 2 [] rfl (by kernel_rfl) rfl rfl rfl (q_field Try.fo67_2 rfl) Sub.ent ?_
  refine S.dr_take 3 [] rfl (by kernel_rfl) rfl rfl rfl (q_load Try.at65 rfl rfl) Sub.ent ?_
  refine S.dr_take 4 [] rfl (by kernel_rfl) rfl rfl rfl (q_len Try.underlying65 rfl) Sub.ent ?_
  refine S.dr_take 5 [] rfl (by kernel_rfl) rfl rfl rfl (q_move rfl) Sub.ent ?_
  refine S.dr_take 6 [] rfl (by kernel_rfl) rfl rfl rfl (q_nilCheck rfl) Sub.ent ?_
  refine S.dr_take 7 [] rfl (by kernel_rfl) rfl rfl rfl (q_field Try.fo67_0 rfl) Sub.ent ?_
  refine S.dr_take 8 [] rfl (by kernel_rfl) rfl rfl rfl (q_load Try.at3 rfl rfl) Sub.ent ?_
  refine S.dr_take 9 [] rfl (by kernel_rfl) rfl rfl rfl (q_ge rfl rfl) Sub.ent ?_
  refine S.dr_take 10 [] rfl (by kernel_rfl) rfl rfl rfl (q_assign rfl) Sub.ent ?_
  first | with_reducible refine S.dr_doneK (by kernel_rfl) ?_ | refine S.dr_done (by kernel_rfl) ?_
  refine hK4 _ _ ?_
  refine S.condD rfl (fun h2 => ?_) (fun h2 => ?_)
  · exact absurd h2 (by omega)
  · refine S.skip ?_
    with_reducible repeat (first | refine S.then_n ?_ | refine S.then_x ?_ | refine S.then_r ?_ | refine S.inBlock_n ?_ | refine S.inBlock_r ?_ | refine S.inBlock_x rfl ?_ | refine S.noGoto_r ?_ | refine S.noGoto_n ?_ | refine S.noGoto_x ?_)
    with_reducible repeat (first | refine S.then_n ?_ | refine S.then_x ?_ | refine S.then_r ?_ | refine S.inBlock_n ?_ | refine S.inBlock_r ?_ | refine S.inBlock_x rfl ?_ | refine S.noGoto_r ?_ | refine S.noGoto_n ?_ | refine S.noGoto_x ?_)
    refine hK2 _ _ ?_
    refine S.seq fun K5 hK5 => ?_
    refine S.region rfl ?_
    refine S.op (S.q (q_move rfl) rfl rfl ?_)
    refine S.op (S.q (q_nilCheck rfl) rfl rfl ?_)
    refine S.op (S.q (q_field Try.fo67_1 rfl) rfl rfl ?_)
    refine S.op (S.q (q_load Try.at30 rfl rfl) rfl rfl ?_)
    refine S.op (S.q (q_assign rfl) rfl rfl ?_)
    first | with_reducible refine S.nilK ?_ | refine S.nil ?_
    refine hK5 _ _ ?_
    refine S.seq fun K6 hK6 => ?_
    refine S.region rfl ?_
    refine S.op (S.q (q_move rfl) rfl rfl ?_)
    refine S.op (S.q (q_nilCheck rfl) rfl rfl ?_)
    refine S.op (S.q (q_field Try.fo67_1 rfl) rfl rfl ?_)
    refine S.op (S.q (q_load Try.at30 rfl rfl) rfl rfl ?_)
    refine S.op (S.q (q_add rfl rfl (inU64 (by omega) (by omega))) rfl rfl ?_)
    refine S.op (S.q (q_nilCheck rfl) rfl rfl ?_)
    refine S.op (S.q (q_field Try.fo67_1 rfl) rfl rfl ?_)
    refine S.op (S.store (cs' := [_, _, _]) Try.at30 rfl rfl rfl rfl rfl ?_)
    first | with_reducible refine S.nilK ?_ | refine S.nil ?_
    refine hK6 _ _ ?_
    refine S.seq fun K7 hK7 => ?_
    refine S.region rfl ?_
    refine S.op (S.q (q_field Try.fo34_1 rfl) rfl rfl ?_)
    refine S.op (S.q (q_load Try.at29 rfl rfl) rfl rfl ?_)
    refine S.op (S.call Try.en23 (vs := [_]) ⟨rfl, trivial⟩ (Clone_S dv.v l R hR (by omega)) rfl ?_)
    rintro v Θ ⟨u, rfl, hu, rfl⟩
    refine S.op (S.q (q_field Try.fo34_1 rfl) rfl rfl ?_)
    refine S.op (S.store (cs' := [_, _]) Try.at29 rfl rfl rfl rfl rfl ?_)
    first | with_reducible refine S.nilK ?_ | refine S.nil ?_
    refine hK7 _ _ ?_
    refine S.seq fun K8 hK8 => ?_
    refine S.draw ([blk t 67 (airC most (next + 1) lv).toArray, blk b3 34 #[.int .i64 dst, u.v]]) [12] Try.mixed ?_
    refine S.dr_take 0 [10, 11, 12] rfl (by kernel_rfl) rfl rfl rfl (q_move rfl) Sub.ent ?_
    refine S.dr_take 1 [2, 3, 4, 9, 10, 11, 12] rfl (by kernel_rfl) rfl rfl rfl (q_move rfl) Sub.ent ?_
    refine S.dr_take 2 [3, 4, 9, 10, 11, 12] rfl (by kernel_rfl) rfl rfl rfl (q_nilCheck rfl) Sub.ent ?_
    refine S.dr_take 3 [4, 9, 10, 11, 12] rfl (by kernel_rfl) rfl rfl rfl (q_field Try.fo67_2 rfl) Sub.ent ?_
    refine S.dr_take 4 [9, 10, 11, 12] rfl (by kernel_rfl) rfl rfl rfl (q_load Try.at65 rfl rfl) Sub.ent ?_
    refine S.dr_take 5 [7, 8, 9, 10, 11, 12] rfl (by kernel_rfl) rfl rfl rfl (q_move rfl) Sub.ent ?_
    refine S.dr_take 6 [7, 8, 9, 10, 11, 12] rfl (by kernel_rfl) rfl rfl rfl (q_loadS [_, _] Try.ag34 rfl rfl ⟨rfl, rfl, trivial⟩) Sub.ent ?_
    refine S.dr_take 7 [8, 9, 10, 11, 12] rfl (by kernel_rfl) rfl rfl rfl (q_build (pvs := [(_, _), (_, _)]) [_, _, _] Try.z70 Try.p70 ⟨⟨rfl, rfl⟩, ⟨rfl, rfl⟩, trivial⟩ rfl) Sub.ent ?_
    refine S.dr_1 (i := 8) (by kernel_rfl) rfl rfl ?_
    refine  (S.buildSlice (pvs := [(_, _)]) [_, _, _] Try.underlying65 Try.inf70 rfl rfl ⟨⟨rfl, rfl⟩, trivial⟩ rfl rfl ?_)
    intro b44
    refine S.dr_k rfl Sub.ent ?_
    refine S.dr_1 (i := 9) (by kernel_rfl) rfl rfl ?_
    refine  (S.appendOw (s := lv) (1) ([.int .u64 next, .int .i64 dst, u.v]) Try.underlying65 Try.inf70 rfl rfl rfl (blk_slAt (b := b44) rfl (by unfold maxLen; omega)) (by first | rfl | exact allOne_bcells _) (⟨by omega, by omega⟩) rfl ?_)
    intro lv' hlv'
    refine S.dr_k rfl Sub.ent ?_
    refine S.dr_take 10 [11, 12] rfl (by kernel_rfl) rfl rfl rfl (q_nilCheck rfl) Sub.ent ?_
    refine S.dr_take 11 [12] rfl (by kernel_rfl) rfl rfl rfl (q_field Try.fo67_2 rfl) Sub.ent ?_
    refine S.dr_1 (i := 12) (by kernel_rfl) rfl rfl ?_
    refine  (S.store (cs' := [_, _, _]) Try.at65 rfl rfl rfl rfl rfl ?_)
    refine S.dr_late ([]) [] rfl ?_
    first | with_reducible refine S.dr_doneK (by kernel_rfl) ?_ | refine S.dr_done (by kernel_rfl) ?_
    refine hK8 _ _ ?_
    refine S.seq fun K9 hK9 => ?_
    refine S.region rfl ?_
    refine S.op (S.q (q_move rfl) rfl rfl ?_)
    refine S.op (S.q (q_assign rfl) rfl rfl ?_)
    refine S.op (S.q (q_assign rfl) rfl rfl ?_)
    first | with_reducible refine S.nilK ?_ | refine S.nil ?_
    refine hK9 _ _ ?_
    refine S.ret ?_
    with_reducible repeat (first | refine S.then_n ?_ | refine S.then_x ?_ | refine S.then_r ?_ | refine S.inBlock_n ?_ | refine S.inBlock_r ?_ | refine S.inBlock_x rfl ?_ | refine S.noGoto_r ?_ | refine S.noGoto_n ?_ | refine S.noGoto_x ?_)
    rw [show os.flatMap fltC ++ [Value.int .u64 next, Value.int .i64 dst, u.v] = _ from flat_snoc fltC os (⟨next, dst, u, l⟩ : Flt)]
    exact S.fin (rs := [_, _]) (vs := [_, _]) Try.results9 (⟨rfl, rfl, trivial⟩)  (⟨u, lv', rfl, by omega, rfl⟩) Sub.ent
theorem FlyFull_S (t : Nat) (most next : Int) (lv : SV) (dst : Int) (dv : SV) (h : most ≤ lv.n) :
    Spec Try.prog 9 [.pointer (some ⟨t, 0, none⟩), .agg #[.int .i64 dst, dv.v]] [blk t 67 (airC most next lv).toArray] fun Γ v Θ =>
      v = .tuple #[.int .u64 0, .int .i64 8] ∧ Θ = blk t 67 (airC most next lv).toArray :: Γ := by
  refine Spec.of_body Try.func9 rfl Try.ntmps9 rfl ?_
  intro w0 Γ
  show S _ w0 [(0, .pointer (some ⟨t, 0, none⟩)), (1, .agg #[.int .i64 dst, dv.v])] (blk t 67 (airC most next lv).toArray :: Γ) _
  refine S.seq fun K1 hK1 => ?_
  refine S.region rfl ?_
  refine S.op (S.box (cs := [_, _]) rfl rfl rfl ?_)
  intro b3
  refine S.op (S.q (q_assign rfl) rfl rfl ?_)
  refine S.op (S.q (q_assign rfl) rfl rfl ?_)
  first | with_reducible refine S.nilK ?_ | refine S.nil ?_
  refine hK1 _ _ ?_
  refine S.seq fun K2 hK2 => ?_
  refine S.block ?_
  refine S.seq fun K3 hK3 => ?_
  refine S.region rfl ?_
  refine S.op (S.q (q_move rfl) rfl rfl ?_)
  refine S.op (S.q (q_eqN Try.underlying24 rfl rfl) rfl rfl ?_)
  refine S.op (S.q (q_assign rfl) rfl rfl ?_)
  first | with_reducible refine S.nilK ?_ | refine S.nil ?_
  refine hK3 _ _ ?_
  refine S.condF rfl ?_
  refine S.seq fun K4 hK4 => ?_
  refine S.draw ([blk t 67 (airC most next lv).toArray]) [] Try.mixed ?_
  refine S.dr_take 0 [] rfl (by kernel_rfl) rfl rfl rfl (q_move rfl) Sub.ent ?_
  refine S.dr_take 1 [] rfl (by kernel_rfl) rfl rfl rfl (q_nilCheck rfl) Sub.ent ?_
  refine S.dr_take 2 [] rfl (by kernel_rfl) rfl rfl rfl (q_field Try.fo67_2 rfl) Sub.ent ?_
  refine S.dr_take 3 [] rfl (by kernel_rfl) rfl rfl rfl (q_load Try.at65 rfl rfl) Sub.ent ?_
  refine S.dr_take 4 [] rfl (by kernel_rfl) rfl rfl rfl (q_len Try.underlying65 rfl) Sub.ent ?_
  refine S.dr_take 5 [] rfl (by kernel_rfl) rfl rfl rfl (q_move rfl) Sub.ent ?_
  refine S.dr_take 6 [] rfl (by kernel_rfl) rfl rfl rfl (q_nilCheck rfl) Sub.ent ?_
  refine S.dr_take 7 [] rfl (by kernel_rfl) rfl rfl rfl (q_field Try.fo67_0 rfl) Sub.ent ?_
  refine S.dr_take 8 [] rfl (by kernel_rfl) rfl rfl rfl (q_load Try.at3 rfl rfl) Sub.ent ?_
  refine S.dr_take 9 [] rfl (by kernel_rfl) rfl rfl rfl (q_ge rfl rfl) Sub.ent ?_
  refine S.dr_take 10 [] rfl (by kernel_rfl) rfl rfl rfl (q_assign rfl) Sub.ent ?_
  first | with_reducible refine S.dr_doneK (by kernel_rfl) ?_ | refine S.dr_done (by kernel_rfl) ?_
  refine hK4 _ _ ?_
  refine S.condD rfl (fun h2 => ?_) (fun h2 => ?_)
  · refine S.seq fun K5 hK5 => ?_
    refine S.region rfl ?_
    refine S.op (S.q (q_assign rfl) rfl rfl ?_)
    refine S.op (S.q (q_assign rfl) rfl rfl ?_)
    first | with_reducible refine S.nilK ?_ | refine S.nil ?_
    refine hK5 _ _ ?_
    refine S.ret ?_
    with_reducible repeat (first | refine S.then_n ?_ | refine S.then_x ?_ | refine S.then_r ?_ | refine S.inBlock_n ?_ | refine S.inBlock_r ?_ | refine S.inBlock_x rfl ?_ | refine S.noGoto_r ?_ | refine S.noGoto_n ?_ | refine S.noGoto_x ?_)
    exact S.fin (rs := [_, _]) (vs := [_, _]) Try.results9 (⟨rfl, rfl, trivial⟩)  (⟨rfl, rfl⟩) Sub.ent
  · exact absurd (by omega) h2
theorem FlyNil_S (dst : Int) (dv : SV) :
    Spec Try.prog 9 [.pointer none, .agg #[.int .i64 dst, dv.v]] [] fun Γ v Θ => v = .tuple #[.int .u64 0, .int .i64 6] ∧ Θ = Γ := by
  refine Spec.of_body Try.func9 rfl Try.ntmps9 rfl ?_
  intro w0 Γ
  show S _ w0 [(0, .pointer none), (1, .agg #[.int .i64 dst, dv.v])] Γ _
  refine S.seq fun K1 hK1 => ?_
  refine S.region rfl ?_
  refine S.op (S.box (cs := [_, _]) rfl rfl rfl ?_)
  intro b3
  refine S.op (S.q (q_assign rfl) rfl rfl ?_)
  refine S.op (S.q (q_assign rfl) rfl rfl ?_)
  first | with_reducible refine S.nilK ?_ | refine S.nil ?_
  refine hK1 _ _ ?_
  refine S.seq fun K2 hK2 => ?_
  refine S.block ?_
  refine S.seq fun K3 hK3 => ?_
  refine S.region rfl ?_
  refine S.op (S.q (q_move rfl) rfl rfl ?_)
  refine S.op (S.q (q_eqN Try.underlying24 rfl rfl) rfl rfl ?_)
  refine S.op (S.q (q_assign rfl) rfl rfl ?_)
  first | with_reducible refine S.nilK ?_ | refine S.nil ?_
  refine hK3 _ _ ?_
  refine S.condT rfl ?_
  refine S.seq fun K4 hK4 => ?_
  refine S.region rfl ?_
  refine S.op (S.q (q_assign rfl) rfl rfl ?_)
  refine S.op (S.q (q_assign rfl) rfl rfl ?_)
  first | with_reducible refine S.nilK ?_ | refine S.nil ?_
  refine hK4 _ _ ?_
  refine S.ret ?_
  with_reducible repeat (first | refine S.then_n ?_ | refine S.then_x ?_ | refine S.then_r ?_ | refine S.inBlock_n ?_ | refine S.inBlock_r ?_ | refine S.inBlock_x rfl ?_ | refine S.noGoto_r ?_ | refine S.noGoto_n ?_ | refine S.noGoto_x ?_)
  exact S.fin (rs := [_, _]) (vs := [_, _]) Try.results9 (⟨rfl, rfl, trivial⟩)  (⟨rfl, rfl⟩) Sub.ent
theorem find_S (t : Nat) (most next : Int) (lv : SV) (os : List Flt) (hn : lv.n = os.length) (hl : os.length ≤ 2048) (ha : os.Pairwise fun a b => a.id < b.id) (y : Int) :
    Spec Try.prog 24 [.pointer (some ⟨t, 0, none⟩), .int .u64 y] [blk t 67 (airC most next lv).toArray, own lv 70 3 (os.flatMap fltC)] fun Γ v Θ =>
      ∃ (i : Nat) (b : Bool), v = .tuple #[.int .i64 i, .bool b] ∧ Stands os y i ∧ (b = true ↔ ∃ x, os[i]? = some x ∧ x.id = y) ∧ Θ = blk t 67 (airC most next lv).toArray :: own lv 70 3 (os.flatMap fltC) :: Γ := by
  refine Spec.of_body Try.func24 rfl Try.ntmps24 rfl ?_
  intro w0 Γ
  show S _ w0 [(0, .pointer (some ⟨t, 0, none⟩)), (1, .int .u64 y)] (blk t 67 (airC most next lv).toArray :: own lv 70 3 (os.flatMap fltC) :: Γ) _
  refine S.seq fun K1 hK1 => ?_
  refine S.region rfl ?_
  refine S.op (S.q (q_assign rfl) rfl rfl ?_)
  refine S.op (S.q (q_assign rfl) rfl rfl ?_)
  first | with_reducible refine S.nilK ?_ | refine S.nil ?_
  refine hK1 _ _ ?_
  refine S.seq fun K2 hK2 => ?_
  refine S.seq fun K3 hK3 => ?_
  refine S.region rfl ?_
  refine S.op (S.q (q_move rfl) rfl rfl ?_)
  refine S.op (S.q (q_eqN Try.underlying24 rfl rfl) rfl rfl ?_)
  first | with_reducible refine S.nilK ?_ | refine S.nil ?_
  refine hK3 _ _ ?_
  refine S.condF rfl ?_
  refine S.skip ?_
  with_reducible repeat (first | refine S.then_n ?_ | refine S.then_x ?_ | refine S.then_r ?_ | refine S.inBlock_n ?_ | refine S.inBlock_r ?_ | refine S.inBlock_x rfl ?_ | refine S.noGoto_r ?_ | refine S.noGoto_n ?_ | refine S.noGoto_x ?_)
  refine hK2 _ _ ?_
  refine S.seq fun K4 hK4 => ?_
  refine S.region rfl ?_
  refine S.op (S.q (q_move rfl) rfl rfl ?_)
  refine S.op (S.q (q_nilCheck rfl) rfl rfl ?_)
  refine S.op (S.q (q_field Try.fo67_2 rfl) rfl rfl ?_)
  refine S.op (S.q (q_load Try.at65 rfl rfl) rfl rfl ?_)
  refine S.op (S.q (q_move rfl) rfl rfl ?_)
  refine S.op (S.call Try.en26 (vs := [_, _, _]) ⟨rfl, rfl, rfl, trivial⟩ (BSF_S lv os hn (by omega) ha y) rfl ?_)
  rintro v Θ ⟨i, b, rfl, hi, hb, rfl⟩
  refine S.op (S.q (q_extract rfl rfl) rfl rfl ?_)
  refine S.op (S.q (q_extract rfl rfl) rfl rfl ?_)
  refine S.op (S.q (q_assign rfl) rfl rfl ?_)
  refine S.op (S.q (q_assign rfl) rfl rfl ?_)
  first | with_reducible refine S.nilK ?_ | refine S.nil ?_
  refine hK4 _ _ ?_
  refine S.ret ?_
  with_reducible repeat (first | refine S.then_n ?_ | refine S.then_x ?_ | refine S.then_r ?_ | refine S.inBlock_n ?_ | refine S.inBlock_r ?_ | refine S.inBlock_x rfl ?_ | refine S.noGoto_r ?_ | refine S.noGoto_n ?_ | refine S.noGoto_x ?_)
  exact S.fin (rs := [_, _]) (vs := [_, _]) Try.results24 (⟨rfl, rfl, trivial⟩)  (⟨i, b, rfl, hi, hb, rfl⟩) Sub.ent
theorem findNil_S (y : Int) : Spec Try.prog 24 [.pointer none, .int .u64 y] [] fun Γ v Θ => v = .tuple #[.int .i64 0, .bool false] ∧ Θ = Γ := by
  refine Spec.of_body Try.func24 rfl Try.ntmps24 rfl ?_
  intro w0 Γ
  show S _ w0 [(0, .pointer none), (1, .int .u64 y)] Γ _
  refine S.seq fun K1 hK1 => ?_
  refine S.region rfl ?_
  refine S.op (S.q (q_assign rfl) rfl rfl ?_)
  refine S.op (S.q (q_assign rfl) rfl rfl ?_)
  first | with_reducible refine S.nilK ?_ | refine S.nil ?_
  refine hK1 _ _ ?_
  refine S.seq fun K2 hK2 => ?_
  refine S.seq fun K3 hK3 => ?_
  refine S.region rfl ?_
  refine S.op (S.q (q_move rfl) rfl rfl ?_)
  refine S.op (S.q (q_eqN Try.underlying24 rfl rfl) rfl rfl ?_)
  first | with_reducible refine S.nilK ?_ | refine S.nil ?_
  refine hK3 _ _ ?_
  refine S.condT rfl ?_
  refine S.seq fun K4 hK4 => ?_
  refine S.region rfl ?_
  refine S.op (S.q (q_assign rfl) rfl rfl ?_)
  refine S.op (S.q (q_assign rfl) rfl rfl ?_)
  first | with_reducible refine S.nilK ?_ | refine S.nil ?_
  refine hK4 _ _ ?_
  refine S.ret ?_
  with_reducible repeat (first | refine S.then_n ?_ | refine S.then_x ?_ | refine S.then_r ?_ | refine S.inBlock_n ?_ | refine S.inBlock_r ?_ | refine S.inBlock_x rfl ?_ | refine S.noGoto_r ?_ | refine S.noGoto_n ?_ | refine S.noGoto_x ?_)
  exact S.fin (rs := [_, _]) (vs := [_, _]) Try.results24 (⟨rfl, rfl, trivial⟩)  (⟨rfl, rfl⟩) Sub.ent
theorem Land_S (t : Nat) (most next : Int) (lv : SV) (os : List Flt) (hn : lv.n = os.length) (hl : os.length ≤ 2048) (ha : os.Pairwise fun a b => a.id < b.id) (i : Nat) (x : Flt) (hx : os[i]? = some x) (y : Int) (hxy : x.id = y) :
    Spec Try.prog 12 [.pointer (some ⟨t, 0, none⟩), .int .u64 y] [blk t 67 (airC most next lv).toArray, own lv 70 3 (os.flatMap fltC), alls os fltB] fun Γ v Θ =>
      ∃ lv' : SV, v = .tuple #[.agg #[.int .i64 x.dst, x.v.v], .int .i64 0] ∧ lv'.n = (os.eraseIdx i).length ∧ Θ = fltB x :: blk t 67 (airC most next lv').toArray :: own lv' 70 3 ((os.eraseIdx i).flatMap fltC) :: alls (os.eraseIdx i) fltB :: Γ := by
  subst hxy
  refine Spec.of_body Try.func12 rfl Try.ntmps12 rfl ?_
  intro w0 Γ
  show S _ w0 [(0, .pointer (some ⟨t, 0, none⟩)), (1, .int .u64 x.id)] (blk t 67 (airC most next lv).toArray :: own lv 70 3 (os.flatMap fltC) :: alls os fltB :: Γ) _
  have hi := (List.getElem?_eq_some_iff.1 hx).1
  refine S.ownSome lv (by omega) fun b off hb hlen hnc hcm => ?_
  refine S.seq fun K1 hK1 => ?_
  refine S.region rfl ?_
  refine S.op (S.alloc Try.z34 rfl ?_)
  intro b4
  refine S.op (S.q (q_assign rfl) rfl rfl ?_)
  first | with_reducible refine S.nilK ?_ | refine S.nil ?_
  refine hK1 _ _ ?_
  refine S.seq fun K2 hK2 => ?_
  refine S.region rfl ?_
  refine S.op (S.q (q_move rfl) rfl rfl ?_)
  refine S.op (S.q (q_move rfl) rfl rfl ?_)
  refine S.op (S.call Try.en24 (vs := [_, _]) ⟨rfl, rfl, trivial⟩ (find_S t most next lv os hn hl ha x.id) rfl ?_)
  rintro v Θ ⟨j, c, rfl, hj, hc, rfl⟩
  obtain rfl := stands_at ha hx hj
  obtain rfl : c = true := hc.2 ⟨x, hx, rfl⟩
  refine S.op (S.q (q_move rfl) rfl rfl ?_)
  refine S.op (S.q (q_extract rfl rfl) rfl rfl ?_)
  refine S.op (S.q (q_extract rfl rfl) rfl rfl ?_)
  refine S.op (S.q (q_assign rfl) rfl rfl ?_)
  refine S.op (S.q (q_assign rfl) rfl rfl ?_)
  first | with_reducible refine S.nilK ?_ | refine S.nil ?_
  refine hK2 _ _ ?_
  refine S.seq fun K3 hK3 => ?_
  refine S.seq fun K4 hK4 => ?_
  refine S.region rfl ?_
  refine S.op (S.q (q_move rfl) rfl rfl ?_)
  refine S.op (S.q (q_not rfl) rfl rfl ?_)
  first | with_reducible refine S.nilK ?_ | refine S.nil ?_
  refine hK4 _ _ ?_
  refine S.condF rfl ?_
  refine S.skip ?_
  with_reducible repeat (first | refine S.then_n ?_ | refine S.then_x ?_ | refine S.then_r ?_ | refine S.inBlock_n ?_ | refine S.inBlock_r ?_ | refine S.inBlock_x rfl ?_ | refine S.noGoto_r ?_ | refine S.noGoto_n ?_ | refine S.noGoto_x ?_)
  refine hK3 _ _ ?_
  refine S.seq fun K5 hK5 => ?_
  refine S.region rfl ?_
  refine S.op (S.q (q_move rfl) rfl rfl ?_)
  refine S.op (S.q (q_nilCheck rfl) rfl rfl ?_)
  refine S.op (S.q (q_field Try.fo67_2 rfl) rfl rfl ?_)
  refine S.op (S.q (q_load Try.at65 rfl rfl) rfl rfl ?_)
  refine S.op (S.q (q_move rfl) rfl rfl ?_)
  refine S.op (S.q (q_indexO (j) Try.el65 rfl hb rfl rfl (by omega)) rfl rfl ?_)
  refine S.op (S.q (q_field Try.fo70_1 rfl) rfl rfl ?_)
  refine S.op (S.q (q_loadOwS (lv) (j * 3 + 1) [_, _] Try.ag34 rfl hb (by first | rfl | exact Nat.add_assoc _ _ _ | omega) rfl (flt_seg hx)) rfl rfl ?_)
  refine S.op (S.alloc Try.z34 rfl ?_)
  intro b8
  refine S.op (S.storeS (cs' := [_, _]) Try.ag34 rfl rfl rfl rfl rfl rfl ?_)
  first | with_reducible refine S.nilK ?_ | refine S.nil ?_
  refine hK5 _ _ ?_
  refine S.seq fun K6 hK6 => ?_
  refine S.region rfl ?_
  refine S.op (S.q (q_move rfl) rfl rfl ?_)
  refine S.op (S.q (q_move rfl) rfl rfl ?_)
  refine S.op (S.q (q_nilCheck rfl) rfl rfl ?_)
  refine S.op (S.q (q_field Try.fo67_2 rfl) rfl rfl ?_)
  refine S.op (S.q (q_load Try.at65 rfl rfl) rfl rfl ?_)
  refine S.op (S.q (q_move rfl) rfl rfl ?_)
  refine S.op (S.q (q_move rfl) rfl rfl ?_)
  refine S.op (S.q (q_add rfl rfl (inI64 (by omega) (by omega))) rfl rfl ?_)
  refine S.op (S.call Try.en25 (vs := [_, _, _]) ⟨rfl, rfl, rfl, trivial⟩ (Delete_S lv (os.flatMap fltC) j (by omega) (by omega) (flt_one os)) rfl ?_)
  rintro v Θ ⟨lv', rfl, hlv', rfl⟩
  refine S.op (S.q (q_nilCheck rfl) rfl rfl ?_)
  refine S.op (S.q (q_field Try.fo67_2 rfl) rfl rfl ?_)
  refine S.op (S.store (cs' := [_, _, _]) Try.at65 rfl rfl rfl rfl rfl ?_)
  first | with_reducible refine S.nilK ?_ | refine S.nil ?_
  refine hK6 _ _ ?_
  refine S.seq fun K7 hK7 => ?_
  refine S.region rfl ?_
  refine S.op (S.q (q_loadS [_, _] Try.ag34 rfl rfl ⟨rfl, rfl, trivial⟩) rfl rfl ?_)
  refine S.op (S.storeS (cs' := [_, _]) Try.ag34 rfl rfl rfl rfl rfl rfl ?_)
  refine S.op (S.q (q_assign rfl) rfl rfl ?_)
  first | with_reducible refine S.nilK ?_ | refine S.nil ?_
  refine hK7 _ _ ?_
  refine S.ret ?_
  with_reducible repeat (first | refine S.then_n ?_ | refine S.then_x ?_ | refine S.then_r ?_ | refine S.inBlock_n ?_ | refine S.inBlock_r ?_ | refine S.inBlock_x rfl ?_ | refine S.noGoto_r ?_ | refine S.noGoto_n ?_ | refine S.noGoto_x ?_)
  rw [flt_erase os j]
  refine S.conv (alls os fltB) (flt_out hx _) ?_
  exact S.fin (rs := [_, _]) (vs := [_, _]) Try.results12 (⟨⟨_, _, rfl, lod_agg [_, _] Try.ag34 rfl ⟨rfl, rfl, trivial⟩⟩, rfl, trivial⟩)  (⟨lv', rfl, by rw [List.length_eraseIdx, if_pos hi]; omega, rfl⟩) Sub.ent
theorem LandNo_S (t : Nat) (most next : Int) (lv : SV) (os : List Flt) (hn : lv.n = os.length) (hl : os.length ≤ 2048) (ha : os.Pairwise fun a b => a.id < b.id) (y : Int) (hy : ∀ x ∈ os, x.id ≠ y) :
    Spec Try.prog 12 [.pointer (some ⟨t, 0, none⟩), .int .u64 y] [blk t 67 (airC most next lv).toArray, own lv 70 3 (os.flatMap fltC)] fun Γ v Θ =>
      v = .tuple #[.agg #[.int .i64 0, SV.nil.v], .int .i64 6] ∧ Θ = blk t 67 (airC most next lv).toArray :: own lv 70 3 (os.flatMap fltC) :: Γ := by
  refine Spec.of_body Try.func12 rfl Try.ntmps12 rfl ?_
  intro w0 Γ
  show S _ w0 [(0, .pointer (some ⟨t, 0, none⟩)), (1, .int .u64 y)] (blk t 67 (airC most next lv).toArray :: own lv 70 3 (os.flatMap fltC) :: Γ) _
  refine S.seq fun K1 hK1 => ?_
  refine S.region rfl ?_
  refine S.op (S.alloc Try.z34 rfl ?_)
  intro b4
  refine S.op (S.q (q_assign rfl) rfl rfl ?_)
  first | with_reducible refine S.nilK ?_ | refine S.nil ?_
  refine hK1 _ _ ?_
  refine S.seq fun K2 hK2 => ?_
  refine S.region rfl ?_
  refine S.op (S.q (q_move rfl) rfl rfl ?_)
  refine S.op (S.q (q_move rfl) rfl rfl ?_)
  refine S.op (S.call Try.en24 (vs := [_, _]) ⟨rfl, rfl, trivial⟩ (find_S t most next lv os hn hl ha y) rfl ?_)
  rintro v Θ ⟨j, c, rfl, hj, hc, rfl⟩
  obtain rfl : c = false := by cases c with | false => rfl | true => (obtain ⟨x, hx, e⟩ := hc.1 rfl; exact absurd e (hy x (List.mem_of_getElem? hx)))
  refine S.op (S.q (q_move rfl) rfl rfl ?_)
  refine S.op (S.q (q_extract rfl rfl) rfl rfl ?_)
  refine S.op (S.q (q_extract rfl rfl) rfl rfl ?_)
  refine S.op (S.q (q_assign rfl) rfl rfl ?_)
  refine S.op (S.q (q_assign rfl) rfl rfl ?_)
  first | with_reducible refine S.nilK ?_ | refine S.nil ?_
  refine hK2 _ _ ?_
  refine S.seq fun K3 hK3 => ?_
  refine S.seq fun K4 hK4 => ?_
  refine S.region rfl ?_
  refine S.op (S.q (q_move rfl) rfl rfl ?_)
  refine S.op (S.q (q_not rfl) rfl rfl ?_)
  first | with_reducible refine S.nilK ?_ | refine S.nil ?_
  refine hK4 _ _ ?_
  refine S.condT rfl ?_
  refine S.seq fun K5 hK5 => ?_
  refine S.region rfl ?_
  refine S.op (S.q (q_build (pvs := []) [_, _] Try.z34 Try.p34 trivial rfl) rfl rfl ?_)
  refine S.op (S.storeS (cs' := [_, _]) Try.ag34 rfl rfl rfl rfl rfl rfl ?_)
  refine S.op (S.q (q_assign rfl) rfl rfl ?_)
  first | with_reducible refine S.nilK ?_ | refine S.nil ?_
  refine hK5 _ _ ?_
  refine S.ret ?_
  with_reducible repeat (first | refine S.then_n ?_ | refine S.then_x ?_ | refine S.then_r ?_ | refine S.inBlock_n ?_ | refine S.inBlock_r ?_ | refine S.inBlock_x rfl ?_ | refine S.noGoto_r ?_ | refine S.noGoto_n ?_ | refine S.noGoto_x ?_)
  exact S.fin (rs := [_, _]) (vs := [_, _]) Try.results12 (⟨⟨_, _, rfl, lod_agg [_, _] Try.ag34 rfl ⟨rfl, rfl, trivial⟩⟩, rfl, trivial⟩)  (⟨rfl, rfl⟩) Sub.ent
theorem LandNil_S (y : Int) :
    Spec Try.prog 12 [.pointer none, .int .u64 y] [] fun Γ v Θ => v = .tuple #[.agg #[.int .i64 0, SV.nil.v], .int .i64 6] ∧ Θ = Γ := by
  refine Spec.of_body Try.func12 rfl Try.ntmps12 rfl ?_
  intro w0 Γ
  show S _ w0 [(0, .pointer none), (1, .int .u64 y)] Γ _
  refine S.seq fun K1 hK1 => ?_
  refine S.region rfl ?_
  refine S.op (S.alloc Try.z34 rfl ?_)
  intro b4
  refine S.op (S.q (q_assign rfl) rfl rfl ?_)
  first | with_reducible refine S.nilK ?_ | refine S.nil ?_
  refine hK1 _ _ ?_
  refine S.seq fun K2 hK2 => ?_
  refine S.region rfl ?_
  refine S.op (S.q (q_move rfl) rfl rfl ?_)
  refine S.op (S.q (q_move rfl) rfl rfl ?_)
  refine S.op (S.call Try.en24 (vs := [_, _]) ⟨rfl, rfl, trivial⟩ (findNil_S y) rfl ?_)
  rintro v Θ ⟨rfl, rfl⟩
  refine S.op (S.q (q_move rfl) rfl rfl ?_)
  refine S.op (S.q (q_extract rfl rfl) rfl rfl ?_)
  refine S.op (S.q (q_extract rfl rfl) rfl rfl ?_)
  refine S.op (S.q (q_assign rfl) rfl rfl ?_)
  refine S.op (S.q (q_assign rfl) rfl rfl ?_)
  first | with_reducible refine S.nilK ?_ | refine S.nil ?_
  refine hK2 _ _ ?_
  refine S.seq fun K3 hK3 => ?_
  refine S.seq fun K4 hK4 => ?_
  refine S.region rfl ?_
  refine S.op (S.q (q_move rfl) rfl rfl ?_)
  refine S.op (S.q (q_not rfl) rfl rfl ?_)
  first | with_reducible refine S.nilK ?_ | refine S.nil ?_
  refine hK4 _ _ ?_
  refine S.condT rfl ?_
  refine S.seq fun K5 hK5 => ?_
  refine S.region rfl ?_
  refine S.op (S.q (q_build (pvs := []) [_, _] Try.z34 Try.p34 trivial rfl) rfl rfl ?_)
  refine S.op (S.storeS (cs' := [_, _]) Try.ag34 rfl rfl rfl rfl rfl rfl ?_)
  refine S.op (S.q (q_assign rfl) rfl rfl ?_)
  first | with_reducible refine S.nilK ?_ | refine S.nil ?_
  refine hK5 _ _ ?_
  refine S.ret ?_
  with_reducible repeat (first | refine S.then_n ?_ | refine S.then_x ?_ | refine S.then_r ?_ | refine S.inBlock_n ?_ | refine S.inBlock_r ?_ | refine S.inBlock_x rfl ?_ | refine S.noGoto_r ?_ | refine S.noGoto_n ?_ | refine S.noGoto_x ?_)
  exact S.fin (rs := [_, _]) (vs := [_, _]) Try.results12 (⟨⟨_, _, rfl, lod_agg [_, _] Try.ag34 rfl ⟨rfl, rfl, trivial⟩⟩, rfl, trivial⟩)  (⟨rfl, rfl⟩) Sub.ent
theorem Echo_S (t : Nat) (most next : Int) (lv : SV) (os : List Flt) (hn : lv.n = os.length) (ha : os.Pairwise fun a b => a.id < b.id) (i : Nat) (x : Flt) (hx : os[i]? = some x) (y : Int) (hxy : x.id = y) (hd : x.data.length ≤ 140737488355328) (hm : most ≤ 2048) (hos : (os.length : Int) < most) (h0 : 0 ≤ next) (h1' : next < 18446744073709551615) :
    Spec Try.prog 10 [.pointer (some ⟨t, 0, none⟩), .int .u64 y] [blk t 67 (airC most next lv).toArray, own lv 70 3 (os.flatMap fltC), alls os fltB] fun Γ v Θ =>
      ∃ u lv', v = .tuple #[.int .u64 next, .int .i64 0] ∧ lv'.n = os.length + 1 ∧ Θ = blk t 67 (airC most (next + 1) lv').toArray :: own lv' 70 3 ((os ++ [(⟨next, x.dst, u, x.data⟩ : Flt)]).flatMap fltC) :: alls (os ++ [(⟨next, x.dst, u, x.data⟩ : Flt)]) fltB :: Γ := by
  subst hxy
  refine Spec.of_body Try.func10 rfl Try.ntmps10 rfl ?_
  intro w0 Γ
  show S _ w0 [(0, .pointer (some ⟨t, 0, none⟩)), (1, .int .u64 x.id)] (blk t 67 (airC most next lv).toArray :: own lv 70 3 (os.flatMap fltC) :: alls os fltB :: Γ) _
  have hi := (List.getElem?_eq_some_iff.1 hx).1
  refine S.ownSome lv (by omega) fun b off hb hlen hnc hcm => ?_
  refine S.seq fun K1 hK1 => ?_
  refine S.region rfl ?_
  refine S.op (S.q (q_assign rfl) rfl rfl ?_)
  refine S.op (S.q (q_assign rfl) rfl rfl ?_)
  first | with_reducible refine S.nilK ?_ | refine S.nil ?_
  refine hK1 _ _ ?_
  refine S.seq fun K2 hK2 => ?_
  refine S.region rfl ?_
  refine S.op (S.q (q_move rfl) rfl rfl ?_)
  refine S.op (S.q (q_move rfl) rfl rfl ?_)
  refine S.op (S.call Try.en24 (vs := [_, _]) ⟨rfl, rfl, trivial⟩ (find_S t most next lv os hn (by omega) ha x.id) rfl ?_)
  rintro v Θ ⟨j, c, rfl, hj, hc, rfl⟩
  obtain rfl := stands_at ha hx hj
  obtain rfl : c = true := hc.2 ⟨x, hx, rfl⟩
  refine S.op (S.q (q_move rfl) rfl rfl ?_)
  refine S.op (S.q (q_extract rfl rfl) rfl rfl ?_)
  refine S.op (S.q (q_extract rfl rfl) rfl rfl ?_)
  refine S.op (S.q (q_assign rfl) rfl rfl ?_)
  refine S.op (S.q (q_assign rfl) rfl rfl ?_)
  first | with_reducible refine S.nilK ?_ | refine S.nil ?_
  refine hK2 _ _ ?_
  refine S.seq fun K3 hK3 => ?_
  refine S.seq fun K4 hK4 => ?_
  refine S.region rfl ?_
  refine S.op (S.q (q_move rfl) rfl rfl ?_)
  refine S.op (S.q (q_not rfl) rfl rfl ?_)
  first | with_reducible refine S.nilK ?_ | refine S.nil ?_
  refine hK4 _ _ ?_
  refine S.condF rfl ?_
  refine S.skip ?_
  with_reducible repeat (first | refine S.then_n ?_ | refine S.then_x ?_ | refine S.then_r ?_ | refine S.inBlock_n ?_ | refine S.inBlock_r ?_ | refine S.inBlock_x rfl ?_ | refine S.noGoto_r ?_ | refine S.noGoto_n ?_ | refine S.noGoto_x ?_)
  refine hK3 _ _ ?_
  refine S.seq fun K5 hK5 => ?_
  refine S.region rfl ?_
  refine S.op (S.q (q_move rfl) rfl rfl ?_)
  refine S.op (S.q (q_move rfl) rfl rfl ?_)
  refine S.op (S.q (q_nilCheck rfl) rfl rfl ?_)
  refine S.op (S.q (q_field Try.fo67_2 rfl) rfl rfl ?_)
  refine S.op (S.q (q_load Try.at65 rfl rfl) rfl rfl ?_)
  refine S.op (S.q (q_move rfl) rfl rfl ?_)
  refine S.op (S.q (q_indexO (j) Try.el65 rfl hb rfl rfl (by omega)) rfl rfl ?_)
  refine S.op (S.q (q_field Try.fo70_1 rfl) rfl rfl ?_)
  refine S.op (S.q (q_loadOwS (lv) (j * 3 + 1) [_, _] Try.ag34 rfl hb (by first | rfl | exact Nat.add_assoc _ _ _ | omega) rfl (flt_seg hx)) rfl rfl ?_)
  refine S.op (S.call Try.en9 (vs := [_, _]) ⟨rfl, rfl, trivial⟩ (Fly_S t most next lv os x.dst x.v x.data (alls os fltB) (fun Γ w h => alls_bytes h hx) hd hn hm hos h0 h1') rfl ?_)
  rintro v Θ ⟨u, lv', rfl, hlv', rfl⟩
  refine S.op (S.q (q_extract rfl rfl) rfl rfl ?_)
  refine S.op (S.q (q_extract rfl rfl) rfl rfl ?_)
  refine S.op (S.q (q_assign rfl) rfl rfl ?_)
  refine S.op (S.q (q_assign rfl) rfl rfl ?_)
  first | with_reducible refine S.nilK ?_ | refine S.nil ?_
  refine hK5 _ _ ?_
  refine S.ret ?_
  with_reducible repeat (first | refine S.then_n ?_ | refine S.then_x ?_ | refine S.then_r ?_ | refine S.inBlock_n ?_ | refine S.inBlock_r ?_ | refine S.inBlock_x rfl ?_ | refine S.noGoto_r ?_ | refine S.noGoto_n ?_ | refine S.noGoto_x ?_)
  refine S.conv2 (obytes u x.data) (alls os fltB) (Ent.allsSnoc fltB os (⟨next, x.dst, u, x.data⟩ : Flt) _) ?_
  exact S.fin (rs := [_, _]) (vs := [_, _]) Try.results10 (⟨rfl, rfl, trivial⟩)  (⟨u, lv', rfl, hlv', rfl⟩) Sub.ent
theorem EchoFull_S (t : Nat) (most next : Int) (lv : SV) (os : List Flt) (hn : lv.n = os.length) (hl : os.length ≤ 2048) (ha : os.Pairwise fun a b => a.id < b.id) (i : Nat) (x : Flt) (hx : os[i]? = some x) (y : Int) (hxy : x.id = y) (hos : most ≤ os.length) :
    Spec Try.prog 10 [.pointer (some ⟨t, 0, none⟩), .int .u64 y] [blk t 67 (airC most next lv).toArray, own lv 70 3 (os.flatMap fltC)] fun Γ v Θ =>
      v = .tuple #[.int .u64 0, .int .i64 8] ∧ Θ = blk t 67 (airC most next lv).toArray :: own lv 70 3 (os.flatMap fltC) :: Γ := by
  subst hxy
  refine Spec.of_body Try.func10 rfl Try.ntmps10 rfl ?_
  intro w0 Γ
  show S _ w0 [(0, .pointer (some ⟨t, 0, none⟩)), (1, .int .u64 x.id)] (blk t 67 (airC most next lv).toArray :: own lv 70 3 (os.flatMap fltC) :: Γ) _
  have hi := (List.getElem?_eq_some_iff.1 hx).1
  refine S.ownSome lv (by omega) fun b off hb hlen hnc hcm => ?_
  refine S.seq fun K1 hK1 => ?_
  refine S.region rfl ?_
  refine S.op (S.q (q_assign rfl) rfl rfl ?_)
  refine S.op (S.q (q_assign rfl) rfl rfl ?_)
  first | with_reducible refine S.nilK ?_ | refine S.nil ?_
  refine hK1 _ _ ?_
  refine S.seq fun K2 hK2 => ?_
  refine S.region rfl ?_
  refine S.op (S.q (q_move rfl) rfl rfl ?_)
  refine S.op (S.q (q_move rfl) rfl rfl ?_)
  refine S.op (S.call Try.en24 (vs := [_, _]) ⟨rfl, rfl, trivial⟩ (find_S t most next lv os hn hl ha x.id) rfl ?_)
  rintro v Θ ⟨j, c, rfl, hj, hc, rfl⟩
  obtain rfl := stands_at ha hx hj
  obtain rfl : c = true := hc.2 ⟨x, hx, rfl⟩
  refine S.op (S.q (q_move rfl) rfl rfl ?_)
  refine S.op (S.q (q_extract rfl rfl) rfl rfl ?_)
  refine S.op (S.q (q_extract rfl rfl) rfl rfl ?_)
  refine S.op (S.q (q_assign rfl) rfl rfl ?_)
  refine S.op (S.q (q_assign rfl) rfl rfl ?_)
  first | with_reducible refine S.nilK ?_ | refine S.nil ?_
  refine hK2 _ _ ?_
  refine S.seq fun K3 hK3 => ?_
  refine S.seq fun K4 hK4 => ?_
  refine S.region rfl ?_
  refine S.op (S.q (q_move rfl) rfl rfl ?_)
  refine S.op (S.q (q_not rfl) rfl rfl ?_)
  first | with_reducible refine S.nilK ?_ | refine S.nil ?_
  refine hK4 _ _ ?_
  refine S.condF rfl ?_
  refine S.skip ?_
  with_reducible repeat (first | refine S.then_n ?_ | refine S.then_x ?_ | refine S.then_r ?_ | refine S.inBlock_n ?_ | refine S.inBlock_r ?_ | refine S.inBlock_x rfl ?_ | refine S.noGoto_r ?_ | refine S.noGoto_n ?_ | refine S.noGoto_x ?_)
  refine hK3 _ _ ?_
  refine S.seq fun K5 hK5 => ?_
  refine S.region rfl ?_
  refine S.op (S.q (q_move rfl) rfl rfl ?_)
  refine S.op (S.q (q_move rfl) rfl rfl ?_)
  refine S.op (S.q (q_nilCheck rfl) rfl rfl ?_)
  refine S.op (S.q (q_field Try.fo67_2 rfl) rfl rfl ?_)
  refine S.op (S.q (q_load Try.at65 rfl rfl) rfl rfl ?_)
  refine S.op (S.q (q_move rfl) rfl rfl ?_)
  refine S.op (S.q (q_indexO (j) Try.el65 rfl hb rfl rfl (by omega)) rfl rfl ?_)
  refine S.op (S.q (q_field Try.fo70_1 rfl) rfl rfl ?_)
  refine S.op (S.q (q_loadOwS (lv) (j * 3 + 1) [_, _] Try.ag34 rfl hb (by first | rfl | exact Nat.add_assoc _ _ _ | omega) rfl (flt_seg hx)) rfl rfl ?_)
  refine S.op (S.call Try.en9 (vs := [_, _]) ⟨rfl, rfl, trivial⟩ (FlyFull_S t most next lv x.dst x.v (by omega)) rfl ?_)
  rintro v Θ ⟨rfl, rfl⟩
  refine S.op (S.q (q_extract rfl rfl) rfl rfl ?_)
  refine S.op (S.q (q_extract rfl rfl) rfl rfl ?_)
  refine S.op (S.q (q_assign rfl) rfl rfl ?_)
  refine S.op (S.q (q_assign rfl) rfl rfl ?_)
  first | with_reducible refine S.nilK ?_ | refine S.nil ?_
  refine hK5 _ _ ?_
  refine S.ret ?_
  with_reducible repeat (first | refine S.then_n ?_ | refine S.then_x ?_ | refine S.then_r ?_ | refine S.inBlock_n ?_ | refine S.inBlock_r ?_ | refine S.inBlock_x rfl ?_ | refine S.noGoto_r ?_ | refine S.noGoto_n ?_ | refine S.noGoto_x ?_)
  exact S.fin (rs := [_, _]) (vs := [_, _]) Try.results10 (⟨rfl, rfl, trivial⟩)  (⟨rfl, rfl⟩) Sub.ent
theorem EchoNo_S (t : Nat) (most next : Int) (lv : SV) (os : List Flt) (hn : lv.n = os.length) (hl : os.length ≤ 2048) (ha : os.Pairwise fun a b => a.id < b.id) (y : Int) (hy : ∀ x ∈ os, x.id ≠ y) :
    Spec Try.prog 10 [.pointer (some ⟨t, 0, none⟩), .int .u64 y] [blk t 67 (airC most next lv).toArray, own lv 70 3 (os.flatMap fltC)] fun Γ v Θ =>
      v = .tuple #[.int .u64 0, .int .i64 6] ∧ Θ = blk t 67 (airC most next lv).toArray :: own lv 70 3 (os.flatMap fltC) :: Γ := by
  refine Spec.of_body Try.func10 rfl Try.ntmps10 rfl ?_
  intro w0 Γ
  show S _ w0 [(0, .pointer (some ⟨t, 0, none⟩)), (1, .int .u64 y)] (blk t 67 (airC most next lv).toArray :: own lv 70 3 (os.flatMap fltC) :: Γ) _
  refine S.seq fun K1 hK1 => ?_
  refine S.region rfl ?_
  refine S.op (S.q (q_assign rfl) rfl rfl ?_)
  refine S.op (S.q (q_assign rfl) rfl rfl ?_)
  first | with_reducible refine S.nilK ?_ | refine S.nil ?_
  refine hK1 _ _ ?_
  refine S.seq fun K2 hK2 => ?_
  refine S.region rfl ?_
  refine S.op (S.q (q_move rfl) rfl rfl ?_)
  refine S.op (S.q (q_move rfl) rfl rfl ?_)
  refine S.op (S.call Try.en24 (vs := [_, _]) ⟨rfl, rfl, trivial⟩ (find_S t most next lv os hn hl ha y) rfl ?_)
  rintro v Θ ⟨j, c, rfl, hj, hc, rfl⟩
  obtain rfl : c = false := by cases c with | false => rfl | true => (obtain ⟨x, hx, e⟩ := hc.1 rfl; exact absurd e (hy x (List.mem_of_getElem? hx)))
  refine S.op (S.q (q_move rfl) rfl rfl ?_)
  refine S.op (S.q (q_extract rfl rfl) rfl rfl ?_)
  refine S.op (S.q (q_extract rfl rfl) rfl rfl ?_)
  refine S.op (S.q (q_assign rfl) rfl rfl ?_)
  refine S.op (S.q (q_assign rfl) rfl rfl ?_)
  first | with_reducible refine S.nilK ?_ | refine S.nil ?_
  refine hK2 _ _ ?_
  refine S.seq fun K3 hK3 => ?_
  refine S.seq fun K4 hK4 => ?_
  refine S.region rfl ?_
  refine S.op (S.q (q_move rfl) rfl rfl ?_)
  refine S.op (S.q (q_not rfl) rfl rfl ?_)
  first | with_reducible refine S.nilK ?_ | refine S.nil ?_
  refine hK4 _ _ ?_
  refine S.condT rfl ?_
  refine S.seq fun K5 hK5 => ?_
  refine S.region rfl ?_
  refine S.op (S.q (q_assign rfl) rfl rfl ?_)
  refine S.op (S.q (q_assign rfl) rfl rfl ?_)
  first | with_reducible refine S.nilK ?_ | refine S.nil ?_
  refine hK5 _ _ ?_
  refine S.ret ?_
  with_reducible repeat (first | refine S.then_n ?_ | refine S.then_x ?_ | refine S.then_r ?_ | refine S.inBlock_n ?_ | refine S.inBlock_r ?_ | refine S.inBlock_x rfl ?_ | refine S.noGoto_r ?_ | refine S.noGoto_n ?_ | refine S.noGoto_x ?_)
  exact S.fin (rs := [_, _]) (vs := [_, _]) Try.results10 (⟨rfl, rfl, trivial⟩)  (⟨rfl, rfl⟩) Sub.ent
theorem EchoNil_S (y : Int) :
    Spec Try.prog 10 [.pointer none, .int .u64 y] [] fun Γ v Θ => v = .tuple #[.int .u64 0, .int .i64 6] ∧ Θ = Γ := by
  refine Spec.of_body Try.func10 rfl Try.ntmps10 rfl ?_
  intro w0 Γ
  show S _ w0 [(0, .pointer none), (1, .int .u64 y)] Γ _
  refine S.seq fun K1 hK1 => ?_
  refine S.region rfl ?_
  refine S.op (S.q (q_assign rfl) rfl rfl ?_)
  refine S.op (S.q (q_assign rfl) rfl rfl ?_)
  first | with_reducible refine S.nilK ?_ | refine S.nil ?_
  refine hK1 _ _ ?_
  refine S.seq fun K2 hK2 => ?_
  refine S.region rfl ?_
  refine S.op (S.q (q_move rfl) rfl rfl ?_)
  refine S.op (S.q (q_move rfl) rfl rfl ?_)
  refine S.op (S.call Try.en24 (vs := [_, _]) ⟨rfl, rfl, trivial⟩ (findNil_S y) rfl ?_)
  rintro v Θ ⟨rfl, rfl⟩
  refine S.op (S.q (q_move rfl) rfl rfl ?_)
  refine S.op (S.q (q_extract rfl rfl) rfl rfl ?_)
  refine S.op (S.q (q_extract rfl rfl) rfl rfl ?_)
  refine S.op (S.q (q_assign rfl) rfl rfl ?_)
  refine S.op (S.q (q_assign rfl) rfl rfl ?_)
  first | with_reducible refine S.nilK ?_ | refine S.nil ?_
  refine hK2 _ _ ?_
  refine S.seq fun K3 hK3 => ?_
  refine S.seq fun K4 hK4 => ?_
  refine S.region rfl ?_
  refine S.op (S.q (q_move rfl) rfl rfl ?_)
  refine S.op (S.q (q_not rfl) rfl rfl ?_)
  first | with_reducible refine S.nilK ?_ | refine S.nil ?_
  refine hK4 _ _ ?_
  refine S.condT rfl ?_
  refine S.seq fun K5 hK5 => ?_
  refine S.region rfl ?_
  refine S.op (S.q (q_assign rfl) rfl rfl ?_)
  refine S.op (S.q (q_assign rfl) rfl rfl ?_)
  first | with_reducible refine S.nilK ?_ | refine S.nil ?_
  refine hK5 _ _ ?_
  refine S.ret ?_
  with_reducible repeat (first | refine S.then_n ?_ | refine S.then_x ?_ | refine S.then_r ?_ | refine S.inBlock_n ?_ | refine S.inBlock_r ?_ | refine S.inBlock_x rfl ?_ | refine S.noGoto_r ?_ | refine S.noGoto_n ?_ | refine S.noGoto_x ?_)
  exact S.fin (rs := [_, _]) (vs := [_, _]) Try.results10 (⟨rfl, rfl, trivial⟩)  (⟨rfl, rfl⟩) Sub.ent
theorem Lose_S (t : Nat) (most next : Int) (lv : SV) (os : List Flt) (hn : lv.n = os.length) (hl : os.length ≤ 2048) (ha : os.Pairwise fun a b => a.id < b.id) (i : Nat) (x : Flt) (hx : os[i]? = some x) (y : Int) (hxy : x.id = y) :
    Spec Try.prog 15 [.pointer (some ⟨t, 0, none⟩), .int .u64 y] [blk t 67 (airC most next lv).toArray, own lv 70 3 (os.flatMap fltC), alls os fltB] fun Γ v Θ =>
      ∃ lv' : SV, v = .int .i64 0 ∧ lv'.n = (os.eraseIdx i).length ∧ Θ = blk t 67 (airC most next lv').toArray :: own lv' 70 3 ((os.eraseIdx i).flatMap fltC) :: alls (os.eraseIdx i) fltB :: Γ := by
  subst hxy
  refine Spec.of_body Try.func15 rfl Try.ntmps15 rfl ?_
  intro w0 Γ
  show S _ w0 [(0, .pointer (some ⟨t, 0, none⟩)), (1, .int .u64 x.id)] (blk t 67 (airC most next lv).toArray :: own lv 70 3 (os.flatMap fltC) :: alls os fltB :: Γ) _
  refine S.seq fun K1 hK1 => ?_
  refine S.region rfl ?_
  refine S.op (S.q (q_assign rfl) rfl rfl ?_)
  first | with_reducible refine S.nilK ?_ | refine S.nil ?_
  refine hK1 _ _ ?_
  refine S.seq fun K2 hK2 => ?_
  refine S.region rfl ?_
  refine S.op (S.q (q_move rfl) rfl rfl ?_)
  refine S.op (S.q (q_move rfl) rfl rfl ?_)
  refine S.op (S.call Try.en12 (vs := [_, _]) ⟨rfl, rfl, trivial⟩ (Land_S t most next lv os hn hl ha i x hx x.id rfl) rfl ?_)
  rintro v Θ ⟨lv', rfl, hlv', rfl⟩
  refine S.op (S.q (q_move rfl) rfl rfl ?_)
  refine S.op (S.q (q_extract rfl rfl) rfl rfl ?_)
  refine S.op (S.q (q_extract rfl rfl) rfl rfl ?_)
  refine S.op (S.alloc Try.z34 rfl ?_)
  intro b5
  refine S.op (S.storeS (cs' := [_, _]) Try.ag34 rfl rfl rfl rfl rfl rfl ?_)
  refine S.op (S.q (q_assign rfl) rfl rfl ?_)
  first | with_reducible refine S.nilK ?_ | refine S.nil ?_
  refine hK2 _ _ ?_
  refine S.seq fun K3 hK3 => ?_
  refine S.region rfl ?_
  refine S.op (S.q (q_move rfl) rfl rfl ?_)
  refine S.op (S.q (q_assign rfl) rfl rfl ?_)
  first | with_reducible refine S.nilK ?_ | refine S.nil ?_
  refine hK3 _ _ ?_
  refine S.ret ?_
  with_reducible repeat (first | refine S.then_n ?_ | refine S.then_x ?_ | refine S.then_r ?_ | refine S.inBlock_n ?_ | refine S.inBlock_r ?_ | refine S.inBlock_x rfl ?_ | refine S.noGoto_r ?_ | refine S.noGoto_n ?_ | refine S.noGoto_x ?_)
  exact S.fin (rs := [_]) (vs := [_]) Try.results15 (⟨rfl, trivial⟩)  (⟨lv', rfl, hlv', rfl⟩) Sub.ent
theorem LoseNo_S (t : Nat) (most next : Int) (lv : SV) (os : List Flt) (hn : lv.n = os.length) (hl : os.length ≤ 2048) (ha : os.Pairwise fun a b => a.id < b.id) (y : Int) (hy : ∀ x ∈ os, x.id ≠ y) :
    Spec Try.prog 15 [.pointer (some ⟨t, 0, none⟩), .int .u64 y] [blk t 67 (airC most next lv).toArray, own lv 70 3 (os.flatMap fltC)] fun Γ v Θ =>
      v = .int .i64 6 ∧ Θ = blk t 67 (airC most next lv).toArray :: own lv 70 3 (os.flatMap fltC) :: Γ := by
  refine Spec.of_body Try.func15 rfl Try.ntmps15 rfl ?_
  intro w0 Γ
  show S _ w0 [(0, .pointer (some ⟨t, 0, none⟩)), (1, .int .u64 y)] (blk t 67 (airC most next lv).toArray :: own lv 70 3 (os.flatMap fltC) :: Γ) _
  refine S.seq fun K1 hK1 => ?_
  refine S.region rfl ?_
  refine S.op (S.q (q_assign rfl) rfl rfl ?_)
  first | with_reducible refine S.nilK ?_ | refine S.nil ?_
  refine hK1 _ _ ?_
  refine S.seq fun K2 hK2 => ?_
  refine S.region rfl ?_
  refine S.op (S.q (q_move rfl) rfl rfl ?_)
  refine S.op (S.q (q_move rfl) rfl rfl ?_)
  refine S.op (S.call Try.en12 (vs := [_, _]) ⟨rfl, rfl, trivial⟩ (LandNo_S t most next lv os hn hl ha y hy) rfl ?_)
  rintro v Θ ⟨rfl, rfl⟩
  refine S.op (S.q (q_move rfl) rfl rfl ?_)
  refine S.op (S.q (q_extract rfl rfl) rfl rfl ?_)
  refine S.op (S.q (q_extract rfl rfl) rfl rfl ?_)
  refine S.op (S.alloc Try.z34 rfl ?_)
  intro b5
  refine S.op (S.storeS (cs' := [_, _]) Try.ag34 rfl rfl rfl rfl rfl rfl ?_)
  refine S.op (S.q (q_assign rfl) rfl rfl ?_)
  first | with_reducible refine S.nilK ?_ | refine S.nil ?_
  refine hK2 _ _ ?_
  refine S.seq fun K3 hK3 => ?_
  refine S.region rfl ?_
  refine S.op (S.q (q_move rfl) rfl rfl ?_)
  refine S.op (S.q (q_assign rfl) rfl rfl ?_)
  first | with_reducible refine S.nilK ?_ | refine S.nil ?_
  refine hK3 _ _ ?_
  refine S.ret ?_
  with_reducible repeat (first | refine S.then_n ?_ | refine S.then_x ?_ | refine S.then_r ?_ | refine S.inBlock_n ?_ | refine S.inBlock_r ?_ | refine S.inBlock_x rfl ?_ | refine S.noGoto_r ?_ | refine S.noGoto_n ?_ | refine S.noGoto_x ?_)
  exact S.fin (rs := [_]) (vs := [_]) Try.results15 (⟨rfl, trivial⟩)  (⟨rfl, rfl⟩) Sub.ent
theorem LoseNil_S (y : Int) : Spec Try.prog 15 [.pointer none, .int .u64 y] [] fun Γ v Θ => v = .int .i64 6 ∧ Θ = Γ := by
  refine Spec.of_body Try.func15 rfl Try.ntmps15 rfl ?_
  intro w0 Γ
  show S _ w0 [(0, .pointer none), (1, .int .u64 y)] Γ _
  refine S.seq fun K1 hK1 => ?_
  refine S.region rfl ?_
  refine S.op (S.q (q_assign rfl) rfl rfl ?_)
  first | with_reducible refine S.nilK ?_ | refine S.nil ?_
  refine hK1 _ _ ?_
  refine S.seq fun K2 hK2 => ?_
  refine S.region rfl ?_
  refine S.op (S.q (q_move rfl) rfl rfl ?_)
  refine S.op (S.q (q_move rfl) rfl rfl ?_)
  refine S.op (S.call Try.en12 (vs := [_, _]) ⟨rfl, rfl, trivial⟩ (LandNil_S y) rfl ?_)
  rintro v Θ ⟨rfl, rfl⟩
  refine S.op (S.q (q_move rfl) rfl rfl ?_)
  refine S.op (S.q (q_extract rfl rfl) rfl rfl ?_)
  refine S.op (S.q (q_extract rfl rfl) rfl rfl ?_)
  refine S.op (S.alloc Try.z34 rfl ?_)
  intro b5
  refine S.op (S.storeS (cs' := [_, _]) Try.ag34 rfl rfl rfl rfl rfl rfl ?_)
  refine S.op (S.q (q_assign rfl) rfl rfl ?_)
  first | with_reducible refine S.nilK ?_ | refine S.nil ?_
  refine hK2 _ _ ?_
  refine S.seq fun K3 hK3 => ?_
  refine S.region rfl ?_
  refine S.op (S.q (q_move rfl) rfl rfl ?_)
  refine S.op (S.q (q_assign rfl) rfl rfl ?_)
  first | with_reducible refine S.nilK ?_ | refine S.nil ?_
  refine hK3 _ _ ?_
  refine S.ret ?_
  with_reducible repeat (first | refine S.then_n ?_ | refine S.then_x ?_ | refine S.then_r ?_ | refine S.inBlock_n ?_ | refine S.inBlock_r ?_ | refine S.inBlock_x rfl ?_ | refine S.noGoto_r ?_ | refine S.noGoto_n ?_ | refine S.noGoto_x ?_)
  exact S.fin (rs := [_]) (vs := [_]) Try.results15 (⟨rfl, trivial⟩)  (⟨rfl, rfl⟩) Sub.ent
theorem Len_S (t : Nat) (most next : Int) (lv : SV) : Spec Try.prog 14 [.pointer (some ⟨t, 0, none⟩)] [blk t 67 (airC most next lv).toArray] fun Γ v Θ => v = .int .i64 lv.n ∧ Θ = blk t 67 (airC most next lv).toArray :: Γ := by
  refine Spec.of_body Try.func14 rfl Try.ntmps14 rfl ?_
  intro w0 Γ
  show S _ w0 [(0, .pointer (some ⟨t, 0, none⟩))] (blk t 67 (airC most next lv).toArray :: Γ) _
  refine S.seq fun K1 hK1 => ?_
  refine S.region rfl ?_
  refine S.op (S.q (q_assign rfl) rfl rfl ?_)
  first | with_reducible refine S.nilK ?_ | refine S.nil ?_
  refine hK1 _ _ ?_
  refine S.seq fun K2 hK2 => ?_
  refine S.seq fun K3 hK3 => ?_
  refine S.region rfl ?_
  refine S.op (S.q (q_move rfl) rfl rfl ?_)
  refine S.op (S.q (q_eqN Try.underlying24 rfl rfl) rfl rfl ?_)
  first | with_reducible refine S.nilK ?_ | refine S.nil ?_
  refine hK3 _ _ ?_
  refine S.condF rfl ?_
  refine S.skip ?_
  with_reducible repeat (first | refine S.then_n ?_ | refine S.then_x ?_ | refine S.then_r ?_ | refine S.inBlock_n ?_ | refine S.inBlock_r ?_ | refine S.inBlock_x rfl ?_ | refine S.noGoto_r ?_ | refine S.noGoto_n ?_ | refine S.noGoto_x ?_)
  refine hK2 _ _ ?_
  refine S.seq fun K4 hK4 => ?_
  refine S.region rfl ?_
  refine S.op (S.q (q_move rfl) rfl rfl ?_)
  refine S.op (S.q (q_nilCheck rfl) rfl rfl ?_)
  refine S.op (S.q (q_field Try.fo67_2 rfl) rfl rfl ?_)
  refine S.op (S.q (q_load Try.at65 rfl rfl) rfl rfl ?_)
  refine S.op (S.q (q_len Try.underlying65 rfl) rfl rfl ?_)
  refine S.op (S.q (q_assign rfl) rfl rfl ?_)
  first | with_reducible refine S.nilK ?_ | refine S.nil ?_
  refine hK4 _ _ ?_
  refine S.ret ?_
  with_reducible repeat (first | refine S.then_n ?_ | refine S.then_x ?_ | refine S.then_r ?_ | refine S.inBlock_n ?_ | refine S.inBlock_r ?_ | refine S.inBlock_x rfl ?_ | refine S.noGoto_r ?_ | refine S.noGoto_n ?_ | refine S.noGoto_x ?_)
  exact S.fin (rs := [_]) (vs := [_]) Try.results14 (⟨rfl, trivial⟩)  (⟨rfl, rfl⟩) Sub.ent
theorem LenNil_S : Spec Try.prog 14 [.pointer none] [] fun Γ v Θ => v = .int .i64 0 ∧ Θ = Γ := by
  refine Spec.of_body Try.func14 rfl Try.ntmps14 rfl ?_
  intro w0 Γ
  show S _ w0 [(0, .pointer none)] Γ _
  refine S.seq fun K1 hK1 => ?_
  refine S.region rfl ?_
  refine S.op (S.q (q_assign rfl) rfl rfl ?_)
  first | with_reducible refine S.nilK ?_ | refine S.nil ?_
  refine hK1 _ _ ?_
  refine S.seq fun K2 hK2 => ?_
  refine S.seq fun K3 hK3 => ?_
  refine S.region rfl ?_
  refine S.op (S.q (q_move rfl) rfl rfl ?_)
  refine S.op (S.q (q_eqN Try.underlying24 rfl rfl) rfl rfl ?_)
  first | with_reducible refine S.nilK ?_ | refine S.nil ?_
  refine hK3 _ _ ?_
  refine S.condT rfl ?_
  refine S.seq fun K4 hK4 => ?_
  refine S.region rfl ?_
  refine S.op (S.q (q_assign rfl) rfl rfl ?_)
  first | with_reducible refine S.nilK ?_ | refine S.nil ?_
  refine hK4 _ _ ?_
  refine S.ret ?_
  with_reducible repeat (first | refine S.then_n ?_ | refine S.then_x ?_ | refine S.then_r ?_ | refine S.inBlock_n ?_ | refine S.inBlock_r ?_ | refine S.inBlock_x rfl ?_ | refine S.noGoto_r ?_ | refine S.noGoto_n ?_ | refine S.noGoto_x ?_)
  exact S.fin (rs := [_]) (vs := [_]) Try.results14 (⟨rfl, trivial⟩)  (⟨rfl, rfl⟩) Sub.ent
theorem At_S (t : Nat) (most next : Int) (lv : SV) (os : List Flt) (hn : lv.n = os.length) (i : Nat) (x : Flt) (hx : os[i]? = some x) :
    Spec Try.prog 22 [.pointer (some ⟨t, 0, none⟩), .int .i64 i] [blk t 67 (airC most next lv).toArray, own lv 70 3 (os.flatMap fltC)] fun Γ v Θ =>
      v = .tuple #[.int .u64 x.id, .bool true] ∧ Θ = blk t 67 (airC most next lv).toArray :: own lv 70 3 (os.flatMap fltC) :: Γ := by
  refine Spec.of_body Try.func22 rfl Try.ntmps22 rfl ?_
  intro w0 Γ
  show S _ w0 [(0, .pointer (some ⟨t, 0, none⟩)), (1, .int .i64 i)] (blk t 67 (airC most next lv).toArray :: own lv 70 3 (os.flatMap fltC) :: Γ) _
  have hi := (List.getElem?_eq_some_iff.1 hx).1
  refine S.ownSome lv (by omega) fun b off hb hlen hnc hcm => ?_
  refine S.seq fun K1 hK1 => ?_
  refine S.region rfl ?_
  refine S.op (S.q (q_assign rfl) rfl rfl ?_)
  refine S.op (S.q (q_assign rfl) rfl rfl ?_)
  first | with_reducible refine S.nilK ?_ | refine S.nil ?_
  refine hK1 _ _ ?_
  refine S.seq fun K2 hK2 => ?_
  refine S.seq fun K3 hK3 => ?_
  refine S.regionG ?_
  refine S.g_op rfl (S.q (q_move rfl) rfl rfl ?_)
  refine S.g_op rfl (S.q (q_lt rfl rfl) rfl rfl ?_)
  refine S.g_op rfl (S.q (q_move rfl) rfl rfl ?_)
  by_cases hg1_2 : (i : Int) < 0
  · exact absurd hg1_2 (by omega)
  · refine S.g_yes rfl rfl rfl (decide_eq_false hg1_2) (S.q (q_move rfl) rfl rfl ?_)
    refine S.g_yes rfl rfl rfl (decide_eq_false hg1_2) (S.q (q_move rfl) rfl rfl ?_)
    refine S.g_yes rfl rfl rfl (decide_eq_false hg1_2) (S.call Try.en14 (vs := [_]) ⟨rfl, trivial⟩ (Len_S t most next lv) rfl ?_)
    rintro v Θ ⟨rfl, rfl⟩
    refine S.g_yes rfl rfl rfl (decide_eq_false hg1_2) (S.q (q_ge rfl rfl) rfl rfl ?_)
    refine S.g_op rfl (S.q (q_pickF rfl (decide_eq_false hg1_2) rfl) rfl rfl ?_)
    first | with_reducible refine S.g_nilK ?_ | refine S.g_nil ?_
    refine hK3 _ _ ?_
    refine S.condD rfl (fun h1 => ?_) (fun h1 => ?_)
    · exact absurd h1 (by omega)
    · refine S.skip ?_
      with_reducible repeat (first | refine S.then_n ?_ | refine S.then_x ?_ | refine S.then_r ?_ | refine S.inBlock_n ?_ | refine S.inBlock_r ?_ | refine S.inBlock_x rfl ?_ | refine S.noGoto_r ?_ | refine S.noGoto_n ?_ | refine S.noGoto_x ?_)
      refine hK2 _ _ ?_
      refine S.seq fun K4 hK4 => ?_
      refine S.region rfl ?_
      refine S.op (S.q (q_move rfl) rfl rfl ?_)
      refine S.op (S.q (q_nilCheck rfl) rfl rfl ?_)
      refine S.op (S.q (q_field Try.fo67_2 rfl) rfl rfl ?_)
      refine S.op (S.q (q_load Try.at65 rfl rfl) rfl rfl ?_)
      refine S.op (S.q (q_move rfl) rfl rfl ?_)
      refine S.op (S.q (q_indexO (i) Try.el65 rfl hb rfl rfl (by omega)) rfl rfl ?_)
      refine S.op (S.q (q_field Try.fo70_0 rfl) rfl rfl ?_)
      refine S.op (S.q (q_loadOw (lv) (i * 3 + 0) Try.at30 rfl hb (by first | rfl | exact Nat.add_assoc _ _ _ | omega) (flat_get fltC_len hx rfl)) rfl rfl ?_)
      refine S.op (S.q (q_assign rfl) rfl rfl ?_)
      refine S.op (S.q (q_assign rfl) rfl rfl ?_)
      first | with_reducible refine S.nilK ?_ | refine S.nil ?_
      refine hK4 _ _ ?_
      refine S.ret ?_
      with_reducible repeat (first | refine S.then_n ?_ | refine S.then_x ?_ | refine S.then_r ?_ | refine S.inBlock_n ?_ | refine S.inBlock_r ?_ | refine S.inBlock_x rfl ?_ | refine S.noGoto_r ?_ | refine S.noGoto_n ?_ | refine S.noGoto_x ?_)
      exact S.fin (rs := [_, _]) (vs := [_, _]) Try.results22 (⟨rfl, rfl, trivial⟩)  (⟨rfl, rfl⟩) Sub.ent
theorem AtNo_S (t : Nat) (most next : Int) (lv : SV) (k : Int) (hk : k < 0 ∨ (lv.n : Int) ≤ k) :
    Spec Try.prog 22 [.pointer (some ⟨t, 0, none⟩), .int .i64 k] [blk t 67 (airC most next lv).toArray] fun Γ v Θ =>
      v = .tuple #[.int .u64 0, .bool false] ∧ Θ = blk t 67 (airC most next lv).toArray :: Γ := by
  refine Spec.of_body Try.func22 rfl Try.ntmps22 rfl ?_
  intro w0 Γ
  show S _ w0 [(0, .pointer (some ⟨t, 0, none⟩)), (1, .int .i64 k)] (blk t 67 (airC most next lv).toArray :: Γ) _
  refine S.seq fun K1 hK1 => ?_
  refine S.region rfl ?_
  refine S.op (S.q (q_assign rfl) rfl rfl ?_)
  refine S.op (S.q (q_assign rfl) rfl rfl ?_)
  first | with_reducible refine S.nilK ?_ | refine S.nil ?_
  refine hK1 _ _ ?_
  refine S.seq fun K2 hK2 => ?_
  refine S.seq fun K3 hK3 => ?_
  refine S.regionG ?_
  refine S.g_op rfl (S.q (q_move rfl) rfl rfl ?_)
  refine S.g_op rfl (S.q (q_lt rfl rfl) rfl rfl ?_)
  refine S.g_op rfl (S.q (q_move rfl) rfl rfl ?_)
  by_cases hg1_2 : k < 0
  · refine S.g_no rfl rfl rfl (decide_eq_true hg1_2) rfl rfl ?_
    refine S.g_no rfl rfl rfl (decide_eq_true hg1_2) rfl rfl ?_
    refine S.g_no rfl rfl rfl (decide_eq_true hg1_2) rfl rfl ?_
    refine S.g_no rfl rfl rfl (decide_eq_true hg1_2) rfl rfl ?_
    refine S.g_op rfl (S.q (q_pickT rfl (decide_eq_true hg1_2) rfl) rfl rfl ?_)
    first | with_reducible refine S.g_nilK ?_ | refine S.g_nil ?_
    refine hK3 _ _ ?_
    refine S.condT rfl ?_
    refine S.seq fun K4 hK4 => ?_
    refine S.region rfl ?_
    refine S.op (S.q (q_assign rfl) rfl rfl ?_)
    refine S.op (S.q (q_assign rfl) rfl rfl ?_)
    first | with_reducible refine S.nilK ?_ | refine S.nil ?_
    refine hK4 _ _ ?_
    refine S.ret ?_
    with_reducible repeat (first | refine S.then_n ?_ | refine S.then_x ?_ | refine S.then_r ?_ | refine S.inBlock_n ?_ | refine S.inBlock_r ?_ | refine S.inBlock_x rfl ?_ | refine S.noGoto_r ?_ | refine S.noGoto_n ?_ | refine S.noGoto_x ?_)
    exact S.fin (rs := [_, _]) (vs := [_, _]) Try.results22 (⟨rfl, rfl, trivial⟩)  (⟨rfl, rfl⟩) Sub.ent
  · refine S.g_yes rfl rfl rfl (decide_eq_false hg1_2) (S.q (q_move rfl) rfl rfl ?_)
    refine S.g_yes rfl rfl rfl (decide_eq_false hg1_2) (S.q (q_move rfl) rfl rfl ?_)
    refine S.g_yes rfl rfl rfl (decide_eq_false hg1_2) (S.call Try.en14 (vs := [_]) ⟨rfl, trivial⟩ (Len_S t most next lv) rfl ?_)
    rintro v Θ ⟨rfl, rfl⟩
    refine S.g_yes rfl rfl rfl (decide_eq_false hg1_2) (S.q (q_ge rfl rfl) rfl rfl ?_)
    refine S.g_op rfl (S.q (q_pickF rfl (decide_eq_false hg1_2) rfl) rfl rfl ?_)
    first | with_reducible refine S.g_nilK ?_ | refine S.g_nil ?_
    refine hK3 _ _ ?_
    refine S.condD rfl (fun h1 => ?_) (fun h1 => ?_)
    · refine S.seq fun K5 hK5 => ?_
      refine S.region rfl ?_
      refine S.op (S.q (q_assign rfl) rfl rfl ?_)
      refine S.op (S.q (q_assign rfl) rfl rfl ?_)
      first | with_reducible refine S.nilK ?_ | refine S.nil ?_
      refine hK5 _ _ ?_
      refine S.ret ?_
      with_reducible repeat (first | refine S.then_n ?_ | refine S.then_x ?_ | refine S.then_r ?_ | refine S.inBlock_n ?_ | refine S.inBlock_r ?_ | refine S.inBlock_x rfl ?_ | refine S.noGoto_r ?_ | refine S.noGoto_n ?_ | refine S.noGoto_x ?_)
      exact S.fin (rs := [_, _]) (vs := [_, _]) Try.results22 (⟨rfl, rfl, trivial⟩)  (⟨rfl, rfl⟩) Sub.ent
    · exact absurd (by omega) h1
theorem AtNil_S (k : Int) : Spec Try.prog 22 [.pointer none, .int .i64 k] [] fun Γ v Θ => v = .tuple #[.int .u64 0, .bool false] ∧ Θ = Γ := by
  refine Spec.of_body Try.func22 rfl Try.ntmps22 rfl ?_
  intro w0 Γ
  show S _ w0 [(0, .pointer none), (1, .int .i64 k)] Γ _
  refine S.seq fun K1 hK1 => ?_
  refine S.region rfl ?_
  refine S.op (S.q (q_assign rfl) rfl rfl ?_)
  refine S.op (S.q (q_assign rfl) rfl rfl ?_)
  first | with_reducible refine S.nilK ?_ | refine S.nil ?_
  refine hK1 _ _ ?_
  refine S.seq fun K2 hK2 => ?_
  refine S.seq fun K3 hK3 => ?_
  refine S.regionG ?_
  refine S.g_op rfl (S.q (q_move rfl) rfl rfl ?_)
  refine S.g_op rfl (S.q (q_lt rfl rfl) rfl rfl ?_)
  refine S.g_op rfl (S.q (q_move rfl) rfl rfl ?_)
  by_cases hg1_2 : k < 0
  · refine S.g_no rfl rfl rfl (decide_eq_true hg1_2) rfl rfl ?_
    refine S.g_no rfl rfl rfl (decide_eq_true hg1_2) rfl rfl ?_
    refine S.g_no rfl rfl rfl (decide_eq_true hg1_2) rfl rfl ?_
    refine S.g_no rfl rfl rfl (decide_eq_true hg1_2) rfl rfl ?_
    refine S.g_op rfl (S.q (q_pickT rfl (decide_eq_true hg1_2) rfl) rfl rfl ?_)
    first | with_reducible refine S.g_nilK ?_ | refine S.g_nil ?_
    refine hK3 _ _ ?_
    refine S.condT rfl ?_
    refine S.seq fun K4 hK4 => ?_
    refine S.region rfl ?_
    refine S.op (S.q (q_assign rfl) rfl rfl ?_)
    refine S.op (S.q (q_assign rfl) rfl rfl ?_)
    first | with_reducible refine S.nilK ?_ | refine S.nil ?_
    refine hK4 _ _ ?_
    refine S.ret ?_
    with_reducible repeat (first | refine S.then_n ?_ | refine S.then_x ?_ | refine S.then_r ?_ | refine S.inBlock_n ?_ | refine S.inBlock_r ?_ | refine S.inBlock_x rfl ?_ | refine S.noGoto_r ?_ | refine S.noGoto_n ?_ | refine S.noGoto_x ?_)
    exact S.fin (rs := [_, _]) (vs := [_, _]) Try.results22 (⟨rfl, rfl, trivial⟩)  (⟨rfl, rfl⟩) Sub.ent
  · refine S.g_yes rfl rfl rfl (decide_eq_false hg1_2) (S.q (q_move rfl) rfl rfl ?_)
    refine S.g_yes rfl rfl rfl (decide_eq_false hg1_2) (S.q (q_move rfl) rfl rfl ?_)
    refine S.g_yes rfl rfl rfl (decide_eq_false hg1_2) (S.call Try.en14 (vs := [_]) ⟨rfl, trivial⟩ (LenNil_S) rfl ?_)
    rintro v Θ ⟨rfl, rfl⟩
    refine S.g_yes rfl rfl rfl (decide_eq_false hg1_2) (S.q (q_ge rfl rfl) rfl rfl ?_)
    refine S.g_op rfl (S.q (q_pickF rfl (decide_eq_false hg1_2) rfl) rfl rfl ?_)
    first | with_reducible refine S.g_nilK ?_ | refine S.g_nil ?_
    refine hK3 _ _ ?_
    refine S.condD rfl (fun h1 => ?_) (fun h1 => ?_)
    · refine S.seq fun K5 hK5 => ?_
      refine S.region rfl ?_
      refine S.op (S.q (q_assign rfl) rfl rfl ?_)
      refine S.op (S.q (q_assign rfl) rfl rfl ?_)
      first | with_reducible refine S.nilK ?_ | refine S.nil ?_
      refine hK5 _ _ ?_
      refine S.ret ?_
      with_reducible repeat (first | refine S.then_n ?_ | refine S.then_x ?_ | refine S.then_r ?_ | refine S.inBlock_n ?_ | refine S.inBlock_r ?_ | refine S.inBlock_x rfl ?_ | refine S.noGoto_r ?_ | refine S.noGoto_n ?_ | refine S.noGoto_x ?_)
      exact S.fin (rs := [_, _]) (vs := [_, _]) Try.results22 (⟨rfl, rfl, trivial⟩)  (⟨rfl, rfl⟩) Sub.ent
    · exact absurd (by omega) h1
theorem Oldest_S (t : Nat) (most next : Int) (lv : SV) (os : List Flt) (hn : lv.n = os.length) (x : Flt) (hx : os[0]? = some x) :
    Spec Try.prog 11 [.pointer (some ⟨t, 0, none⟩)] [blk t 67 (airC most next lv).toArray, own lv 70 3 (os.flatMap fltC)] fun Γ v Θ =>
      v = .tuple #[.int .u64 x.id, .bool true] ∧ Θ = blk t 67 (airC most next lv).toArray :: own lv 70 3 (os.flatMap fltC) :: Γ := by
  refine Spec.of_body Try.func11 rfl Try.ntmps11 rfl ?_
  intro w0 Γ
  show S _ w0 [(0, .pointer (some ⟨t, 0, none⟩))] (blk t 67 (airC most next lv).toArray :: own lv 70 3 (os.flatMap fltC) :: Γ) _
  refine S.seq fun K1 hK1 => ?_
  refine S.region rfl ?_
  refine S.op (S.q (q_assign rfl) rfl rfl ?_)
  refine S.op (S.q (q_assign rfl) rfl rfl ?_)
  first | with_reducible refine S.nilK ?_ | refine S.nil ?_
  refine hK1 _ _ ?_
  refine S.seq fun K2 hK2 => ?_
  refine S.region rfl ?_
  refine S.op (S.q (q_move rfl) rfl rfl ?_)
  refine S.op (S.call Try.en22 (vs := [_, _]) ⟨rfl, rfl, trivial⟩ (At_S t most next lv os hn 0 x hx) rfl ?_)
  rintro v Θ ⟨rfl, rfl⟩
  refine S.op (S.q (q_extract rfl rfl) rfl rfl ?_)
  refine S.op (S.q (q_extract rfl rfl) rfl rfl ?_)
  refine S.op (S.q (q_assign rfl) rfl rfl ?_)
  refine S.op (S.q (q_assign rfl) rfl rfl ?_)
  first | with_reducible refine S.nilK ?_ | refine S.nil ?_
  refine hK2 _ _ ?_
  refine S.ret ?_
  with_reducible repeat (first | refine S.then_n ?_ | refine S.then_x ?_ | refine S.then_r ?_ | refine S.inBlock_n ?_ | refine S.inBlock_r ?_ | refine S.inBlock_x rfl ?_ | refine S.noGoto_r ?_ | refine S.noGoto_n ?_ | refine S.noGoto_x ?_)
  exact S.fin (rs := [_, _]) (vs := [_, _]) Try.results11 (⟨rfl, rfl, trivial⟩)  (⟨rfl, rfl⟩) Sub.ent
theorem OldestNo_S (t : Nat) (most next : Int) (lv : SV) (h : lv.n = 0) :
    Spec Try.prog 11 [.pointer (some ⟨t, 0, none⟩)] [blk t 67 (airC most next lv).toArray] fun Γ v Θ =>
      v = .tuple #[.int .u64 0, .bool false] ∧ Θ = blk t 67 (airC most next lv).toArray :: Γ := by
  refine Spec.of_body Try.func11 rfl Try.ntmps11 rfl ?_
  intro w0 Γ
  show S _ w0 [(0, .pointer (some ⟨t, 0, none⟩))] (blk t 67 (airC most next lv).toArray :: Γ) _
  refine S.seq fun K1 hK1 => ?_
  refine S.region rfl ?_
  refine S.op (S.q (q_assign rfl) rfl rfl ?_)
  refine S.op (S.q (q_assign rfl) rfl rfl ?_)
  first | with_reducible refine S.nilK ?_ | refine S.nil ?_
  refine hK1 _ _ ?_
  refine S.seq fun K2 hK2 => ?_
  refine S.region rfl ?_
  refine S.op (S.q (q_move rfl) rfl rfl ?_)
  refine S.op (S.call Try.en22 (vs := [_, _]) ⟨rfl, rfl, trivial⟩ (AtNo_S t most next lv 0 (by omega)) rfl ?_)
  rintro v Θ ⟨rfl, rfl⟩
  refine S.op (S.q (q_extract rfl rfl) rfl rfl ?_)
  refine S.op (S.q (q_extract rfl rfl) rfl rfl ?_)
  refine S.op (S.q (q_assign rfl) rfl rfl ?_)
  refine S.op (S.q (q_assign rfl) rfl rfl ?_)
  first | with_reducible refine S.nilK ?_ | refine S.nil ?_
  refine hK2 _ _ ?_
  refine S.ret ?_
  with_reducible repeat (first | refine S.then_n ?_ | refine S.then_x ?_ | refine S.then_r ?_ | refine S.inBlock_n ?_ | refine S.inBlock_r ?_ | refine S.inBlock_x rfl ?_ | refine S.noGoto_r ?_ | refine S.noGoto_n ?_ | refine S.noGoto_x ?_)
  exact S.fin (rs := [_, _]) (vs := [_, _]) Try.results11 (⟨rfl, rfl, trivial⟩)  (⟨rfl, rfl⟩) Sub.ent
theorem OldestNil_S : Spec Try.prog 11 [.pointer none] [] fun Γ v Θ => v = .tuple #[.int .u64 0, .bool false] ∧ Θ = Γ := by
  refine Spec.of_body Try.func11 rfl Try.ntmps11 rfl ?_
  intro w0 Γ
  show S _ w0 [(0, .pointer none)] Γ _
  refine S.seq fun K1 hK1 => ?_
  refine S.region rfl ?_
  refine S.op (S.q (q_assign rfl) rfl rfl ?_)
  refine S.op (S.q (q_assign rfl) rfl rfl ?_)
  first | with_reducible refine S.nilK ?_ | refine S.nil ?_
  refine hK1 _ _ ?_
  refine S.seq fun K2 hK2 => ?_
  refine S.region rfl ?_
  refine S.op (S.q (q_move rfl) rfl rfl ?_)
  refine S.op (S.call Try.en22 (vs := [_, _]) ⟨rfl, rfl, trivial⟩ (AtNil_S 0) rfl ?_)
  rintro v Θ ⟨rfl, rfl⟩
  refine S.op (S.q (q_extract rfl rfl) rfl rfl ?_)
  refine S.op (S.q (q_extract rfl rfl) rfl rfl ?_)
  refine S.op (S.q (q_assign rfl) rfl rfl ?_)
  refine S.op (S.q (q_assign rfl) rfl rfl ?_)
  first | with_reducible refine S.nilK ?_ | refine S.nil ?_
  refine hK2 _ _ ?_
  refine S.ret ?_
  with_reducible repeat (first | refine S.then_n ?_ | refine S.then_x ?_ | refine S.then_r ?_ | refine S.inBlock_n ?_ | refine S.inBlock_r ?_ | refine S.inBlock_x rfl ?_ | refine S.noGoto_r ?_ | refine S.noGoto_n ?_ | refine S.noGoto_x ?_)
  exact S.fin (rs := [_, _]) (vs := [_, _]) Try.results11 (⟨rfl, rfl, trivial⟩)  (⟨rfl, rfl⟩) Sub.ent
theorem Clear_S (t : Nat) (most next : Int) (lv : SV) : Spec Try.prog 21 [.pointer (some ⟨t, 0, none⟩)] [blk t 67 (airC most next lv).toArray] fun Γ _ Θ => Θ = own SV.nil 70 3 [] :: blk t 67 (airC most next SV.nil).toArray :: Γ := by
  refine Spec.of_body Try.func21 rfl Try.ntmps21 rfl ?_
  intro w0 Γ
  show S _ w0 [(0, .pointer (some ⟨t, 0, none⟩))] (blk t 67 (airC most next lv).toArray :: Γ) _
  refine S.seq fun K1 hK1 => ?_
  refine S.region rfl ?_
  refine S.op (S.q (q_move rfl) rfl rfl ?_)
  refine S.op (S.q (q_neN Try.underlying24 rfl rfl) rfl rfl ?_)
  first | with_reducible refine S.nilK ?_ | refine S.nil ?_
  refine hK1 _ _ ?_
  refine S.condT rfl ?_
  refine S.region rfl ?_
  refine S.op (S.q (q_move rfl) rfl rfl ?_)
  refine S.op (S.q (q_nilCheck rfl) rfl rfl ?_)
  refine S.op (S.q (q_field Try.fo67_2 rfl) rfl rfl ?_)
  refine S.op (S.store (cs' := [_, _, _]) Try.at65 rfl rfl rfl rfl rfl ?_)
  first | with_reducible refine S.nilK ?_ | refine S.nil ?_
  with_reducible repeat (first | refine S.then_n ?_ | refine S.then_x ?_ | refine S.then_r ?_ | refine S.inBlock_n ?_ | refine S.inBlock_r ?_ | refine S.inBlock_x rfl ?_ | refine S.noGoto_r ?_ | refine S.noGoto_n ?_ | refine S.noGoto_x ?_)
  refine S.ownNil 70 3 ?_
  exact S.finN (rs := []) (vs := []) Try.results21 (trivial)  (rfl) Sub.ent
theorem ClearNil_S : Spec Try.prog 21 [.pointer none] [] fun Γ _ Θ => Θ = Γ := by
  refine Spec.of_body Try.func21 rfl Try.ntmps21 rfl ?_
  intro w0 Γ
  show S _ w0 [(0, .pointer none)] Γ _
  refine S.seq fun K1 hK1 => ?_
  refine S.region rfl ?_
  refine S.op (S.q (q_move rfl) rfl rfl ?_)
  refine S.op (S.q (q_neN Try.underlying24 rfl rfl) rfl rfl ?_)
  first | with_reducible refine S.nilK ?_ | refine S.nil ?_
  refine hK1 _ _ ?_
  refine S.condF rfl ?_
  refine S.skip ?_
  with_reducible repeat (first | refine S.then_n ?_ | refine S.then_x ?_ | refine S.then_r ?_ | refine S.inBlock_n ?_ | refine S.inBlock_r ?_ | refine S.inBlock_x rfl ?_ | refine S.noGoto_r ?_ | refine S.noGoto_n ?_ | refine S.noGoto_x ?_)
  with_reducible repeat (first | refine S.then_n ?_ | refine S.then_x ?_ | refine S.then_r ?_ | refine S.inBlock_n ?_ | refine S.inBlock_r ?_ | refine S.inBlock_x rfl ?_ | refine S.noGoto_r ?_ | refine S.noGoto_n ?_ | refine S.noGoto_x ?_)
  exact S.finN (rs := []) (vs := []) Try.results21 (trivial)  (rfl) Sub.ent
/-- Fly, with no bytes. -/
theorem Fly0_S (t : Nat) (most next : Int) (lv : SV) (os : List Flt) (dst : Int) (hn : lv.n = os.length) (hm : most ≤ 2048) (hos : (os.length : Int) < most) (h0 : 0 ≤ next) (h1' : next < 18446744073709551615) :
    Spec Try.prog 9 [.pointer (some ⟨t, 0, none⟩), .agg #[.int .i64 dst, SV.nil.v]] [blk t 67 (airC most next lv).toArray, own lv 70 3 (os.flatMap fltC), alls os fltB] fun Γ v Θ =>
      ∃ u lv', v = .tuple #[.int .u64 next, .int .i64 0] ∧ lv'.n = os.length + 1 ∧ Θ = blk t 67 (airC most (next + 1) lv').toArray :: own lv' 70 3 ((os ++ [(⟨next, dst, u, []⟩ : Flt)]).flatMap fltC) :: alls (os ++ [(⟨next, dst, u, []⟩ : Flt)]) fltB :: Γ := by
  refine (Fly_S t most next lv os dst SV.nil [] (alls os fltB) (fun _ _ _ => SlAt.nil _ _) (by simp) hn hm hos h0 h1').weaken fun Γ => ⟨Γ, Ent.refl _, ?_⟩
  rintro v Θ ⟨u, lv', rfl, hlv', rfl⟩
  exact ⟨_, ⟨u, lv', rfl, hlv', rfl⟩, ((Sub.ent : Ent _ (obytes u [] :: alls os fltB :: blk t 67 (airC most (next + 1) lv').toArray :: own lv' 70 3 ((os ++ [(⟨next, dst, u, []⟩ : Flt)]).flatMap fltC) :: Γ)).trans (Ent.allsSnoc fltB os (⟨next, dst, u, []⟩ : Flt) _)).trans Sub.ent⟩
/-- Fly, with bytes. -/
theorem FlyD_S (t : Nat) (most next : Int) (lv : SV) (os : List Flt) (dst : Int) (dv : SV) (l : List Int) (R : Assn) (hR : ∀ Γ w, Sat w (R :: Γ) → BytesAt w dv.v l) (hl : l.length ≤ 140737488355328) (hn : lv.n = os.length) (hm : most ≤ 2048) (hos : (os.length : Int) < most) (h0 : 0 ≤ next) (h1' : next < 18446744073709551615) :
    Spec Try.prog 9 [.pointer (some ⟨t, 0, none⟩), .agg #[.int .i64 dst, dv.v]] [blk t 67 (airC most next lv).toArray, own lv 70 3 (os.flatMap fltC), alls os fltB, R] fun Γ v Θ =>
      ∃ u lv', v = .tuple #[.int .u64 next, .int .i64 0] ∧ lv'.n = os.length + 1 ∧ Θ = blk t 67 (airC most (next + 1) lv').toArray :: own lv' 70 3 ((os ++ [(⟨next, dst, u, l⟩ : Flt)]).flatMap fltC) :: alls (os ++ [(⟨next, dst, u, l⟩ : Flt)]) fltB :: R :: Γ := by
  refine (Fly_S t most next lv os dst dv l R hR hl hn hm hos h0 h1').weaken fun Γ => ⟨alls os fltB :: Γ, ((Ent.swap _ _ _).cons _).cons _, ?_⟩
  rintro v Θ ⟨u, lv', rfl, hlv', rfl⟩
  exact ⟨_, ⟨u, lv', rfl, hlv', rfl⟩, ((Sub.ent : Ent _ (obytes u l :: alls os fltB :: blk t 67 (airC most (next + 1) lv').toArray :: own lv' 70 3 ((os ++ [(⟨next, dst, u, l⟩ : Flt)]).flatMap fltC) :: R :: Γ)).trans (Ent.allsSnoc fltB os (⟨next, dst, u, l⟩ : Flt) _)).trans Sub.ent⟩
end Go.Proofs.Ythbckdjncmipeaa
