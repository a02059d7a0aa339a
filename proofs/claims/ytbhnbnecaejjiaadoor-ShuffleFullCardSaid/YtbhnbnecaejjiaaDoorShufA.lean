/- Rows put together, jobs put ahead: the walks of move, all, Unify, Repack. -/
import Derived.Test.YtbhnbnecaejjiaaDoorShufQ
import Derived.Test.YtbhnbnecaejjiaaDoorDocB
namespace Go.Proofs.YtbhnbnecaejjiaaDoor
open Go.RowKit
set_option maxRecDepth 20000
abbrev mvC (x : Mv) : List Value := [.int .u32 (x.1 : Int), .int .i64 x.2.1, .int .i64 x.2.2]
abbrev mvV (x : Mv) : Value := .agg #[.int .u32 (x.1 : Int), .int .i64 x.2.1, .int .i64 x.2.2]
theorem mvC_len (x : Mv) : (mvC x).length = 3 := rfl
def mvR (o : Option Mv) : Mv := o.getD (0, 0, 0)
theorem putR_move {m : Mx} (hm : MxOk m) {x : Jb} (hx : x ∈ m.js) (z : Int) : (canMove m x z = true → putR (m.del x.id) x.id z ((lst x.ns).map fun i : Nat => (i : Int)) = (0, { m with js := reRow m.js x.id z.toNat })) ∧
    (canMove m x z = false → ∃ e : Int, e ≠ 0 ∧ putR (m.del x.id) x.id z ((lst x.ns).map fun i : Nat => (i : Int)) = (e, m.del x.id)) := by
  rw [putR_back hm hx]
  constructor
  · intro h
    rw [canMove, Bool.and_eq_true, decide_eq_true_eq] at h
    rw [if_neg (by rw [h.1]; simp), if_neg (fun e => e h.2)]
  · intro h
    by_cases h1 : rowB m z = false
    · rw [if_pos h1]; exact ⟨1, by omega, rfl⟩
    · rw [if_neg h1]
      by_cases h2 : tk (delJ x.id m.js) z.toNat &&& x.ns ≠ 0#16
      · rw [if_pos h2]; exact ⟨15, by omega, rfl⟩
      · exfalso
        rw [canMove, show rowB m z = true by simpa using h1, decide_eq_true (Classical.byContradiction h2)] at h
        cases h
theorem putR_home {m : Mx} (hm : MxOk m) {x : Jb} (hx : x ∈ m.js) : putR (m.del x.id) x.id (x.row : Int) ((lst x.ns).map fun i : Nat => (i : Int)) = (0, m) := by
  have hr := hm.row x hx
  have hc : canMove m x (x.row : Int) = true := by
    rw [canMove, rowB_iff.2 ⟨by omega, by omega⟩, Bool.true_and, decide_eq_true_eq, Int.toNat_natCast, tk_delJ hm hx, if_pos rfl]
    refine BitVec.eq_of_getLsbD_eq fun i _ => ?_
    rw [BitVec.getLsbD_and, BitVec.getLsbD_and, BitVec.getLsbD_not]
    cases x.ns.getLsbD i <;> simp
  rw [(putR_move hm hx _).1 hc, Int.toNat_natCast, reRow_self hm.srt hx]
theorem move_S (b : Nat) (m : Mx) (j : Nat) (z : Int) (hj : j ≤ 4294967295) {W : World} (hW : TabW W) : Spec Tryd.prog 51 [.pointer (some ⟨b, 0, none⟩), .int .u32 (j : Int), .int .i64 z] [MI b m, old W] fun Γ v Θ => v = .tuple #[mvV (mvR (moveR m j z).1), .bool (moveR m j z).1.isSome] ∧ Θ = MI b (moveR m j z).2 :: old W :: Γ := by
  refine Spec.miOk fun hok => ?_
  refine Spec.of_body Tryd.func51 rfl Tryd.ntmps51 rfl ?_
  intro w0 Γ
  show S _ w0 [(0, .pointer (some ⟨b, 0, none⟩)), (1, .int .u32 (j : Int)), (2, .int .i64 z)] (MI b m :: old W :: Γ) _
  refine S.seq fun K1 hK1 => ?_
  refine S.region rfl ?_
  refine S.op (S.alloc Tryd.z58 rfl ?_)
  intro b6
  refine S.op (S.q (q_assign rfl) rfl rfl ?_)
  first | with_reducible refine S.nilK ?_ | refine S.nil ?_
  refine hK1 _ _ ?_
  refine S.seq fun K2 hK2 => ?_
  refine S.region rfl ?_
  refine S.op (S.q (q_move rfl) rfl rfl ?_)
  refine S.op (S.q (q_move rfl) rfl rfl ?_)
  refine S.op (S.call Tryd.en27 (vs := [_, _]) ⟨rfl, rfl, trivial⟩ (Of_S b m j hW) rfl ?_)
  rintro v Θ ⟨sv, rfl, hsv, rfl⟩
  refine S.op (S.q (q_move rfl) rfl rfl ?_)
  refine S.op (S.q (q_extract rfl rfl) rfl rfl ?_)
  refine S.op (S.q (q_extract rfl rfl) rfl rfl ?_)
  refine S.op (S.q (q_extract rfl rfl) rfl rfl ?_)
  refine S.op (S.q (q_assign rfl) rfl rfl ?_)
  refine S.op (S.q (q_assign rfl) rfl rfl ?_)
  refine S.op (S.q (q_assign rfl) rfl rfl ?_)
  first | with_reducible refine S.nilK ?_ | refine S.nil ?_
  refine hK2 _ _ ?_
  refine S.seq fun K3 hK3 => ?_
  refine S.seq fun K4 hK4 => ?_
  refine S.region rfl ?_
  refine S.op (S.q (q_move rfl) rfl rfl ?_)
  refine S.op (S.q (q_not rfl) rfl rfl ?_)
  first | with_reducible refine S.nilK ?_ | refine S.nil ?_
  refine hK4 _ _ ?_
  refine S.cond rfl (fun h1 => ?_) (fun h1 => ?_)
  · have hn : look m.js j = none := by cases h : look m.js j with | none => rfl | some x => rw [ofR_some h] at h1; cases h1
    have hmv : moveR m j z = (none, m) := by simp only [moveR, hn]
    refine S.seq fun K5 hK5 => ?_
    refine S.region rfl ?_
    refine S.op (S.q (q_build (pvs := []) [_, _, _] Tryd.z58 Tryd.p58 trivial rfl) rfl rfl ?_)
    refine S.op (S.storeS (cs' := [_, _, _]) Tryd.ag58 rfl rfl rfl rfl rfl rfl ?_)
    refine S.op (S.q (q_assign rfl) rfl rfl ?_)
    first | with_reducible refine S.nilK ?_ | refine S.nil ?_
    refine hK5 _ _ ?_
    refine S.ret ?_
    with_reducible repeat (first | refine S.then_n ?_ | refine S.then_x ?_ | refine S.then_r ?_ | refine S.inBlock_n ?_ | refine S.inBlock_r ?_ | refine S.inBlock_x rfl ?_ | refine S.noGoto_r ?_ | refine S.noGoto_n ?_ | refine S.noGoto_x ?_)
    exact S.fin (rs := [_, _]) (vs := [_, _]) Tryd.results51 (⟨⟨_, _, rfl, lod_agg [_, _, _] Tryd.ag58 rfl ⟨rfl, rfl, rfl, trivial⟩⟩, rfl, trivial⟩)  (⟨by rw [hmv]; rfl, by rw [hmv]⟩) Sub.ent
  · obtain ⟨x, hx⟩ : ∃ x, look m.js j = some x := by cases h : look m.js j with | none => rw [ofR_none h] at h1; cases h1 | some x => exact ⟨x, rfl⟩
    obtain ⟨hxm, hxj⟩ := look_some hx
    rw [ofR_some hx] at hsv ⊢
    simp only at hsv ⊢
    refine S.skip ?_
    with_reducible repeat (first | refine S.then_n ?_ | refine S.then_x ?_ | refine S.then_r ?_ | refine S.inBlock_n ?_ | refine S.inBlock_r ?_ | refine S.inBlock_x rfl ?_ | refine S.noGoto_r ?_ | refine S.noGoto_n ?_ | refine S.noGoto_x ?_)
    refine hK3 _ _ ?_
    refine S.seq fun K6 hK6 => ?_
    refine S.region rfl ?_
    refine S.op (S.q (q_move rfl) rfl rfl ?_)
    refine S.op (S.q (q_move rfl) rfl rfl ?_)
    refine S.op (S.call Tryd.en29 (vs := [_, _]) ⟨rfl, rfl, trivial⟩ (Remove_S b m j) rfl ?_)
    rintro v Θ ⟨rfl, rfl⟩
    rw [removeR_some hx]
    first | with_reducible refine S.nilK ?_ | refine S.nil ?_
    refine hK6 _ _ ?_
    refine S.seq fun K7 hK7 => ?_
    refine S.seq fun K8 hK8 => ?_
    refine S.region rfl ?_
    refine S.op (S.q (q_move rfl) rfl rfl ?_)
    refine S.op (S.q (q_move rfl) rfl rfl ?_)
    refine S.op (S.q (q_move rfl) rfl rfl ?_)
    refine S.op (S.q (q_move rfl) rfl rfl ?_)
    refine S.op (S.call Tryd.en30 (vs := [_, _, _, _]) ⟨rfl, rfl, rfl, rfl, trivial⟩ (Put_S b (m.del j) j z (own sv 3 1 (nds (lst x.ns))) sv (casts (lst x.ns)) (by rw [hsv, List.length_map]) (rdNds sv 3 (lst x.ns)) hj) rfl ?_)
    rintro v Θ ⟨rfl, rfl⟩
    refine S.op (S.q (q_ne rfl rfl) rfl rfl ?_)
    first | with_reducible refine S.nilK ?_ | refine S.nil ?_
    refine hK8 _ _ ?_
    refine S.condD rfl (fun h2 => ?_) (fun h2 => ?_)
    · have hcm : canMove m x z = false := by
        cases h : canMove m x z with
        | false => rfl
        | true =>
          have h9 := (putR_move hok hxm z).1 h
          rw [hxj] at h9
          exact absurd (by rw [h9]) h2
      obtain ⟨e, _, he⟩ := (putR_move hok hxm z).2 hcm
      rw [hxj] at he
      have hhome := putR_home hok hxm
      rw [hxj] at hhome
      have hmv : moveR m j z = (none, m) := by simp only [moveR, hx]; rw [if_neg (by rw [hcm]; simp)]
      rw [he]
      refine S.seq fun K9 hK9 => ?_
      refine S.region rfl ?_
      refine S.op (S.q (q_move rfl) rfl rfl ?_)
      refine S.op (S.q (q_move rfl) rfl rfl ?_)
      refine S.op (S.q (q_move rfl) rfl rfl ?_)
      refine S.op (S.q (q_move rfl) rfl rfl ?_)
      refine S.op (S.call Tryd.en30 (vs := [_, _, _, _]) ⟨rfl, rfl, rfl, rfl, trivial⟩ (Put_S b (m.del j) j (x.row : Int) (own sv 3 1 (nds (lst x.ns))) sv (casts (lst x.ns)) (by rw [hsv, List.length_map]) (rdNds sv 3 (lst x.ns)) hj) rfl ?_)
      rintro v Θ ⟨rfl, rfl⟩
      rw [hhome]
      first | with_reducible refine S.nilK ?_ | refine S.nil ?_
      refine hK9 _ _ ?_
      refine S.seq fun K10 hK10 => ?_
      refine S.region rfl ?_
      refine S.op (S.q (q_build (pvs := []) [_, _, _] Tryd.z58 Tryd.p58 trivial rfl) rfl rfl ?_)
      refine S.op (S.storeS (cs' := [_, _, _]) Tryd.ag58 rfl rfl rfl rfl rfl rfl ?_)
      refine S.op (S.q (q_assign rfl) rfl rfl ?_)
      first | with_reducible refine S.nilK ?_ | refine S.nil ?_
      refine hK10 _ _ ?_
      refine S.ret ?_
      with_reducible repeat (first | refine S.then_n ?_ | refine S.then_x ?_ | refine S.then_r ?_ | refine S.inBlock_n ?_ | refine S.inBlock_r ?_ | refine S.inBlock_x rfl ?_ | refine S.noGoto_r ?_ | refine S.noGoto_n ?_ | refine S.noGoto_x ?_)
      exact S.fin (rs := [_, _]) (vs := [_, _]) Tryd.results51 (⟨⟨_, _, rfl, lod_agg [_, _, _] Tryd.ag58 rfl ⟨rfl, rfl, rfl, trivial⟩⟩, rfl, trivial⟩)  (⟨by rw [hmv]; rfl, by rw [hmv]⟩) Sub.ent
    · have hcm : canMove m x z = true := by
        cases h : canMove m x z with
        | true => rfl
        | false =>
          obtain ⟨e, h8, h9⟩ := (putR_move hok hxm z).2 h
          rw [hxj] at h9
          exact absurd (by rw [h9]; exact h8) h2
      have hp := (putR_move hok hxm z).1 hcm
      rw [hxj] at hp
      have hmv : moveR m j z = (some (j, (x.row : Int), z), { m with js := reRow m.js j z.toNat }) := by simp only [moveR, hx]; rw [if_pos hcm]
      rw [hp]
      refine S.skip ?_
      with_reducible repeat (first | refine S.then_n ?_ | refine S.then_x ?_ | refine S.then_r ?_ | refine S.inBlock_n ?_ | refine S.inBlock_r ?_ | refine S.inBlock_x rfl ?_ | refine S.noGoto_r ?_ | refine S.noGoto_n ?_ | refine S.noGoto_x ?_)
      refine hK7 _ _ ?_
      refine S.seq fun K11 hK11 => ?_
      refine S.region rfl ?_
      refine S.op (S.q (q_move rfl) rfl rfl ?_)
      refine S.op (S.q (q_move rfl) rfl rfl ?_)
      refine S.op (S.q (q_move rfl) rfl rfl ?_)
      refine S.op (S.q (q_build (pvs := [(_, _), (_, _), (_, _)]) [_, _, _] Tryd.z58 Tryd.p58 ⟨⟨rfl, rfl⟩, ⟨rfl, rfl⟩, ⟨rfl, rfl⟩, trivial⟩ rfl) rfl rfl ?_)
      refine S.op (S.storeS (cs' := [_, _, _]) Tryd.ag58 rfl rfl rfl rfl rfl rfl ?_)
      refine S.op (S.q (q_assign rfl) rfl rfl ?_)
      first | with_reducible refine S.nilK ?_ | refine S.nil ?_
      refine hK11 _ _ ?_
      refine S.ret ?_
      with_reducible repeat (first | refine S.then_n ?_ | refine S.then_x ?_ | refine S.then_r ?_ | refine S.inBlock_n ?_ | refine S.inBlock_r ?_ | refine S.inBlock_x rfl ?_ | refine S.noGoto_r ?_ | refine S.noGoto_n ?_ | refine S.noGoto_x ?_)
      exact S.fin (rs := [_, _]) (vs := [_, _]) Tryd.results51 (⟨⟨_, _, rfl, lod_agg [_, _, _] Tryd.ag58 rfl ⟨rfl, rfl, rfl, trivial⟩⟩, rfl, trivial⟩)  (⟨by rw [hmv]; rfl, by rw [hmv]⟩) Sub.ent
theorem rowsCount_S (b : Nat) (m : Mx) : Spec Tryd.prog 43 [.pointer (some ⟨b, 0, none⟩)] [MI b m] fun Γ v Θ => v = .int .i64 (m.R : Int) ∧ Θ = MI b m :: Γ := by
  refine Spec.of_body Tryd.func43 rfl Tryd.ntmps43 rfl ?_
  intro w0 Γ
  show S _ w0 [(0, .pointer (some ⟨b, 0, none⟩))] (MI b m :: Γ) _
  refine S.seq fun K1 hK1 => ?_
  refine S.region rfl ?_
  refine S.op (S.q (q_assign rfl) rfl rfl ?_)
  first | with_reducible refine S.nilK ?_ | refine S.nil ?_
  refine hK1 _ _ ?_
  refine S.seq fun K2 hK2 => ?_
  refine S.region rfl ?_
  refine S.op (S.q (q_move rfl) rfl rfl ?_)
  refine S.op (S.call Tryd.en16 (vs := [_]) ⟨rfl, trivial⟩ (Size_S b m) rfl ?_)
  rintro v Θ ⟨rfl, rfl⟩
  refine S.op (S.q (q_move rfl) rfl rfl ?_)
  refine S.op (S.q (q_extract rfl rfl) rfl rfl ?_)
  refine S.op (S.q (q_extract rfl rfl) rfl rfl ?_)
  refine S.op (S.q (q_assign rfl) rfl rfl ?_)
  refine S.op (S.q (q_assign rfl) rfl rfl ?_)
  first | with_reducible refine S.nilK ?_ | refine S.nil ?_
  refine hK2 _ _ ?_
  refine S.seq fun K3 hK3 => ?_
  refine S.region rfl ?_
  refine S.op (S.q (q_move rfl) rfl rfl ?_)
  refine S.op (S.q (q_assign rfl) rfl rfl ?_)
  first | with_reducible refine S.nilK ?_ | refine S.nil ?_
  refine hK3 _ _ ?_
  refine S.ret ?_
  with_reducible repeat (first | refine S.then_n ?_ | refine S.then_x ?_ | refine S.then_r ?_ | refine S.inBlock_n ?_ | refine S.inBlock_r ?_ | refine S.inBlock_x rfl ?_ | refine S.noGoto_r ?_ | refine S.noGoto_n ?_ | refine S.noGoto_x ?_)
  exact S.fin (rs := [_]) (vs := [_]) Tryd.results43 (⟨rfl, trivial⟩)  (⟨rfl, rfl⟩) Sub.ent
theorem runUp_prefix {m : Mx} {z : Int} {ids : List Nat} {q : Nat} : ∀ {p : Nat} {a : List Mv × Mx}, runUp m z ids p = some a → q ≤ p → ∃ b, runUp m z ids q = some b
  | 0, a, h, hq => ⟨a, by rwa [show q = 0 by omega]⟩
  | p + 1, a, h, hq => by
    by_cases e : q = p + 1
    · exact ⟨a, by rwa [e]⟩
    · rw [runUp] at h
      cases hr : runUp m z ids p with
      | none => rw [hr] at h; cases h
      | some b => exact runUp_prefix hr (by omega)
theorem runUp_none {m : Mx} {z : Int} {ids : List Nat} {q p : Nat} (h : runUp m z ids q = none) (hp : q ≤ p) : runUp m z ids p = none := by
  cases e : runUp m z ids p with
  | none => rfl
  | some a => obtain ⟨b, hb⟩ := runUp_prefix e hp; rw [h] at hb; cases hb
theorem runUp_job {m : Mx} {z : Int} {ids : List Nat} : ∀ {q : Nat} {a : List Mv × Mx}, q ≤ ids.length → runUp m z ids q = some a → a.1.map (·.1) = ids.take q
  | 0, a, _, h => by
    simp only [runUp, Option.some.injEq] at h
    subst h
    rfl
  | q + 1, a, hq, h => by
    rw [runUp] at h
    cases hr : runUp m z ids q with
    | none => rw [hr] at h; cases h
    | some b =>
      rw [hr] at h
      simp only at h
      cases hv : moveR b.2 (ids.getD q 0) z with
      | mk x m' =>
        rw [hv] at h
        cases x with
        | none => cases h
        | some x =>
          simp only [Option.some.injEq] at h
          subst h
          obtain ⟨y, _, _, hxe, _⟩ := moveR_some hv
          have hx := List.getElem?_eq_getElem (show q < ids.length by omega)
          rw [List.map_append, runUp_job (by omega) hr, List.take_add_one, hx, hxe]
          simp [List.getD, hx]
theorem all_S (b : Nat) (m : Mx) (f t : Nat) (hf : f < m.R) {W : World} (hW : TabW W) : Spec Tryd.prog 44 [.pointer (some ⟨b, 0, none⟩), .int .i64 (f : Int), .int .i64 (t : Int)] [MI b m, old W] fun Γ v Θ => ∃ sv : SV, v = sv.v ∧ sv.n = (allR m f t).1.length ∧
    Θ = own sv 58 3 ((allR m f t).1.flatMap mvC) :: MI b (allR m f t).2 :: old W :: Γ := by
  refine Spec.miOk fun hok => ?_
  refine Spec.of_body Tryd.func44 rfl Tryd.ntmps44 rfl ?_
  intro w0 Γ
  show S _ w0 [(0, .pointer (some ⟨b, 0, none⟩)), (1, .int .i64 (f : Int)), (2, .int .i64 (t : Int))] (MI b m :: old W :: Γ) _
  obtain ⟨ids, hids⟩ : ∃ ids, ids = rowIds m f := ⟨_, rfl⟩
  have h16 : ids.length ≤ 16 := by rw [hids, rowIds_eq hf, List.length_map]; exact rowJ_len m f
  have hidj : ∀ j ∈ ids, j ≤ 4294967295 := fun j hj => by
    rw [hids] at hj
    obtain ⟨x, h1, _, h3⟩ := (mem_rowIds hok hf).1 hj
    rw [← h3]
    exact hok.id2 x h1
  have hall : allR m f t = match runUp m t ids ids.length with | some a => a | none => ([], m) := by rw [hids]; rfl
  refine S.seq fun K1 hK1 => ?_
  refine S.region rfl ?_
  refine S.op (S.q (q_assign rfl) rfl rfl ?_)
  first | with_reducible refine S.nilK ?_ | refine S.nil ?_
  refine hK1 _ _ ?_
  refine S.seq fun K2 hK2 => ?_
  refine S.region rfl ?_
  refine S.op (S.q (q_move rfl) rfl rfl ?_)
  refine S.op (S.call Tryd.en42 (vs := [_]) ⟨rfl, trivial⟩ (Copy_S b m) rfl ?_)
  rintro v Θ ⟨c, rfl, rfl⟩
  refine S.op (S.q (q_assign rfl) rfl rfl ?_)
  first | with_reducible refine S.nilK ?_ | refine S.nil ?_
  refine hK2 _ _ ?_
  refine S.seq fun K3 hK3 => ?_
  refine S.region rfl ?_
  refine S.op (S.q (q_assign rfl) rfl rfl ?_)
  first | with_reducible refine S.nilK ?_ | refine S.nil ?_
  refine hK3 _ _ ?_
  refine S.seq fun K4 hK4 => ?_
  refine S.seq fun K5 hK5 => ?_
  refine S.region rfl ?_
  refine S.op (S.q (q_move rfl) rfl rfl ?_)
  refine S.op (S.q (q_move rfl) rfl rfl ?_)
  refine S.op (S.call Tryd.en17 (vs := [_, _]) ⟨rfl, rfl, trivial⟩ (Row_S b m f hW) rfl ?_)
  rintro v Θ ⟨rv, rfl, hrv, rfl⟩
  rw [← hids] at hrv ⊢
  refine S.op (S.q (q_len Tryd.underlying34 rfl) rfl rfl ?_)
  refine S.ent (Ent.ownNil 58 3) ?_
  show S _ w0 _ (own SV.nil 58 3 (([] : List Mv).flatMap mvC) :: _) _
  refine S.op (S.q (q_move rfl) rfl rfl ?_)
  first | with_reducible refine S.nilK ?_ | refine S.nil ?_
  refine hK5 _ _ ?_
  refine S.block ?_
  refine S.loop (fun q ρ' Γ' => ∃ (i : Nat) (sv : SV) (xs : List Mv) (m2 : Mx), q = ids.length - i ∧ i ≤ ids.length ∧ runUp m t ids i = some (xs, m2) ∧ xs.length = i ∧ sv.n = i ∧ ρ' = [(0, .pointer (some ⟨b, 0, none⟩)), (2, .int .i64 (t : Int)), (7, .pointer (some ⟨c, 0, none⟩)), (8, sv.v), (19, rv.v), (20, .int .i64 rv.n), (21, .int .i64 (i : Int))] ∧   Γ' = own sv 58 3 (xs.flatMap mvC) :: own rv 36 1 (idsV ids) :: MI c m2 :: MI b m :: old W :: Γ) (m := _) (ρ0 := _) (Γ0 := _) (⟨0, SV.nil, [], m, rfl, by omega, rfl, rfl, rfl, rfl, rfl⟩) (by repeat (first | exact trivial | refine ⟨rfl, ?_⟩)) Sub.ent ?_
  rintro q ρ' Γ' ⟨i, sv, xs, m2, hq, hi, hru, hxl, hsv, rfl, rfl⟩
  refine S.seq fun K6 hK6 => ?_
  refine S.region rfl ?_
  refine S.op (S.q (q_lt rfl rfl) rfl rfl ?_)
  first | with_reducible refine S.nilK ?_ | refine S.nil ?_
  refine hK6 _ _ ?_
  refine S.seq fun K7 hK7 => ?_
  refine S.condD rfl (fun h1 => ?_) (fun h1 => ?_)
  · refine S.ownSome rv (by omega) fun rb rf hra _ _ _ => ?_
    obtain ⟨j, hj⟩ := getE (show i < ids.length by omega)
    have hjd : ids.getD i 0 = j := by simp [List.getD, hj]
    have hj32 := hidj j (List.mem_of_getElem? hj)
    refine S.skip ?_
    with_reducible repeat (first | refine S.then_n ?_ | refine S.then_x ?_ | refine S.then_r ?_ | refine S.inBlock_n ?_ | refine S.inBlock_r ?_ | refine S.inBlock_x rfl ?_ | refine S.noGoto_r ?_ | refine S.noGoto_n ?_ | refine S.noGoto_x ?_)
    refine hK7 _ _ ?_
    refine S.seq fun K8 hK8 => ?_
    refine S.block ?_
    refine S.seq fun K9 hK9 => ?_
    refine S.region rfl ?_
    refine S.op (S.q (q_indexO (i) Tryd.el34 rfl hra rfl rfl (by omega)) rfl rfl ?_)
    refine S.op (S.q (q_loadOw (rv) (i) Tryd.at36 rfl hra (by first | rfl | exact Nat.add_assoc _ _ _ | omega) (idsV_get hj)) rfl rfl ?_)
    refine S.op (S.q (q_assign rfl) rfl rfl ?_)
    first | with_reducible refine S.nilK ?_ | refine S.nil ?_
    refine hK9 _ _ ?_
    refine S.seq fun K10 hK10 => ?_
    refine S.region rfl ?_
    refine S.op (S.q (q_move rfl) rfl rfl ?_)
    refine S.op (S.q (q_move rfl) rfl rfl ?_)
    refine S.op (S.q (q_move rfl) rfl rfl ?_)
    refine S.op (S.call Tryd.en51 (vs := [_, _, _]) ⟨rfl, rfl, rfl, trivial⟩ (move_S c m2 j (t : Int) hj32 hW) rfl ?_)
    rintro v Θ ⟨rfl, rfl⟩
    refine S.op (S.q (q_move rfl) rfl rfl ?_)
    refine S.op (S.q (q_extract rfl rfl) rfl rfl ?_)
    refine S.op (S.q (q_extract rfl rfl) rfl rfl ?_)
    refine S.op (S.alloc Tryd.z58 rfl ?_)
    intro b11
    refine S.op (S.storeS (cs' := [_, _, _]) Tryd.ag58 rfl rfl rfl rfl rfl rfl ?_)
    refine S.op (S.q (q_assign rfl) rfl rfl ?_)
    first | with_reducible refine S.nilK ?_ | refine S.nil ?_
    refine hK10 _ _ ?_
    refine S.seq fun K11 hK11 => ?_
    refine S.seq fun K12 hK12 => ?_
    refine S.region rfl ?_
    refine S.op (S.q (q_move rfl) rfl rfl ?_)
    refine S.op (S.q (q_not rfl) rfl rfl ?_)
    first | with_reducible refine S.nilK ?_ | refine S.nil ?_
    refine hK12 _ _ ?_
    refine S.cond rfl (fun h2 => ?_) (fun h2 => ?_)
    · have hn2 : runUp m t ids (i + 1) = none := by
        rw [runUp, hru, hjd]
        cases hv : moveR m2 j t with
        | mk x m' =>
          rw [hv] at h2
          cases x with
          | none => simp only [hv]
          | some x => cases h2
      have hfin : allR m f t = ([], m) := by rw [hall, runUp_none hn2 (by omega)]
      refine S.seq fun K13 hK13 => ?_
      refine S.region rfl ?_
      refine S.op (S.q (q_assign rfl) rfl rfl ?_)
      first | with_reducible refine S.nilK ?_ | refine S.nil ?_
      refine hK13 _ _ ?_
      refine S.ret ?_
      with_reducible repeat (first | refine S.then_n ?_ | refine S.then_x ?_ | refine S.then_r ?_ | refine S.inBlock_n ?_ | refine S.inBlock_r ?_ | refine S.inBlock_x rfl ?_ | refine S.noGoto_r ?_ | refine S.noGoto_n ?_ | refine S.noGoto_x ?_)
      refine S.ent (Ent.ownNil 58 3) ?_
      show S _ w0 _ (own SV.nil 58 3 (([] : List Mv).flatMap mvC) :: _) _
      exact S.fin (rs := [_]) (vs := [_]) Tryd.results44 (⟨rfl, trivial⟩)  (⟨SV.nil, rfl, by rw [hfin]; rfl, by rw [hfin]⟩) Sub.ent
    · obtain ⟨x, m3, hv⟩ : ∃ x m3, moveR m2 j t = (some x, m3) := by
        cases hv : moveR m2 j t with
        | mk x m' =>
          rw [hv] at h2
          cases x with
          | none => cases h2
          | some x => exact ⟨x, m', rfl⟩
      have hru2 : runUp m t ids (i + 1) = some (xs ++ [x], m3) := by rw [runUp, hru, hjd]; simp only [hv]
      have hxl2 : (xs ++ [x]).length = i + 1 := by rw [List.length_append, hxl]; rfl
      rw [hv]
      simp only [mvR, Option.getD_some]
      refine S.skip ?_
      with_reducible repeat (first | refine S.then_n ?_ | refine S.then_x ?_ | refine S.then_r ?_ | refine S.inBlock_n ?_ | refine S.inBlock_r ?_ | refine S.inBlock_x rfl ?_ | refine S.noGoto_r ?_ | refine S.noGoto_n ?_ | refine S.noGoto_x ?_)
      refine hK11 _ _ ?_
      refine S.region rfl ?_
      refine S.op (S.q (q_move rfl) rfl rfl ?_)
      refine S.op (S.q (q_loadS [_, _, _] Tryd.ag58 rfl rfl ⟨rfl, rfl, rfl, trivial⟩) rfl rfl ?_)
      refine S.op (S.buildSlice (pvs := [(_, _)]) [_, _, _] Tryd.underlying29 Tryd.inf58 rfl rfl ⟨⟨rfl, rfl⟩, trivial⟩ rfl rfl ?_)
      intro b36
      refine S.op (S.appendOw (s := sv) (1) (mvC x) Tryd.underlying29 Tryd.inf58 rfl rfl rfl (blk_slAt (b := b36) rfl (by unfold maxLen; omega)) (by first | rfl | exact allOne_bcells _) (⟨by omega, by omega⟩) rfl ?_)
      intro sv2 hsv2
      refine S.op (S.q (q_assign rfl) rfl rfl ?_)
      first | with_reducible refine S.nilK ?_ | refine S.nil ?_
      with_reducible repeat (first | refine S.then_n ?_ | refine S.then_x ?_ | refine S.then_r ?_ | refine S.inBlock_n ?_ | refine S.inBlock_r ?_ | refine S.inBlock_x rfl ?_ | refine S.noGoto_r ?_ | refine S.noGoto_n ?_ | refine S.noGoto_x ?_)
      refine hK8 _ _ ?_
      refine S.region rfl ?_
      refine S.op (S.q (q_add rfl rfl (inI64 (by omega) (by omega))) rfl rfl ?_)
      refine S.op (S.q (q_move rfl) rfl rfl ?_)
      first | with_reducible refine S.nilK ?_ | refine S.nil ?_
      with_reducible repeat (first | refine S.then_n ?_ | refine S.then_x ?_ | refine S.then_r ?_ | refine S.inBlock_n ?_ | refine S.inBlock_r ?_ | refine S.inBlock_x rfl ?_ | refine S.noGoto_r ?_ | refine S.noGoto_n ?_ | refine S.noGoto_x ?_)
      rw [flat_snoc mvC xs x]
      exact S.next (q - 1) (⟨i + 1, sv2, xs ++ [x], m3, by omega, by omega, hru2, hxl2, by omega, rfl, rfl⟩) (by omega) (by repeat (first | exact trivial | refine ⟨rfl, ?_⟩)) Sub.ent
  · have hil : i = ids.length := by omega
    have hfin : allR m f t = (xs, m2) := by rw [hall, ← hil, hru]
    have hxj := runUp_job (show i ≤ ids.length by omega) hru
    simp only at hxj
    refine S.exit ?_
    with_reducible repeat (first | refine S.then_n ?_ | refine S.then_x ?_ | refine S.then_r ?_ | refine S.inBlock_n ?_ | refine S.inBlock_r ?_ | refine S.inBlock_x rfl ?_ | refine S.noGoto_r ?_ | refine S.noGoto_n ?_ | refine S.noGoto_x ?_)
    with_reducible refine S.inBlock_s ?_
    with_reducible repeat (first | refine S.then_n ?_ | refine S.then_x ?_ | refine S.then_r ?_ | refine S.inBlock_n ?_ | refine S.inBlock_r ?_ | refine S.inBlock_x rfl ?_ | refine S.noGoto_r ?_ | refine S.noGoto_n ?_ | refine S.noGoto_x ?_)
    refine hK4 _ _ ?_
    refine S.seq fun K14 hK14 => ?_
    refine S.seq fun K15 hK15 => ?_
    refine S.region rfl ?_
    refine S.op (S.q (q_move rfl) rfl rfl ?_)
    refine S.op (S.q (q_len Tryd.underlying29 rfl) rfl rfl ?_)
    refine S.op (S.q (q_move rfl) rfl rfl ?_)
    first | with_reducible refine S.nilK ?_ | refine S.nil ?_
    refine hK15 _ _ ?_
    refine S.block ?_
    refine S.loop (fun q ρ' Γ' => ∃ (k : Nat) (ys : List Mv) (mm : Mx), q = ids.length - k ∧ k ≤ ids.length ∧ runUp m t ids k = some (ys, mm) ∧ ρ' = [(0, .pointer (some ⟨b, 0, none⟩)), (2, .int .i64 (t : Int)), (8, sv.v), (39, sv.v), (40, .int .i64 sv.n), (41, .int .i64 (k : Int))] ∧   Γ' = own sv 58 3 (xs.flatMap mvC) :: MI b mm :: old W :: Γ) (m := _) (ρ0 := _) (Γ0 := _) (⟨0, [], m, rfl, by omega, rfl, rfl, rfl⟩) (by repeat (first | exact trivial | refine ⟨rfl, ?_⟩)) Sub.ent ?_
    rintro q ρ' Γ' ⟨k, ys, mm, hq, hk, hrk, rfl, rfl⟩
    refine S.seq fun K16 hK16 => ?_
    refine S.region rfl ?_
    refine S.op (S.q (q_lt rfl rfl) rfl rfl ?_)
    first | with_reducible refine S.nilK ?_ | refine S.nil ?_
    refine hK16 _ _ ?_
    refine S.seq fun K17 hK17 => ?_
    refine S.condD rfl (fun h3 => ?_) (fun h3 => ?_)
    · refine S.ownSome sv (by omega) fun sb so hsa _ _ _ => ?_
      obtain ⟨x, hx⟩ := getE (show k < xs.length by omega)
      have hxe : ids[k]? = some x.1 := by
        have h9 := congrArg (fun l => l[k]?) hxj
        simp only [List.getElem?_map, hx, Option.map_some] at h9
        rw [h9, List.getElem?_take_of_lt (by omega)]
      have hx32 := hidj x.1 (List.mem_of_getElem? hxe)
      obtain ⟨c2, hc2⟩ := runUp_prefix hru (show k + 1 ≤ i by omega)
      have hmm : c2.2 = (moveR mm x.1 t).2 := by
        rw [runUp, hrk] at hc2
        simp only [List.getD, hxe, Option.getD_some] at hc2
        cases hv : moveR mm x.1 t with
        | mk y m' =>
          rw [hv] at hc2
          cases y with
          | none => cases hc2
          | some y => simp only [Option.some.injEq] at hc2; rw [← hc2]
      refine S.skip ?_
      with_reducible repeat (first | refine S.then_n ?_ | refine S.then_x ?_ | refine S.then_r ?_ | refine S.inBlock_n ?_ | refine S.inBlock_r ?_ | refine S.inBlock_x rfl ?_ | refine S.noGoto_r ?_ | refine S.noGoto_n ?_ | refine S.noGoto_x ?_)
      refine hK17 _ _ ?_
      refine S.seq fun K18 hK18 => ?_
      refine S.block ?_
      refine S.seq fun K19 hK19 => ?_
      refine S.region rfl ?_
      refine S.op (S.q (q_indexO (k) Tryd.el29 rfl hsa rfl rfl (by omega)) rfl rfl ?_)
      refine S.op (S.q (q_loadOwS (sv) (k * 3) [_, _, _] Tryd.ag58 rfl hsa (by first | rfl | exact Nat.add_assoc _ _ _ | omega) rfl (flat_seg (enc := mvC) (sz := 3) (fun _ => rfl) hx)) rfl rfl ?_)
      refine S.op (S.alloc Tryd.z58 rfl ?_)
      intro b14
      refine S.op (S.storeS (cs' := [_, _, _]) Tryd.ag58 rfl rfl rfl rfl rfl rfl ?_)
      first | with_reducible refine S.nilK ?_ | refine S.nil ?_
      refine hK19 _ _ ?_
      refine S.region rfl ?_
      refine S.op (S.q (q_move rfl) rfl rfl ?_)
      refine S.op (S.q (q_field Tryd.fo58_0 rfl) rfl rfl ?_)
      refine S.op (S.q (q_load Tryd.at36 rfl rfl) rfl rfl ?_)
      refine S.op (S.q (q_move rfl) rfl rfl ?_)
      refine S.op (S.call Tryd.en51 (vs := [_, _, _]) ⟨rfl, rfl, rfl, trivial⟩ (move_S b mm x.1 (t : Int) hx32 hW) rfl ?_)
      rintro v Θ ⟨rfl, rfl⟩
      rw [← hmm]
      first | with_reducible refine S.nilK ?_ | refine S.nil ?_
      with_reducible repeat (first | refine S.then_n ?_ | refine S.then_x ?_ | refine S.then_r ?_ | refine S.inBlock_n ?_ | refine S.inBlock_r ?_ | refine S.inBlock_x rfl ?_ | refine S.noGoto_r ?_ | refine S.noGoto_n ?_ | refine S.noGoto_x ?_)
      refine hK18 _ _ ?_
      refine S.region rfl ?_
      refine S.op (S.q (q_add rfl rfl (inI64 (by omega) (by omega))) rfl rfl ?_)
      refine S.op (S.q (q_move rfl) rfl rfl ?_)
      first | with_reducible refine S.nilK ?_ | refine S.nil ?_
      with_reducible repeat (first | refine S.then_n ?_ | refine S.then_x ?_ | refine S.then_r ?_ | refine S.inBlock_n ?_ | refine S.inBlock_r ?_ | refine S.inBlock_x rfl ?_ | refine S.noGoto_r ?_ | refine S.noGoto_n ?_ | refine S.noGoto_x ?_)
      exact S.next (q - 1) (⟨k + 1, c2.1, c2.2, by omega, by omega, hc2, rfl, rfl⟩) (by omega) (by repeat (first | exact trivial | refine ⟨rfl, ?_⟩)) Sub.ent
    · have hkl : k = ids.length := by omega
      rw [hkl, ← hil, hru] at hrk
      simp only [Option.some.injEq, Prod.mk.injEq] at hrk
      rw [← hrk.2]
      refine S.exit ?_
      with_reducible repeat (first | refine S.then_n ?_ | refine S.then_x ?_ | refine S.then_r ?_ | refine S.inBlock_n ?_ | refine S.inBlock_r ?_ | refine S.inBlock_x rfl ?_ | refine S.noGoto_r ?_ | refine S.noGoto_n ?_ | refine S.noGoto_x ?_)
      with_reducible refine S.inBlock_s ?_
      with_reducible repeat (first | refine S.then_n ?_ | refine S.then_x ?_ | refine S.then_r ?_ | refine S.inBlock_n ?_ | refine S.inBlock_r ?_ | refine S.inBlock_x rfl ?_ | refine S.noGoto_r ?_ | refine S.noGoto_n ?_ | refine S.noGoto_x ?_)
      refine hK14 _ _ ?_
      refine S.seq fun K20 hK20 => ?_
      refine S.region rfl ?_
      refine S.op (S.q (q_move rfl) rfl rfl ?_)
      refine S.op (S.q (q_assign rfl) rfl rfl ?_)
      first | with_reducible refine S.nilK ?_ | refine S.nil ?_
      refine hK20 _ _ ?_
      refine S.ret ?_
      with_reducible repeat (first | refine S.then_n ?_ | refine S.then_x ?_ | refine S.then_r ?_ | refine S.inBlock_n ?_ | refine S.inBlock_r ?_ | refine S.inBlock_x rfl ?_ | refine S.noGoto_r ?_ | refine S.noGoto_n ?_ | refine S.noGoto_x ?_)
      exact S.fin (rs := [_]) (vs := [_]) Tryd.results44 (⟨rfl, trivial⟩)  (⟨sv, rfl, by rw [hfin]; show sv.n = xs.length; omega, by rw [hfin]⟩) Sub.ent
end Go.Proofs.YtbhnbnecaejjiaaDoor
