/- Who has to make room: Choose. -/
import Derived.Test.YtegjmmocnffpiaaDoorMI3
/- The document's matrix: cells, and which nodes are up; New. -/
namespace Go.Proofs.YtegjmmocnffpiaaDoor
open Go.RowKit
set_option maxRecDepth 20000
def rowN (m : Mx) (r : Nat) : List Nat := (List.range m.N).map (atJ m.js r)
theorem rowN_len (m : Mx) (r : Nat) : (rowN m r).length = m.N := by rw [rowN, List.length_map, List.length_range]
theorem rowN_get {m : Mx} {i : Nat} (h : i < m.N) (r : Nat) : (rowN m r)[i]? = some (atJ m.js r i) := by simp [rowN, h]
abbrev Rr := SV × List Nat
abbrev rrV (p : Rr) : Value := p.1.v
abbrev rrB (p : Rr) : Assn := own p.1 68 1 (idsV p.2)
abbrev upC (m : Mx) : List Value := (List.range m.N).map fun i => .bool (m.up.getLsbD i)
structure RiOk (m : Mx) (cs us : SV) (rs : List Rr) : Prop where
  ok : MxOk m
  cn : cs.n = m.R
  un : us.n = m.N
  dat : rs.map (·.2) = (List.range m.R).map (rowN m)
  len : ∀ p ∈ rs, p.1.n = m.N
theorem RiOk.rlen {m : Mx} {cs us : SV} {rs : List Rr} (h : RiOk m cs us rs) : rs.length = m.R := by
  have := congrArg List.length h.dat
  simpa using this
theorem RiOk.at_ {m : Mx} {cs us : SV} {rs : List Rr} (h : RiOk m cs us rs) {r : Nat} (hr : r < m.R) : ∃ p : Rr, rs[r]? = some p ∧ p.2 = rowN m r ∧ p.1.n = m.N := by
  have h1 := List.getElem?_eq_getElem (show r < rs.length by rw [h.rlen]; exact hr)
  refine ⟨rs[r]'(by rw [h.rlen]; exact hr), h1, ?_, h.len _ (List.getElem_mem _)⟩
  have h2 := congrArg (fun l => l[r]?) h.dat
  simp only [List.getElem?_map, h1, List.getElem?_range hr, Option.map_some] at h2
  exact Option.some.inj h2
def RI (b : Nat) (m : Mx) : Assn := fun h => ∃ (cs us : SV) (rs : List Rr), RiOk m cs us rs ∧ stars [blk b 55 #[cs.v, us.v], own cs 31 1 (rs.map rrV), own us 4 1 (upC m), alls rs rrB] h
section
variable {n : Nat} {md : Bool} {w0 : WM md} {ρ : Env} {Γ Δ : List Assn} {φ : Act → World → Prop}
theorem S.riOpen (b : Nat) (m : Mx) [p : Pick (RI b m) Γ Δ] (k : ∀ cs us rs, RiOk m cs us rs → S n w0 ρ (blk b 55 #[cs.v, us.v] :: own cs 31 1 (rs.map rrV) :: own us 4 1 (upC m) :: alls rs rrB :: Δ) φ) : S n w0 ρ Γ φ := by
  intro a w ha hs hx
  obtain ⟨h0, l0, h1, h2, d, l1, l2, ⟨cs, us, rs, q1, q4⟩, s⟩ := hs.ent p.ent
  exact k cs us rs q1 a w ha ⟨h0, l0, (Ent.unpack [blk b 55 #[cs.v, us.v], own cs 31 1 (rs.map rrV), own us 4 1 (upC m), alls rs rrB] Δ) _ ⟨h1, h2, d, l1, l2, q4, s⟩⟩ hx
theorem Ent.ri {b : Nat} {m : Mx} {cs us : SV} {rs : List Rr} (h : RiOk m cs us rs) (Γ : List Assn) : Ent (blk b 55 #[cs.v, us.v] :: own cs 31 1 (rs.map rrV) :: own us 4 1 (upC m) :: alls rs rrB :: Γ) (RI b m :: Γ) :=
  (Ent.pack [blk b 55 #[cs.v, us.v], own cs 31 1 (rs.map rrV), own us 4 1 (upC m), alls rs rrB] Γ).trans (Ent.mono1 Γ fun _ s => ⟨cs, us, rs, h, s⟩)
theorem S.riClose (b : Nat) (m : Mx) (cs us : SV) (rs : List Rr) {Δ1 Δ2 Δ3 Δ4 : List Assn} (h : RiOk m cs us rs) [p1 : Pick (blk b 55 #[cs.v, us.v]) Γ Δ1] [p2 : Pick (own cs 31 1 (rs.map rrV)) Δ1 Δ2] [p3 : Pick (own us 4 1 (upC m)) Δ2 Δ3] [p4 : Pick (alls rs rrB) Δ3 Δ4]
    (k : S n w0 ρ (RI b m :: Δ4) φ) : S n w0 ρ Γ φ :=
  S.ent ((p1.ent.trans ((p2.ent.trans ((p3.ent.trans (p4.ent.cons _)).cons _)).cons _)).trans (Ent.ri h Δ4)) k
end
theorem Spec.riOk {b : Nat} {m : Mx} {P : Program} {f : FuncId} {args : List Value} {pre : List Assn} {post : List Assn → Value → List Assn → Prop} {md : Bool} (h : MxOk m → Spec P f args (RI b m :: pre) post md) : Spec P f args (RI b m :: pre) post md := by
  intro Γ w hs
  obtain ⟨_, _, _, _, _, q1, _⟩ := hs.head
  exact h q1.ok Γ w hs
theorem rowN_mx0 (R N r : Nat) : rowN (mx0 R N) r = List.replicate N 0 := by
  refine List.eq_replicate_iff.2 ⟨rowN_len _ _, fun v hv => ?_⟩
  obtain ⟨i, _, rfl⟩ := List.mem_map.1 hv
  rfl
theorem zeroRow_ids (N : Nat) : zeroRow [Value.int .u32 0] N = idsV (List.replicate N 0) := by
  induction N with
  | zero => rfl
  | succ N ih => rw [zeroRow, ih, List.replicate_succ]; rfl
theorem upC_mx0 (R : Nat) {N : Nat} (h : N ≤ 16) : upC (mx0 R N) = List.replicate N (.bool true) := by
  refine List.eq_replicate_iff.2 ⟨by simp; rfl, fun v hv => ?_⟩
  obtain ⟨i, hi, rfl⟩ := List.mem_map.1 hv
  rw [show (mx0 R N).up.getLsbD i = true from (mask_bit h i).2 (List.mem_range.1 hi)]
theorem rNew_S (R N : Nat) (hR1 : 1 ≤ R) (hR8 : R ≤ 8) (hN1 : 1 ≤ N) (hN16 : N ≤ 16) : Spec Tryd.prog 24 [.int .i64 (R : Int), .int .i64 (N : Int)] [] fun Γ v Θ => ∃ b, v = .tuple #[.pointer (some ⟨b, 0, none⟩), .int .i64 0] ∧ Θ = RI b (mx0 R N) :: Γ := by
  refine Spec.of_body Tryd.func24 rfl Tryd.ntmps24 rfl ?_
  intro w0 Γ
  show S _ w0 [(0, .int .i64 (R : Int)), (1, .int .i64 (N : Int))] Γ _
  refine S.seq fun K1 hK1 => ?_
  refine S.region rfl ?_
  refine S.op (S.q (q_assign rfl) rfl rfl ?_)
  refine S.op (S.q (q_assign rfl) rfl rfl ?_)
  first | with_reducible refine S.nilK ?_ | refine S.nil ?_
  refine hK1 _ _ ?_
  refine S.seq fun K2 hK2 => ?_
  refine S.seq fun K3 hK3 => ?_
  refine S.regionG ?_
  refine S.g_op rfl (S.q (q_move rfl) rfl rfl ?_)
  refine S.g_op rfl (S.q (q_lt rfl rfl) rfl rfl ?_)
  refine S.g_op rfl (S.q (q_move rfl) rfl rfl ?_)
  by_cases hg1_2 : (R : Int) < 1
  · omega
  · refine S.g_yes rfl rfl rfl (decide_eq_false hg1_2) (S.q (q_move rfl) rfl rfl ?_)
    refine S.g_yes rfl rfl rfl (decide_eq_false hg1_2) (S.q (q_gt rfl rfl) rfl rfl ?_)
    refine S.g_op rfl (S.q (q_pickF rfl (decide_eq_false hg1_2) rfl) rfl rfl ?_)
    refine S.g_op rfl (S.q (q_move rfl) rfl rfl ?_)
    by_cases hg1_6 : (8 : Int) < R
    · omega
    · refine S.g_yes rfl rfl rfl (decide_eq_false hg1_6) (S.q (q_move rfl) rfl rfl ?_)
      refine S.g_yes rfl rfl rfl (decide_eq_false hg1_6) (S.q (q_lt rfl rfl) rfl rfl ?_)
      refine S.g_op rfl (S.q (q_pickF rfl (decide_eq_false hg1_6) rfl) rfl rfl ?_)
      refine S.g_op rfl (S.q (q_move rfl) rfl rfl ?_)
      by_cases hg1_10 : (N : Int) < 1
      · omega
      · refine S.g_yes rfl rfl rfl (decide_eq_false hg1_10) (S.q (q_move rfl) rfl rfl ?_)
        refine S.g_yes rfl rfl rfl (decide_eq_false hg1_10) (S.q (q_gt rfl rfl) rfl rfl ?_)
        refine S.g_op rfl (S.q (q_pickF rfl (decide_eq_false hg1_10) rfl) rfl rfl ?_)
        first | with_reducible refine S.g_nilK ?_ | refine S.g_nil ?_
        refine hK3 _ _ ?_
        refine S.condD rfl (fun h1 => ?_) (fun h1 => ?_)
        · omega
        · refine S.skip ?_
          with_reducible repeat (first | refine S.then_n ?_ | refine S.then_x ?_ | refine S.then_r ?_ | refine S.inBlock_n ?_ | refine S.inBlock_r ?_ | refine S.inBlock_x rfl ?_ | refine S.noGoto_r ?_ | refine S.noGoto_n ?_ | refine S.noGoto_x ?_)
          refine hK2 _ _ ?_
          refine S.seq fun K4 hK4 => ?_
          refine S.region rfl ?_
          refine S.op (S.q (q_build (pvs := []) [_, _] Tryd.z55 Tryd.p55 trivial rfl) rfl rfl ?_)
          refine S.op (S.box (cs := [_, _]) rfl rfl rfl ?_)
          intro b22
          refine S.op (S.q (q_assign rfl) rfl rfl ?_)
          first | with_reducible refine S.nilK ?_ | refine S.nil ?_
          refine hK4 _ _ ?_
          refine S.seq fun K5 hK5 => ?_
          refine S.seq fun K6 hK6 => ?_
          refine S.region rfl ?_
          show S _ w0 _ (blk b22 55 #[SV.nil.v, SV.nil.v] :: Γ) _
          refine S.ent (Ent.ownNil 31 1) ?_
          refine S.ent (Ent.allsNil rrB _) ?_
          show S _ w0 _ (alls [] rrB :: own SV.nil 31 1 (([] : List Rr).map rrV) :: blk b22 55 #[SV.nil.v, SV.nil.v] :: Γ) _
          refine S.op (S.q (q_move rfl) rfl rfl ?_)
          refine S.op (S.q (q_move rfl) rfl rfl ?_)
          first | with_reducible refine S.nilK ?_ | refine S.nil ?_
          refine hK6 _ _ ?_
          refine S.block ?_
          refine S.loop (fun q ρ' Γ' => ∃ (i : Nat) (rs : List Rr) (cs : SV), q = R - i ∧ i ≤ R ∧ rs.length = i ∧ cs.n = i ∧ (∀ p ∈ rs, p.1.n = N ∧ p.2 = List.replicate N 0) ∧ ρ' = [(1, .int .i64 (N : Int)), (6, .pointer (some ⟨b22, 0, none⟩)), (23, .int .i64 (R : Int)), (24, .int .i64 (i : Int))] ∧   Γ' = alls rs rrB :: own cs 31 1 (rs.map rrV) :: blk b22 55 #[cs.v, SV.nil.v] :: Γ) (m := _) (ρ0 := _) (Γ0 := _) (⟨0, [], SV.nil, rfl, by omega, rfl, rfl, fun _ h => (by cases h), rfl, rfl⟩) (by repeat (first | exact trivial | refine ⟨rfl, ?_⟩)) Sub.ent ?_
          rintro q ρ' Γ' ⟨i, rs, cs, hq, hi, hrl, hcn, hall, rfl, rfl⟩
          refine S.seq fun K7 hK7 => ?_
          refine S.region rfl ?_
          refine S.op (S.q (q_lt rfl rfl) rfl rfl ?_)
          first | with_reducible refine S.nilK ?_ | refine S.nil ?_
          refine hK7 _ _ ?_
          refine S.seq fun K8 hK8 => ?_
          refine S.condD rfl (fun h2 => ?_) (fun h2 => ?_)
          · refine S.skip ?_
            with_reducible repeat (first | refine S.then_n ?_ | refine S.then_x ?_ | refine S.then_r ?_ | refine S.inBlock_n ?_ | refine S.inBlock_r ?_ | refine S.inBlock_x rfl ?_ | refine S.noGoto_r ?_ | refine S.noGoto_n ?_ | refine S.noGoto_x ?_)
            refine hK8 _ _ ?_
            refine S.seq fun K9 hK9 => ?_
            refine S.block ?_
            refine S.draw ([blk b22 55 #[cs.v, SV.nil.v]]) [11] Tryd.mixed ?_
            refine S.dr_take 0 [9, 10, 11] rfl (by kernel_rfl) rfl rfl rfl (q_move rfl) Sub.ent ?_
            refine S.dr_take 1 [2, 3, 4, 8, 9, 10, 11] rfl (by kernel_rfl) rfl rfl rfl (q_move rfl) Sub.ent ?_
            refine S.dr_take 2 [3, 4, 8, 9, 10, 11] rfl (by kernel_rfl) rfl rfl rfl (q_nilCheck rfl) Sub.ent ?_
            refine S.dr_take 3 [4, 8, 9, 10, 11] rfl (by kernel_rfl) rfl rfl rfl (q_field Tryd.fo55_0 rfl) Sub.ent ?_
            refine S.dr_take 4 [8, 9, 10, 11] rfl (by kernel_rfl) rfl rfl rfl (q_load Tryd.at52 rfl rfl) Sub.ent ?_
            refine S.dr_take 5 [6, 7, 8, 9, 10, 11] rfl (by kernel_rfl) rfl rfl rfl (q_move rfl) Sub.ent ?_
            refine S.dr_1 (i := 6) (by kernel_rfl) rfl rfl ?_
            refine  (S.makeSlice (N) (N) Tryd.underlying31 Tryd.inf68 rfl rfl rfl rfl rfl (Nat.le_refl _) (by omega) rfl ?_)
            intro nv hnv
            refine S.dr_k rfl Sub.ent ?_
            refine S.dr_1 (i := 7) (by kernel_rfl) rfl rfl ?_
            refine  (S.buildSlice (pvs := [(_, _)]) [_] Tryd.underlying52 Tryd.inf31 rfl rfl ⟨⟨rfl, rfl⟩, trivial⟩ rfl rfl ?_)
            intro b33
            refine S.dr_k rfl Sub.ent ?_
            refine S.dr_1 (i := 8) (by kernel_rfl) rfl rfl ?_
            refine  (S.appendOw (s := cs) (1) ([nv.v]) Tryd.underlying52 Tryd.inf31 rfl rfl rfl (blk_slAt (b := b33) rfl (by unfold maxLen; omega)) (by first | rfl | exact allOne_bcells _) (⟨by omega, by omega⟩) rfl ?_)
            intro cs2 hcs2
            refine S.dr_k rfl Sub.ent ?_
            refine S.dr_take 9 [10, 11] rfl (by kernel_rfl) rfl rfl rfl (q_nilCheck rfl) Sub.ent ?_
            refine S.dr_take 10 [11] rfl (by kernel_rfl) rfl rfl rfl (q_field Tryd.fo55_0 rfl) Sub.ent ?_
            refine S.dr_1 (i := 11) (by kernel_rfl) rfl rfl ?_
            refine  (S.store (cs' := [_, _]) Tryd.at52 rfl rfl rfl rfl rfl ?_)
            refine S.dr_late ([]) [] rfl ?_
            first | with_reducible refine S.dr_doneK (by kernel_rfl) ?_ | refine S.dr_done (by kernel_rfl) ?_
            with_reducible repeat (first | refine S.then_n ?_ | refine S.then_x ?_ | refine S.then_r ?_ | refine S.inBlock_n ?_ | refine S.inBlock_r ?_ | refine S.inBlock_x rfl ?_ | refine S.noGoto_r ?_ | refine S.noGoto_n ?_ | refine S.noGoto_x ?_)
            refine hK9 _ _ ?_
            refine S.region rfl ?_
            refine S.op (S.q (q_add rfl rfl (inI64 (by omega) (by omega))) rfl rfl ?_)
            refine S.op (S.q (q_move rfl) rfl rfl ?_)
            first | with_reducible refine S.nilK ?_ | refine S.nil ?_
            with_reducible repeat (first | refine S.then_n ?_ | refine S.then_x ?_ | refine S.then_r ?_ | refine S.inBlock_n ?_ | refine S.inBlock_r ?_ | refine S.inBlock_x rfl ?_ | refine S.noGoto_r ?_ | refine S.noGoto_n ?_ | refine S.noGoto_x ?_)
            have hall2 : ∀ p ∈ rs ++ [(nv, List.replicate N 0)], p.1.n = N ∧ p.2 = List.replicate N 0 := fun p hp => by
              rcases List.mem_append.1 hp with h9 | h9
              · exact hall p h9
              · rw [List.mem_singleton] at h9
                subst h9
                exact ⟨hnv, rfl⟩
            have hmap : rs.map rrV ++ [nv.v] = (rs ++ [((nv, List.replicate N 0) : Rr)]).map rrV := by rw [List.map_append]; rfl
            rw [hmap, zeroRow_ids]
            refine S.conv2 (own nv 68 1 (idsV (List.replicate N 0))) (alls rs rrB) (Ent.allsSnoc rrB rs ((nv, List.replicate N 0) : Rr) _) ?_
            exact S.next (q - 1) (⟨i + 1, rs ++ [(nv, List.replicate N 0)], cs2, by omega, by omega, by rw [List.length_append, hrl]; rfl, by omega, hall2, rfl, rfl⟩) (by omega) (by repeat (first | exact trivial | refine ⟨rfl, ?_⟩)) Sub.ent
          · have hiR : i = R := by omega
            refine S.ent (Ent.ownNil 4 1) ?_
            show S _ w0 _ (own SV.nil 4 1 (List.replicate 0 (.bool true)) :: _) _
            refine S.exit ?_
            with_reducible repeat (first | refine S.then_n ?_ | refine S.then_x ?_ | refine S.then_r ?_ | refine S.inBlock_n ?_ | refine S.inBlock_r ?_ | refine S.inBlock_x rfl ?_ | refine S.noGoto_r ?_ | refine S.noGoto_n ?_ | refine S.noGoto_x ?_)
            with_reducible refine S.inBlock_s ?_
            with_reducible repeat (first | refine S.then_n ?_ | refine S.then_x ?_ | refine S.then_r ?_ | refine S.inBlock_n ?_ | refine S.inBlock_r ?_ | refine S.inBlock_x rfl ?_ | refine S.noGoto_r ?_ | refine S.noGoto_n ?_ | refine S.noGoto_x ?_)
            refine hK5 _ _ ?_
            refine S.seq fun K10 hK10 => ?_
            refine S.seq fun K11 hK11 => ?_
            refine S.region rfl ?_
            refine S.op (S.q (q_move rfl) rfl rfl ?_)
            refine S.op (S.q (q_move rfl) rfl rfl ?_)
            first | with_reducible refine S.nilK ?_ | refine S.nil ?_
            refine hK11 _ _ ?_
            refine S.block ?_
            refine S.loop (fun q ρ' Γ' => ∃ (k : Nat) (us : SV), q = N - k ∧ k ≤ N ∧ us.n = k ∧ ρ' = [(6, .pointer (some ⟨b22, 0, none⟩)), (38, .int .i64 (N : Int)), (39, .int .i64 (k : Int))] ∧   Γ' = own us 4 1 (List.replicate k (.bool true)) :: alls rs rrB :: own cs 31 1 (rs.map rrV) :: blk b22 55 #[cs.v, us.v] :: Γ) (m := _) (ρ0 := _) (Γ0 := _) (⟨0, SV.nil, rfl, by omega, rfl, rfl, rfl⟩) (by repeat (first | exact trivial | refine ⟨rfl, ?_⟩)) Sub.ent ?_
            rintro q ρ' Γ' ⟨k, us, hq, hk, hun, rfl, rfl⟩
            refine S.seq fun K12 hK12 => ?_
            refine S.region rfl ?_
            refine S.op (S.q (q_lt rfl rfl) rfl rfl ?_)
            first | with_reducible refine S.nilK ?_ | refine S.nil ?_
            refine hK12 _ _ ?_
            refine S.seq fun K13 hK13 => ?_
            refine S.condD rfl (fun h3 => ?_) (fun h3 => ?_)
            · refine S.skip ?_
              with_reducible repeat (first | refine S.then_n ?_ | refine S.then_x ?_ | refine S.then_r ?_ | refine S.inBlock_n ?_ | refine S.inBlock_r ?_ | refine S.inBlock_x rfl ?_ | refine S.noGoto_r ?_ | refine S.noGoto_n ?_ | refine S.noGoto_x ?_)
              refine hK13 _ _ ?_
              refine S.seq fun K14 hK14 => ?_
              refine S.block ?_
              refine S.region rfl ?_
              refine S.op (S.q (q_move rfl) rfl rfl ?_)
              refine S.op (S.q (q_move rfl) rfl rfl ?_)
              refine S.op (S.q (q_nilCheck rfl) rfl rfl ?_)
              refine S.op (S.q (q_field Tryd.fo55_1 rfl) rfl rfl ?_)
              refine S.op (S.q (q_load Tryd.at53 rfl rfl) rfl rfl ?_)
              refine S.op (S.buildSlice (pvs := [(_, _)]) [_] Tryd.underlying53 Tryd.inf4 rfl rfl ⟨⟨rfl, rfl⟩, trivial⟩ rfl rfl ?_)
              intro b46
              refine S.op (S.appendOw (s := us) (1) ([.bool true]) Tryd.underlying53 Tryd.inf4 rfl rfl rfl (blk_slAt (b := b46) rfl (by unfold maxLen; omega)) (by first | rfl | exact allOne_bcells _) (⟨by omega, by omega⟩) rfl ?_)
              intro us2 hus2
              refine S.op (S.q (q_nilCheck rfl) rfl rfl ?_)
              refine S.op (S.q (q_field Tryd.fo55_1 rfl) rfl rfl ?_)
              refine S.op (S.store (cs' := [_, _]) Tryd.at53 rfl rfl rfl rfl rfl ?_)
              first | with_reducible refine S.nilK ?_ | refine S.nil ?_
              with_reducible repeat (first | refine S.then_n ?_ | refine S.then_x ?_ | refine S.then_r ?_ | refine S.inBlock_n ?_ | refine S.inBlock_r ?_ | refine S.inBlock_x rfl ?_ | refine S.noGoto_r ?_ | refine S.noGoto_n ?_ | refine S.noGoto_x ?_)
              refine hK14 _ _ ?_
              refine S.region rfl ?_
              refine S.op (S.q (q_add rfl rfl (inI64 (by omega) (by omega))) rfl rfl ?_)
              refine S.op (S.q (q_move rfl) rfl rfl ?_)
              first | with_reducible refine S.nilK ?_ | refine S.nil ?_
              with_reducible repeat (first | refine S.then_n ?_ | refine S.then_x ?_ | refine S.then_r ?_ | refine S.inBlock_n ?_ | refine S.inBlock_r ?_ | refine S.inBlock_x rfl ?_ | refine S.noGoto_r ?_ | refine S.noGoto_n ?_ | refine S.noGoto_x ?_)
              rw [show List.replicate k (Value.bool true) ++ [.bool true] = List.replicate (k + 1) (.bool true) from (List.replicate_succ').symm]
              exact S.next (q - 1) (⟨k + 1, us2, by omega, by omega, by omega, rfl, rfl⟩) (by omega) (by repeat (first | exact trivial | refine ⟨rfl, ?_⟩)) Sub.ent
            · have hkN : k = N := by omega
              rw [hkN, ← upC_mx0 R hN16]
              have hri : RiOk (mx0 R N) cs us rs := ⟨mx0_ok hR1 hR8 hN1 hN16, by rw [hcn, hiR]; rfl, by rw [hun, hkN]; rfl, by
                refine List.ext_getElem (by simp [hrl, hiR]; rfl) fun r h1 h2 => ?_
                simp only [List.getElem_map, List.getElem_range, rowN_mx0]
                exact (hall _ (List.getElem_mem _)).2, fun p hp => (hall p hp).1⟩
              refine S.exit ?_
              with_reducible repeat (first | refine S.then_n ?_ | refine S.then_x ?_ | refine S.then_r ?_ | refine S.inBlock_n ?_ | refine S.inBlock_r ?_ | refine S.inBlock_x rfl ?_ | refine S.noGoto_r ?_ | refine S.noGoto_n ?_ | refine S.noGoto_x ?_)
              with_reducible refine S.inBlock_s ?_
              with_reducible repeat (first | refine S.then_n ?_ | refine S.then_x ?_ | refine S.then_r ?_ | refine S.inBlock_n ?_ | refine S.inBlock_r ?_ | refine S.inBlock_x rfl ?_ | refine S.noGoto_r ?_ | refine S.noGoto_n ?_ | refine S.noGoto_x ?_)
              refine hK10 _ _ ?_
              refine S.seq fun K15 hK15 => ?_
              refine S.region rfl ?_
              refine S.op (S.q (q_move rfl) rfl rfl ?_)
              refine S.op (S.q (q_assign rfl) rfl rfl ?_)
              refine S.op (S.q (q_assign rfl) rfl rfl ?_)
              first | with_reducible refine S.nilK ?_ | refine S.nil ?_
              refine hK15 _ _ ?_
              refine S.ret ?_
              with_reducible repeat (first | refine S.then_n ?_ | refine S.then_x ?_ | refine S.then_r ?_ | refine S.inBlock_n ?_ | refine S.inBlock_r ?_ | refine S.inBlock_x rfl ?_ | refine S.noGoto_r ?_ | refine S.noGoto_n ?_ | refine S.noGoto_x ?_)
              refine S.riClose b22 (mx0 R N) cs us rs hri ?_
              exact S.fin (rs := [_, _]) (vs := [_, _]) Tryd.results24 (⟨rfl, rfl, trivial⟩)  (⟨b22, rfl, rfl⟩) Sub.ent
end Go.Proofs.YtegjmmocnffpiaaDoor
/- The document's matrix: Of. -/
namespace Go.Proofs.YtegjmmocnffpiaaDoor
open Go.RowKit
set_option maxRecDepth 20000
/-- The nodes below i of a row at which a job stands. -/
def ndsAt (m : Mx) (j r : Nat) : Nat → List Nat
  | 0 => []
  | i + 1 => if atJ m.js r i = j then ndsAt m j r i ++ [i] else ndsAt m j r i
theorem mem_ndsAt {m : Mx} {j r k : Nat} : ∀ {i : Nat}, k ∈ ndsAt m j r i ↔ k < i ∧ atJ m.js r k = j
  | 0 => by simp [ndsAt]
  | i + 1 => by
    rw [ndsAt]
    split
    · rename_i h
      rw [List.mem_append, mem_ndsAt, List.mem_singleton]
      constructor
      · rintro (⟨h1, h2⟩ | rfl)
        · exact ⟨by omega, h2⟩
        · exact ⟨by omega, h⟩
      · rintro ⟨h1, h2⟩
        by_cases e : k = i
        · exact .inr e
        · exact .inl ⟨by omega, h2⟩
    · rename_i h
      rw [mem_ndsAt]
      constructor
      · rintro ⟨h1, h2⟩; exact ⟨by omega, h2⟩
      · rintro ⟨h1, h2⟩
        by_cases e : k = i
        · subst e; exact absurd h2 h
        · exact ⟨by omega, h2⟩
theorem ndsAt_rise (m : Mx) (j r : Nat) : ∀ i, (ndsAt m j r i).Pairwise (· < ·)
  | 0 => List.Pairwise.nil
  | i + 1 => by
    rw [ndsAt]
    split
    · refine List.pairwise_append.2 ⟨ndsAt_rise m j r i, List.pairwise_singleton _ _, fun a ha b hb => ?_⟩
      rw [List.mem_singleton] at hb
      have := (mem_ndsAt.1 ha).1
      omega
    · exact ndsAt_rise m j r i
theorem ndsAt_len (m : Mx) (j r : Nat) : ∀ i, (ndsAt m j r i).length ≤ i
  | 0 => Nat.le_refl _
  | i + 1 => by
    have := ndsAt_len m j r i
    rw [ndsAt]
    split
    · rw [List.length_append, List.length_singleton]; omega
    · omega
theorem atJ_iff {m : Mx} (hm : MxOk m) {j r i : Nat} (hj : j ≠ 0) : atJ m.js r i = j ↔ ∃ x ∈ m.js, x.row = r ∧ x.ns.getLsbD i = true ∧ x.id = j := by
  constructor
  · intro h
    refine Classical.byContradiction fun hn => hj ?_
    rw [← h]
    refine atJ_none fun x hx e => ?_
    cases hb : x.ns.getLsbD i with
    | false => rfl
    | true => exact absurd ⟨x, hx, e, hb, (atJ_some hm hx e hb).symm.trans h⟩ hn
  · rintro ⟨x, h1, h2, h3, h4⟩
    rw [← h4]
    exact atJ_some hm h1 h2 h3
theorem ndsAt_some {m : Mx} (hm : MxOk m) {j : Nat} {x : Jb} (h : look m.js j = some x) : ndsAt m j x.row m.N = lst x.ns := by
  obtain ⟨h1, h2⟩ := look_some h
  have hj : j ≠ 0 := by have := hm.id1 x h1; omega
  refine rise_ext (ndsAt_rise _ _ _ _) (lst_rise _) fun k => ?_
  rw [mem_ndsAt, atJ_iff hm hj, mem_lst]
  constructor
  · rintro ⟨_, y, y1, _, y3, y4⟩
    rw [← id_inj hm.srt y1 h1 (y4.trans h2.symm)]
    exact y3
  · intro hk
    exact ⟨hm.ns x h1 k hk, x, h1, rfl, hk, h2⟩
theorem ndsAt_none {m : Mx} (hm : MxOk m) {j r : Nat} (hj : j ≠ 0) (h : ∀ x, look m.js j = some x → x.row ≠ r) : ndsAt m j r m.N = [] := by
  refine List.eq_nil_iff_forall_not_mem.2 fun k hk => ?_
  rw [mem_ndsAt, atJ_iff hm hj] at hk
  obtain ⟨_, x, h1, h2, _, h4⟩ := hk
  exact h x (by rw [← h4]; exact look_mem hm.srt h1) h2
theorem idsV_get {l : List Nat} {i x : Nat} (h : l[i]? = some x) : (idsV l)[i]? = some (.int .u32 (x : Int)) := by
  show (l.map _)[i]? = _
  rw [List.getElem?_map, h]
  rfl
abbrev riX (b : Nat) (m : Mx) (cs us : SV) (rs : List Rr) (Γ : List Assn) : List Assn := blk b 55 #[cs.v, us.v] :: own cs 31 1 (rs.map rrV) :: own us 4 1 (upC m) :: alls rs rrB :: Γ
/-- A contract over the document's matrix, laid open. -/
theorem Spec.riX {b : Nat} {m : Mx} {P : Program} {f : FuncId} {args : List Value} {pre : List Assn} {post : List Assn → Value → List Assn → Prop} {md : Bool} (h : ∀ cs us rs, RiOk m cs us rs → Spec P f args (riX b m cs us rs pre) post md) : Spec P f args (RI b m :: pre) post md := by
  intro Γ w hs
  obtain ⟨h0, l0, h1, h2, d, l1, l2, ⟨cs, us, rs, q1, q4⟩, s⟩ := hs
  exact h cs us rs q1 Γ w ⟨h0, l0, (Ent.unpack [blk b 55 #[cs.v, us.v], own cs 31 1 (rs.map rrV), own us 4 1 (upC m), alls rs rrB] (pre ++ Γ)) _ ⟨h1, h2, d, l1, l2, q4, s⟩⟩
theorem rOfX_S (b : Nat) (m : Mx) (j : Nat) (cs us : SV) (rs : List Rr) (hri : RiOk m cs us rs) : Spec Tryd.prog 46 [.pointer (some ⟨b, 0, none⟩), .int .u32 (j : Int)] (riX b m cs us rs []) fun Γ v Θ => ∃ sv : SV, v = .tuple #[.int .i64 (ofR m j).1, sv.v, .bool (ofR m j).2.2] ∧ sv.n = (ofR m j).2.1.length ∧
    Θ = own sv 3 1 (nds (ofR m j).2.1) :: riX b m cs us rs Γ := by
  have hm := hri.ok
  refine Spec.of_body Tryd.func46 rfl Tryd.ntmps46 rfl ?_
  intro w0 Γ
  show S _ w0 [(0, .pointer (some ⟨b, 0, none⟩)), (1, .int .u32 (j : Int))] (riX b m cs us rs Γ) _
  have hR8 := hm.R8
  have hN16 := hm.N16
  have hN1 := hm.N1
  have hR1 := hm.R1
  refine S.seq fun K1 hK1 => ?_
  refine S.region rfl ?_
  refine S.op (S.q (q_assign rfl) rfl rfl ?_)
  refine S.op (S.q (q_assign rfl) rfl rfl ?_)
  refine S.op (S.q (q_assign rfl) rfl rfl ?_)
  first | with_reducible refine S.nilK ?_ | refine S.nil ?_
  refine hK1 _ _ ?_
  refine S.seq fun K2 hK2 => ?_
  refine S.seq fun K3 hK3 => ?_
  refine S.regionG ?_
  refine S.g_op rfl (S.q (q_move rfl) rfl rfl ?_)
  refine S.g_op rfl (S.q (q_eqN Tryd.underlying26 rfl rfl) rfl rfl ?_)
  refine S.g_op rfl (S.q (q_move rfl) rfl rfl ?_)
  refine S.g_yes rfl rfl rfl (rfl) (S.q (q_move rfl) rfl rfl ?_)
  refine S.g_yes rfl rfl rfl (rfl) (S.q (q_eq rfl rfl) rfl rfl ?_)
  refine S.g_op rfl (S.q (q_pickF rfl (rfl) rfl) rfl rfl ?_)
  first | with_reducible refine S.g_nilK ?_ | refine S.g_nil ?_
  refine hK3 _ _ ?_
  refine S.condD rfl (fun h1 => ?_) (fun h1 => ?_)
  · have hn : look m.js j = none := by
      cases h : look m.js j with
      | none => rfl
      | some x => obtain ⟨q1, q2⟩ := look_some h; have := hm.id1 x q1; omega
    refine S.seq fun K4 hK4 => ?_
    refine S.region rfl ?_
    refine S.op (S.q (q_assign rfl) rfl rfl ?_)
    refine S.op (S.q (q_assign rfl) rfl rfl ?_)
    refine S.op (S.q (q_assign rfl) rfl rfl ?_)
    first | with_reducible refine S.nilK ?_ | refine S.nil ?_
    refine hK4 _ _ ?_
    refine S.ret ?_
    with_reducible repeat (first | refine S.then_n ?_ | refine S.then_x ?_ | refine S.then_r ?_ | refine S.inBlock_n ?_ | refine S.inBlock_r ?_ | refine S.inBlock_x rfl ?_ | refine S.noGoto_r ?_ | refine S.noGoto_n ?_ | refine S.noGoto_x ?_)
    refine S.ent (Ent.ownNil 3 1) ?_
    show S _ w0 _ (own SV.nil 3 1 (nds []) :: riX b m cs us rs Γ) _
    exact S.fin (rs := [_, _, _]) (vs := [_, _, _]) Tryd.results46 (⟨rfl, rfl, rfl, trivial⟩)  (⟨SV.nil, by rw [ofR_none hn]; rfl, by rw [ofR_none hn]; rfl, by rw [ofR_none hn]⟩) Sub.ent
  · have hj0 : j ≠ 0 := by omega
    have hcn := hri.cn
    have hrl := hri.rlen
    refine S.ownSome cs (by omega) fun cb co hca _ _ _ => ?_
    refine S.skip ?_
    with_reducible repeat (first | refine S.then_n ?_ | refine S.then_x ?_ | refine S.then_r ?_ | refine S.inBlock_n ?_ | refine S.inBlock_r ?_ | refine S.inBlock_x rfl ?_ | refine S.noGoto_r ?_ | refine S.noGoto_n ?_ | refine S.noGoto_x ?_)
    refine hK2 _ _ ?_
    refine S.seq fun K5 hK5 => ?_
    refine S.seq fun K6 hK6 => ?_
    refine S.region rfl ?_
    refine S.op (S.q (q_move rfl) rfl rfl ?_)
    refine S.op (S.q (q_nilCheck rfl) rfl rfl ?_)
    refine S.op (S.q (q_field Tryd.fo55_0 rfl) rfl rfl ?_)
    refine S.op (S.q (q_load Tryd.at52 rfl rfl) rfl rfl ?_)
    refine S.op (S.q (q_len Tryd.underlying52 rfl) rfl rfl ?_)
    refine S.op (S.q (q_move rfl) rfl rfl ?_)
    first | with_reducible refine S.nilK ?_ | refine S.nil ?_
    refine hK6 _ _ ?_
    refine S.block ?_
    refine S.loop (fun q ρ' Γ' => ∃ o : Nat, q = m.R - o ∧ o ≤ m.R ∧ (∀ x, look m.js j = some x → o ≤ x.row) ∧ ρ' = [(1, .int .u32 (j : Int)), (21, cs.v), (22, .int .i64 cs.n), (23, .int .i64 (o : Int))] ∧ Γ' = blk b 55 #[cs.v, us.v] :: own cs 31 1 (rs.map rrV) :: own us 4 1 (upC m) :: alls rs rrB :: Γ) (m := _) (ρ0 := _) (Γ0 := _) (⟨0, rfl, by omega, fun _ _ => Nat.zero_le _, rfl, rfl⟩) (by repeat (first | exact trivial | refine ⟨rfl, ?_⟩)) Sub.ent ?_
    rintro q ρ' Γ' ⟨o, hq, ho, hno, rfl, rfl⟩
    refine S.seq fun K7 hK7 => ?_
    refine S.region rfl ?_
    refine S.op (S.q (q_lt rfl rfl) rfl rfl ?_)
    first | with_reducible refine S.nilK ?_ | refine S.nil ?_
    refine hK7 _ _ ?_
    refine S.seq fun K8 hK8 => ?_
    refine S.condD rfl (fun h2 => ?_) (fun h2 => ?_)
    · obtain ⟨p, hp, hpd, hpn⟩ := hri.at_ (show o < m.R by omega)
      have hRp : RdS (alls rs rrB) p.1 p.1.n 1 (idsV p.2) := RdS.alls hp RdS.own
      refine S.rSome hRp (by omega) fun pb po hpa => ?_
      refine S.skip ?_
      with_reducible repeat (first | refine S.then_n ?_ | refine S.then_x ?_ | refine S.then_r ?_ | refine S.inBlock_n ?_ | refine S.inBlock_r ?_ | refine S.inBlock_x rfl ?_ | refine S.noGoto_r ?_ | refine S.noGoto_n ?_ | refine S.noGoto_x ?_)
      refine hK8 _ _ ?_
      refine S.seq fun K9 hK9 => ?_
      refine S.block ?_
      refine S.seq fun K10 hK10 => ?_
      refine S.region rfl ?_
      refine S.op (S.q (q_move rfl) rfl rfl ?_)
      refine S.op (S.q (q_indexO (o) Tryd.el52 rfl hca rfl rfl (by omega)) rfl rfl ?_)
      refine S.op (S.q (q_loadOw (cs) (o) Tryd.at31 rfl hca (by first | rfl | exact Nat.add_assoc _ _ _ | omega) (by rw [List.getElem?_map, hp]; rfl)) rfl rfl ?_)
      refine S.op (S.q (q_assign rfl) rfl rfl ?_)
      refine S.op (S.q (q_assign rfl) rfl rfl ?_)
      first | with_reducible refine S.nilK ?_ | refine S.nil ?_
      refine hK10 _ _ ?_
      refine S.seq fun K11 hK11 => ?_
      refine S.region rfl ?_
      refine S.ent (Ent.ownNil 3 1) ?_
      show S _ w0 _ (own SV.nil 3 1 (nds (ndsAt m j o 0)) :: _) _
      refine S.op (S.q (q_assign rfl) rfl rfl ?_)
      first | with_reducible refine S.nilK ?_ | refine S.nil ?_
      refine hK11 _ _ ?_
      refine S.seq fun K12 hK12 => ?_
      refine S.seq fun K13 hK13 => ?_
      refine S.region rfl ?_
      refine S.op (S.q (q_move rfl) rfl rfl ?_)
      refine S.op (S.q (q_len Tryd.underlying31 rfl) rfl rfl ?_)
      refine S.op (S.q (q_move rfl) rfl rfl ?_)
      first | with_reducible refine S.nilK ?_ | refine S.nil ?_
      refine hK13 _ _ ?_
      refine S.block ?_
      refine S.loop (fun q2 ρ' Γ' => ∃ (k : Nat) (sv : SV) (nl : List Nat), q2 = m.N - k ∧ k ≤ m.N ∧ nl = ndsAt m j o k ∧ sv.n = nl.length ∧ ρ' = [(1, .int .u32 (j : Int)), (7, .int .i64 (o : Int)), (9, sv.v), (21, cs.v), (22, .int .i64 cs.n), (23, .int .i64 (o : Int)), (28, p.1.v), (29, .int .i64 p.1.n), (30, .int .i64 (k : Int))] ∧   Γ' = own sv 3 1 (nds nl) :: blk b 55 #[cs.v, us.v] :: own cs 31 1 (rs.map rrV) :: own us 4 1 (upC m) :: alls rs rrB :: Γ) (m := _) (ρ0 := _) (Γ0 := _) (⟨0, SV.nil, ndsAt m j o 0, rfl, by omega, rfl, rfl, rfl, rfl⟩) (by repeat (first | exact trivial | refine ⟨rfl, ?_⟩)) Sub.ent ?_
      rintro q2 ρ' Γ' ⟨k, sv, nl, hq2, hk, hnl, hsv, rfl, rfl⟩
      have hlen := ndsAt_len m j o k
      rw [← hnl] at hlen
      refine S.seq fun K14 hK14 => ?_
      refine S.region rfl ?_
      refine S.op (S.q (q_lt rfl rfl) rfl rfl ?_)
      first | with_reducible refine S.nilK ?_ | refine S.nil ?_
      refine hK14 _ _ ?_
      refine S.seq fun K15 hK15 => ?_
      refine S.condD rfl (fun h3 => ?_) (fun h3 => ?_)
      · have hxa := rowN_get (m := m) (i := k) (by omega) o
        rw [← hpd] at hxa
        refine S.skip ?_
        with_reducible repeat (first | refine S.then_n ?_ | refine S.then_x ?_ | refine S.then_r ?_ | refine S.inBlock_n ?_ | refine S.inBlock_r ?_ | refine S.inBlock_x rfl ?_ | refine S.noGoto_r ?_ | refine S.noGoto_n ?_ | refine S.noGoto_x ?_)
        refine hK15 _ _ ?_
        refine S.seq fun K16 hK16 => ?_
        refine S.block ?_
        refine S.seq fun K17 hK17 => ?_
        refine S.region rfl ?_
        refine S.op (S.q (q_move rfl) rfl rfl ?_)
        refine S.op (S.q (q_indexO (k) Tryd.el31 rfl hpa rfl rfl (by omega)) rfl rfl ?_)
        refine S.op (S.q (q_loadR hRp k Tryd.at68 rfl hpa (by omega) (by omega) (idsV_get hxa)) rfl rfl ?_)
        refine S.op (S.q (q_assign rfl) rfl rfl ?_)
        refine S.op (S.q (q_assign rfl) rfl rfl ?_)
        first | with_reducible refine S.nilK ?_ | refine S.nil ?_
        refine hK17 _ _ ?_
        refine S.seq fun K18 hK18 => ?_
        refine S.region rfl ?_
        refine S.op (S.q (q_move rfl) rfl rfl ?_)
        refine S.op (S.q (q_move rfl) rfl rfl ?_)
        refine S.op (S.q (q_eq rfl rfl) rfl rfl ?_)
        first | with_reducible refine S.nilK ?_ | refine S.nil ?_
        refine hK18 _ _ ?_
        refine S.condD rfl (fun h4 => ?_) (fun h4 => ?_)
        · have hs4 : nl ++ [k] = ndsAt m j o (k + 1) := by rw [ndsAt, if_pos (by omega), hnl]
          have hl4 : (nl ++ [k]).length = nl.length + 1 := by simp
          have hd4 : nds nl ++ [.int .i64 (k : Int)] = nds (nl ++ [k]) := by simp
          refine S.region rfl ?_
          refine S.op (S.q (q_move rfl) rfl rfl ?_)
          refine S.op (S.q (q_move rfl) rfl rfl ?_)
          refine S.op (S.buildSlice (pvs := [(_, _)]) [_] Tryd.underlying69 Tryd.inf3 rfl rfl ⟨⟨rfl, rfl⟩, trivial⟩ rfl rfl ?_)
          intro b40
          refine S.op (S.appendOw (s := sv) (1) ([.int .i64 (k : Int)]) Tryd.underlying69 Tryd.inf3 rfl rfl rfl (blk_slAt (b := b40) rfl (by unfold maxLen; omega)) (by first | rfl | exact allOne_bcells _) (⟨by omega, by omega⟩) rfl ?_)
          intro sv2 hsv2
          refine S.op (S.q (q_assign rfl) rfl rfl ?_)
          first | with_reducible refine S.nilK ?_ | refine S.nil ?_
          with_reducible repeat (first | refine S.then_n ?_ | refine S.then_x ?_ | refine S.then_r ?_ | refine S.inBlock_n ?_ | refine S.inBlock_r ?_ | refine S.inBlock_x rfl ?_ | refine S.noGoto_r ?_ | refine S.noGoto_n ?_ | refine S.noGoto_x ?_)
          refine hK16 _ _ ?_
          refine S.region rfl ?_
          refine S.op (S.q (q_add rfl rfl (inI64 (by omega) (by omega))) rfl rfl ?_)
          refine S.op (S.q (q_move rfl) rfl rfl ?_)
          first | with_reducible refine S.nilK ?_ | refine S.nil ?_
          with_reducible repeat (first | refine S.then_n ?_ | refine S.then_x ?_ | refine S.then_r ?_ | refine S.inBlock_n ?_ | refine S.inBlock_r ?_ | refine S.inBlock_x rfl ?_ | refine S.noGoto_r ?_ | refine S.noGoto_n ?_ | refine S.noGoto_x ?_)
          first | (rw [hd4]; exact S.next (q2 - 1) ⟨k + 1, sv2, nl ++ [k], by omega, by omega, hs4, by omega, rfl, rfl⟩ (by omega) (by repeat (first | exact trivial | refine ⟨rfl, ?_⟩)) Sub.ent) | exact S.next (q2 - 1) ⟨k + 1, sv, nl, by omega, by omega, hs4, hsv, rfl, rfl⟩ (by omega) (by repeat (first | exact trivial | refine ⟨rfl, ?_⟩)) Sub.ent
        · have hs4 : nl = ndsAt m j o (k + 1) := by rw [ndsAt, if_neg (by omega), hnl]
          refine S.skip ?_
          with_reducible repeat (first | refine S.then_n ?_ | refine S.then_x ?_ | refine S.then_r ?_ | refine S.inBlock_n ?_ | refine S.inBlock_r ?_ | refine S.inBlock_x rfl ?_ | refine S.noGoto_r ?_ | refine S.noGoto_n ?_ | refine S.noGoto_x ?_)
          with_reducible repeat (first | refine S.then_n ?_ | refine S.then_x ?_ | refine S.then_r ?_ | refine S.inBlock_n ?_ | refine S.inBlock_r ?_ | refine S.inBlock_x rfl ?_ | refine S.noGoto_r ?_ | refine S.noGoto_n ?_ | refine S.noGoto_x ?_)
          refine hK16 _ _ ?_
          refine S.region rfl ?_
          refine S.op (S.q (q_add rfl rfl (inI64 (by omega) (by omega))) rfl rfl ?_)
          refine S.op (S.q (q_move rfl) rfl rfl ?_)
          first | with_reducible refine S.nilK ?_ | refine S.nil ?_
          with_reducible repeat (first | refine S.then_n ?_ | refine S.then_x ?_ | refine S.then_r ?_ | refine S.inBlock_n ?_ | refine S.inBlock_r ?_ | refine S.inBlock_x rfl ?_ | refine S.noGoto_r ?_ | refine S.noGoto_n ?_ | refine S.noGoto_x ?_)
          first | (rw [hd4]; exact S.next (q2 - 1) ⟨k + 1, sv2, nl ++ [k], by omega, by omega, hs4, by omega, rfl, rfl⟩ (by omega) (by repeat (first | exact trivial | refine ⟨rfl, ?_⟩)) Sub.ent) | exact S.next (q2 - 1) ⟨k + 1, sv, nl, by omega, by omega, hs4, hsv, rfl, rfl⟩ (by omega) (by repeat (first | exact trivial | refine ⟨rfl, ?_⟩)) Sub.ent
      · have hkN : k = m.N := by omega
        rw [hkN] at hnl
        refine S.exit ?_
        with_reducible repeat (first | refine S.then_n ?_ | refine S.then_x ?_ | refine S.then_r ?_ | refine S.inBlock_n ?_ | refine S.inBlock_r ?_ | refine S.inBlock_x rfl ?_ | refine S.noGoto_r ?_ | refine S.noGoto_n ?_ | refine S.noGoto_x ?_)
        with_reducible refine S.inBlock_s ?_
        with_reducible repeat (first | refine S.then_n ?_ | refine S.then_x ?_ | refine S.then_r ?_ | refine S.inBlock_n ?_ | refine S.inBlock_r ?_ | refine S.inBlock_x rfl ?_ | refine S.noGoto_r ?_ | refine S.noGoto_n ?_ | refine S.noGoto_x ?_)
        refine hK12 _ _ ?_
        refine S.seq fun K19 hK19 => ?_
        refine S.region rfl ?_
        refine S.op (S.q (q_move rfl) rfl rfl ?_)
        refine S.op (S.q (q_len Tryd.underlying69 rfl) rfl rfl ?_)
        refine S.op (S.q (q_gt rfl rfl) rfl rfl ?_)
        first | with_reducible refine S.nilK ?_ | refine S.nil ?_
        refine hK19 _ _ ?_
        refine S.condD rfl (fun h5 => ?_) (fun h5 => ?_)
        · have hx5 : ∃ x, look m.js j = some x ∧ x.row = o := Classical.byContradiction fun hn => by
            rw [ndsAt_none hm hj0 fun x hx e => hn ⟨x, hx, e⟩] at hnl
            rw [hnl] at hsv
            simp at hsv
            omega
          obtain ⟨x, hx, hxo⟩ := hx5
          have hfin : ofR m j = ((o : Int), nl, true) := by rw [ofR_some hx, hxo, hnl, ← hxo, ndsAt_some hm hx]
          refine S.seq fun K20 hK20 => ?_
          refine S.region rfl ?_
          refine S.op (S.q (q_move rfl) rfl rfl ?_)
          refine S.op (S.q (q_move rfl) rfl rfl ?_)
          refine S.op (S.q (q_assign rfl) rfl rfl ?_)
          refine S.op (S.q (q_assign rfl) rfl rfl ?_)
          refine S.op (S.q (q_assign rfl) rfl rfl ?_)
          first | with_reducible refine S.nilK ?_ | refine S.nil ?_
          refine hK20 _ _ ?_
          refine S.ret ?_
          with_reducible repeat (first | refine S.then_n ?_ | refine S.then_x ?_ | refine S.then_r ?_ | refine S.inBlock_n ?_ | refine S.inBlock_r ?_ | refine S.inBlock_x rfl ?_ | refine S.noGoto_r ?_ | refine S.noGoto_n ?_ | refine S.noGoto_x ?_)
          exact S.fin (rs := [_, _, _]) (vs := [_, _, _]) Tryd.results46 (⟨rfl, rfl, rfl, trivial⟩)  (⟨sv, by rw [hfin]; rfl, by rw [hfin]; exact hsv, by rw [hfin]⟩) Sub.ent
        · have hno2 : ∀ x, look m.js j = some x → o + 1 ≤ x.row := fun x hx => by
            have h8 := hno x hx
            by_cases e : x.row = o
            · have h9 := ndsAt_some hm hx
              rw [e, ← hnl] at h9
              have h7 := hm.some x (look_some hx).1
              rw [h9] at hsv
              have : (lst x.ns).length ≠ 0 := fun e2 => h7 (lst_nil.1 (List.length_eq_zero_iff.1 e2))
              omega
            · omega
          refine S.skip ?_
          with_reducible repeat (first | refine S.then_n ?_ | refine S.then_x ?_ | refine S.then_r ?_ | refine S.inBlock_n ?_ | refine S.inBlock_r ?_ | refine S.inBlock_x rfl ?_ | refine S.noGoto_r ?_ | refine S.noGoto_n ?_ | refine S.noGoto_x ?_)
          with_reducible repeat (first | refine S.then_n ?_ | refine S.then_x ?_ | refine S.then_r ?_ | refine S.inBlock_n ?_ | refine S.inBlock_r ?_ | refine S.inBlock_x rfl ?_ | refine S.noGoto_r ?_ | refine S.noGoto_n ?_ | refine S.noGoto_x ?_)
          refine hK9 _ _ ?_
          refine S.region rfl ?_
          refine S.op (S.q (q_add rfl rfl (inI64 (by omega) (by omega))) rfl rfl ?_)
          refine S.op (S.q (q_move rfl) rfl rfl ?_)
          first | with_reducible refine S.nilK ?_ | refine S.nil ?_
          with_reducible repeat (first | refine S.then_n ?_ | refine S.then_x ?_ | refine S.then_r ?_ | refine S.inBlock_n ?_ | refine S.inBlock_r ?_ | refine S.inBlock_x rfl ?_ | refine S.noGoto_r ?_ | refine S.noGoto_n ?_ | refine S.noGoto_x ?_)
          exact S.next (q - 1) (⟨o + 1, by omega, by omega, hno2, rfl, rfl⟩) (by omega) (by repeat (first | exact trivial | refine ⟨rfl, ?_⟩)) Sub.ent
    · have hn : look m.js j = none := by
        cases h : look m.js j with
        | none => rfl
        | some x => have h8 := hno x h; have h9 := hm.row x (look_some h).1; omega
      refine S.exit ?_
      with_reducible repeat (first | refine S.then_n ?_ | refine S.then_x ?_ | refine S.then_r ?_ | refine S.inBlock_n ?_ | refine S.inBlock_r ?_ | refine S.inBlock_x rfl ?_ | refine S.noGoto_r ?_ | refine S.noGoto_n ?_ | refine S.noGoto_x ?_)
      with_reducible refine S.inBlock_s ?_
      with_reducible repeat (first | refine S.then_n ?_ | refine S.then_x ?_ | refine S.then_r ?_ | refine S.inBlock_n ?_ | refine S.inBlock_r ?_ | refine S.inBlock_x rfl ?_ | refine S.noGoto_r ?_ | refine S.noGoto_n ?_ | refine S.noGoto_x ?_)
      refine hK5 _ _ ?_
      refine S.seq fun K21 hK21 => ?_
      refine S.region rfl ?_
      refine S.op (S.q (q_assign rfl) rfl rfl ?_)
      refine S.op (S.q (q_assign rfl) rfl rfl ?_)
      refine S.op (S.q (q_assign rfl) rfl rfl ?_)
      first | with_reducible refine S.nilK ?_ | refine S.nil ?_
      refine hK21 _ _ ?_
      refine S.ret ?_
      with_reducible repeat (first | refine S.then_n ?_ | refine S.then_x ?_ | refine S.then_r ?_ | refine S.inBlock_n ?_ | refine S.inBlock_r ?_ | refine S.inBlock_x rfl ?_ | refine S.noGoto_r ?_ | refine S.noGoto_n ?_ | refine S.noGoto_x ?_)
      refine S.ent (Ent.ownNil 3 1) ?_
      show S _ w0 _ (own SV.nil 3 1 (nds []) :: riX b m cs us rs Γ) _
      exact S.fin (rs := [_, _, _]) (vs := [_, _, _]) Tryd.results46 (⟨rfl, rfl, rfl, trivial⟩)  (⟨SV.nil, by rw [ofR_none hn]; rfl, by rw [ofR_none hn]; rfl, by rw [ofR_none hn]⟩) Sub.ent
theorem rOf_S (b : Nat) (m : Mx) (j : Nat) : Spec Tryd.prog 46 [.pointer (some ⟨b, 0, none⟩), .int .u32 (j : Int)] [RI b m] fun Γ v Θ => ∃ sv : SV, v = .tuple #[.int .i64 (ofR m j).1, sv.v, .bool (ofR m j).2.2] ∧ sv.n = (ofR m j).2.1.length ∧
    Θ = own sv 3 1 (nds (ofR m j).2.1) :: RI b m :: Γ := by
  refine Spec.riX fun cs us rs hri => ?_
  refine (rOfX_S b m j cs us rs hri).weaken fun Γ => ⟨Γ, Ent.refl _, fun v Θ h => ?_⟩
  obtain ⟨sv, h1, h2, rfl⟩ := h
  exact ⟨_, ⟨sv, h1, h2, rfl⟩, (Ent.ri hri Γ).cons _⟩
end Go.Proofs.YtegjmmocnffpiaaDoor
/- The document's matrix: Put, where its row and its nodes are there; a node that is down. -/
namespace Go.Proofs.YtegjmmocnffpiaaDoor
open Go.RowKit
set_option maxRecDepth 20000
def setAll (d : List Nat) (ns : List Nat) (j : Nat) : List Nat := ns.foldl (fun d n => d.set n j) d
theorem setAll_len (j : Nat) : ∀ (ns : List Nat) (d : List Nat), (setAll d ns j).length = d.length
  | [], d => rfl
  | n :: ns, d => by rw [setAll, List.foldl_cons]; exact (setAll_len j ns (d.set n j)).trans (List.length_set ..)
theorem setAll_get (j : Nat) : ∀ (ns : List Nat) (d : List Nat) (i : Nat), i < d.length → (setAll d ns j)[i]? = if i ∈ ns then some j else d[i]?
  | [], d, i, h => rfl
  | n :: ns, d, i, h => by
    rw [setAll, List.foldl_cons]
    have ih := setAll_get j ns (d.set n j) i (by rw [List.length_set]; exact h)
    rw [setAll] at ih
    rw [ih]
    by_cases e : i ∈ ns
    · rw [if_pos e, if_pos (List.mem_cons_of_mem _ e)]
    · rw [if_neg e]
      by_cases e2 : i = n
      · subst e2
        rw [if_pos (List.mem_cons_self ..), List.getElem?_set_self h]
      · rw [if_neg (by simp [e, e2]), List.getElem?_set_ne (fun h => e2 h.symm)]
theorem setAll_snoc (d : List Nat) (ns : List Nat) (n j : Nat) : setAll d (ns ++ [n]) j = (setAll d ns j).set n j := by rw [setAll, List.foldl_append]; rfl
theorem rowN_add {m : Mx} (hm : MxOk m) {x : Jb} (hm' : MxOk (m.add x)) (o : Nat) : rowN (m.add x) o = if o = x.row then setAll (rowN m o) (lst x.ns) x.id else rowN m o := by
  have hat : ∀ i, atJ (m.add x).js o i = if o = x.row ∧ x.ns.getLsbD i = true then x.id else atJ m.js o i := fun i => by
    by_cases h : o = x.row ∧ x.ns.getLsbD i = true
    · rw [if_pos h]
      exact atJ_some hm' (mem_addJ.2 (.inl rfl)) h.1.symm h.2
    · rw [if_neg h]
      by_cases h2 : ∃ y ∈ m.js, y.row = o ∧ y.ns.getLsbD i = true
      · obtain ⟨y, y1, y2, y3⟩ := h2
        rw [atJ_some hm y1 y2 y3]
        exact atJ_some hm' (mem_addJ.2 (.inr y1)) y2 y3
      · have hz : atJ m.js o i = 0 := atJ_none fun y y1 y2 => by cases hb : y.ns.getLsbD i with | false => rfl | true => exact absurd ⟨y, y1, y2, hb⟩ h2
        rw [hz]
        refine atJ_none fun y y1 y2 => ?_
        cases hb : y.ns.getLsbD i with
        | false => rfl
        | true =>
          rcases mem_addJ.1 y1 with e | y1
          · rw [e] at y2 hb; exact absurd ⟨y2.symm, hb⟩ h
          · exact absurd ⟨y, y1, y2, hb⟩ h2
  refine List.ext_getElem? fun i => ?_
  by_cases hi : i < m.N
  · have h1 : (rowN (m.add x) o)[i]? = some (atJ (m.add x).js o i) := rowN_get (m := m.add x) hi o
    rw [h1, hat]
    by_cases e : o = x.row
    · rw [if_pos e, setAll_get _ _ _ _ (by rw [rowN_len]; exact hi), rowN_get hi]
      by_cases e2 : x.ns.getLsbD i = true
      · rw [if_pos ⟨e, e2⟩, if_pos (mem_lst.2 e2)]
      · rw [if_neg (fun h => e2 h.2), if_neg (fun h => e2 (mem_lst.1 h))]
    · rw [if_neg e, if_neg (fun h => e h.1), rowN_get hi]
  · rw [List.getElem?_eq_none (by rw [rowN_len]; show m.N ≤ i; omega)]
    split
    · rw [List.getElem?_eq_none (by rw [setAll_len, rowN_len]; omega)]
    · rw [List.getElem?_eq_none (by rw [rowN_len]; omega)]
/-- Is every one of the first i nodes of a row free? -/
theorem busy_iff {m : Mx} (hm : MxOk m) {r i : Nat} : atJ m.js r i = 0 ↔ (tk m.js r).getLsbD i = false := by
  constructor
  · intro h
    cases hb : (tk m.js r).getLsbD i with
    | false => rfl
    | true =>
      obtain ⟨x, h1, h2, h3⟩ := (tk_bit m.js r i).1 hb
      have := atJ_some hm h1 h2 h3
      have := hm.id1 x h1
      omega
  · intro h
    refine atJ_none fun x hx e => ?_
    cases hb : x.ns.getLsbD i with
    | false => rfl
    | true => rw [(tk_bit m.js r i).2 ⟨x, hx, e, hb⟩] at h; cases h
theorem rPut_S (b : Nat) (m : Mx) (j r : Nat) (R : Assn) (s : SV) (l : List Int) (hsn : s.n = l.length) (hR : RdS R s s.n 1 (ints l)) (hj : j ≤ 4294967295) (hj0 : j ≠ 0) (hr : r < m.R) (hup : okUp m l l.length = true) : Spec Tryd.prog 31 [.pointer (some ⟨b, 0, none⟩), .int .u32 (j : Int), .int .i64 (r : Int), s.v] [RI b m, R] fun Γ v Θ =>
    v = .int .i64 (putR m j r l).1 ∧ Θ = RI b (putR m j r l).2 :: R :: Γ := by
  refine Spec.riOk fun hok => ?_
  refine Spec.of_body Tryd.func31 rfl Tryd.ntmps31 rfl ?_
  intro w0 Γ
  show S _ w0 [(0, .pointer (some ⟨b, 0, none⟩)), (1, .int .u32 (j : Int)), (2, .int .i64 (r : Int)), (3, s.v)] (RI b m :: R :: Γ) _
  refine S.rCap hR fun _ hcap1 hcap2 => ?_
  have hN16 := hok.N16
  have hR8 := hok.R8
  refine S.riOpen b m fun cs us rs hri => ?_
  have hcn := hri.cn
  have hun := hri.un
  have hrl := hri.rlen
  have hpk : putOk m j r l = decide (0 < l.length) := by
    rw [putOk, decide_eq_true (show ((j : Nat) : Int) ≠ 0 by omega), rowB_iff.2 ⟨by omega, by omega⟩, Bool.true_and, Bool.true_and]
    exact decide_eq_decide.2 (by omega)
  refine S.ownSome cs (by omega) fun cb co hca _ _ _ => ?_
  refine S.seq fun K1 hK1 => ?_
  refine S.region rfl ?_
  refine S.op (S.q (q_assign rfl) rfl rfl ?_)
  first | with_reducible refine S.nilK ?_ | refine S.nil ?_
  refine hK1 _ _ ?_
  refine S.seq fun K2 hK2 => ?_
  refine S.seq fun K3 hK3 => ?_
  refine S.region rfl ?_
  refine S.op (S.q (q_move rfl) rfl rfl ?_)
  refine S.op (S.q (q_eqN Tryd.underlying26 rfl rfl) rfl rfl ?_)
  first | with_reducible refine S.nilK ?_ | refine S.nil ?_
  refine hK3 _ _ ?_
  refine S.condF rfl ?_
  refine S.skip ?_
  with_reducible repeat (first | refine S.then_n ?_ | refine S.then_x ?_ | refine S.then_r ?_ | refine S.inBlock_n ?_ | refine S.inBlock_r ?_ | refine S.inBlock_x rfl ?_ | refine S.noGoto_r ?_ | refine S.noGoto_n ?_ | refine S.noGoto_x ?_)
  refine hK2 _ _ ?_
  refine S.seq fun K4 hK4 => ?_
  refine S.seq fun K5 hK5 => ?_
  refine S.regionG ?_
  refine S.g_op rfl (S.q (q_move rfl) rfl rfl ?_)
  refine S.g_op rfl (S.q (q_eq rfl rfl) rfl rfl ?_)
  refine S.g_op rfl (S.q (q_move rfl) rfl rfl ?_)
  refine S.g_yes rfl rfl rfl ((decide_eq_false (by omega))) (S.q (q_move rfl) rfl rfl ?_)
  refine S.g_yes rfl rfl rfl ((decide_eq_false (by omega))) (S.q (q_lt rfl rfl) rfl rfl ?_)
  refine S.g_op rfl (S.q (q_pickF rfl ((decide_eq_false (by omega))) rfl) rfl rfl ?_)
  refine S.g_op rfl (S.q (q_move rfl) rfl rfl ?_)
  refine S.g_yes rfl rfl rfl ((decide_eq_false (by omega))) (S.q (q_move rfl) rfl rfl ?_)
  refine S.g_yes rfl rfl rfl ((decide_eq_false (by omega))) (S.q (q_move rfl) rfl rfl ?_)
  refine S.g_yes rfl rfl rfl ((decide_eq_false (by omega))) (S.q (q_nilCheck rfl) rfl rfl ?_)
  refine S.g_yes rfl rfl rfl ((decide_eq_false (by omega))) (S.q (q_field Tryd.fo55_0 rfl) rfl rfl ?_)
  refine S.g_yes rfl rfl rfl ((decide_eq_false (by omega))) (S.q (q_load Tryd.at52 rfl rfl) rfl rfl ?_)
  refine S.g_yes rfl rfl rfl ((decide_eq_false (by omega))) (S.q (q_len Tryd.underlying52 rfl) rfl rfl ?_)
  refine S.g_yes rfl rfl rfl ((decide_eq_false (by omega))) (S.q (q_ge rfl rfl) rfl rfl ?_)
  refine S.g_op rfl (S.q (q_pickF rfl ((decide_eq_false (by omega))) rfl) rfl rfl ?_)
  refine S.g_op rfl (S.q (q_move rfl) rfl rfl ?_)
  refine S.g_yes rfl rfl rfl ((decide_eq_false (by omega))) (S.q (q_move rfl) rfl rfl ?_)
  refine S.g_yes rfl rfl rfl ((decide_eq_false (by omega))) (S.q (q_len Tryd.underlying69 rfl) rfl rfl ?_)
  refine S.g_yes rfl rfl rfl ((decide_eq_false (by omega))) (S.q (q_eq rfl rfl) rfl rfl ?_)
  refine S.g_op rfl (S.q (q_pickF rfl ((decide_eq_false (by omega))) rfl) rfl rfl ?_)
  first | with_reducible refine S.g_nilK ?_ | refine S.g_nil ?_
  refine hK5 _ _ ?_
  refine S.condD rfl (fun h2 => ?_) (fun h2 => ?_)
  · have hp : putR m j r l = (1, m) := by rw [putR, hpk, decide_eq_false (by omega)]; rfl
    refine S.riClose b m cs us rs hri ?_
    refine S.seq fun K6 hK6 => ?_
    refine S.region rfl ?_
    refine S.op (S.q (q_assign rfl) rfl rfl ?_)
    first | with_reducible refine S.nilK ?_ | refine S.nil ?_
    refine hK6 _ _ ?_
    refine S.ret ?_
    with_reducible repeat (first | refine S.then_n ?_ | refine S.then_x ?_ | refine S.then_r ?_ | refine S.inBlock_n ?_ | refine S.inBlock_r ?_ | refine S.inBlock_x rfl ?_ | refine S.noGoto_r ?_ | refine S.noGoto_n ?_ | refine S.noGoto_x ?_)
    exact S.fin (rs := [_]) (vs := [_]) Tryd.results31 (⟨rfl, trivial⟩)  (⟨by rw [hp]; rfl, by rw [hp]⟩) Sub.ent
  · have hpos : 0 < l.length := by omega
    obtain ⟨p1, p2, p3⟩ := put_ok hok hpos hup
    have hpn : putR m j r l = if (look m.js j).isSome then (7, m) else if tk m.js r &&& ofL (nats l) ≠ 0#16 then (15, m) else (0, m.add ⟨j, r, ofL (nats l)⟩) := by
      rw [putR, hpk, hup, decide_eq_true hpos, if_neg (by decide), Int.toNat_natCast]
    refine S.skip ?_
    with_reducible repeat (first | refine S.then_n ?_ | refine S.then_x ?_ | refine S.then_r ?_ | refine S.inBlock_n ?_ | refine S.inBlock_r ?_ | refine S.inBlock_x rfl ?_ | refine S.noGoto_r ?_ | refine S.noGoto_n ?_ | refine S.noGoto_x ?_)
    refine hK4 _ _ ?_
    refine S.seq fun K7 hK7 => ?_
    refine S.seq fun K8 hK8 => ?_
    refine S.region rfl ?_
    refine S.op (S.q (q_move rfl) rfl rfl ?_)
    refine S.op (S.q (q_len Tryd.underlying69 rfl) rfl rfl ?_)
    refine S.op (S.q (q_move rfl) rfl rfl ?_)
    first | with_reducible refine S.nilK ?_ | refine S.nil ?_
    refine hK8 _ _ ?_
    refine S.block ?_
    refine S.loop (fun q ρ' Γ' => ∃ i : Nat, q = l.length - i ∧ i ≤ l.length ∧ ρ' = [(0, .pointer (some ⟨b, 0, none⟩)), (1, .int .u32 (j : Int)), (2, .int .i64 (r : Int)), (3, s.v), (40, s.v), (41, .int .i64 s.n), (42, .int .i64 (i : Int))] ∧   Γ' = blk b 55 #[cs.v, us.v] :: own cs 31 1 (rs.map rrV) :: own us 4 1 (upC m) :: alls rs rrB :: R :: Γ) (m := _) (ρ0 := _) (Γ0 := _) (⟨0, rfl, by omega, rfl, rfl⟩) (by repeat (first | exact trivial | refine ⟨rfl, ?_⟩)) Sub.ent ?_
    rintro q ρ' Γ' ⟨i, hq, hi, rfl, rfl⟩
    refine S.seq fun K9 hK9 => ?_
    refine S.region rfl ?_
    refine S.op (S.q (q_lt rfl rfl) rfl rfl ?_)
    first | with_reducible refine S.nilK ?_ | refine S.nil ?_
    refine hK9 _ _ ?_
    refine S.seq fun K10 hK10 => ?_
    refine S.condD rfl (fun h3 => ?_) (fun h3 => ?_)
    · refine S.rSome hR (by omega) fun sb so hsa => ?_
      obtain ⟨x, hx⟩ := getE (show i < l.length by omega)
      have hxd : l.getD i 0 = x := by simp [List.getD, hx]
      obtain ⟨u1, u2⟩ := okUp_at hup (show i < l.length by omega)
      rw [hxd] at u1 u2
      have u3 := nodeB_iff.1 u1
      refine S.skip ?_
      with_reducible repeat (first | refine S.then_n ?_ | refine S.then_x ?_ | refine S.then_r ?_ | refine S.inBlock_n ?_ | refine S.inBlock_r ?_ | refine S.inBlock_x rfl ?_ | refine S.noGoto_r ?_ | refine S.noGoto_n ?_ | refine S.noGoto_x ?_)
      refine hK10 _ _ ?_
      refine S.seq fun K11 hK11 => ?_
      refine S.block ?_
      refine S.seq fun K12 hK12 => ?_
      refine S.region rfl ?_
      refine S.op (S.q (q_move rfl) rfl rfl ?_)
      refine S.op (S.q (q_indexO (i) Tryd.el69 rfl hsa rfl rfl (by omega)) rfl rfl ?_)
      refine S.op (S.q (q_loadR hR i Tryd.at3 rfl hsa (by omega) (by omega) (ints_get hx)) rfl rfl ?_)
      refine S.op (S.q (q_assign rfl) rfl rfl ?_)
      refine S.op (S.q (q_assign rfl) rfl rfl ?_)
      first | with_reducible refine S.nilK ?_ | refine S.nil ?_
      refine hK12 _ _ ?_
      refine S.seq fun K13 hK13 => ?_
      refine S.cut (fun ρ' Γ' => ρ' = [(0, .pointer (some ⟨b, 0, none⟩)), (1, .int .u32 (j : Int)), (2, .int .i64 (r : Int)), (3, s.v), (40, s.v), (41, .int .i64 s.n), (42, .int .i64 (i : Int)), (70, .bool false)] ∧   Γ' = blk b 55 #[cs.v, us.v] :: own cs 31 1 (rs.map rrV) :: own us 4 1 (upC m) :: alls rs rrB :: R :: Γ) ?_ ?_
      · refine S.regionG ?_
        refine S.g_op rfl (S.q (q_move rfl) rfl rfl ?_)
        refine S.g_op rfl (S.q (q_lt rfl rfl) rfl rfl ?_)
        refine S.g_op rfl (S.q (q_move rfl) rfl rfl ?_)
        refine S.g_yes rfl rfl rfl ((decide_eq_false (by omega))) (S.q (q_move rfl) rfl rfl ?_)
        refine S.g_yes rfl rfl rfl ((decide_eq_false (by omega))) (S.q (q_move rfl) rfl rfl ?_)
        refine S.g_yes rfl rfl rfl ((decide_eq_false (by omega))) (S.q (q_nilCheck rfl) rfl rfl ?_)
        refine S.g_yes rfl rfl rfl ((decide_eq_false (by omega))) (S.q (q_field Tryd.fo55_1 rfl) rfl rfl ?_)
        refine S.g_yes rfl rfl rfl ((decide_eq_false (by omega))) (S.q (q_load Tryd.at53 rfl rfl) rfl rfl ?_)
        refine S.g_yes rfl rfl rfl ((decide_eq_false (by omega))) (S.q (q_len Tryd.underlying53 rfl) rfl rfl ?_)
        refine S.g_yes rfl rfl rfl ((decide_eq_false (by omega))) (S.q (q_ge rfl rfl) rfl rfl ?_)
        refine S.g_op rfl (S.q (q_pickF rfl ((decide_eq_false (by omega))) rfl) rfl rfl ?_)
        refine S.g_op rfl (S.q (q_move rfl) rfl rfl ?_)
        refine S.g_yes rfl rfl rfl ((decide_eq_false (by omega))) (S.q (q_move rfl) rfl rfl ?_)
        refine S.g_yes rfl rfl rfl ((decide_eq_false (by omega))) (S.q (q_gt rfl rfl) rfl rfl ?_)
        refine S.g_yes rfl rfl rfl ((decide_eq_false (by omega))) (S.q (q_move rfl) rfl rfl ?_)
        by_cases hg8_14 : 0 < (i : Int)
        · obtain ⟨y, hy⟩ := getE (show i - 1 < l.length by omega)
          have hyd : l.getD (i - 1) 0 = y := by simp [List.getD, hy]
          rw [hyd] at u2
          refine S.g_yes rfl rfl rfl (decide_eq_true hg8_14) (S.q (q_move rfl) rfl rfl ?_)
          refine S.g_yes rfl rfl rfl (decide_eq_true hg8_14) (S.q (q_move rfl) rfl rfl ?_)
          refine S.g_yes rfl rfl rfl (decide_eq_true hg8_14) (S.q (q_move rfl) rfl rfl ?_)
          refine S.g_yes rfl rfl rfl (decide_eq_true hg8_14) (S.q (q_sub rfl rfl (inI64 (by omega) (by omega))) rfl rfl ?_)
          refine S.g_yes rfl rfl rfl (decide_eq_true hg8_14) (S.q (q_indexO (i - 1) Tryd.el69 rfl hsa rfl (by omega) (by omega)) rfl rfl ?_)
          refine S.g_yes rfl rfl rfl (decide_eq_true hg8_14) (S.q (q_loadR hR (i - 1) Tryd.at3 rfl hsa (by omega) (by omega) (ints_get hy)) rfl rfl ?_)
          refine S.g_yes rfl rfl rfl (decide_eq_true hg8_14) (S.q (q_le rfl rfl) rfl rfl ?_)
          refine S.g_yes rfl rfl rfl ((decide_eq_false (by omega))) (S.q (q_pickT rfl (decide_eq_true hg8_14) rfl) rfl rfl ?_)
          refine S.g_op rfl (S.q (q_pickF rfl ((decide_eq_false (by omega))) rfl) rfl rfl ?_)
          first | with_reducible refine S.g_nilK ?_ | refine S.g_nil ?_
          with_reducible repeat (first | refine S.then_n ?_ | refine S.then_x ?_ | refine S.then_r ?_ | refine S.inBlock_n ?_ | refine S.inBlock_r ?_ | refine S.inBlock_x rfl ?_ | refine S.noGoto_r ?_ | refine S.noGoto_n ?_ | refine S.noGoto_x ?_)
          first | (have e : decide (x ≤ y) = false := decide_eq_false (by have := u2 (by omega); omega) ; rw [e] ; exact S.meet ⟨rfl, rfl⟩ ⟨rfl, rfl, rfl, rfl, rfl, rfl, rfl, rfl, trivial⟩ Sub.ent) | exact S.meet ⟨rfl, rfl⟩ ⟨rfl, rfl, rfl, rfl, rfl, rfl, rfl, rfl, trivial⟩ Sub.ent
        · refine S.g_no rfl rfl rfl (decide_eq_false hg8_14) rfl rfl ?_
          refine S.g_no rfl rfl rfl (decide_eq_false hg8_14) rfl rfl ?_
          refine S.g_no rfl rfl rfl (decide_eq_false hg8_14) rfl rfl ?_
          refine S.g_no rfl rfl rfl (decide_eq_false hg8_14) rfl rfl ?_
          refine S.g_no rfl rfl rfl (decide_eq_false hg8_14) rfl rfl ?_
          refine S.g_no rfl rfl rfl (decide_eq_false hg8_14) rfl rfl ?_
          refine S.g_no rfl rfl rfl (decide_eq_false hg8_14) rfl rfl ?_
          refine S.g_yes rfl rfl rfl ((decide_eq_false (by omega))) (S.q (q_pickF rfl (decide_eq_false hg8_14) rfl) rfl rfl ?_)
          refine S.g_op rfl (S.q (q_pickF rfl ((decide_eq_false (by omega))) rfl) rfl rfl ?_)
          first | with_reducible refine S.g_nilK ?_ | refine S.g_nil ?_
          with_reducible repeat (first | refine S.then_n ?_ | refine S.then_x ?_ | refine S.then_r ?_ | refine S.inBlock_n ?_ | refine S.inBlock_r ?_ | refine S.inBlock_x rfl ?_ | refine S.noGoto_r ?_ | refine S.noGoto_n ?_ | refine S.noGoto_x ?_)
          first | (have e : decide (x ≤ y) = false := decide_eq_false (by have := u2 (by omega); omega) ; rw [e] ; exact S.meet ⟨rfl, rfl⟩ ⟨rfl, rfl, rfl, rfl, rfl, rfl, rfl, rfl, trivial⟩ Sub.ent) | exact S.meet ⟨rfl, rfl⟩ ⟨rfl, rfl, rfl, rfl, rfl, rfl, rfl, rfl, trivial⟩ Sub.ent
      · rintro ρ' Γ' ⟨rfl, rfl⟩
        refine hK13 _ _ ?_
        refine S.condF rfl ?_
        refine S.skip ?_
        with_reducible repeat (first | refine S.then_n ?_ | refine S.then_x ?_ | refine S.then_r ?_ | refine S.inBlock_n ?_ | refine S.inBlock_r ?_ | refine S.inBlock_x rfl ?_ | refine S.noGoto_r ?_ | refine S.noGoto_n ?_ | refine S.noGoto_x ?_)
        with_reducible repeat (first | refine S.then_n ?_ | refine S.then_x ?_ | refine S.then_r ?_ | refine S.inBlock_n ?_ | refine S.inBlock_r ?_ | refine S.inBlock_x rfl ?_ | refine S.noGoto_r ?_ | refine S.noGoto_n ?_ | refine S.noGoto_x ?_)
        refine hK11 _ _ ?_
        refine S.region rfl ?_
        refine S.op (S.q (q_add rfl rfl (inI64 (by omega) (by omega))) rfl rfl ?_)
        refine S.op (S.q (q_move rfl) rfl rfl ?_)
        first | with_reducible refine S.nilK ?_ | refine S.nil ?_
        with_reducible repeat (first | refine S.then_n ?_ | refine S.then_x ?_ | refine S.then_r ?_ | refine S.inBlock_n ?_ | refine S.inBlock_r ?_ | refine S.inBlock_x rfl ?_ | refine S.noGoto_r ?_ | refine S.noGoto_n ?_ | refine S.noGoto_x ?_)
        exact S.next (q - 1) (⟨i + 1, by omega, by omega, rfl, rfl⟩) (by omega) (by repeat (first | exact trivial | refine ⟨rfl, ?_⟩)) Sub.ent
    · refine S.exit ?_
      with_reducible repeat (first | refine S.then_n ?_ | refine S.then_x ?_ | refine S.then_r ?_ | refine S.inBlock_n ?_ | refine S.inBlock_r ?_ | refine S.inBlock_x rfl ?_ | refine S.noGoto_r ?_ | refine S.noGoto_n ?_ | refine S.noGoto_x ?_)
      with_reducible refine S.inBlock_s ?_
      with_reducible repeat (first | refine S.then_n ?_ | refine S.then_x ?_ | refine S.then_r ?_ | refine S.inBlock_n ?_ | refine S.inBlock_r ?_ | refine S.inBlock_x rfl ?_ | refine S.noGoto_r ?_ | refine S.noGoto_n ?_ | refine S.noGoto_x ?_)
      refine hK7 _ _ ?_
      refine S.seq fun K14 hK14 => ?_
      refine S.seq fun K15 hK15 => ?_
      refine S.region rfl ?_
      refine S.riClose b m cs us rs hri ?_
      refine S.op (S.q (q_move rfl) rfl rfl ?_)
      refine S.op (S.q (q_move rfl) rfl rfl ?_)
      refine S.op (S.call Tryd.en46 (vs := [_, _]) ⟨rfl, rfl, trivial⟩ (rOf_S b m j) rfl ?_)
      rintro v Θ ⟨s5, rfl, _, rfl⟩
      refine S.op (S.q (q_move rfl) rfl rfl ?_)
      refine S.op (S.q (q_extract rfl rfl) rfl rfl ?_)
      refine S.op (S.q (q_extract rfl rfl) rfl rfl ?_)
      refine S.op (S.q (q_extract rfl rfl) rfl rfl ?_)
      refine S.op (S.q (q_assign rfl) rfl rfl ?_)
      refine S.op (S.q (q_assign rfl) rfl rfl ?_)
      refine S.op (S.q (q_assign rfl) rfl rfl ?_)
      first | with_reducible refine S.nilK ?_ | refine S.nil ?_
      refine hK15 _ _ ?_
      refine S.seq fun K16 hK16 => ?_
      refine S.region rfl ?_
      refine S.op (S.q (q_move rfl) rfl rfl ?_)
      first | with_reducible refine S.nilK ?_ | refine S.nil ?_
      refine hK16 _ _ ?_
      refine S.cond rfl (fun h5 => ?_) (fun h5 => ?_)
      · have hls : (look m.js j).isSome = true := by
          cases h : look m.js j with
          | none => rw [ofR_none h] at h5; cases h5
          | some x => rfl
        rw [if_pos hls] at hpn
        refine S.seq fun K17 hK17 => ?_
        refine S.region rfl ?_
        refine S.op (S.q (q_assign rfl) rfl rfl ?_)
        first | with_reducible refine S.nilK ?_ | refine S.nil ?_
        refine hK17 _ _ ?_
        refine S.ret ?_
        with_reducible repeat (first | refine S.then_n ?_ | refine S.then_x ?_ | refine S.then_r ?_ | refine S.inBlock_n ?_ | refine S.inBlock_r ?_ | refine S.inBlock_x rfl ?_ | refine S.noGoto_r ?_ | refine S.noGoto_n ?_ | refine S.noGoto_x ?_)
        exact S.fin (rs := [_]) (vs := [_]) Tryd.results31 (⟨rfl, trivial⟩)  (⟨by rw [hpn]; rfl, by rw [hpn]⟩) Sub.ent
      · have hlk : look m.js j = none := by
          cases h : look m.js j with
          | none => rfl
          | some x => rw [ofR_some h] at h5; cases h5
        rw [hlk, if_neg (by decide)] at hpn
        clear hri
        refine S.riOpen b m fun cs us rs hri => ?_
        have hcn := hri.cn
        have hun := hri.un
        have hrl := hri.rlen
        refine S.ownSome cs (by omega) fun cb co hca _ _ _ => ?_
        obtain ⟨p, hp, hpd, hpl⟩ := hri.at_ hr
        have hRp : RdS (alls rs rrB) p.1 p.1.n 1 (idsV p.2) := RdS.alls hp RdS.own
        have hN1 := hok.N1
        refine S.rSome hRp (by omega) fun pb po hpa => ?_
        refine S.skip ?_
        with_reducible repeat (first | refine S.then_n ?_ | refine S.then_x ?_ | refine S.then_r ?_ | refine S.inBlock_n ?_ | refine S.inBlock_r ?_ | refine S.inBlock_x rfl ?_ | refine S.noGoto_r ?_ | refine S.noGoto_n ?_ | refine S.noGoto_x ?_)
        refine hK14 _ _ ?_
        refine S.seq fun K18 hK18 => ?_
        refine S.seq fun K19 hK19 => ?_
        refine S.region rfl ?_
        refine S.op (S.q (q_move rfl) rfl rfl ?_)
        refine S.op (S.q (q_len Tryd.underlying69 rfl) rfl rfl ?_)
        refine S.op (S.q (q_move rfl) rfl rfl ?_)
        first | with_reducible refine S.nilK ?_ | refine S.nil ?_
        refine hK19 _ _ ?_
        refine S.block ?_
        refine S.loop (fun q ρ' Γ' => ∃ i : Nat, q = l.length - i ∧ i ≤ l.length ∧ (∀ k, k ∈ nats (l.take i) → (tk m.js r).getLsbD k = false) ∧ ρ' = [(0, .pointer (some ⟨b, 0, none⟩)), (1, .int .u32 (j : Int)), (2, .int .i64 (r : Int)), (3, s.v), (80, s.v), (81, .int .i64 s.n), (82, .int .i64 (i : Int))] ∧   Γ' = blk b 55 #[cs.v, us.v] :: own cs 31 1 (rs.map rrV) :: own us 4 1 (upC m) :: alls rs rrB :: R :: Γ) (m := _) (ρ0 := _) (Γ0 := _) (⟨0, rfl, by omega, fun _ h => (by cases h), rfl, rfl⟩) (by repeat (first | exact trivial | refine ⟨rfl, ?_⟩)) Sub.ent ?_
        rintro q ρ' Γ' ⟨i, hq, hi, hfree, rfl, rfl⟩
        refine S.seq fun K20 hK20 => ?_
        refine S.region rfl ?_
        refine S.op (S.q (q_lt rfl rfl) rfl rfl ?_)
        first | with_reducible refine S.nilK ?_ | refine S.nil ?_
        refine hK20 _ _ ?_
        refine S.seq fun K21 hK21 => ?_
        refine S.condD rfl (fun h6 => ?_) (fun h6 => ?_)
        · refine S.rSome hR (by omega) fun sb so hsa => ?_
          obtain ⟨x, hx⟩ := getE (show i < l.length by omega)
          have hxd : l.getD i 0 = x := by simp [List.getD, hx]
          have u1 := (okUp_at hup (show i < l.length by omega)).1
          rw [hxd] at u1
          have u3 := nodeB_iff.1 u1
          obtain ⟨xn, rfl⟩ : ∃ xn : Nat, x = xn := ⟨x.toNat, by omega⟩
          have hxa := rowN_get (m := m) (i := xn) (by omega) r
          rw [← hpd] at hxa
          have htn : nats (l.take (i + 1)) = nats (l.take i) ++ [xn] := by rw [List.take_add_one, hx]; simp
          refine S.skip ?_
          with_reducible repeat (first | refine S.then_n ?_ | refine S.then_x ?_ | refine S.then_r ?_ | refine S.inBlock_n ?_ | refine S.inBlock_r ?_ | refine S.inBlock_x rfl ?_ | refine S.noGoto_r ?_ | refine S.noGoto_n ?_ | refine S.noGoto_x ?_)
          refine hK21 _ _ ?_
          refine S.seq fun K22 hK22 => ?_
          refine S.block ?_
          refine S.seq fun K23 hK23 => ?_
          refine S.region rfl ?_
          refine S.op (S.q (q_indexO (i) Tryd.el69 rfl hsa rfl rfl (by omega)) rfl rfl ?_)
          refine S.op (S.q (q_loadR hR i Tryd.at3 rfl hsa (by omega) (by omega) (ints_get hx)) rfl rfl ?_)
          refine S.op (S.q (q_assign rfl) rfl rfl ?_)
          first | with_reducible refine S.nilK ?_ | refine S.nil ?_
          refine hK23 _ _ ?_
          refine S.seq fun K24 hK24 => ?_
          refine S.region rfl ?_
          refine S.op (S.q (q_move rfl) rfl rfl ?_)
          refine S.op (S.q (q_nilCheck rfl) rfl rfl ?_)
          refine S.op (S.q (q_field Tryd.fo55_0 rfl) rfl rfl ?_)
          refine S.op (S.q (q_load Tryd.at52 rfl rfl) rfl rfl ?_)
          refine S.op (S.q (q_move rfl) rfl rfl ?_)
          refine S.op (S.q (q_indexO (r) Tryd.el52 rfl hca rfl rfl (by omega)) rfl rfl ?_)
          refine S.op (S.q (q_loadOw (cs) (r) Tryd.at31 rfl hca (by first | rfl | exact Nat.add_assoc _ _ _ | omega) (by rw [List.getElem?_map, hp]; rfl)) rfl rfl ?_)
          refine S.op (S.q (q_move rfl) rfl rfl ?_)
          refine S.op (S.q (q_indexO (xn) Tryd.el31 rfl hpa rfl rfl (by omega)) rfl rfl ?_)
          refine S.op (S.q (q_loadR hRp xn Tryd.at68 rfl hpa (by omega) (by omega) (idsV_get hxa)) rfl rfl ?_)
          refine S.op (S.q (q_ne rfl rfl) rfl rfl ?_)
          first | with_reducible refine S.nilK ?_ | refine S.nil ?_
          refine hK24 _ _ ?_
          refine S.condD rfl (fun h7 => ?_) (fun h7 => ?_)
          · have hbz : tk m.js r &&& ofL (nats l) ≠ 0#16 := fun e => by
              have h8 : (tk m.js r).getLsbD xn = true := by
                cases hb : (tk m.js r).getLsbD xn with
                | true => rfl
                | false => exact absurd (by rw [(busy_iff hok).2 hb]; rfl) h7
              have h9 := congrArg (fun s => s.getLsbD xn) e
              have h10 : (ofL (nats l)).getLsbD xn = true := (ofL_bit _ _).2 ⟨by omega, List.mem_map.2 ⟨(xn : Int), List.mem_of_getElem? hx, by simp⟩⟩
              simp only [BitVec.getLsbD_and, h8, h10] at h9
              simp at h9
            rw [if_pos hbz] at hpn
            refine S.riClose b m cs us rs hri ?_
            refine S.seq fun K25 hK25 => ?_
            refine S.region rfl ?_
            refine S.op (S.q (q_assign rfl) rfl rfl ?_)
            first | with_reducible refine S.nilK ?_ | refine S.nil ?_
            refine hK25 _ _ ?_
            refine S.ret ?_
            with_reducible repeat (first | refine S.then_n ?_ | refine S.then_x ?_ | refine S.then_r ?_ | refine S.inBlock_n ?_ | refine S.inBlock_r ?_ | refine S.inBlock_x rfl ?_ | refine S.noGoto_r ?_ | refine S.noGoto_n ?_ | refine S.noGoto_x ?_)
            exact S.fin (rs := [_]) (vs := [_]) Tryd.results31 (⟨rfl, trivial⟩)  (⟨by rw [hpn]; rfl, by rw [hpn]⟩) Sub.ent
          · have hfree2 : ∀ k, k ∈ nats (l.take (i + 1)) → (tk m.js r).getLsbD k = false := fun k hk => by
              rw [htn, List.mem_append, List.mem_singleton] at hk
              rcases hk with hk | rfl
              · exact hfree k hk
              · exact (busy_iff hok).1 (by omega)
            refine S.skip ?_
            with_reducible repeat (first | refine S.then_n ?_ | refine S.then_x ?_ | refine S.then_r ?_ | refine S.inBlock_n ?_ | refine S.inBlock_r ?_ | refine S.inBlock_x rfl ?_ | refine S.noGoto_r ?_ | refine S.noGoto_n ?_ | refine S.noGoto_x ?_)
            with_reducible repeat (first | refine S.then_n ?_ | refine S.then_x ?_ | refine S.then_r ?_ | refine S.inBlock_n ?_ | refine S.inBlock_r ?_ | refine S.inBlock_x rfl ?_ | refine S.noGoto_r ?_ | refine S.noGoto_n ?_ | refine S.noGoto_x ?_)
            refine hK22 _ _ ?_
            refine S.region rfl ?_
            refine S.op (S.q (q_add rfl rfl (inI64 (by omega) (by omega))) rfl rfl ?_)
            refine S.op (S.q (q_move rfl) rfl rfl ?_)
            first | with_reducible refine S.nilK ?_ | refine S.nil ?_
            with_reducible repeat (first | refine S.then_n ?_ | refine S.then_x ?_ | refine S.then_r ?_ | refine S.inBlock_n ?_ | refine S.inBlock_r ?_ | refine S.inBlock_x rfl ?_ | refine S.noGoto_r ?_ | refine S.noGoto_n ?_ | refine S.noGoto_x ?_)
            exact S.next (q - 1) (⟨i + 1, by omega, by omega, hfree2, rfl, rfl⟩) (by omega) (by repeat (first | exact trivial | refine ⟨rfl, ?_⟩)) Sub.ent
        · have hie : i = l.length := by omega
          rw [hie, List.take_length] at hfree
          have hbz : tk m.js r &&& ofL (nats l) = 0#16 := by
            refine BitVec.eq_of_getLsbD_eq fun k _ => ?_
            rw [BitVec.getLsbD_and]
            cases hb : (ofL (nats l)).getLsbD k with
            | false => simp
            | true => rw [hfree k ((ofL_bit _ _).1 hb).2]; simp
          rw [if_neg (fun e => e hbz)] at hpn
          have hok' : MxOk (m.add ⟨j, r, ofL (nats l)⟩) := hok.add (look_none hlk) (by show 1 ≤ j; omega) hj hr p2 p3 hbz
          refine S.conv (alls rs rrB) (Ent.allsAt rrB hp _) ?_
          show S _ w0 _ (own p.1 68 1 (idsV p.2) :: alls (rs.take r) rrB :: alls (rs.drop (r + 1)) rrB :: _) _
          refine S.exit ?_
          with_reducible repeat (first | refine S.then_n ?_ | refine S.then_x ?_ | refine S.then_r ?_ | refine S.inBlock_n ?_ | refine S.inBlock_r ?_ | refine S.inBlock_x rfl ?_ | refine S.noGoto_r ?_ | refine S.noGoto_n ?_ | refine S.noGoto_x ?_)
          with_reducible refine S.inBlock_s ?_
          with_reducible repeat (first | refine S.then_n ?_ | refine S.then_x ?_ | refine S.then_r ?_ | refine S.inBlock_n ?_ | refine S.inBlock_r ?_ | refine S.inBlock_x rfl ?_ | refine S.noGoto_r ?_ | refine S.noGoto_n ?_ | refine S.noGoto_x ?_)
          refine hK18 _ _ ?_
          refine S.seq fun K26 hK26 => ?_
          refine S.seq fun K27 hK27 => ?_
          refine S.region rfl ?_
          refine S.op (S.q (q_move rfl) rfl rfl ?_)
          refine S.op (S.q (q_len Tryd.underlying69 rfl) rfl rfl ?_)
          refine S.op (S.q (q_move rfl) rfl rfl ?_)
          first | with_reducible refine S.nilK ?_ | refine S.nil ?_
          refine hK27 _ _ ?_
          refine S.block ?_
          refine S.loop (fun q ρ' Γ' => ∃ (i : Nat) (d : List Nat), q = l.length - i ∧ i ≤ l.length ∧ d = setAll p.2 (nats (l.take i)) j ∧ ρ' = [(0, .pointer (some ⟨b, 0, none⟩)), (1, .int .u32 (j : Int)), (2, .int .i64 (r : Int)), (98, s.v), (99, .int .i64 s.n), (100, .int .i64 (i : Int))] ∧   Γ' = own p.1 68 1 (idsV d) :: alls (rs.take r) rrB :: alls (rs.drop (r + 1)) rrB :: blk b 55 #[cs.v, us.v] :: own cs 31 1 (rs.map rrV) :: own us 4 1 (upC m) :: R :: Γ) (m := _) (ρ0 := _) (Γ0 := _) (⟨0, p.2, rfl, by omega, rfl, rfl, rfl⟩) (by repeat (first | exact trivial | refine ⟨rfl, ?_⟩)) Sub.ent ?_
          rintro q ρ' Γ' ⟨i, d, hq, hi, hd, rfl, rfl⟩
          have hdl : d.length = m.N := by rw [hd, setAll_len, hpd, rowN_len]
          refine S.seq fun K28 hK28 => ?_
          refine S.region rfl ?_
          refine S.op (S.q (q_lt rfl rfl) rfl rfl ?_)
          first | with_reducible refine S.nilK ?_ | refine S.nil ?_
          refine hK28 _ _ ?_
          refine S.seq fun K29 hK29 => ?_
          refine S.condD rfl (fun h8 => ?_) (fun h8 => ?_)
          · refine S.rSome hR (by omega) fun sb so hsa => ?_
            obtain ⟨x, hx⟩ := getE (show i < l.length by omega)
            have hxd : l.getD i 0 = x := by simp [List.getD, hx]
            have u1 := (okUp_at hup (show i < l.length by omega)).1
            rw [hxd] at u1
            have u3 := nodeB_iff.1 u1
            obtain ⟨xn, rfl⟩ : ∃ xn : Nat, x = xn := ⟨x.toNat, by omega⟩
            have hd2 : d.set xn j = setAll p.2 (nats (l.take (i + 1))) j := by
              rw [hd, ← setAll_snoc, List.take_add_one, hx]
              simp
            have hset : (idsV d).set xn (.int .u32 (j : Int)) = idsV (d.set xn j) := by
              show (d.map _).set _ _ = (d.set xn j).map _
              rw [List.map_set]
            refine S.skip ?_
            with_reducible repeat (first | refine S.then_n ?_ | refine S.then_x ?_ | refine S.then_r ?_ | refine S.inBlock_n ?_ | refine S.inBlock_r ?_ | refine S.inBlock_x rfl ?_ | refine S.noGoto_r ?_ | refine S.noGoto_n ?_ | refine S.noGoto_x ?_)
            refine hK29 _ _ ?_
            refine S.seq fun K30 hK30 => ?_
            refine S.block ?_
            refine S.seq fun K31 hK31 => ?_
            refine S.region rfl ?_
            refine S.op (S.q (q_indexO (i) Tryd.el69 rfl hsa rfl rfl (by omega)) rfl rfl ?_)
            refine S.op (S.q (q_loadR hR i Tryd.at3 rfl hsa (by omega) (by omega) (ints_get hx)) rfl rfl ?_)
            refine S.op (S.q (q_assign rfl) rfl rfl ?_)
            first | with_reducible refine S.nilK ?_ | refine S.nil ?_
            refine hK31 _ _ ?_
            refine S.region rfl ?_
            refine S.op (S.q (q_move rfl) rfl rfl ?_)
            refine S.op (S.q (q_nilCheck rfl) rfl rfl ?_)
            refine S.op (S.q (q_field Tryd.fo55_0 rfl) rfl rfl ?_)
            refine S.op (S.q (q_load Tryd.at52 rfl rfl) rfl rfl ?_)
            refine S.op (S.q (q_move rfl) rfl rfl ?_)
            refine S.op (S.q (q_indexO (r) Tryd.el52 rfl hca rfl rfl (by omega)) rfl rfl ?_)
            refine S.op (S.q (q_loadOw (cs) (r) Tryd.at31 rfl hca (by first | rfl | exact Nat.add_assoc _ _ _ | omega) (by rw [List.getElem?_map, hp]; rfl)) rfl rfl ?_)
            refine S.op (S.q (q_move rfl) rfl rfl ?_)
            refine S.op (S.q (q_move rfl) rfl rfl ?_)
            refine S.op (S.q (q_indexO (xn) Tryd.el31 rfl hpa rfl rfl (by omega)) rfl rfl ?_)
            refine S.op (S.storeOw (p.1) (xn) Tryd.at68 rfl rfl rfl hpa (by first | rfl | exact Nat.add_assoc _ _ _ | omega) (by rw [List.length_map]; omega) (hset) ?_)
            first | with_reducible refine S.nilK ?_ | refine S.nil ?_
            with_reducible repeat (first | refine S.then_n ?_ | refine S.then_x ?_ | refine S.then_r ?_ | refine S.inBlock_n ?_ | refine S.inBlock_r ?_ | refine S.inBlock_x rfl ?_ | refine S.noGoto_r ?_ | refine S.noGoto_n ?_ | refine S.noGoto_x ?_)
            refine hK30 _ _ ?_
            refine S.region rfl ?_
            refine S.op (S.q (q_add rfl rfl (inI64 (by omega) (by omega))) rfl rfl ?_)
            refine S.op (S.q (q_move rfl) rfl rfl ?_)
            first | with_reducible refine S.nilK ?_ | refine S.nil ?_
            with_reducible repeat (first | refine S.then_n ?_ | refine S.then_x ?_ | refine S.then_r ?_ | refine S.inBlock_n ?_ | refine S.inBlock_r ?_ | refine S.inBlock_x rfl ?_ | refine S.noGoto_r ?_ | refine S.noGoto_n ?_ | refine S.noGoto_x ?_)
            exact S.next (q - 1) (⟨i + 1, d.set xn j, by omega, by omega, hd2, rfl, rfl⟩) (by omega) (by repeat (first | exact trivial | refine ⟨rfl, ?_⟩)) Sub.ent
          · have hie2 : i = l.length := by omega
            rw [hie2, List.take_length] at hd
            refine S.conv3 (own p.1 68 1 (idsV d)) (alls (rs.take r) rrB) (alls (rs.drop (r + 1)) rrB) (Ent.allsBack rrB (x' := (p.1, d)) hp _) ?_
            have hrow := rowN_add hok hok'
            have hrv : (rs.set r (p.1, d)).map rrV = rs.map rrV := by
              rw [List.map_set]
              refine List.ext_getElem? fun k => ?_
              by_cases e : r = k
              · subst e; rw [List.getElem?_set_self (by rw [List.length_map]; omega), List.getElem?_map, hp]; rfl
              · rw [List.getElem?_set_ne e]
            have hri2 : RiOk (m.add ⟨j, r, ofL (nats l)⟩) cs us (rs.set r (p.1, d)) := ⟨hok', hcn, hun, by
              refine List.ext_getElem? fun k => ?_
              by_cases hk : k < m.R
              · rw [List.getElem?_map, List.getElem?_map, List.getElem?_range (show k < (m.add ⟨j, r, ofL (nats l)⟩).R from hk), Option.map_some, hrow]
                by_cases e : r = k
                · subst e
                  rw [List.getElem?_set_self (by omega), Option.map_some, if_pos rfl, hd, hpd]
                  simp only [p1]
                · rw [List.getElem?_set_ne e, if_neg (fun h => e h.symm)]
                  obtain ⟨p', hp', hpd', _⟩ := hri.at_ hk
                  rw [hp', Option.map_some, hpd']
              · rw [List.getElem?_eq_none (by rw [List.length_map, List.length_set]; omega), List.getElem?_eq_none (by rw [List.length_map, List.length_range]; show m.R ≤ k; omega)], fun p' hp' => by
              rcases List.mem_or_eq_of_mem_set hp' with h9 | h9
              · exact hri.len p' h9
              · rw [h9]; exact hpl⟩
            rw [← hrv, show upC m = upC (m.add ⟨j, r, ofL (nats l)⟩) from rfl]
            refine S.exit ?_
            with_reducible repeat (first | refine S.then_n ?_ | refine S.then_x ?_ | refine S.then_r ?_ | refine S.inBlock_n ?_ | refine S.inBlock_r ?_ | refine S.inBlock_x rfl ?_ | refine S.noGoto_r ?_ | refine S.noGoto_n ?_ | refine S.noGoto_x ?_)
            with_reducible refine S.inBlock_s ?_
            with_reducible repeat (first | refine S.then_n ?_ | refine S.then_x ?_ | refine S.then_r ?_ | refine S.inBlock_n ?_ | refine S.inBlock_r ?_ | refine S.inBlock_x rfl ?_ | refine S.noGoto_r ?_ | refine S.noGoto_n ?_ | refine S.noGoto_x ?_)
            refine hK26 _ _ ?_
            refine S.seq fun K32 hK32 => ?_
            refine S.region rfl ?_
            refine S.op (S.q (q_assign rfl) rfl rfl ?_)
            first | with_reducible refine S.nilK ?_ | refine S.nil ?_
            refine hK32 _ _ ?_
            refine S.ret ?_
            with_reducible repeat (first | refine S.then_n ?_ | refine S.then_x ?_ | refine S.then_r ?_ | refine S.inBlock_n ?_ | refine S.inBlock_r ?_ | refine S.inBlock_x rfl ?_ | refine S.noGoto_r ?_ | refine S.noGoto_n ?_ | refine S.noGoto_x ?_)
            refine S.riClose b (m.add ⟨j, r, ofL (nats l)⟩) cs us (rs.set r (p.1, d)) hri2 ?_
            exact S.fin (rs := [_]) (vs := [_]) Tryd.results31 (⟨rfl, trivial⟩)  (⟨by rw [hpn]; rfl, by rw [hpn]⟩) Sub.ent
end Go.Proofs.YtegjmmocnffpiaaDoor
/- Jobs that move from row to row, as plain data. Of no program. -/
namespace Go.Proofs.YtegjmmocnffpiaaDoor
open Go.RowKit
set_option maxRecDepth 20000
/-- A job stands in another row. -/
def reRow (js : List Jb) (j to_ : Nat) : List Jb := js.map fun x => if x.id = j then ⟨x.id, to_, x.ns⟩ else x
theorem reRow_ids (js : List Jb) (j t : Nat) : (reRow js j t).map (·.id) = js.map (·.id) := by
  rw [reRow, List.map_map]
  refine List.map_congr_left fun x _ => ?_
  simp only [Function.comp]
  split <;> rfl
theorem ids_srt {js js' : List Jb} (h : js'.map (·.id) = js.map (·.id)) (hs : js.Pairwise (fun a b => a.id < b.id)) : js'.Pairwise (fun a b => a.id < b.id) := by
  have h1 : (js.map (·.id)).Pairwise (· < ·) := List.pairwise_map.2 hs
  rw [← h] at h1
  exact List.pairwise_map.1 h1
theorem mem_reRow {js : List Jb} (hs : js.Pairwise (fun a b => a.id < b.id)) {x : Jb} (hx : x ∈ js) (t : Nat) (y : Jb) : y ∈ reRow js x.id t ↔ y = ⟨x.id, t, x.ns⟩ ∨ (y ∈ js ∧ y.id ≠ x.id) := by
  rw [reRow, List.mem_map]
  constructor
  · rintro ⟨z, hz, rfl⟩
    by_cases e : z.id = x.id
    · rw [if_pos e, id_inj hs hz hx e]
      exact .inl rfl
    · rw [if_neg e]
      exact .inr ⟨hz, e⟩
  · rintro (rfl | ⟨h1, h2⟩)
    · exact ⟨x, hx, if_pos rfl⟩
    · exact ⟨y, h1, if_neg h2⟩
theorem add_del {m : Mx} (hm : MxOk m) {x : Jb} (hx : x ∈ m.js) (t : Nat) : (m.del x.id).add ⟨x.id, t, x.ns⟩ = { m with js := reRow m.js x.id t } := by
  have : addJ ⟨x.id, t, x.ns⟩ (delJ x.id m.js) = reRow m.js x.id t := by
    refine srt_ext (addJ_srt (delJ_srt hm.srt) fun y hy => (mem_delJ.1 hy).2) (ids_srt (reRow_ids _ _ _) hm.srt) fun y => ?_
    rw [mem_addJ, mem_delJ, mem_reRow hm.srt hx]
  simp only [Mx.add, Mx.del, this]
theorem reRow_self {js : List Jb} (hs : js.Pairwise (fun a b => a.id < b.id)) {x : Jb} (hx : x ∈ js) : reRow js x.id x.row = js := by
  refine (List.map_congr_left fun y hy => ?_).trans (List.map_id _)
  by_cases e : y.id = x.id
  · rw [if_pos e, id_inj hs hy hx e]; rfl
  · rw [if_neg e]; rfl
/-- Put at nodes that were a job's. -/
theorem okUp_lst (m : Mx) (s : Bs) (hs : ∀ i, s.getLsbD i = true → i < m.N) : ∀ k, k ≤ (lst s).length → okUp m ((lst s).map fun i : Nat => (i : Int)) k = true
  | 0, _ => rfl
  | k + 1, hk => by
    have hr := List.pairwise_iff_getElem.1 (lst_rise s)
    have hk' : k < (lst s).length := by omega
    have e1 : ((lst s).map fun i : Nat => (i : Int)).getD k 0 = ((lst s)[k] : Int) := by simp [List.getD, List.getElem?_eq_getElem hk']
    rw [okUp, okUp_lst m s hs k (by omega), e1, nodeB_iff.2 ⟨by omega, by have := hs _ (mem_lst.1 (List.getElem_mem hk')); omega⟩, Bool.true_and, Bool.true_and, Bool.or_eq_true, decide_eq_true_eq, decide_eq_true_eq]
    by_cases e : k = 0
    · exact .inl e
    · refine .inr ?_
      have hk2 : k - 1 < (lst s).length := by omega
      have e2 : ((lst s).map fun i : Nat => (i : Int)).getD (k - 1) 0 = ((lst s)[k - 1] : Int) := by simp [List.getD, List.getElem?_eq_getElem hk2]
      rw [e2]
      have := hr (k - 1) k hk2 hk' (by omega)
      omega
theorem nats_lst (s : Bs) : nats ((lst s).map fun i : Nat => (i : Int)) = lst s := by
  rw [nats, List.map_map]
  exact (List.map_congr_left fun i _ => by simp [Function.comp]).trans (List.map_id _)
theorem putR_back {m : Mx} (hm : MxOk m) {x : Jb} (hx : x ∈ m.js) (z : Int) : putR (m.del x.id) x.id z ((lst x.ns).map fun i : Nat => (i : Int)) =
    if rowB m z = false then (1, m.del x.id) else if tk (delJ x.id m.js) z.toNat &&& x.ns ≠ 0#16 then (15, m.del x.id) else (0, { m with js := reRow m.js x.id z.toNat }) := by
  have h1 := hm.id1 x hx
  have hl : 0 < (lst x.ns).length := by
    cases e : lst x.ns with
    | nil => exact absurd (lst_nil.1 e) (hm.some x hx)
    | cons a l => simp
  have hok : okUp (m.del x.id) ((lst x.ns).map fun i : Nat => (i : Int)) ((lst x.ns).map fun i : Nat => (i : Int)).length = true := by
    rw [List.length_map]
    exact okUp_lst (m.del x.id) x.ns (fun i hi => hm.ns x hx i hi) _ (Nat.le_refl _)
  have hp : putOk (m.del x.id) x.id z ((lst x.ns).map fun i : Nat => (i : Int)) = rowB m z := by
    rw [putOk, List.length_map, decide_eq_true (show ((x.id : Nat) : Int) ≠ 0 by omega), decide_eq_true (show (((lst x.ns).length : Nat) : Int) > 0 by omega), Bool.true_and, Bool.and_true]
    rfl
  have hlk : look (m.del x.id).js x.id = none := by
    cases e : look (m.del x.id).js x.id with
    | none => rfl
    | some y => obtain ⟨q1, q2⟩ := look_some e; exact absurd q2 (mem_delJ.1 q1).2
  rw [putR, hp, hok, Bool.and_true, hlk, nats_lst, ofL_lst]
  by_cases e : rowB m z = false
  · rw [if_pos e, if_pos e]
  · rw [if_neg e, if_neg e, ← add_del hm hx]
    rfl
/-- A job moves, if it can. -/
def canMove (m : Mx) (x : Jb) (z : Int) : Bool := rowB m z && decide (tk (delJ x.id m.js) z.toNat &&& x.ns = 0#16)
def moveR (m : Mx) (j : Nat) (z : Int) : Option (Nat × Int × Int) × Mx := match look m.js j with
  | none => (none, m)
  | some x => if canMove m x z then (some (j, (x.row : Int), z), { m with js := reRow m.js j z.toNat }) else (none, m)
theorem MxOk.ofReRow {m : Mx} (hm : MxOk m) {x : Jb} (hx : x ∈ m.js) {t : Nat} (ht : t < m.R) (hd : tk (delJ x.id m.js) t &&& x.ns = 0#16) : MxOk { m with js := reRow m.js x.id t } := by
  rw [← add_del hm hx]
  exact (hm.del x.id).add (fun y hy => (mem_delJ.1 hy).2) (hm.id1 x hx) (hm.id2 x hx) ht (hm.some x hx) (hm.ns x hx) hd
theorem moveR_ok {m : Mx} (hm : MxOk m) (j : Nat) (z : Int) : MxOk (moveR m j z).2 := by
  unfold moveR
  cases h : look m.js j with
  | none => exact hm
  | some x =>
    obtain ⟨h1, h2⟩ := look_some h
    simp only
    by_cases hc : canMove m x z = true
    · rw [if_pos hc]
      rw [canMove, Bool.and_eq_true, decide_eq_true_eq] at hc
      have hr := rowB_iff.1 hc.1
      rw [← h2]
      exact hm.ofReRow h1 (by omega) hc.2
    · rw [if_neg hc]; exact hm
end Go.Proofs.YtegjmmocnffpiaaDoor
/- The document's matrix: nodes by their bits; nodes that are down. -/
namespace Go.Proofs.YtegjmmocnffpiaaDoor
open Go.RowKit
set_option maxRecDepth 20000
/-- The nodes below k of a set. -/
def bitU (s : Bs) : Nat → List Nat
  | 0 => []
  | k + 1 => if s.getLsbD k then bitU s k ++ [k] else bitU s k
theorem mem_bitU {s : Bs} {i : Nat} : ∀ {k : Nat}, i ∈ bitU s k ↔ i < k ∧ s.getLsbD i = true
  | 0 => by simp [bitU]
  | k + 1 => by
    rw [bitU]
    split
    · rename_i h
      rw [List.mem_append, mem_bitU, List.mem_singleton]
      constructor
      · rintro (⟨h1, h2⟩ | rfl)
        · exact ⟨by omega, h2⟩
        · exact ⟨by omega, h⟩
      · rintro ⟨h1, h2⟩
        by_cases e : i = k
        · exact .inr e
        · exact .inl ⟨by omega, h2⟩
    · rename_i h
      rw [mem_bitU]
      constructor
      · rintro ⟨h1, h2⟩; exact ⟨by omega, h2⟩
      · rintro ⟨h1, h2⟩
        by_cases e : i = k
        · subst e; exact absurd h2 h
        · exact ⟨by omega, h2⟩
theorem bitU_rise (s : Bs) : ∀ k, (bitU s k).Pairwise (· < ·)
  | 0 => List.Pairwise.nil
  | k + 1 => by
    rw [bitU]
    split
    · refine List.pairwise_append.2 ⟨bitU_rise s k, List.pairwise_singleton _ _, fun a ha b hb => ?_⟩
      rw [List.mem_singleton] at hb
      have := (mem_bitU.1 ha).1
      omega
    · exact bitU_rise s k
theorem bitU_len (s : Bs) : ∀ k, (bitU s k).length ≤ k
  | 0 => Nat.le_refl _
  | k + 1 => by
    have := bitU_len s k
    rw [bitU]
    split
    · rw [List.length_append, List.length_singleton]; omega
    · omega
theorem bitU_lst (s : Bs) {k : Nat} (hk : k ≤ 16) : bitU s k = lst (s &&& mask k) := rise_ext (bitU_rise s k) (lst_rise _) fun i => by
  rw [mem_bitU, mem_lst, BitVec.getLsbD_and, Bool.and_eq_true, mask_bit hk, And.comm]
theorem bitU_ok {m : Mx} (hm : MxOk m) (s : Bs) : okUp m (casts (bitU s m.N)) (casts (bitU s m.N)).length = true := by
  rw [bitU_lst s hm.N16, List.length_map]
  refine okUp_lst m _ (fun i hi => ?_) _ (Nat.le_refl _)
  rw [BitVec.getLsbD_and, Bool.and_eq_true, mask_bit hm.N16] at hi
  exact hi.2
theorem putR_N (m : Mx) (j : Nat) (z : Int) (l : List Int) : (putR m j z l).2.N = m.N ∧ (putR m j z l).2.up = m.up ∧ (putR m j z l).2.R = m.R := by
  unfold putR
  split
  · exact ⟨rfl, rfl, rfl⟩
  · split
    · exact ⟨rfl, rfl, rfl⟩
    · split <;> exact ⟨rfl, rfl, rfl⟩
theorem upC_set {m : Mx} {k : Nat} (hN : m.N ≤ 16) (hk : k < m.N) : (upC m).set k (.bool false) = upC (m.setUp k false) := by
  refine List.ext_getElem? fun i => ?_
  show _ = ((List.range m.N).map fun i => Value.bool ((m.setUp k false).up.getLsbD i))[i]?
  by_cases hi : i < m.N
  · rw [List.getElem?_map, List.getElem?_range hi, Option.map_some]
    have e : (m.setUp k false).up.getLsbD i = (m.up.getLsbD i && !decide (k = i)) := by
      simp only [Mx.setUp, Bool.false_eq_true, if_false, BitVec.getLsbD_and, BitVec.getLsbD_not, BitVec.getLsbD_twoPow]
      have h1 : i < 16 := by omega
      have h2 : k < 16 := by omega
      simp [h1, h2]
    rw [e]
    by_cases ek : k = i
    · subst ek
      rw [List.getElem?_set_self (by simp; exact hk)]
      simp
    · rw [List.getElem?_set_ne ek, List.getElem?_map, List.getElem?_range hi, Option.map_some, decide_eq_false ek]
      simp
  · rw [List.getElem?_eq_none (by simp; omega), List.getElem?_eq_none (by simp; omega)]
theorem RiOk.setUp {m : Mx} {cs us : SV} {rs : List Rr} (h : RiOk m cs us rs) {k : Nat} (hk : k < m.N) : RiOk (m.setUp k false) cs us rs := ⟨h.ok.setUp hk false, h.cn, h.un, h.dat, h.len⟩
theorem upR_ok {m : Mx} (hm : MxOk m) (z : Int) (on : Bool) : MxOk (upR m z on).2 := by
  unfold upR
  split
  · rename_i h
    have := nodeB_iff.1 h
    exact hm.setUp (by omega) on
  · exact hm
theorem upR_N (m : Mx) (z : Int) (on : Bool) : (upR m z on).2.N = m.N ∧ (upR m z on).2.R = m.R := by
  unfold upR
  split <;> exact ⟨rfl, rfl⟩
end Go.Proofs.YtegjmmocnffpiaaDoor
/- Who has to make room: how candidates stand to each other; sorted. -/
namespace Go.Proofs.YtegjmmocnffpiaaDoor
open Go.RowKit
set_option maxRecDepth 20000
abbrev Cd := Nat × Int
abbrev cdC (x : Cd) : List Value := [.int .u32 (x.1 : Int), .int .u8 x.2]
theorem cdC_len : ∀ x, (cdC x).length = 2 := fun _ => rfl
theorem cdC_one (l : List Cd) : allOne (l.flatMap cdC) = true := List.all_eq_true.2 fun u hu => by
  obtain ⟨x, _, h⟩ := List.mem_flatMap.1 hu
  simp only [cdC, List.mem_cons, List.not_mem_nil, or_false] at h
  rcases h with rfl | rfl <;> rfl
def cmpI (a b : Int) : Int := if a < b then -1 else if b < a then 1 else 0
theorem isNaN8_P (x : Int) (W : World) : PureS Tryd.prog 94 [.int .u8 x] W (.bool false) := by
  refine Spec.of_body Tryd.func94 rfl Tryd.ntmps94 rfl ?_
  intro w0 Γ
  show S _ w0 [(0, .int .u8 x)] (old W :: Γ) _
  refine S.seq fun K1 hK1 => ?_
  refine S.region rfl ?_
  refine S.op (S.q (q_assign rfl) rfl rfl ?_)
  first | with_reducible refine S.nilK ?_ | refine S.nil ?_
  refine hK1 _ _ ?_
  refine S.seq fun K2 hK2 => ?_
  refine S.region rfl ?_
  refine S.op (S.q (q_move rfl) rfl rfl ?_)
  refine S.op (S.q (q_move rfl) rfl rfl ?_)
  refine S.op (S.q (q_ne rfl rfl) rfl rfl ?_)
  refine S.op (S.q (q_assign rfl) rfl rfl ?_)
  first | with_reducible refine S.nilK ?_ | refine S.nil ?_
  refine hK2 _ _ ?_
  refine S.ret ?_
  with_reducible repeat (first | refine S.then_n ?_ | refine S.then_x ?_ | refine S.then_r ?_ | refine S.inBlock_n ?_ | refine S.inBlock_r ?_ | refine S.inBlock_x rfl ?_ | refine S.noGoto_r ?_ | refine S.noGoto_n ?_ | refine S.noGoto_x ?_)
  exact S.fin (rs := [_]) (vs := [_]) Tryd.results94 (⟨rfl, trivial⟩)  (⟨by simp only [resV]; rw [decide_eq_false (fun h => h rfl)], rfl⟩) Sub.ent
theorem isNaN32_P (x : Int) (W : World) : PureS Tryd.prog 95 [.int .u32 x] W (.bool false) := by
  refine Spec.of_body Tryd.func95 rfl Tryd.ntmps95 rfl ?_
  intro w0 Γ
  show S _ w0 [(0, .int .u32 x)] (old W :: Γ) _
  refine S.seq fun K1 hK1 => ?_
  refine S.region rfl ?_
  refine S.op (S.q (q_assign rfl) rfl rfl ?_)
  first | with_reducible refine S.nilK ?_ | refine S.nil ?_
  refine hK1 _ _ ?_
  refine S.seq fun K2 hK2 => ?_
  refine S.region rfl ?_
  refine S.op (S.q (q_move rfl) rfl rfl ?_)
  refine S.op (S.q (q_move rfl) rfl rfl ?_)
  refine S.op (S.q (q_ne rfl rfl) rfl rfl ?_)
  refine S.op (S.q (q_assign rfl) rfl rfl ?_)
  first | with_reducible refine S.nilK ?_ | refine S.nil ?_
  refine hK2 _ _ ?_
  refine S.ret ?_
  with_reducible repeat (first | refine S.then_n ?_ | refine S.then_x ?_ | refine S.then_r ?_ | refine S.inBlock_n ?_ | refine S.inBlock_r ?_ | refine S.inBlock_x rfl ?_ | refine S.noGoto_r ?_ | refine S.noGoto_n ?_ | refine S.noGoto_x ?_)
  exact S.fin (rs := [_]) (vs := [_]) Tryd.results95 (⟨rfl, trivial⟩)  (⟨by simp only [resV]; rw [decide_eq_false (fun h => h rfl)], rfl⟩) Sub.ent
theorem isNaN64_S (x : Int) : Spec Tryd.prog 75 [.int .i64 x] [] fun Γ v Θ => v = .bool false ∧ Θ = Γ := by
  refine Spec.of_body Tryd.func75 rfl Tryd.ntmps75 rfl ?_
  intro w0 Γ
  show S _ w0 [(0, .int .i64 x)] Γ _
  refine S.seq fun K1 hK1 => ?_
  refine S.region rfl ?_
  refine S.op (S.q (q_assign rfl) rfl rfl ?_)
  first | with_reducible refine S.nilK ?_ | refine S.nil ?_
  refine hK1 _ _ ?_
  refine S.seq fun K2 hK2 => ?_
  refine S.region rfl ?_
  refine S.op (S.q (q_move rfl) rfl rfl ?_)
  refine S.op (S.q (q_move rfl) rfl rfl ?_)
  refine S.op (S.q (q_ne rfl rfl) rfl rfl ?_)
  refine S.op (S.q (q_assign rfl) rfl rfl ?_)
  first | with_reducible refine S.nilK ?_ | refine S.nil ?_
  refine hK2 _ _ ?_
  refine S.ret ?_
  with_reducible repeat (first | refine S.then_n ?_ | refine S.then_x ?_ | refine S.then_r ?_ | refine S.inBlock_n ?_ | refine S.inBlock_r ?_ | refine S.inBlock_x rfl ?_ | refine S.noGoto_r ?_ | refine S.noGoto_n ?_ | refine S.noGoto_x ?_)
  exact S.fin (rs := [_]) (vs := [_]) Tryd.results75 (⟨rfl, trivial⟩)  (⟨by simp only [resV]; rw [decide_eq_false (fun h => h rfl)], rfl⟩) Sub.ent
theorem Compare8_P (x y : Int) (W : World) : PureS Tryd.prog 86 [.int .u8 x, .int .u8 y] W (.int .i64 (cmpI x y)) := by
  refine Spec.of_body Tryd.func86 rfl Tryd.ntmps86 rfl ?_
  intro w0 Γ
  show S _ w0 [(0, .int .u8 x), (1, .int .u8 y)] (old W :: Γ) _
  refine S.seq fun K1 hK1 => ?_
  refine S.region rfl ?_
  refine S.op (S.q (q_assign rfl) rfl rfl ?_)
  first | with_reducible refine S.nilK ?_ | refine S.nil ?_
  refine hK1 _ _ ?_
  refine S.seq fun K2 hK2 => ?_
  refine S.region rfl ?_
  refine S.op (S.q (q_move rfl) rfl rfl ?_)
  refine S.op (S.callP Tryd.en94 (vs := [_]) ⟨rfl, trivial⟩ (fun w hs => isNaN8_P x w) rfl ?_)
  refine S.op (S.q (q_assign rfl) rfl rfl ?_)
  first | with_reducible refine S.nilK ?_ | refine S.nil ?_
  refine hK2 _ _ ?_
  refine S.seq fun K3 hK3 => ?_
  refine S.region rfl ?_
  refine S.op (S.q (q_move rfl) rfl rfl ?_)
  refine S.op (S.callP Tryd.en94 (vs := [_]) ⟨rfl, trivial⟩ (fun w hs => isNaN8_P y w) rfl ?_)
  refine S.op (S.q (q_assign rfl) rfl rfl ?_)
  first | with_reducible refine S.nilK ?_ | refine S.nil ?_
  refine hK3 _ _ ?_
  refine S.seq fun K4 hK4 => ?_
  refine S.seq fun K5 hK5 => ?_
  refine S.region rfl ?_
  refine S.op (S.q (q_move rfl) rfl rfl ?_)
  first | with_reducible refine S.nilK ?_ | refine S.nil ?_
  refine hK5 _ _ ?_
  refine S.condF rfl ?_
  refine S.skip ?_
  with_reducible repeat (first | refine S.then_n ?_ | refine S.then_x ?_ | refine S.then_r ?_ | refine S.inBlock_n ?_ | refine S.inBlock_r ?_ | refine S.inBlock_x rfl ?_ | refine S.noGoto_r ?_ | refine S.noGoto_n ?_ | refine S.noGoto_x ?_)
  refine hK4 _ _ ?_
  refine S.seq fun K6 hK6 => ?_
  refine S.seq fun K7 hK7 => ?_
  refine S.region rfl ?_
  refine S.op (S.q (q_move rfl) rfl rfl ?_)
  first | with_reducible refine S.nilK ?_ | refine S.nil ?_
  refine hK7 _ _ ?_
  refine S.condF rfl ?_
  refine S.skip ?_
  with_reducible repeat (first | refine S.then_n ?_ | refine S.then_x ?_ | refine S.then_r ?_ | refine S.inBlock_n ?_ | refine S.inBlock_r ?_ | refine S.inBlock_x rfl ?_ | refine S.noGoto_r ?_ | refine S.noGoto_n ?_ | refine S.noGoto_x ?_)
  refine hK6 _ _ ?_
  refine S.seq fun K8 hK8 => ?_
  refine S.seq fun K9 hK9 => ?_
  refine S.region rfl ?_
  refine S.op (S.q (q_move rfl) rfl rfl ?_)
  refine S.op (S.q (q_move rfl) rfl rfl ?_)
  refine S.op (S.q (q_lt rfl rfl) rfl rfl ?_)
  first | with_reducible refine S.nilK ?_ | refine S.nil ?_
  refine hK9 _ _ ?_
  refine S.condD rfl (fun h4 => ?_) (fun h4 => ?_)
  · refine S.seq fun K10 hK10 => ?_
    refine S.region rfl ?_
    refine S.op (S.q (q_assign rfl) rfl rfl ?_)
    first | with_reducible refine S.nilK ?_ | refine S.nil ?_
    refine hK10 _ _ ?_
    refine S.ret ?_
    with_reducible repeat (first | refine S.then_n ?_ | refine S.then_x ?_ | refine S.then_r ?_ | refine S.inBlock_n ?_ | refine S.inBlock_r ?_ | refine S.inBlock_x rfl ?_ | refine S.noGoto_r ?_ | refine S.noGoto_n ?_ | refine S.noGoto_x ?_)
    exact S.fin (rs := [_]) (vs := [_]) Tryd.results86 (⟨rfl, trivial⟩)  (⟨by simp only [resV, cmpI]; rw [if_pos (by assumption)], rfl⟩) Sub.ent
  · refine S.skip ?_
    with_reducible repeat (first | refine S.then_n ?_ | refine S.then_x ?_ | refine S.then_r ?_ | refine S.inBlock_n ?_ | refine S.inBlock_r ?_ | refine S.inBlock_x rfl ?_ | refine S.noGoto_r ?_ | refine S.noGoto_n ?_ | refine S.noGoto_x ?_)
    refine hK8 _ _ ?_
    refine S.seq fun K11 hK11 => ?_
    refine S.seq fun K12 hK12 => ?_
    refine S.region rfl ?_
    refine S.op (S.q (q_move rfl) rfl rfl ?_)
    refine S.op (S.q (q_move rfl) rfl rfl ?_)
    refine S.op (S.q (q_gt rfl rfl) rfl rfl ?_)
    first | with_reducible refine S.nilK ?_ | refine S.nil ?_
    refine hK12 _ _ ?_
    refine S.condD rfl (fun h5 => ?_) (fun h5 => ?_)
    · refine S.seq fun K13 hK13 => ?_
      refine S.region rfl ?_
      refine S.op (S.q (q_assign rfl) rfl rfl ?_)
      first | with_reducible refine S.nilK ?_ | refine S.nil ?_
      refine hK13 _ _ ?_
      refine S.ret ?_
      with_reducible repeat (first | refine S.then_n ?_ | refine S.then_x ?_ | refine S.then_r ?_ | refine S.inBlock_n ?_ | refine S.inBlock_r ?_ | refine S.inBlock_x rfl ?_ | refine S.noGoto_r ?_ | refine S.noGoto_n ?_ | refine S.noGoto_x ?_)
      exact S.fin (rs := [_]) (vs := [_]) Tryd.results86 (⟨rfl, trivial⟩)  (⟨by simp only [resV, cmpI]; rw [if_neg (by assumption), if_pos (by assumption)], rfl⟩) Sub.ent
    · refine S.skip ?_
      with_reducible repeat (first | refine S.then_n ?_ | refine S.then_x ?_ | refine S.then_r ?_ | refine S.inBlock_n ?_ | refine S.inBlock_r ?_ | refine S.inBlock_x rfl ?_ | refine S.noGoto_r ?_ | refine S.noGoto_n ?_ | refine S.noGoto_x ?_)
      refine hK11 _ _ ?_
      refine S.seq fun K14 hK14 => ?_
      refine S.region rfl ?_
      refine S.op (S.q (q_assign rfl) rfl rfl ?_)
      first | with_reducible refine S.nilK ?_ | refine S.nil ?_
      refine hK14 _ _ ?_
      refine S.ret ?_
      with_reducible repeat (first | refine S.then_n ?_ | refine S.then_x ?_ | refine S.then_r ?_ | refine S.inBlock_n ?_ | refine S.inBlock_r ?_ | refine S.inBlock_x rfl ?_ | refine S.noGoto_r ?_ | refine S.noGoto_n ?_ | refine S.noGoto_x ?_)
      exact S.fin (rs := [_]) (vs := [_]) Tryd.results86 (⟨rfl, trivial⟩)  (⟨by simp only [resV, cmpI]; rw [if_neg (by assumption), if_neg (by assumption)], rfl⟩) Sub.ent
theorem Compare32_P (x y : Int) (W : World) : PureS Tryd.prog 87 [.int .u32 x, .int .u32 y] W (.int .i64 (cmpI x y)) := by
  refine Spec.of_body Tryd.func87 rfl Tryd.ntmps87 rfl ?_
  intro w0 Γ
  show S _ w0 [(0, .int .u32 x), (1, .int .u32 y)] (old W :: Γ) _
  refine S.seq fun K1 hK1 => ?_
  refine S.region rfl ?_
  refine S.op (S.q (q_assign rfl) rfl rfl ?_)
  first | with_reducible refine S.nilK ?_ | refine S.nil ?_
  refine hK1 _ _ ?_
  refine S.seq fun K2 hK2 => ?_
  refine S.region rfl ?_
  refine S.op (S.q (q_move rfl) rfl rfl ?_)
  refine S.op (S.callP Tryd.en95 (vs := [_]) ⟨rfl, trivial⟩ (fun w hs => isNaN32_P x w) rfl ?_)
  refine S.op (S.q (q_assign rfl) rfl rfl ?_)
  first | with_reducible refine S.nilK ?_ | refine S.nil ?_
  refine hK2 _ _ ?_
  refine S.seq fun K3 hK3 => ?_
  refine S.region rfl ?_
  refine S.op (S.q (q_move rfl) rfl rfl ?_)
  refine S.op (S.callP Tryd.en95 (vs := [_]) ⟨rfl, trivial⟩ (fun w hs => isNaN32_P y w) rfl ?_)
  refine S.op (S.q (q_assign rfl) rfl rfl ?_)
  first | with_reducible refine S.nilK ?_ | refine S.nil ?_
  refine hK3 _ _ ?_
  refine S.seq fun K4 hK4 => ?_
  refine S.seq fun K5 hK5 => ?_
  refine S.region rfl ?_
  refine S.op (S.q (q_move rfl) rfl rfl ?_)
  first | with_reducible refine S.nilK ?_ | refine S.nil ?_
  refine hK5 _ _ ?_
  refine S.condF rfl ?_
  refine S.skip ?_
  with_reducible repeat (first | refine S.then_n ?_ | refine S.then_x ?_ | refine S.then_r ?_ | refine S.inBlock_n ?_ | refine S.inBlock_r ?_ | refine S.inBlock_x rfl ?_ | refine S.noGoto_r ?_ | refine S.noGoto_n ?_ | refine S.noGoto_x ?_)
  refine hK4 _ _ ?_
  refine S.seq fun K6 hK6 => ?_
  refine S.seq fun K7 hK7 => ?_
  refine S.region rfl ?_
  refine S.op (S.q (q_move rfl) rfl rfl ?_)
  first | with_reducible refine S.nilK ?_ | refine S.nil ?_
  refine hK7 _ _ ?_
  refine S.condF rfl ?_
  refine S.skip ?_
  with_reducible repeat (first | refine S.then_n ?_ | refine S.then_x ?_ | refine S.then_r ?_ | refine S.inBlock_n ?_ | refine S.inBlock_r ?_ | refine S.inBlock_x rfl ?_ | refine S.noGoto_r ?_ | refine S.noGoto_n ?_ | refine S.noGoto_x ?_)
  refine hK6 _ _ ?_
  refine S.seq fun K8 hK8 => ?_
  refine S.seq fun K9 hK9 => ?_
  refine S.region rfl ?_
  refine S.op (S.q (q_move rfl) rfl rfl ?_)
  refine S.op (S.q (q_move rfl) rfl rfl ?_)
  refine S.op (S.q (q_lt rfl rfl) rfl rfl ?_)
  first | with_reducible refine S.nilK ?_ | refine S.nil ?_
  refine hK9 _ _ ?_
  refine S.condD rfl (fun h4 => ?_) (fun h4 => ?_)
  · refine S.seq fun K10 hK10 => ?_
    refine S.region rfl ?_
    refine S.op (S.q (q_assign rfl) rfl rfl ?_)
    first | with_reducible refine S.nilK ?_ | refine S.nil ?_
    refine hK10 _ _ ?_
    refine S.ret ?_
    with_reducible repeat (first | refine S.then_n ?_ | refine S.then_x ?_ | refine S.then_r ?_ | refine S.inBlock_n ?_ | refine S.inBlock_r ?_ | refine S.inBlock_x rfl ?_ | refine S.noGoto_r ?_ | refine S.noGoto_n ?_ | refine S.noGoto_x ?_)
    exact S.fin (rs := [_]) (vs := [_]) Tryd.results87 (⟨rfl, trivial⟩)  (⟨by simp only [resV, cmpI]; rw [if_pos (by assumption)], rfl⟩) Sub.ent
  · refine S.skip ?_
    with_reducible repeat (first | refine S.then_n ?_ | refine S.then_x ?_ | refine S.then_r ?_ | refine S.inBlock_n ?_ | refine S.inBlock_r ?_ | refine S.inBlock_x rfl ?_ | refine S.noGoto_r ?_ | refine S.noGoto_n ?_ | refine S.noGoto_x ?_)
    refine hK8 _ _ ?_
    refine S.seq fun K11 hK11 => ?_
    refine S.seq fun K12 hK12 => ?_
    refine S.region rfl ?_
    refine S.op (S.q (q_move rfl) rfl rfl ?_)
    refine S.op (S.q (q_move rfl) rfl rfl ?_)
    refine S.op (S.q (q_gt rfl rfl) rfl rfl ?_)
    first | with_reducible refine S.nilK ?_ | refine S.nil ?_
    refine hK12 _ _ ?_
    refine S.condD rfl (fun h5 => ?_) (fun h5 => ?_)
    · refine S.seq fun K13 hK13 => ?_
      refine S.region rfl ?_
      refine S.op (S.q (q_assign rfl) rfl rfl ?_)
      first | with_reducible refine S.nilK ?_ | refine S.nil ?_
      refine hK13 _ _ ?_
      refine S.ret ?_
      with_reducible repeat (first | refine S.then_n ?_ | refine S.then_x ?_ | refine S.then_r ?_ | refine S.inBlock_n ?_ | refine S.inBlock_r ?_ | refine S.inBlock_x rfl ?_ | refine S.noGoto_r ?_ | refine S.noGoto_n ?_ | refine S.noGoto_x ?_)
      exact S.fin (rs := [_]) (vs := [_]) Tryd.results87 (⟨rfl, trivial⟩)  (⟨by simp only [resV, cmpI]; rw [if_neg (by assumption), if_pos (by assumption)], rfl⟩) Sub.ent
    · refine S.skip ?_
      with_reducible repeat (first | refine S.then_n ?_ | refine S.then_x ?_ | refine S.then_r ?_ | refine S.inBlock_n ?_ | refine S.inBlock_r ?_ | refine S.inBlock_x rfl ?_ | refine S.noGoto_r ?_ | refine S.noGoto_n ?_ | refine S.noGoto_x ?_)
      refine hK11 _ _ ?_
      refine S.seq fun K14 hK14 => ?_
      refine S.region rfl ?_
      refine S.op (S.q (q_assign rfl) rfl rfl ?_)
      first | with_reducible refine S.nilK ?_ | refine S.nil ?_
      refine hK14 _ _ ?_
      refine S.ret ?_
      with_reducible repeat (first | refine S.then_n ?_ | refine S.then_x ?_ | refine S.then_r ?_ | refine S.inBlock_n ?_ | refine S.inBlock_r ?_ | refine S.inBlock_x rfl ?_ | refine S.noGoto_r ?_ | refine S.noGoto_n ?_ | refine S.noGoto_x ?_)
      exact S.fin (rs := [_]) (vs := [_]) Tryd.results87 (⟨rfl, trivial⟩)  (⟨by simp only [resV, cmpI]; rw [if_neg (by assumption), if_neg (by assumption)], rfl⟩) Sub.ent
theorem Compare64_S (x y : Int) : Spec Tryd.prog 40 [.int .i64 x, .int .i64 y] [] fun Γ v Θ => v = .int .i64 (cmpI x y) ∧ Θ = Γ := by
  refine Spec.of_body Tryd.func40 rfl Tryd.ntmps40 rfl ?_
  intro w0 Γ
  show S _ w0 [(0, .int .i64 x), (1, .int .i64 y)] Γ _
  refine S.seq fun K1 hK1 => ?_
  refine S.region rfl ?_
  refine S.op (S.q (q_assign rfl) rfl rfl ?_)
  first | with_reducible refine S.nilK ?_ | refine S.nil ?_
  refine hK1 _ _ ?_
  refine S.seq fun K2 hK2 => ?_
  refine S.region rfl ?_
  refine S.op (S.q (q_move rfl) rfl rfl ?_)
  refine S.op (S.call Tryd.en75 (vs := [_]) ⟨rfl, trivial⟩ (isNaN64_S x) rfl ?_)
  rintro v Θ ⟨rfl, rfl⟩
  refine S.op (S.q (q_assign rfl) rfl rfl ?_)
  first | with_reducible refine S.nilK ?_ | refine S.nil ?_
  refine hK2 _ _ ?_
  refine S.seq fun K3 hK3 => ?_
  refine S.region rfl ?_
  refine S.op (S.q (q_move rfl) rfl rfl ?_)
  refine S.op (S.call Tryd.en75 (vs := [_]) ⟨rfl, trivial⟩ (isNaN64_S y) rfl ?_)
  rintro v Θ ⟨rfl, rfl⟩
  refine S.op (S.q (q_assign rfl) rfl rfl ?_)
  first | with_reducible refine S.nilK ?_ | refine S.nil ?_
  refine hK3 _ _ ?_
  refine S.seq fun K4 hK4 => ?_
  refine S.seq fun K5 hK5 => ?_
  refine S.region rfl ?_
  refine S.op (S.q (q_move rfl) rfl rfl ?_)
  first | with_reducible refine S.nilK ?_ | refine S.nil ?_
  refine hK5 _ _ ?_
  refine S.condF rfl ?_
  refine S.skip ?_
  with_reducible repeat (first | refine S.then_n ?_ | refine S.then_x ?_ | refine S.then_r ?_ | refine S.inBlock_n ?_ | refine S.inBlock_r ?_ | refine S.inBlock_x rfl ?_ | refine S.noGoto_r ?_ | refine S.noGoto_n ?_ | refine S.noGoto_x ?_)
  refine hK4 _ _ ?_
  refine S.seq fun K6 hK6 => ?_
  refine S.seq fun K7 hK7 => ?_
  refine S.region rfl ?_
  refine S.op (S.q (q_move rfl) rfl rfl ?_)
  first | with_reducible refine S.nilK ?_ | refine S.nil ?_
  refine hK7 _ _ ?_
  refine S.condF rfl ?_
  refine S.skip ?_
  with_reducible repeat (first | refine S.then_n ?_ | refine S.then_x ?_ | refine S.then_r ?_ | refine S.inBlock_n ?_ | refine S.inBlock_r ?_ | refine S.inBlock_x rfl ?_ | refine S.noGoto_r ?_ | refine S.noGoto_n ?_ | refine S.noGoto_x ?_)
  refine hK6 _ _ ?_
  refine S.seq fun K8 hK8 => ?_
  refine S.seq fun K9 hK9 => ?_
  refine S.region rfl ?_
  refine S.op (S.q (q_move rfl) rfl rfl ?_)
  refine S.op (S.q (q_move rfl) rfl rfl ?_)
  refine S.op (S.q (q_lt rfl rfl) rfl rfl ?_)
  first | with_reducible refine S.nilK ?_ | refine S.nil ?_
  refine hK9 _ _ ?_
  refine S.condD rfl (fun h4 => ?_) (fun h4 => ?_)
  · refine S.seq fun K10 hK10 => ?_
    refine S.region rfl ?_
    refine S.op (S.q (q_assign rfl) rfl rfl ?_)
    first | with_reducible refine S.nilK ?_ | refine S.nil ?_
    refine hK10 _ _ ?_
    refine S.ret ?_
    with_reducible repeat (first | refine S.then_n ?_ | refine S.then_x ?_ | refine S.then_r ?_ | refine S.inBlock_n ?_ | refine S.inBlock_r ?_ | refine S.inBlock_x rfl ?_ | refine S.noGoto_r ?_ | refine S.noGoto_n ?_ | refine S.noGoto_x ?_)
    exact S.fin (rs := [_]) (vs := [_]) Tryd.results40 (⟨rfl, trivial⟩)  (⟨by simp only [resV, cmpI]; rw [if_pos (by assumption)], rfl⟩) Sub.ent
  · refine S.skip ?_
    with_reducible repeat (first | refine S.then_n ?_ | refine S.then_x ?_ | refine S.then_r ?_ | refine S.inBlock_n ?_ | refine S.inBlock_r ?_ | refine S.inBlock_x rfl ?_ | refine S.noGoto_r ?_ | refine S.noGoto_n ?_ | refine S.noGoto_x ?_)
    refine hK8 _ _ ?_
    refine S.seq fun K11 hK11 => ?_
    refine S.seq fun K12 hK12 => ?_
    refine S.region rfl ?_
    refine S.op (S.q (q_move rfl) rfl rfl ?_)
    refine S.op (S.q (q_move rfl) rfl rfl ?_)
    refine S.op (S.q (q_gt rfl rfl) rfl rfl ?_)
    first | with_reducible refine S.nilK ?_ | refine S.nil ?_
    refine hK12 _ _ ?_
    refine S.condD rfl (fun h5 => ?_) (fun h5 => ?_)
    · refine S.seq fun K13 hK13 => ?_
      refine S.region rfl ?_
      refine S.op (S.q (q_assign rfl) rfl rfl ?_)
      first | with_reducible refine S.nilK ?_ | refine S.nil ?_
      refine hK13 _ _ ?_
      refine S.ret ?_
      with_reducible repeat (first | refine S.then_n ?_ | refine S.then_x ?_ | refine S.then_r ?_ | refine S.inBlock_n ?_ | refine S.inBlock_r ?_ | refine S.inBlock_x rfl ?_ | refine S.noGoto_r ?_ | refine S.noGoto_n ?_ | refine S.noGoto_x ?_)
      exact S.fin (rs := [_]) (vs := [_]) Tryd.results40 (⟨rfl, trivial⟩)  (⟨by simp only [resV, cmpI]; rw [if_neg (by assumption), if_pos (by assumption)], rfl⟩) Sub.ent
    · refine S.skip ?_
      with_reducible repeat (first | refine S.then_n ?_ | refine S.then_x ?_ | refine S.then_r ?_ | refine S.inBlock_n ?_ | refine S.inBlock_r ?_ | refine S.inBlock_x rfl ?_ | refine S.noGoto_r ?_ | refine S.noGoto_n ?_ | refine S.noGoto_x ?_)
      refine hK11 _ _ ?_
      refine S.seq fun K14 hK14 => ?_
      refine S.region rfl ?_
      refine S.op (S.q (q_assign rfl) rfl rfl ?_)
      first | with_reducible refine S.nilK ?_ | refine S.nil ?_
      refine hK14 _ _ ?_
      refine S.ret ?_
      with_reducible repeat (first | refine S.then_n ?_ | refine S.then_x ?_ | refine S.then_r ?_ | refine S.inBlock_n ?_ | refine S.inBlock_r ?_ | refine S.inBlock_x rfl ?_ | refine S.noGoto_r ?_ | refine S.noGoto_n ?_ | refine S.noGoto_x ?_)
      exact S.fin (rs := [_]) (vs := [_]) Tryd.results40 (⟨rfl, trivial⟩)  (⟨by simp only [resV, cmpI]; rw [if_neg (by assumption), if_neg (by assumption)], rfl⟩) Sub.ent
/-- The first that isn't 0. -/
def orI : List Int → Int
  | [] => 0
  | x :: l => if x ≠ 0 then x else orI l
theorem Or_P (s : SV) (l : List Int) (W : World) (hn : s.n = l.length) (h0 : SlAt W s.v l.length 1 (ints l)) : PureS Tryd.prog 39 [s.v] W (.int .i64 (orI l)) := by
  have hm0 := slAt_cap h0
  unfold maxLen at hm0
  refine Spec.of_body Tryd.func39 rfl Tryd.ntmps39 rfl ?_
  intro w0 Γ
  show S _ w0 [(0, s.v)] (old W :: Γ) _
  refine S.seq fun K1 hK1 => ?_
  refine S.region rfl ?_
  refine S.op (S.q (q_assign rfl) rfl rfl ?_)
  first | with_reducible refine S.nilK ?_ | refine S.nil ?_
  refine hK1 _ _ ?_
  refine S.seq fun K2 hK2 => ?_
  refine S.region rfl ?_
  refine S.op (S.q (q_assign rfl) rfl rfl ?_)
  first | with_reducible refine S.nilK ?_ | refine S.nil ?_
  refine hK2 _ _ ?_
  refine S.seq fun K3 hK3 => ?_
  refine S.seq fun K4 hK4 => ?_
  refine S.region rfl ?_
  refine S.op (S.q (q_move rfl) rfl rfl ?_)
  refine S.op (S.q (q_len Tryd.underlying69 rfl) rfl rfl ?_)
  refine S.op (S.q (q_move rfl) rfl rfl ?_)
  first | with_reducible refine S.nilK ?_ | refine S.nil ?_
  refine hK4 _ _ ?_
  refine S.block ?_
  refine S.loop (fun m ρ' Γ' => ∃ k : Nat, m + k = l.length ∧ orI l = orI (l.drop k) ∧ ρ' = [(3, .int .i64 0), (6, s.v), (7, .int .i64 s.n), (8, .int .i64 k)] ∧ Γ' = old W :: Γ) (m := _) (ρ0 := _) (Γ0 := _) (⟨0, rfl, rfl, rfl, rfl⟩) (by repeat (first | exact trivial | refine ⟨rfl, ?_⟩)) Sub.ent ?_
  rintro m ρ' Γ' ⟨k, hmk, hor, rfl, rfl⟩
  refine S.seq fun K5 hK5 => ?_
  refine S.region rfl ?_
  refine S.op (S.q (q_lt rfl rfl) rfl rfl ?_)
  first | with_reducible refine S.nilK ?_ | refine S.nil ?_
  refine hK5 _ _ ?_
  refine S.seq fun K6 hK6 => ?_
  refine S.condD rfl (fun h1 => ?_) (fun h1 => ?_)
  · obtain ⟨x, hx⟩ := getE (l := l) (i := k) (by omega)
    obtain ⟨b, off, hb, hcell⟩ := slAt_some h0 (by omega)
    have hxd : l.drop k = x :: l.drop (k + 1) := by
      have hkl := (List.getElem?_eq_some_iff.1 hx)
      rw [List.drop_eq_getElem_cons hkl.1, hkl.2]
    refine S.skip ?_
    with_reducible repeat (first | refine S.then_n ?_ | refine S.then_x ?_ | refine S.then_r ?_ | refine S.inBlock_n ?_ | refine S.inBlock_r ?_ | refine S.inBlock_x rfl ?_ | refine S.noGoto_r ?_ | refine S.noGoto_n ?_ | refine S.noGoto_x ?_)
    refine hK6 _ _ ?_
    refine S.seq fun K7 hK7 => ?_
    refine S.block ?_
    refine S.seq fun K8 hK8 => ?_
    refine S.region rfl ?_
    refine S.op (S.q (q_indexO (k) Tryd.el69 rfl hb rfl rfl (by omega)) rfl rfl ?_)
    refine S.op (S.q (q_loadW Tryd.at3 rfl (hcell _ _ (by rw [Nat.mul_one, List.getElem?_map, hx]; rfl))) rfl rfl ?_)
    refine S.op (S.q (q_assign rfl) rfl rfl ?_)
    first | with_reducible refine S.nilK ?_ | refine S.nil ?_
    refine hK8 _ _ ?_
    refine S.seq fun K9 hK9 => ?_
    refine S.region rfl ?_
    refine S.op (S.q (q_move rfl) rfl rfl ?_)
    refine S.op (S.q (q_move rfl) rfl rfl ?_)
    refine S.op (S.q (q_ne rfl rfl) rfl rfl ?_)
    first | with_reducible refine S.nilK ?_ | refine S.nil ?_
    refine hK9 _ _ ?_
    refine S.condD rfl (fun h2 => ?_) (fun h2 => ?_)
    · refine S.seq fun K10 hK10 => ?_
      refine S.region rfl ?_
      refine S.op (S.q (q_move rfl) rfl rfl ?_)
      refine S.op (S.q (q_assign rfl) rfl rfl ?_)
      first | with_reducible refine S.nilK ?_ | refine S.nil ?_
      refine hK10 _ _ ?_
      refine S.ret ?_
      with_reducible repeat (first | refine S.then_n ?_ | refine S.then_x ?_ | refine S.then_r ?_ | refine S.inBlock_n ?_ | refine S.inBlock_r ?_ | refine S.inBlock_x rfl ?_ | refine S.noGoto_r ?_ | refine S.noGoto_n ?_ | refine S.noGoto_x ?_)
      exact S.fin (rs := [_]) (vs := [_]) Tryd.results39 (⟨rfl, trivial⟩)  (⟨by simp only [resV]; rw [hor, hxd, orI, if_pos (by assumption)], rfl⟩) Sub.ent
    · refine S.skip ?_
      with_reducible repeat (first | refine S.then_n ?_ | refine S.then_x ?_ | refine S.then_r ?_ | refine S.inBlock_n ?_ | refine S.inBlock_r ?_ | refine S.inBlock_x rfl ?_ | refine S.noGoto_r ?_ | refine S.noGoto_n ?_ | refine S.noGoto_x ?_)
      with_reducible repeat (first | refine S.then_n ?_ | refine S.then_x ?_ | refine S.then_r ?_ | refine S.inBlock_n ?_ | refine S.inBlock_r ?_ | refine S.inBlock_x rfl ?_ | refine S.noGoto_r ?_ | refine S.noGoto_n ?_ | refine S.noGoto_x ?_)
      refine hK7 _ _ ?_
      refine S.region rfl ?_
      refine S.op (S.q (q_add rfl rfl (inI64 (by omega) (by omega))) rfl rfl ?_)
      refine S.op (S.q (q_move rfl) rfl rfl ?_)
      first | with_reducible refine S.nilK ?_ | refine S.nil ?_
      with_reducible repeat (first | refine S.then_n ?_ | refine S.then_x ?_ | refine S.then_r ?_ | refine S.inBlock_n ?_ | refine S.inBlock_r ?_ | refine S.inBlock_x rfl ?_ | refine S.noGoto_r ?_ | refine S.noGoto_n ?_ | refine S.noGoto_x ?_)
      exact S.next (m - 1) (⟨k + 1, by omega, by rw [hor, hxd, orI, if_neg (by assumption)], rfl, rfl⟩) (by omega) (by repeat (first | exact trivial | refine ⟨rfl, ?_⟩)) Sub.ent
  · refine S.exit ?_
    with_reducible repeat (first | refine S.then_n ?_ | refine S.then_x ?_ | refine S.then_r ?_ | refine S.inBlock_n ?_ | refine S.inBlock_r ?_ | refine S.inBlock_x rfl ?_ | refine S.noGoto_r ?_ | refine S.noGoto_n ?_ | refine S.noGoto_x ?_)
    with_reducible refine S.inBlock_s ?_
    with_reducible repeat (first | refine S.then_n ?_ | refine S.then_x ?_ | refine S.then_r ?_ | refine S.inBlock_n ?_ | refine S.inBlock_r ?_ | refine S.inBlock_x rfl ?_ | refine S.noGoto_r ?_ | refine S.noGoto_n ?_ | refine S.noGoto_x ?_)
    refine hK3 _ _ ?_
    refine S.seq fun K11 hK11 => ?_
    refine S.region rfl ?_
    refine S.op (S.q (q_move rfl) rfl rfl ?_)
    refine S.op (S.q (q_assign rfl) rfl rfl ?_)
    first | with_reducible refine S.nilK ?_ | refine S.nil ?_
    refine hK11 _ _ ?_
    refine S.ret ?_
    with_reducible repeat (first | refine S.then_n ?_ | refine S.then_x ?_ | refine S.then_r ?_ | refine S.inBlock_n ?_ | refine S.inBlock_r ?_ | refine S.inBlock_x rfl ?_ | refine S.noGoto_r ?_ | refine S.noGoto_n ?_ | refine S.noGoto_x ?_)
    exact S.fin (rs := [_]) (vs := [_]) Tryd.results39 (⟨rfl, trivial⟩)  (⟨by simp only [resV]; rw [hor, List.drop_eq_nil_of_le (by omega), orI], rfl⟩) Sub.ent
theorem Or_S (R : Assn) (s : SV) (l : List Int) (hn : s.n = l.length) (hR : RdS R s s.n 1 (ints l)) : Spec Tryd.prog 39 [s.v] [R] fun Γ v Θ => v = .int .i64 (orI l) ∧ Θ = R :: Γ := by
  refine Spec.of_body Tryd.func39 rfl Tryd.ntmps39 rfl ?_
  intro w0 Γ
  show S _ w0 [(0, s.v)] (R :: Γ) _
  refine S.rCap hR fun _ hc1 hc2 => ?_
  refine S.seq fun K1 hK1 => ?_
  refine S.region rfl ?_
  refine S.op (S.q (q_assign rfl) rfl rfl ?_)
  first | with_reducible refine S.nilK ?_ | refine S.nil ?_
  refine hK1 _ _ ?_
  refine S.seq fun K2 hK2 => ?_
  refine S.region rfl ?_
  refine S.op (S.q (q_assign rfl) rfl rfl ?_)
  first | with_reducible refine S.nilK ?_ | refine S.nil ?_
  refine hK2 _ _ ?_
  refine S.seq fun K3 hK3 => ?_
  refine S.seq fun K4 hK4 => ?_
  refine S.region rfl ?_
  refine S.op (S.q (q_move rfl) rfl rfl ?_)
  refine S.op (S.q (q_len Tryd.underlying69 rfl) rfl rfl ?_)
  refine S.op (S.q (q_move rfl) rfl rfl ?_)
  first | with_reducible refine S.nilK ?_ | refine S.nil ?_
  refine hK4 _ _ ?_
  refine S.block ?_
  refine S.loop (fun m ρ' Γ' => ∃ k : Nat, m + k = l.length ∧ orI l = orI (l.drop k) ∧ ρ' = [(3, .int .i64 0), (6, s.v), (7, .int .i64 s.n), (8, .int .i64 k)] ∧ Γ' = R :: Γ) (m := _) (ρ0 := _) (Γ0 := _) (⟨0, rfl, rfl, rfl, rfl⟩) (by repeat (first | exact trivial | refine ⟨rfl, ?_⟩)) Sub.ent ?_
  rintro m ρ' Γ' ⟨k, hmk, hor, rfl, rfl⟩
  refine S.seq fun K5 hK5 => ?_
  refine S.region rfl ?_
  refine S.op (S.q (q_lt rfl rfl) rfl rfl ?_)
  first | with_reducible refine S.nilK ?_ | refine S.nil ?_
  refine hK5 _ _ ?_
  refine S.seq fun K6 hK6 => ?_
  refine S.condD rfl (fun h1 => ?_) (fun h1 => ?_)
  · obtain ⟨x, hx⟩ := getE (l := l) (i := k) (by omega)
    refine S.rSome hR (by omega) fun sb so hsa => ?_
    have hxd : l.drop k = x :: l.drop (k + 1) := by
      have hkl := (List.getElem?_eq_some_iff.1 hx)
      rw [List.drop_eq_getElem_cons hkl.1, hkl.2]
    refine S.skip ?_
    with_reducible repeat (first | refine S.then_n ?_ | refine S.then_x ?_ | refine S.then_r ?_ | refine S.inBlock_n ?_ | refine S.inBlock_r ?_ | refine S.inBlock_x rfl ?_ | refine S.noGoto_r ?_ | refine S.noGoto_n ?_ | refine S.noGoto_x ?_)
    refine hK6 _ _ ?_
    refine S.seq fun K7 hK7 => ?_
    refine S.block ?_
    refine S.seq fun K8 hK8 => ?_
    refine S.region rfl ?_
    refine S.op (S.q (q_indexO (k) Tryd.el69 rfl hsa rfl rfl (by omega)) rfl rfl ?_)
    refine S.op (S.q (q_loadR hR k Tryd.at3 rfl hsa (by omega) (by omega) (ints_get hx)) rfl rfl ?_)
    refine S.op (S.q (q_assign rfl) rfl rfl ?_)
    first | with_reducible refine S.nilK ?_ | refine S.nil ?_
    refine hK8 _ _ ?_
    refine S.seq fun K9 hK9 => ?_
    refine S.region rfl ?_
    refine S.op (S.q (q_move rfl) rfl rfl ?_)
    refine S.op (S.q (q_move rfl) rfl rfl ?_)
    refine S.op (S.q (q_ne rfl rfl) rfl rfl ?_)
    first | with_reducible refine S.nilK ?_ | refine S.nil ?_
    refine hK9 _ _ ?_
    refine S.condD rfl (fun h2 => ?_) (fun h2 => ?_)
    · refine S.seq fun K10 hK10 => ?_
      refine S.region rfl ?_
      refine S.op (S.q (q_move rfl) rfl rfl ?_)
      refine S.op (S.q (q_assign rfl) rfl rfl ?_)
      first | with_reducible refine S.nilK ?_ | refine S.nil ?_
      refine hK10 _ _ ?_
      refine S.ret ?_
      with_reducible repeat (first | refine S.then_n ?_ | refine S.then_x ?_ | refine S.then_r ?_ | refine S.inBlock_n ?_ | refine S.inBlock_r ?_ | refine S.inBlock_x rfl ?_ | refine S.noGoto_r ?_ | refine S.noGoto_n ?_ | refine S.noGoto_x ?_)
      exact S.fin (rs := [_]) (vs := [_]) Tryd.results39 (⟨rfl, trivial⟩)  (⟨by simp only [resV]; rw [hor, hxd, orI, if_pos (by assumption)], rfl⟩) Sub.ent
    · refine S.skip ?_
      with_reducible repeat (first | refine S.then_n ?_ | refine S.then_x ?_ | refine S.then_r ?_ | refine S.inBlock_n ?_ | refine S.inBlock_r ?_ | refine S.inBlock_x rfl ?_ | refine S.noGoto_r ?_ | refine S.noGoto_n ?_ | refine S.noGoto_x ?_)
      with_reducible repeat (first | refine S.then_n ?_ | refine S.then_x ?_ | refine S.then_r ?_ | refine S.inBlock_n ?_ | refine S.inBlock_r ?_ | refine S.inBlock_x rfl ?_ | refine S.noGoto_r ?_ | refine S.noGoto_n ?_ | refine S.noGoto_x ?_)
      refine hK7 _ _ ?_
      refine S.region rfl ?_
      refine S.op (S.q (q_add rfl rfl (inI64 (by omega) (by omega))) rfl rfl ?_)
      refine S.op (S.q (q_move rfl) rfl rfl ?_)
      first | with_reducible refine S.nilK ?_ | refine S.nil ?_
      with_reducible repeat (first | refine S.then_n ?_ | refine S.then_x ?_ | refine S.then_r ?_ | refine S.inBlock_n ?_ | refine S.inBlock_r ?_ | refine S.inBlock_x rfl ?_ | refine S.noGoto_r ?_ | refine S.noGoto_n ?_ | refine S.noGoto_x ?_)
      exact S.next (m - 1) (⟨k + 1, by omega, by rw [hor, hxd, orI, if_neg (by assumption)], rfl, rfl⟩) (by omega) (by repeat (first | exact trivial | refine ⟨rfl, ?_⟩)) Sub.ent
  · refine S.exit ?_
    with_reducible repeat (first | refine S.then_n ?_ | refine S.then_x ?_ | refine S.then_r ?_ | refine S.inBlock_n ?_ | refine S.inBlock_r ?_ | refine S.inBlock_x rfl ?_ | refine S.noGoto_r ?_ | refine S.noGoto_n ?_ | refine S.noGoto_x ?_)
    with_reducible refine S.inBlock_s ?_
    with_reducible repeat (first | refine S.then_n ?_ | refine S.then_x ?_ | refine S.then_r ?_ | refine S.inBlock_n ?_ | refine S.inBlock_r ?_ | refine S.inBlock_x rfl ?_ | refine S.noGoto_r ?_ | refine S.noGoto_n ?_ | refine S.noGoto_x ?_)
    refine hK3 _ _ ?_
    refine S.seq fun K11 hK11 => ?_
    refine S.region rfl ?_
    refine S.op (S.q (q_move rfl) rfl rfl ?_)
    refine S.op (S.q (q_assign rfl) rfl rfl ?_)
    first | with_reducible refine S.nilK ?_ | refine S.nil ?_
    refine hK11 _ _ ?_
    refine S.ret ?_
    with_reducible repeat (first | refine S.then_n ?_ | refine S.then_x ?_ | refine S.then_r ?_ | refine S.inBlock_n ?_ | refine S.inBlock_r ?_ | refine S.inBlock_x rfl ?_ | refine S.noGoto_r ?_ | refine S.noGoto_n ?_ | refine S.noGoto_x ?_)
    exact S.fin (rs := [_]) (vs := [_]) Tryd.results39 (⟨rfl, trivial⟩)  (⟨by simp only [resV]; rw [hor, List.drop_eq_nil_of_le (by omega), orI], rfl⟩) Sub.ent
/-- How candidates stand to each other. -/
def ordC (a b : Cd) : Int := orI [cmpI a.2 b.2, cmpI (b.1 : Int) (a.1 : Int)]
def bfC (a b : Cd) : Bool := decide (a.2 < b.2 ∨ (a.2 = b.2 ∧ b.1 < a.1))
theorem ltC (a b : Cd) : Go.Proofs.ltOf ordC a b = bfC a b := by
  show decide (ordC a b < 0) = bfC a b
  unfold ordC orI orI orI cmpI bfC
  refine decide_eq_decide.2 ?_
  split <;> split <;> (try split) <;> (try split) <;> (try split) <;> omega
theorem swoC : Go.Sort.SWO (Go.Proofs.ltOf ordC) where
  irrefl x := by rw [ltC]; exact decide_eq_false (by omega)
  trans x y z h1 h2 := by
    rw [ltC] at *
    simp only [bfC, decide_eq_true_eq] at *
    omega
  ntrans x y z h1 h2 := by
    rw [ltC] at *
    simp only [bfC, decide_eq_false_iff_not] at *
    omega
theorem order_P (x y : Cd) (W : World) : PureS Tryd.prog 85 [.agg (cdC x).toArray, .agg (cdC y).toArray] W (.int .i64 (ordC x y)) := by
  refine Spec.of_body Tryd.func85 rfl Tryd.ntmps85 rfl ?_
  intro w0 Γ
  show S _ w0 [(0, .agg (cdC x).toArray), (1, .agg (cdC y).toArray)] (old W :: Γ) _
  refine S.seq fun K1 hK1 => ?_
  refine S.region rfl ?_
  refine S.op (S.box (cs := [_, _]) rfl rfl rfl ?_)
  intro b2
  refine S.op (S.box (cs := [_, _]) rfl rfl rfl ?_)
  intro b3
  refine S.op (S.q (q_assign rfl) rfl rfl ?_)
  first | with_reducible refine S.nilK ?_ | refine S.nil ?_
  refine hK1 _ _ ?_
  refine S.seq fun K2 hK2 => ?_
  refine S.draw ([blk b2 86 (cdC x).toArray, blk b3 86 (cdC y).toArray]) [] Tryd.mixed ?_
  refine S.dr_take 0 [] rfl (by kernel_rfl) rfl rfl rfl (q_field Tryd.fo86_1 rfl) Sub.ent ?_
  refine S.dr_take 1 [] rfl (by kernel_rfl) rfl rfl rfl (q_load Tryd.at5 rfl rfl) Sub.ent ?_
  refine S.dr_take 2 [] rfl (by kernel_rfl) rfl rfl rfl (q_field Tryd.fo86_1 rfl) Sub.ent ?_
  refine S.dr_take 3 [] rfl (by kernel_rfl) rfl rfl rfl (q_load Tryd.at5 rfl rfl) Sub.ent ?_
  refine S.dr_take 5 [] rfl (by kernel_rfl) rfl rfl rfl (q_field Tryd.fo86_0 rfl) Sub.ent ?_
  refine S.dr_take 6 [] rfl (by kernel_rfl) rfl rfl rfl (q_load Tryd.at68 rfl rfl) Sub.ent ?_
  refine S.dr_take 7 [] rfl (by kernel_rfl) rfl rfl rfl (q_field Tryd.fo86_0 rfl) Sub.ent ?_
  refine S.dr_take 8 [] rfl (by kernel_rfl) rfl rfl rfl (q_load Tryd.at68 rfl rfl) Sub.ent ?_
  refine S.dr_1 (i := 4) (by kernel_rfl) rfl rfl ?_
  refine  (S.callP Tryd.en86 (vs := [_, _]) ⟨rfl, rfl, trivial⟩ (fun w hs => Compare8_P x.2 y.2 w) rfl ?_)
  refine S.dr_k rfl Sub.ent ?_
  refine S.dr_1 (i := 9) (by kernel_rfl) rfl rfl ?_
  refine  (S.callP Tryd.en87 (vs := [_, _]) ⟨rfl, rfl, trivial⟩ (fun w hs => Compare32_P (y.1 : Int) (x.1 : Int) w) rfl ?_)
  refine S.dr_k rfl Sub.ent ?_
  refine S.dr_1 (i := 10) (by kernel_rfl) rfl rfl ?_
  refine  (S.buildSlice (pvs := [(_, _), (_, _)]) [_, _] Tryd.underlying69 Tryd.inf3 rfl rfl ⟨⟨rfl, rfl⟩, ⟨rfl, rfl⟩, trivial⟩ rfl rfl ?_)
  intro b15
  refine S.dr_k rfl Sub.ent ?_
  refine S.dr_1 (i := 11) (by kernel_rfl) rfl rfl ?_
  refine  (S.callP Tryd.en39 (vs := [_]) ⟨rfl, trivial⟩ (fun w hs => Or_P ⟨some ⟨b15, 0, none⟩, 2, 2⟩ [cmpI x.2 y.2, cmpI (y.1 : Int) (x.1 : Int)] w rfl (blk_slAt (b := b15) rfl (show 2 ≤ maxLen by unfold maxLen; omega) w hs)) rfl ?_)
  refine S.dr_k rfl Sub.ent ?_
  refine S.dr_take 12 [] rfl (by kernel_rfl) rfl rfl rfl (q_assign rfl) Sub.ent ?_
  first | with_reducible refine S.dr_doneK (by kernel_rfl) ?_ | refine S.dr_done (by kernel_rfl) ?_
  refine hK2 _ _ ?_
  refine S.ret ?_
  with_reducible repeat (first | refine S.then_n ?_ | refine S.then_x ?_ | refine S.then_r ?_ | refine S.inBlock_n ?_ | refine S.inBlock_r ?_ | refine S.inBlock_x rfl ?_ | refine S.noGoto_r ?_ | refine S.noGoto_n ?_ | refine S.noGoto_x ?_)
  exact S.fin (rs := [_]) (vs := [_]) Tryd.results85 (⟨rfl, trivial⟩)  (⟨rfl, rfl⟩) Sub.ent
theorem SortC_S (s : SV) (l : List Cd) (hl : l.length ≤ 1000000) : Spec Tryd.prog 84 [s.v, .func (.func 85) #[] #[]] [own s 86 2 (l.flatMap cdC)] fun Γ _ Θ =>
    ∃ l' : List Cd, l'.Perm l ∧ l'.Pairwise (fun a b => bfC b a = false) ∧ Θ = own s 86 2 (l'.flatMap cdC) :: Γ := by
  have h := SortFunc_S Tryd.sort84 2 Tryd.isAgg86 Tryd.sizeOf86 cdC cdC_len (by omega) (fun x v hv => by simp only [cdC, List.mem_cons, List.not_mem_nil, or_false] at hv; rcases hv with rfl | rfl <;> rfl) ordC swoC 85 (enters_of Tryd.func85 (by kernel_rfl) rfl) order_P 86 s l (by omega)
  simp only [ltC] at h
  exact h
/-- Sorted, in one way alone where no job comes twice. -/
def srtC (l : List Cd) : List Cd := l.mergeSort fun a b => !bfC b a
theorem srtC_perm (l : List Cd) : (srtC l).Perm l := List.mergeSort_perm _ _
theorem srtC_eq {l l' : List Cd} (hnd : l.Pairwise (fun a b => a.1 ≠ b.1)) (hp : l'.Perm l) (hs : l'.Pairwise (fun a b => bfC b a = false)) : l' = srtC l := by
  have hs2 : (srtC l).Pairwise (fun a b => (!bfC b a) = true) := List.pairwise_mergeSort (fun a b c h1 h2 => by
      simp only [bfC, Bool.not_eq_true', decide_eq_false_iff_not] at *
      omega) (fun a b => by
      simp only [bfC, Bool.or_eq_true, Bool.not_eq_true', decide_eq_false_iff_not]
      omega) l
  refine List.Perm.eq_of_pairwise (le := fun a b : Cd => bfC b a = false) (fun a b ha hb h1 h2 => ?_) hs (hs2.imp fun h => by simpa using h) (hp.trans (srtC_perm l).symm)
  have ha : a ∈ l := hp.mem_iff.1 ha
  have hb : b ∈ l := (srtC_perm l).mem_iff.1 hb
  simp only [bfC, decide_eq_false_iff_not] at h1 h2
  have e1 : a.1 = b.1 := by omega
  refine Classical.byContradiction fun hne => ?_
  obtain ⟨i, hi, ei⟩ := List.getElem_of_mem ha
  obtain ⟨j, hj, ej⟩ := List.getElem_of_mem hb
  have hp := List.pairwise_iff_getElem.1 hnd
  by_cases e : i = j
  · subst e
    exact hne (ei.symm.trans ej)
  · rcases Nat.lt_or_gt_of_ne e with h | h
    · have h9 := hp i j hi hj h
      rw [ei, ej] at h9
      exact h9 e1
    · have h9 := hp j i hj hi h
      rw [ei, ej] at h9
      exact h9 e1.symm
end Go.Proofs.YtegjmmocnffpiaaDoor
/- Who has to make room: gives, jobs, top, lesser. -/
namespace Go.Proofs.YtegjmmocnffpiaaDoor
open Go.RowKit
set_option maxRecDepth 20000
/-- How many of the first q nodes of a list are up. -/
def upN (m : Mx) (l : List Nat) : Nat → Nat
  | 0 => 0
  | q + 1 => if isUpB m (l.getD q 0 : Nat) then upN m l q + 1 else upN m l q
theorem upN_le (m : Mx) (l : List Nat) : ∀ q, upN m l q ≤ q
  | 0 => Nat.le_refl _
  | q + 1 => by have := upN_le m l q; rw [upN]; split <;> omega
def givR (m : Mx) (j : Nat) : Nat := upN m (ofR m j).2.1 (ofR m j).2.1.length
theorem ofR_len (m : Mx) (j : Nat) : (ofR m j).2.1.length ≤ 16 := by
  unfold ofR
  cases look m.js j with
  | none => simp
  | some x => exact lst_len x.ns
theorem gives_S (b : Nat) (m : Mx) (j : Nat) {W : World} (hW : TabW W) : Spec Tryd.prog 74 [.pointer (some ⟨b, 0, none⟩), .int .u32 (j : Int)] [MI b m, old W] fun Γ v Θ => v = .int .i64 (givR m j : Nat) ∧ Θ = MI b m :: old W :: Γ := by
  refine Spec.of_body Tryd.func74 rfl Tryd.ntmps74 rfl ?_
  intro w0 Γ
  show S _ w0 [(0, .pointer (some ⟨b, 0, none⟩)), (1, .int .u32 (j : Int))] (MI b m :: old W :: Γ) _
  obtain ⟨nl, hnl⟩ : ∃ nl, nl = (ofR m j).2.1 := ⟨_, rfl⟩
  have hlen := ofR_len m j
  rw [← hnl] at hlen
  refine S.seq fun K1 hK1 => ?_
  refine S.region rfl ?_
  refine S.op (S.q (q_assign rfl) rfl rfl ?_)
  first | with_reducible refine S.nilK ?_ | refine S.nil ?_
  refine hK1 _ _ ?_
  refine S.seq fun K2 hK2 => ?_
  refine S.region rfl ?_
  refine S.op (S.q (q_assign rfl) rfl rfl ?_)
  first | with_reducible refine S.nilK ?_ | refine S.nil ?_
  refine hK2 _ _ ?_
  refine S.seq fun K3 hK3 => ?_
  refine S.region rfl ?_
  refine S.op (S.q (q_move rfl) rfl rfl ?_)
  refine S.op (S.q (q_move rfl) rfl rfl ?_)
  refine S.op (S.call Tryd.en72 (vs := [_, _]) ⟨rfl, rfl, trivial⟩ (Of_S b m j hW) rfl ?_)
  rintro v Θ ⟨sv, rfl, hsv, rfl⟩
  rw [← hnl] at hsv ⊢
  refine S.op (S.q (q_move rfl) rfl rfl ?_)
  refine S.op (S.q (q_extract rfl rfl) rfl rfl ?_)
  refine S.op (S.q (q_extract rfl rfl) rfl rfl ?_)
  refine S.op (S.q (q_extract rfl rfl) rfl rfl ?_)
  refine S.op (S.q (q_assign rfl) rfl rfl ?_)
  refine S.op (S.q (q_assign rfl) rfl rfl ?_)
  refine S.op (S.q (q_assign rfl) rfl rfl ?_)
  first | with_reducible refine S.nilK ?_ | refine S.nil ?_
  refine hK3 _ _ ?_
  refine S.seq fun K4 hK4 => ?_
  refine S.seq fun K5 hK5 => ?_
  refine S.region rfl ?_
  refine S.op (S.q (q_move rfl) rfl rfl ?_)
  refine S.op (S.q (q_len Tryd.underlying69 rfl) rfl rfl ?_)
  refine S.op (S.q (q_move rfl) rfl rfl ?_)
  first | with_reducible refine S.nilK ?_ | refine S.nil ?_
  refine hK5 _ _ ?_
  refine S.block ?_
  refine S.loop (fun q ρ' Γ' => ∃ i : Nat, q = nl.length - i ∧ i ≤ nl.length ∧ ρ' = [(0, .pointer (some ⟨b, 0, none⟩)), (5, .int .i64 (upN m nl i : Nat)), (18, sv.v), (19, .int .i64 sv.n), (20, .int .i64 (i : Int))] ∧ Γ' = own sv 3 1 (nds nl) :: MI b m :: old W :: Γ) (m := _) (ρ0 := _) (Γ0 := _) (⟨0, rfl, by omega, rfl, rfl⟩) (by repeat (first | exact trivial | refine ⟨rfl, ?_⟩)) Sub.ent ?_
  rintro q ρ' Γ' ⟨i, hq, hi, rfl, rfl⟩
  have hle := upN_le m nl i
  refine S.seq fun K6 hK6 => ?_
  refine S.region rfl ?_
  refine S.op (S.q (q_lt rfl rfl) rfl rfl ?_)
  first | with_reducible refine S.nilK ?_ | refine S.nil ?_
  refine hK6 _ _ ?_
  refine S.seq fun K7 hK7 => ?_
  refine S.condD rfl (fun h1 => ?_) (fun h1 => ?_)
  · refine S.ownSome sv (by omega) fun sb so hsa _ _ _ => ?_
    obtain ⟨x, hx⟩ := getE (show i < nl.length by omega)
    have hxd : nl.getD i 0 = x := by simp [List.getD, hx]
    refine S.skip ?_
    with_reducible repeat (first | refine S.then_n ?_ | refine S.then_x ?_ | refine S.then_r ?_ | refine S.inBlock_n ?_ | refine S.inBlock_r ?_ | refine S.inBlock_x rfl ?_ | refine S.noGoto_r ?_ | refine S.noGoto_n ?_ | refine S.noGoto_x ?_)
    refine hK7 _ _ ?_
    refine S.seq fun K8 hK8 => ?_
    refine S.block ?_
    refine S.seq fun K9 hK9 => ?_
    refine S.region rfl ?_
    refine S.op (S.q (q_indexO (i) Tryd.el69 rfl hsa rfl rfl (by omega)) rfl rfl ?_)
    refine S.op (S.q (q_loadOw (sv) (i) Tryd.at3 rfl hsa (by first | rfl | exact Nat.add_assoc _ _ _ | omega) (by rw [List.getElem?_map, hx]; rfl)) rfl rfl ?_)
    refine S.op (S.q (q_assign rfl) rfl rfl ?_)
    first | with_reducible refine S.nilK ?_ | refine S.nil ?_
    refine hK9 _ _ ?_
    refine S.seq fun K10 hK10 => ?_
    refine S.region rfl ?_
    refine S.op (S.q (q_move rfl) rfl rfl ?_)
    refine S.op (S.q (q_move rfl) rfl rfl ?_)
    refine S.op (S.call Tryd.en35 (vs := [_, _]) ⟨rfl, rfl, trivial⟩ (IsUp_S b m x) rfl ?_)
    rintro v Θ ⟨rfl, rfl⟩
    first | with_reducible refine S.nilK ?_ | refine S.nil ?_
    refine hK10 _ _ ?_
    refine S.cond rfl (fun h2 => ?_) (fun h2 => ?_)
    · have hs : upN m nl (i + 1) = upN m nl i + 1 := by rw [upN, hxd, if_pos h2]
      refine S.region rfl ?_
      refine S.op (S.q (q_move rfl) rfl rfl ?_)
      refine S.op (S.q (q_add rfl rfl (inI64 (by omega) (by omega))) rfl rfl ?_)
      refine S.op (S.q (q_assign rfl) rfl rfl ?_)
      first | with_reducible refine S.nilK ?_ | refine S.nil ?_
      with_reducible repeat (first | refine S.then_n ?_ | refine S.then_x ?_ | refine S.then_r ?_ | refine S.inBlock_n ?_ | refine S.inBlock_r ?_ | refine S.inBlock_x rfl ?_ | refine S.noGoto_r ?_ | refine S.noGoto_n ?_ | refine S.noGoto_x ?_)
      refine hK8 _ _ ?_
      refine S.region rfl ?_
      refine S.op (S.q (q_add rfl rfl (inI64 (by omega) (by omega))) rfl rfl ?_)
      refine S.op (S.q (q_move rfl) rfl rfl ?_)
      first | with_reducible refine S.nilK ?_ | refine S.nil ?_
      with_reducible repeat (first | refine S.then_n ?_ | refine S.then_x ?_ | refine S.then_r ?_ | refine S.inBlock_n ?_ | refine S.inBlock_r ?_ | refine S.inBlock_x rfl ?_ | refine S.noGoto_r ?_ | refine S.noGoto_n ?_ | refine S.noGoto_x ?_)
      first | exact S.next (q - 1) ⟨i + 1, by omega, by omega, by rw [hs], rfl⟩ (by omega) (by repeat (first | exact trivial | refine ⟨rfl, ?_⟩)) Sub.ent
    · have hs : upN m nl (i + 1) = upN m nl i := by rw [upN, hxd, if_neg (by rw [h2]; simp)]
      refine S.skip ?_
      with_reducible repeat (first | refine S.then_n ?_ | refine S.then_x ?_ | refine S.then_r ?_ | refine S.inBlock_n ?_ | refine S.inBlock_r ?_ | refine S.inBlock_x rfl ?_ | refine S.noGoto_r ?_ | refine S.noGoto_n ?_ | refine S.noGoto_x ?_)
      with_reducible repeat (first | refine S.then_n ?_ | refine S.then_x ?_ | refine S.then_r ?_ | refine S.inBlock_n ?_ | refine S.inBlock_r ?_ | refine S.inBlock_x rfl ?_ | refine S.noGoto_r ?_ | refine S.noGoto_n ?_ | refine S.noGoto_x ?_)
      refine hK8 _ _ ?_
      refine S.region rfl ?_
      refine S.op (S.q (q_add rfl rfl (inI64 (by omega) (by omega))) rfl rfl ?_)
      refine S.op (S.q (q_move rfl) rfl rfl ?_)
      first | with_reducible refine S.nilK ?_ | refine S.nil ?_
      with_reducible repeat (first | refine S.then_n ?_ | refine S.then_x ?_ | refine S.then_r ?_ | refine S.inBlock_n ?_ | refine S.inBlock_r ?_ | refine S.inBlock_x rfl ?_ | refine S.noGoto_r ?_ | refine S.noGoto_n ?_ | refine S.noGoto_x ?_)
      first | exact S.next (q - 1) ⟨i + 1, by omega, by omega, by rw [hs], rfl⟩ (by omega) (by repeat (first | exact trivial | refine ⟨rfl, ?_⟩)) Sub.ent
  · have hfin : upN m nl i = givR m j := by rw [givR, ← hnl, show i = nl.length by omega]
    rw [hfin]
    refine S.exit ?_
    with_reducible repeat (first | refine S.then_n ?_ | refine S.then_x ?_ | refine S.then_r ?_ | refine S.inBlock_n ?_ | refine S.inBlock_r ?_ | refine S.inBlock_x rfl ?_ | refine S.noGoto_r ?_ | refine S.noGoto_n ?_ | refine S.noGoto_x ?_)
    with_reducible refine S.inBlock_s ?_
    with_reducible repeat (first | refine S.then_n ?_ | refine S.then_x ?_ | refine S.then_r ?_ | refine S.inBlock_n ?_ | refine S.inBlock_r ?_ | refine S.inBlock_x rfl ?_ | refine S.noGoto_r ?_ | refine S.noGoto_n ?_ | refine S.noGoto_x ?_)
    refine hK4 _ _ ?_
    refine S.seq fun K11 hK11 => ?_
    refine S.region rfl ?_
    refine S.op (S.q (q_move rfl) rfl rfl ?_)
    refine S.op (S.q (q_assign rfl) rfl rfl ?_)
    first | with_reducible refine S.nilK ?_ | refine S.nil ?_
    refine hK11 _ _ ?_
    refine S.ret ?_
    with_reducible repeat (first | refine S.then_n ?_ | refine S.then_x ?_ | refine S.then_r ?_ | refine S.inBlock_n ?_ | refine S.inBlock_r ?_ | refine S.inBlock_x rfl ?_ | refine S.noGoto_r ?_ | refine S.noGoto_n ?_ | refine S.noGoto_x ?_)
    exact S.fin (rs := [_]) (vs := [_]) Tryd.results74 (⟨rfl, trivial⟩)  (⟨rfl, rfl⟩) Sub.ent
abbrev jobsR (l : List Cd) : List Nat := l.map (·.1)
theorem jobs_S (R : Assn) (s : SV) (l : List Cd) (hsn : s.n = l.length) (hl : l.length ≤ 1000) (hR : RdS R s s.n 2 (l.flatMap cdC)) : Spec Tryd.prog 42 [s.v] [R] fun Γ v Θ => ∃ u : SV, v = u.v ∧ u.n = l.length ∧ Θ = own u 68 1 (idsV (jobsR l)) :: R :: Γ := by
  refine Spec.of_body Tryd.func42 rfl Tryd.ntmps42 rfl ?_
  intro w0 Γ
  show S _ w0 [(0, s.v)] (R :: Γ) _
  refine S.rCap hR fun _ hc1 hc2 => ?_
  refine S.seq fun K1 hK1 => ?_
  refine S.region rfl ?_
  refine S.op (S.q (q_assign rfl) rfl rfl ?_)
  first | with_reducible refine S.nilK ?_ | refine S.nil ?_
  refine hK1 _ _ ?_
  refine S.seq fun K2 hK2 => ?_
  refine S.region rfl ?_
  refine S.op (S.q (q_assign rfl) rfl rfl ?_)
  first | with_reducible refine S.nilK ?_ | refine S.nil ?_
  refine hK2 _ _ ?_
  refine S.seq fun K3 hK3 => ?_
  refine S.seq fun K4 hK4 => ?_
  refine S.region rfl ?_
  refine S.ent (Ent.ownNil 68 1) ?_
  show S _ w0 _ (own SV.nil 68 1 (idsV (jobsR (l.take 0))) :: _) _
  refine S.op (S.q (q_move rfl) rfl rfl ?_)
  refine S.op (S.q (q_len Tryd.underlying27 rfl) rfl rfl ?_)
  refine S.op (S.q (q_move rfl) rfl rfl ?_)
  first | with_reducible refine S.nilK ?_ | refine S.nil ?_
  refine hK4 _ _ ?_
  refine S.block ?_
  refine S.loop (fun q ρ' Γ' => ∃ (i : Nat) (u : SV), q = l.length - i ∧ i ≤ l.length ∧ u.n = i ∧ ρ' = [(3, u.v), (6, s.v), (7, .int .i64 s.n), (8, .int .i64 (i : Int))] ∧ Γ' = own u 68 1 (idsV (jobsR (l.take i))) :: R :: Γ) (m := _) (ρ0 := _) (Γ0 := _) (⟨0, SV.nil, rfl, by omega, rfl, rfl, rfl⟩) (by repeat (first | exact trivial | refine ⟨rfl, ?_⟩)) Sub.ent ?_
  rintro q ρ' Γ' ⟨i, u, hq, hi, hun, rfl, rfl⟩
  refine S.seq fun K5 hK5 => ?_
  refine S.region rfl ?_
  refine S.op (S.q (q_lt rfl rfl) rfl rfl ?_)
  first | with_reducible refine S.nilK ?_ | refine S.nil ?_
  refine hK5 _ _ ?_
  refine S.seq fun K6 hK6 => ?_
  refine S.condD rfl (fun h1 => ?_) (fun h1 => ?_)
  · refine S.rSome hR (by omega) fun sb so hsa => ?_
    obtain ⟨x, hx⟩ := getE (show i < l.length by omega)
    have hnx : idsV (jobsR (l.take i)) ++ [.int .u32 (x.1 : Int)] = idsV (jobsR (l.take (i + 1))) := by
      rw [List.take_add_one, hx]
      simp
    refine S.skip ?_
    with_reducible repeat (first | refine S.then_n ?_ | refine S.then_x ?_ | refine S.then_r ?_ | refine S.inBlock_n ?_ | refine S.inBlock_r ?_ | refine S.inBlock_x rfl ?_ | refine S.noGoto_r ?_ | refine S.noGoto_n ?_ | refine S.noGoto_x ?_)
    refine hK6 _ _ ?_
    refine S.seq fun K7 hK7 => ?_
    refine S.block ?_
    refine S.seq fun K8 hK8 => ?_
    refine S.region rfl ?_
    refine S.op (S.q (q_indexO (i) Tryd.el27 rfl hsa rfl rfl (by omega)) rfl rfl ?_)
    refine S.op (S.q (q_loadRS hR (i * 2) (cdC x) Tryd.ag86 rfl hsa (by omega) rfl rfl (flat_seg (enc := cdC) (sz := 2) (fun _ => rfl) hx)) rfl rfl ?_)
    refine S.op (S.alloc Tryd.z86 rfl ?_)
    intro b5
    refine S.op (S.storeS (cs' := [_, _]) Tryd.ag86 rfl rfl rfl rfl rfl rfl ?_)
    first | with_reducible refine S.nilK ?_ | refine S.nil ?_
    refine hK8 _ _ ?_
    refine S.region rfl ?_
    refine S.op (S.q (q_move rfl) rfl rfl ?_)
    refine S.op (S.q (q_field Tryd.fo86_0 rfl) rfl rfl ?_)
    refine S.op (S.q (q_load Tryd.at68 rfl rfl) rfl rfl ?_)
    refine S.op (S.buildSlice (pvs := [(_, _)]) [_] Tryd.underlying31 Tryd.inf68 rfl rfl ⟨⟨rfl, rfl⟩, trivial⟩ rfl rfl ?_)
    intro b15
    refine S.op (S.appendOw (s := u) (1) ([.int .u32 (x.1 : Int)]) Tryd.underlying31 Tryd.inf68 rfl rfl rfl (blk_slAt (b := b15) rfl (by unfold maxLen; omega)) (by first | rfl | exact allOne_bcells _) (⟨by omega, by omega⟩) rfl ?_)
    intro u2 hu2
    refine S.op (S.q (q_assign rfl) rfl rfl ?_)
    first | with_reducible refine S.nilK ?_ | refine S.nil ?_
    with_reducible repeat (first | refine S.then_n ?_ | refine S.then_x ?_ | refine S.then_r ?_ | refine S.inBlock_n ?_ | refine S.inBlock_r ?_ | refine S.inBlock_x rfl ?_ | refine S.noGoto_r ?_ | refine S.noGoto_n ?_ | refine S.noGoto_x ?_)
    refine hK7 _ _ ?_
    refine S.region rfl ?_
    refine S.op (S.q (q_add rfl rfl (inI64 (by omega) (by omega))) rfl rfl ?_)
    refine S.op (S.q (q_move rfl) rfl rfl ?_)
    first | with_reducible refine S.nilK ?_ | refine S.nil ?_
    with_reducible repeat (first | refine S.then_n ?_ | refine S.then_x ?_ | refine S.then_r ?_ | refine S.inBlock_n ?_ | refine S.inBlock_r ?_ | refine S.inBlock_x rfl ?_ | refine S.noGoto_r ?_ | refine S.noGoto_n ?_ | refine S.noGoto_x ?_)
    rw [hnx]
    exact S.next (q - 1) (⟨i + 1, u2, by omega, by omega, by omega, rfl, rfl⟩) (by omega) (by repeat (first | exact trivial | refine ⟨rfl, ?_⟩)) Sub.ent
  · rw [show i = l.length by omega, List.take_length]
    refine S.exit ?_
    with_reducible repeat (first | refine S.then_n ?_ | refine S.then_x ?_ | refine S.then_r ?_ | refine S.inBlock_n ?_ | refine S.inBlock_r ?_ | refine S.inBlock_x rfl ?_ | refine S.noGoto_r ?_ | refine S.noGoto_n ?_ | refine S.noGoto_x ?_)
    with_reducible refine S.inBlock_s ?_
    with_reducible repeat (first | refine S.then_n ?_ | refine S.then_x ?_ | refine S.then_r ?_ | refine S.inBlock_n ?_ | refine S.inBlock_r ?_ | refine S.inBlock_x rfl ?_ | refine S.noGoto_r ?_ | refine S.noGoto_n ?_ | refine S.noGoto_x ?_)
    refine hK3 _ _ ?_
    refine S.seq fun K9 hK9 => ?_
    refine S.region rfl ?_
    refine S.op (S.q (q_move rfl) rfl rfl ?_)
    refine S.op (S.q (q_assign rfl) rfl rfl ?_)
    first | with_reducible refine S.nilK ?_ | refine S.nil ?_
    refine hK9 _ _ ?_
    refine S.ret ?_
    with_reducible repeat (first | refine S.then_n ?_ | refine S.then_x ?_ | refine S.then_r ?_ | refine S.inBlock_n ?_ | refine S.inBlock_r ?_ | refine S.inBlock_x rfl ?_ | refine S.noGoto_r ?_ | refine S.noGoto_n ?_ | refine S.noGoto_x ?_)
    exact S.fin (rs := [_]) (vs := [_]) Tryd.results42 (⟨rfl, trivial⟩)  (⟨u, rfl, by omega, rfl⟩) Sub.ent
def topUp (l : List Cd) : Nat → Int
  | 0 => 0
  | i + 1 => max (topUp l i) ((l.getD i (0, 0)).2 + 1)
def topR (l : List Cd) : Int := topUp l l.length
theorem top_S (R : Assn) (s : SV) (l : List Cd) (hsn : s.n = l.length) (hR : RdS R s s.n 2 (l.flatMap cdC)) (ht : ∀ x ∈ l, 0 ≤ x.2 ∧ x.2 ≤ 255) : Spec Tryd.prog 41 [s.v] [R] fun Γ v Θ => v = .int .i64 (topR l) ∧ Θ = R :: Γ := by
  refine Spec.of_body Tryd.func41 rfl Tryd.ntmps41 rfl ?_
  intro w0 Γ
  show S _ w0 [(0, s.v)] (R :: Γ) _
  refine S.rCap hR fun _ hc1 hc2 => ?_
  refine S.seq fun K1 hK1 => ?_
  refine S.region rfl ?_
  refine S.op (S.q (q_assign rfl) rfl rfl ?_)
  first | with_reducible refine S.nilK ?_ | refine S.nil ?_
  refine hK1 _ _ ?_
  refine S.seq fun K2 hK2 => ?_
  refine S.region rfl ?_
  refine S.op (S.q (q_assign rfl) rfl rfl ?_)
  first | with_reducible refine S.nilK ?_ | refine S.nil ?_
  refine hK2 _ _ ?_
  refine S.seq fun K3 hK3 => ?_
  refine S.seq fun K4 hK4 => ?_
  refine S.region rfl ?_
  refine S.op (S.q (q_move rfl) rfl rfl ?_)
  refine S.op (S.q (q_len Tryd.underlying27 rfl) rfl rfl ?_)
  refine S.op (S.q (q_move rfl) rfl rfl ?_)
  first | with_reducible refine S.nilK ?_ | refine S.nil ?_
  refine hK4 _ _ ?_
  refine S.block ?_
  refine S.loop (fun q ρ' Γ' => ∃ i : Nat, q = l.length - i ∧ i ≤ l.length ∧ ρ' = [(3, .int .i64 (topUp l i)), (6, s.v), (7, .int .i64 s.n), (8, .int .i64 (i : Int))] ∧ Γ' = R :: Γ) (m := _) (ρ0 := _) (Γ0 := _) (⟨0, rfl, by omega, rfl, rfl⟩) (by repeat (first | exact trivial | refine ⟨rfl, ?_⟩)) Sub.ent ?_
  rintro q ρ' Γ' ⟨i, hq, hi, rfl, rfl⟩
  refine S.seq fun K5 hK5 => ?_
  refine S.region rfl ?_
  refine S.op (S.q (q_lt rfl rfl) rfl rfl ?_)
  first | with_reducible refine S.nilK ?_ | refine S.nil ?_
  refine hK5 _ _ ?_
  refine S.seq fun K6 hK6 => ?_
  refine S.condD rfl (fun h1 => ?_) (fun h1 => ?_)
  · refine S.rSome hR (by omega) fun sb so hsa => ?_
    obtain ⟨x, hx⟩ := getE (show i < l.length by omega)
    have hxr := ht x (List.mem_of_getElem? hx)
    have hxd : l.getD i (0, 0) = x := by simp [List.getD, hx]
    have hs : topUp l (i + 1) = max (topUp l i) (x.2 + 1) := by rw [topUp, hxd]
    refine S.skip ?_
    with_reducible repeat (first | refine S.then_n ?_ | refine S.then_x ?_ | refine S.then_r ?_ | refine S.inBlock_n ?_ | refine S.inBlock_r ?_ | refine S.inBlock_x rfl ?_ | refine S.noGoto_r ?_ | refine S.noGoto_n ?_ | refine S.noGoto_x ?_)
    refine hK6 _ _ ?_
    refine S.seq fun K7 hK7 => ?_
    refine S.block ?_
    refine S.seq fun K8 hK8 => ?_
    refine S.region rfl ?_
    refine S.op (S.q (q_indexO (i) Tryd.el27 rfl hsa rfl rfl (by omega)) rfl rfl ?_)
    refine S.op (S.q (q_loadRS hR (i * 2) (cdC x) Tryd.ag86 rfl hsa (by omega) rfl rfl (flat_seg (enc := cdC) (sz := 2) (fun _ => rfl) hx)) rfl rfl ?_)
    refine S.op (S.alloc Tryd.z86 rfl ?_)
    intro b5
    refine S.op (S.storeS (cs' := [_, _]) Tryd.ag86 rfl rfl rfl rfl rfl rfl ?_)
    first | with_reducible refine S.nilK ?_ | refine S.nil ?_
    refine hK8 _ _ ?_
    refine S.region rfl ?_
    refine S.op (S.q (q_move rfl) rfl rfl ?_)
    refine S.op (S.q (q_field Tryd.fo86_1 rfl) rfl rfl ?_)
    refine S.op (S.q (q_load Tryd.at5 rfl rfl) rfl rfl ?_)
    refine S.op (S.q (q_conv Tryd.it3 (by rw [Tryd.underlying5]; rfl) rfl (inI64 (by omega) (by omega))) rfl rfl ?_)
    refine S.op (S.q (q_add rfl rfl (inI64 (by omega) (by omega))) rfl rfl ?_)
    refine S.op (S.q (q_max (topUp l (i + 1)) rfl rfl (by rw [hs]; omega)) rfl rfl ?_)
    refine S.op (S.q (q_assign rfl) rfl rfl ?_)
    first | with_reducible refine S.nilK ?_ | refine S.nil ?_
    with_reducible repeat (first | refine S.then_n ?_ | refine S.then_x ?_ | refine S.then_r ?_ | refine S.inBlock_n ?_ | refine S.inBlock_r ?_ | refine S.inBlock_x rfl ?_ | refine S.noGoto_r ?_ | refine S.noGoto_n ?_ | refine S.noGoto_x ?_)
    refine hK7 _ _ ?_
    refine S.region rfl ?_
    refine S.op (S.q (q_add rfl rfl (inI64 (by omega) (by omega))) rfl rfl ?_)
    refine S.op (S.q (q_move rfl) rfl rfl ?_)
    first | with_reducible refine S.nilK ?_ | refine S.nil ?_
    with_reducible repeat (first | refine S.then_n ?_ | refine S.then_x ?_ | refine S.then_r ?_ | refine S.inBlock_n ?_ | refine S.inBlock_r ?_ | refine S.inBlock_x rfl ?_ | refine S.noGoto_r ?_ | refine S.noGoto_n ?_ | refine S.noGoto_x ?_)
    exact S.next (q - 1) (⟨i + 1, by omega, by omega, rfl, rfl⟩) (by omega) (by repeat (first | exact trivial | refine ⟨rfl, ?_⟩)) Sub.ent
  · rw [show i = l.length by omega]
    refine S.exit ?_
    with_reducible repeat (first | refine S.then_n ?_ | refine S.then_x ?_ | refine S.then_r ?_ | refine S.inBlock_n ?_ | refine S.inBlock_r ?_ | refine S.inBlock_x rfl ?_ | refine S.noGoto_r ?_ | refine S.noGoto_n ?_ | refine S.noGoto_x ?_)
    with_reducible refine S.inBlock_s ?_
    with_reducible repeat (first | refine S.then_n ?_ | refine S.then_x ?_ | refine S.then_r ?_ | refine S.inBlock_n ?_ | refine S.inBlock_r ?_ | refine S.inBlock_x rfl ?_ | refine S.noGoto_r ?_ | refine S.noGoto_n ?_ | refine S.noGoto_x ?_)
    refine hK3 _ _ ?_
    refine S.seq fun K9 hK9 => ?_
    refine S.region rfl ?_
    refine S.op (S.q (q_move rfl) rfl rfl ?_)
    refine S.op (S.q (q_assign rfl) rfl rfl ?_)
    first | with_reducible refine S.nilK ?_ | refine S.nil ?_
    refine hK9 _ _ ?_
    refine S.ret ?_
    with_reducible repeat (first | refine S.then_n ?_ | refine S.then_x ?_ | refine S.then_r ?_ | refine S.inBlock_n ?_ | refine S.inBlock_r ?_ | refine S.inBlock_x rfl ?_ | refine S.noGoto_r ?_ | refine S.noGoto_n ?_ | refine S.noGoto_x ?_)
    exact S.fin (rs := [_]) (vs := [_]) Tryd.results41 (⟨rfl, trivial⟩)  (⟨rfl, rfl⟩) Sub.ent
/-- Those of a row that are of a lesser tier: the first word of each job counts. -/
def lesUp (m : Mx) (row tier : Int) (l : List Cd) : Nat → List Cd
  | 0 => []
  | i + 1 => if (l.getD i (0, 0)).1 ∈ (l.take i).map (·.1) then lesUp m row tier l i else
    if ((ofR m (l.getD i (0, 0)).1).2.2 && decide ((ofR m (l.getD i (0, 0)).1).1 = row) && decide ((l.getD i (0, 0)).2 < tier)) = true then lesUp m row tier l i ++ [l.getD i (0, 0)] else lesUp m row tier l i
theorem lesUp_mem {m : Mx} {row tier : Int} {l : List Cd} {x : Cd} : ∀ {i : Nat}, i ≤ l.length → x ∈ lesUp m row tier l i → x ∈ l.take i
  | 0, _, h => by cases h
  | i + 1, hi, h => by
    have hx := List.getElem?_eq_getElem (show i < l.length by omega)
    have hg : l.getD i (0, 0) = l[i] := by simp [List.getD, hx]
    rw [lesUp, hg] at h
    rw [List.take_add_one, hx, List.mem_append]
    split at h
    · exact .inl (lesUp_mem (by omega) h)
    · split at h
      · rw [List.mem_append] at h
        rcases h with h | h
        · exact .inl (lesUp_mem (by omega) h)
        · exact .inr (by simpa using h)
      · exact .inl (lesUp_mem (by omega) h)
theorem lesUp_len (m : Mx) (row tier : Int) (l : List Cd) : ∀ i, (lesUp m row tier l i).length ≤ i
  | 0 => Nat.le_refl _
  | i + 1 => by
    have := lesUp_len m row tier l i
    rw [lesUp]
    split
    · omega
    · split
      · rw [List.length_append, List.length_singleton]; omega
      · omega
theorem lesUp_nd {m : Mx} {row tier : Int} {l : List Cd} : ∀ {i : Nat}, i ≤ l.length → (lesUp m row tier l i).Pairwise (fun a b => a.1 ≠ b.1)
  | 0, _ => List.Pairwise.nil
  | i + 1, hi => by
    have ih := lesUp_nd (m := m) (row := row) (tier := tier) (l := l) (i := i) (by omega)
    rw [lesUp]
    split
    · exact ih
    · rename_i h
      split
      · refine List.pairwise_append.2 ⟨ih, List.pairwise_singleton _ _, fun a ha c hc e => ?_⟩
        rw [List.mem_singleton] at hc
        subst hc
        exact h (List.mem_map.2 ⟨a, lesUp_mem (by omega) ha, e⟩)
      · exact ih
def lesR (m : Mx) (row tier : Int) (l : List Cd) : List Cd := srtC (lesUp m row tier l l.length)
theorem lesser_S (b : Nat) (m : Mx) (row tier : Int) (R : Assn) (s : SV) (l : List Cd) (hsn : s.n = l.length) (hl : l.length ≤ 1000) (hR : RdS R s s.n 2 (l.flatMap cdC)) {W : World} (hW : TabW W) : Spec Tryd.prog 73 [.pointer (some ⟨b, 0, none⟩), .int .i64 row, s.v, .int .u8 tier] [MI b m, R, old W] fun Γ v Θ =>
    ∃ u : SV, v = u.v ∧ u.n = (lesR m row tier l).length ∧ Θ = own u 86 2 ((lesR m row tier l).flatMap cdC) :: MI b m :: R :: old W :: Γ := by
  refine Spec.of_body Tryd.func73 rfl Tryd.ntmps73 rfl ?_
  intro w0 Γ
  show S _ w0 [(0, .pointer (some ⟨b, 0, none⟩)), (1, .int .i64 row), (2, s.v), (3, .int .u8 tier)] (MI b m :: R :: old W :: Γ) _
  refine S.rCap hR fun _ hc1 hc2 => ?_
  refine S.seq fun K1 hK1 => ?_
  refine S.region rfl ?_
  refine S.op (S.q (q_assign rfl) rfl rfl ?_)
  first | with_reducible refine S.nilK ?_ | refine S.nil ?_
  refine hK1 _ _ ?_
  refine S.seq fun K2 hK2 => ?_
  refine S.region rfl ?_
  refine S.op (S.makeMap .u32 rfl ?_)
  intro b18
  refine S.op (S.q (q_assign rfl) rfl rfl ?_)
  first | with_reducible refine S.nilK ?_ | refine S.nil ?_
  refine hK2 _ _ ?_
  refine S.seq fun K3 hK3 => ?_
  refine S.region rfl ?_
  refine S.ent (Ent.ownNil 86 2) ?_
  show S _ w0 _ (own SV.nil 86 2 (([] : List Cd).flatMap cdC) :: _) _
  refine S.op (S.q (q_assign rfl) rfl rfl ?_)
  first | with_reducible refine S.nilK ?_ | refine S.nil ?_
  refine hK3 _ _ ?_
  refine S.seq fun K4 hK4 => ?_
  refine S.seq fun K5 hK5 => ?_
  refine S.region rfl ?_
  refine S.op (S.q (q_move rfl) rfl rfl ?_)
  refine S.op (S.q (q_len Tryd.underlying27 rfl) rfl rfl ?_)
  refine S.op (S.q (q_move rfl) rfl rfl ?_)
  first | with_reducible refine S.nilK ?_ | refine S.nil ?_
  refine hK5 _ _ ?_
  refine S.block ?_
  refine S.loop (fun q ρ' Γ' => ∃ (i : Nat) (u : SV) (o : List Cd) (K : List (Int × Value)), q = l.length - i ∧ i ≤ l.length ∧ o = lesUp m row tier l i ∧ u.n = o.length ∧ (∀ z : Nat, alGet (z : Int) K = if z ∈ (l.take i).map (·.1) then some (.agg #[]) else none) ∧   ρ' = [(0, .pointer (some ⟨b, 0, none⟩)), (1, .int .i64 row), (3, .int .u8 tier), (9, .map (some b18)), (10, u.v), (19, s.v), (20, .int .i64 s.n), (21, .int .i64 (i : Int))] ∧ Γ' = own u 86 2 (o.flatMap cdC) :: mapL b18 .u32 K :: MI b m :: R :: old W :: Γ) (m := _) (ρ0 := _) (Γ0 := _) (⟨0, SV.nil, [], [], rfl, by omega, rfl, rfl, fun z => (by simp; rfl), rfl, rfl⟩) (by repeat (first | exact trivial | refine ⟨rfl, ?_⟩)) Sub.ent ?_
  rintro q ρ' Γ' ⟨i, u, o, K, hq, hi, ho, hun, hK, rfl, rfl⟩
  have hol := lesUp_len m row tier l i
  rw [← ho] at hol
  refine S.seq fun K6 hK6 => ?_
  refine S.region rfl ?_
  refine S.op (S.q (q_lt rfl rfl) rfl rfl ?_)
  first | with_reducible refine S.nilK ?_ | refine S.nil ?_
  refine hK6 _ _ ?_
  refine S.seq fun K7 hK7 => ?_
  refine S.condD rfl (fun h1 => ?_) (fun h1 => ?_)
  · refine S.rSome hR (by omega) fun sb so hsa => ?_
    obtain ⟨x, hx⟩ := getE (show i < l.length by omega)
    have hxd : l.getD i (0, 0) = x := by simp [List.getD, hx]
    have htk : (l.take (i + 1)).map (·.1) = (l.take i).map (·.1) ++ [x.1] := by rw [List.take_add_one, hx]; simp
    obtain ⟨seen, hseen⟩ : ∃ seen, seen = decide (x.1 ∈ (l.take i).map (·.1)) := ⟨_, rfl⟩
    have hKx := hK x.1
    refine S.skip ?_
    with_reducible repeat (first | refine S.then_n ?_ | refine S.then_x ?_ | refine S.then_r ?_ | refine S.inBlock_n ?_ | refine S.inBlock_r ?_ | refine S.inBlock_x rfl ?_ | refine S.noGoto_r ?_ | refine S.noGoto_n ?_ | refine S.noGoto_x ?_)
    refine hK7 _ _ ?_
    refine S.seq fun K8 hK8 => ?_
    refine S.block ?_
    refine S.seq fun K9 hK9 => ?_
    refine S.region rfl ?_
    refine S.op (S.q (q_indexO (i) Tryd.el27 rfl hsa rfl rfl (by omega)) rfl rfl ?_)
    refine S.op (S.q (q_loadRS hR (i * 2) (cdC x) Tryd.ag86 rfl hsa (by omega) rfl rfl (flat_seg (enc := cdC) (sz := 2) (fun _ => rfl) hx)) rfl rfl ?_)
    refine S.op (S.alloc Tryd.z86 rfl ?_)
    intro b12
    refine S.op (S.storeS (cs' := [_, _]) Tryd.ag86 rfl rfl rfl rfl rfl rfl ?_)
    first | with_reducible refine S.nilK ?_ | refine S.nil ?_
    refine hK9 _ _ ?_
    refine S.seq fun K10 hK10 => ?_
    refine S.seq fun K11 hK11 => ?_
    refine S.region rfl ?_
    refine S.op (S.q (q_move rfl) rfl rfl ?_)
    refine S.op (S.q (q_field Tryd.fo86_0 rfl) rfl rfl ?_)
    refine S.op (S.q (q_load Tryd.at68 rfl rfl) rfl rfl ?_)
    refine S.op (S.q (q_lookupOk (.agg #[]) (seen) Tryd.underlying152 Tryd.underlying68 Tryd.zv153 rfl rfl rfl (by rw [hKx, hseen]; by_cases h : x.1 ∈ (l.take i).map (·.1); (rw [if_pos h, decide_eq_true h]); (rw [if_neg h, decide_eq_false h]))) rfl rfl ?_)
    refine S.op (S.q (q_move rfl) rfl rfl ?_)
    refine S.op (S.q (q_extract rfl rfl) rfl rfl ?_)
    refine S.op (S.q (q_extract rfl rfl) rfl rfl ?_)
    refine S.op (S.alloc Tryd.z153 rfl ?_)
    intro b13
    refine S.op (S.storeS (cs' := []) Tryd.ag153 rfl rfl rfl rfl rfl rfl ?_)
    refine S.op (S.q (q_assign rfl) rfl rfl ?_)
    first | with_reducible refine S.nilK ?_ | refine S.nil ?_
    refine hK11 _ _ ?_
    refine S.seq fun K12 hK12 => ?_
    refine S.region rfl ?_
    refine S.op (S.q (q_move rfl) rfl rfl ?_)
    first | with_reducible refine S.nilK ?_ | refine S.nil ?_
    refine hK12 _ _ ?_
    refine S.cond rfl (fun h2 => ?_) (fun h2 => ?_)
    · have hin : x.1 ∈ (l.take i).map (·.1) := by rw [h2] at hseen; exact of_decide_eq_true hseen.symm
      have ho2 : o = lesUp m row tier l (i + 1) := by rw [lesUp, hxd, if_pos hin, ho]
      have hK2 : ∀ z : Nat, alGet (z : Int) K = if z ∈ (l.take (i + 1)).map (·.1) then some (.agg #[]) else none := fun z => by
        rw [hK, htk]
        by_cases h : z ∈ (l.take i).map (·.1)
        · rw [if_pos h, if_pos (List.mem_append.2 (.inl h))]
        · rw [if_neg h, if_neg]
          rw [List.mem_append, List.mem_singleton]
          rintro (h9 | rfl)
          · exact h h9
          · exact h hin
      refine S.exit ?_
      with_reducible repeat (first | refine S.then_n ?_ | refine S.then_x ?_ | refine S.then_r ?_ | refine S.inBlock_n ?_ | refine S.inBlock_r ?_ | refine S.inBlock_x rfl ?_ | refine S.noGoto_r ?_ | refine S.noGoto_n ?_ | refine S.noGoto_x ?_)
      with_reducible refine S.inBlock_s ?_
      with_reducible repeat (first | refine S.then_n ?_ | refine S.then_x ?_ | refine S.then_r ?_ | refine S.inBlock_n ?_ | refine S.inBlock_r ?_ | refine S.inBlock_x rfl ?_ | refine S.noGoto_r ?_ | refine S.noGoto_n ?_ | refine S.noGoto_x ?_)
      refine hK8 _ _ ?_
      refine S.region rfl ?_
      refine S.op (S.q (q_add rfl rfl (inI64 (by omega) (by omega))) rfl rfl ?_)
      refine S.op (S.q (q_move rfl) rfl rfl ?_)
      first | with_reducible refine S.nilK ?_ | refine S.nil ?_
      with_reducible repeat (first | refine S.then_n ?_ | refine S.then_x ?_ | refine S.then_r ?_ | refine S.inBlock_n ?_ | refine S.inBlock_r ?_ | refine S.inBlock_x rfl ?_ | refine S.noGoto_r ?_ | refine S.noGoto_n ?_ | refine S.noGoto_x ?_)
      first | (rw [flat_snoc cdC o x]; exact S.next (q - 1) ⟨i + 1, u2, o ++ [x], alPut (x.1 : Int) (.agg #[]) K, by omega, by omega, ho2, by rw [List.length_append, List.length_singleton]; omega, hK2, rfl, rfl⟩ (by omega) (by repeat (first | exact trivial | refine ⟨rfl, ?_⟩)) Sub.ent) | exact S.next (q - 1) ⟨i + 1, u, o, alPut (x.1 : Int) (.agg #[]) K, by omega, by omega, ho2, hun, hK2, rfl, rfl⟩ (by omega) (by repeat (first | exact trivial | refine ⟨rfl, ?_⟩)) Sub.ent | exact S.next (q - 1) ⟨i + 1, u, o, K, by omega, by omega, ho2, hun, hK2, rfl, rfl⟩ (by omega) (by repeat (first | exact trivial | refine ⟨rfl, ?_⟩)) Sub.ent
    · have hin : ¬ x.1 ∈ (l.take i).map (·.1) := by rw [h2] at hseen; exact of_decide_eq_false hseen.symm
      have hK2 : ∀ z : Nat, alGet (z : Int) (alPut (x.1 : Int) (.agg #[]) K) = if z ∈ (l.take (i + 1)).map (·.1) then some (.agg #[]) else none := fun z => by
        rw [alGet_put, hK, htk]
        by_cases h : z ∈ (l.take i).map (·.1)
        · rw [if_pos h, if_pos (List.mem_append.2 (.inl h))]
          split <;> rfl
        · rw [if_neg h]
          by_cases e : z = x.1
          · subst e
            rw [if_pos rfl, if_pos (List.mem_append.2 (.inr (List.mem_singleton.2 rfl)))]
          · rw [if_neg (by omega), if_neg]
            rw [List.mem_append, List.mem_singleton]
            rintro (h9 | h9)
            · exact h h9
            · exact e h9
      obtain ⟨r, nl, ok, hof⟩ : ∃ r nl ok, ofR m x.1 = (r, nl, ok) := ⟨_, _, _, rfl⟩
      have hstep : lesUp m row tier l (i + 1) = if (ok && decide (r = row) && decide (x.2 < tier)) = true then o ++ [x] else o := by rw [lesUp, hxd, if_neg hin, hof, ho]
      refine S.skip ?_
      with_reducible repeat (first | refine S.then_n ?_ | refine S.then_x ?_ | refine S.then_r ?_ | refine S.inBlock_n ?_ | refine S.inBlock_r ?_ | refine S.inBlock_x rfl ?_ | refine S.noGoto_r ?_ | refine S.noGoto_n ?_ | refine S.noGoto_x ?_)
      refine hK10 _ _ ?_
      refine S.seq fun K13 hK13 => ?_
      refine S.region rfl ?_
      refine S.op (S.q (q_move rfl) rfl rfl ?_)
      refine S.op (S.q (q_field Tryd.fo86_0 rfl) rfl rfl ?_)
      refine S.op (S.q (q_load Tryd.at68 rfl rfl) rfl rfl ?_)
      refine S.op (S.q (q_build (pvs := []) [] Tryd.z153 Tryd.p153 trivial rfl) rfl rfl ?_)
      refine S.op (S.mapUpdate Tryd.underlying152 Tryd.underlying68 rfl rfl rfl rfl ?_)
      first | with_reducible refine S.nilK ?_ | refine S.nil ?_
      refine hK13 _ _ ?_
      refine S.seq fun K14 hK14 => ?_
      refine S.region rfl ?_
      refine S.op (S.q (q_move rfl) rfl rfl ?_)
      refine S.op (S.q (q_field Tryd.fo86_0 rfl) rfl rfl ?_)
      refine S.op (S.q (q_load Tryd.at68 rfl rfl) rfl rfl ?_)
      refine S.op (S.call Tryd.en72 (vs := [_, _]) ⟨rfl, rfl, trivial⟩ (Of_S b m x.1 hW) rfl ?_)
      rintro v Θ ⟨sv, rfl, hsv, rfl⟩
      rw [hof] at hsv ⊢
      simp only at hsv ⊢
      refine S.op (S.q (q_move rfl) rfl rfl ?_)
      refine S.op (S.q (q_extract rfl rfl) rfl rfl ?_)
      refine S.op (S.q (q_extract rfl rfl) rfl rfl ?_)
      refine S.op (S.q (q_extract rfl rfl) rfl rfl ?_)
      refine S.op (S.q (q_assign rfl) rfl rfl ?_)
      refine S.op (S.q (q_assign rfl) rfl rfl ?_)
      refine S.op (S.q (q_assign rfl) rfl rfl ?_)
      first | with_reducible refine S.nilK ?_ | refine S.nil ?_
      refine hK14 _ _ ?_
      refine S.seq fun K15 hK15 => ?_
      refine S.regionG ?_
      refine S.g_op rfl (S.q (q_move rfl) rfl rfl ?_)
      refine S.g_op rfl (S.q (q_move rfl) rfl rfl ?_)
      rcases Bool.eq_false_or_eq_true (ok) with hg10_1 | hg10_1
      · refine S.g_yes rfl rfl rfl (hg10_1) (S.q (q_move rfl) rfl rfl ?_)
        refine S.g_yes rfl rfl rfl (hg10_1) (S.q (q_move rfl) rfl rfl ?_)
        refine S.g_yes rfl rfl rfl (hg10_1) (S.q (q_eq rfl rfl) rfl rfl ?_)
        refine S.g_op rfl (S.q (q_pickT rfl (hg10_1) rfl) rfl rfl ?_)
        refine S.g_op rfl (S.q (q_move rfl) rfl rfl ?_)
        by_cases hg10_6 : r = row
        · refine S.g_yes rfl rfl rfl (decide_eq_true hg10_6) (S.q (q_field Tryd.fo86_1 rfl) rfl rfl ?_)
          refine S.g_yes rfl rfl rfl (decide_eq_true hg10_6) (S.q (q_load Tryd.at5 rfl rfl) rfl rfl ?_)
          refine S.g_yes rfl rfl rfl (decide_eq_true hg10_6) (S.q (q_move rfl) rfl rfl ?_)
          refine S.g_yes rfl rfl rfl (decide_eq_true hg10_6) (S.q (q_lt rfl rfl) rfl rfl ?_)
          refine S.g_op rfl (S.q (q_pickT rfl (decide_eq_true hg10_6) rfl) rfl rfl ?_)
          first | with_reducible refine S.g_nilK ?_ | refine S.g_nil ?_
          refine hK15 _ _ ?_
          refine S.condD rfl (fun h3 => ?_) (fun h3 => ?_)
          · have ho2 : o ++ [x] = lesUp m row tier l (i + 1) := by rw [hstep, hg10_1, decide_eq_true hg10_6, decide_eq_true h3]; rfl
            refine S.region rfl ?_
            refine S.op (S.q (q_move rfl) rfl rfl ?_)
            refine S.op (S.q (q_loadS [_, _] Tryd.ag86 rfl rfl ⟨rfl, rfl, trivial⟩) rfl rfl ?_)
            refine S.op (S.buildSlice (pvs := [(_, _)]) [_, _] Tryd.underlying27 Tryd.inf86 rfl rfl ⟨⟨rfl, rfl⟩, trivial⟩ rfl rfl ?_)
            intro b59
            refine S.op (S.appendOw (s := u) (1) (cdC x) Tryd.underlying27 Tryd.inf86 rfl rfl rfl (blk_slAt (b := b59) rfl (by unfold maxLen; omega)) (by first | rfl | exact allOne_bcells _) (⟨by omega, by omega⟩) rfl ?_)
            intro u2 hu2
            refine S.op (S.q (q_assign rfl) rfl rfl ?_)
            first | with_reducible refine S.nilK ?_ | refine S.nil ?_
            with_reducible repeat (first | refine S.then_n ?_ | refine S.then_x ?_ | refine S.then_r ?_ | refine S.inBlock_n ?_ | refine S.inBlock_r ?_ | refine S.inBlock_x rfl ?_ | refine S.noGoto_r ?_ | refine S.noGoto_n ?_ | refine S.noGoto_x ?_)
            refine hK8 _ _ ?_
            refine S.region rfl ?_
            refine S.op (S.q (q_add rfl rfl (inI64 (by omega) (by omega))) rfl rfl ?_)
            refine S.op (S.q (q_move rfl) rfl rfl ?_)
            first | with_reducible refine S.nilK ?_ | refine S.nil ?_
            with_reducible repeat (first | refine S.then_n ?_ | refine S.then_x ?_ | refine S.then_r ?_ | refine S.inBlock_n ?_ | refine S.inBlock_r ?_ | refine S.inBlock_x rfl ?_ | refine S.noGoto_r ?_ | refine S.noGoto_n ?_ | refine S.noGoto_x ?_)
            first | (rw [flat_snoc cdC o x]; exact S.next (q - 1) ⟨i + 1, u2, o ++ [x], alPut (x.1 : Int) (.agg #[]) K, by omega, by omega, ho2, by rw [List.length_append, List.length_singleton]; omega, hK2, rfl, rfl⟩ (by omega) (by repeat (first | exact trivial | refine ⟨rfl, ?_⟩)) Sub.ent) | exact S.next (q - 1) ⟨i + 1, u, o, alPut (x.1 : Int) (.agg #[]) K, by omega, by omega, ho2, hun, hK2, rfl, rfl⟩ (by omega) (by repeat (first | exact trivial | refine ⟨rfl, ?_⟩)) Sub.ent | exact S.next (q - 1) ⟨i + 1, u, o, K, by omega, by omega, ho2, hun, hK2, rfl, rfl⟩ (by omega) (by repeat (first | exact trivial | refine ⟨rfl, ?_⟩)) Sub.ent
          · have ho2 : o = lesUp m row tier l (i + 1) := by rw [hstep, hg10_1, decide_eq_true hg10_6, decide_eq_false h3]; rfl
            refine S.skip ?_
            with_reducible repeat (first | refine S.then_n ?_ | refine S.then_x ?_ | refine S.then_r ?_ | refine S.inBlock_n ?_ | refine S.inBlock_r ?_ | refine S.inBlock_x rfl ?_ | refine S.noGoto_r ?_ | refine S.noGoto_n ?_ | refine S.noGoto_x ?_)
            with_reducible repeat (first | refine S.then_n ?_ | refine S.then_x ?_ | refine S.then_r ?_ | refine S.inBlock_n ?_ | refine S.inBlock_r ?_ | refine S.inBlock_x rfl ?_ | refine S.noGoto_r ?_ | refine S.noGoto_n ?_ | refine S.noGoto_x ?_)
            refine hK8 _ _ ?_
            refine S.region rfl ?_
            refine S.op (S.q (q_add rfl rfl (inI64 (by omega) (by omega))) rfl rfl ?_)
            refine S.op (S.q (q_move rfl) rfl rfl ?_)
            first | with_reducible refine S.nilK ?_ | refine S.nil ?_
            with_reducible repeat (first | refine S.then_n ?_ | refine S.then_x ?_ | refine S.then_r ?_ | refine S.inBlock_n ?_ | refine S.inBlock_r ?_ | refine S.inBlock_x rfl ?_ | refine S.noGoto_r ?_ | refine S.noGoto_n ?_ | refine S.noGoto_x ?_)
            first | (rw [flat_snoc cdC o x]; exact S.next (q - 1) ⟨i + 1, u2, o ++ [x], alPut (x.1 : Int) (.agg #[]) K, by omega, by omega, ho2, by rw [List.length_append, List.length_singleton]; omega, hK2, rfl, rfl⟩ (by omega) (by repeat (first | exact trivial | refine ⟨rfl, ?_⟩)) Sub.ent) | exact S.next (q - 1) ⟨i + 1, u, o, alPut (x.1 : Int) (.agg #[]) K, by omega, by omega, ho2, hun, hK2, rfl, rfl⟩ (by omega) (by repeat (first | exact trivial | refine ⟨rfl, ?_⟩)) Sub.ent | exact S.next (q - 1) ⟨i + 1, u, o, K, by omega, by omega, ho2, hun, hK2, rfl, rfl⟩ (by omega) (by repeat (first | exact trivial | refine ⟨rfl, ?_⟩)) Sub.ent
        · have ho2 : o = lesUp m row tier l (i + 1) := by rw [hstep, hg10_1, decide_eq_false hg10_6]; rfl
          refine S.g_no rfl rfl rfl (decide_eq_false hg10_6) rfl rfl ?_
          refine S.g_no rfl rfl rfl (decide_eq_false hg10_6) rfl rfl ?_
          refine S.g_no rfl rfl rfl (decide_eq_false hg10_6) rfl rfl ?_
          refine S.g_no rfl rfl rfl (decide_eq_false hg10_6) rfl rfl ?_
          refine S.g_op rfl (S.q (q_pickF rfl (decide_eq_false hg10_6) rfl) rfl rfl ?_)
          first | with_reducible refine S.g_nilK ?_ | refine S.g_nil ?_
          refine hK15 _ _ ?_
          refine S.condF rfl ?_
          refine S.skip ?_
          with_reducible repeat (first | refine S.then_n ?_ | refine S.then_x ?_ | refine S.then_r ?_ | refine S.inBlock_n ?_ | refine S.inBlock_r ?_ | refine S.inBlock_x rfl ?_ | refine S.noGoto_r ?_ | refine S.noGoto_n ?_ | refine S.noGoto_x ?_)
          with_reducible repeat (first | refine S.then_n ?_ | refine S.then_x ?_ | refine S.then_r ?_ | refine S.inBlock_n ?_ | refine S.inBlock_r ?_ | refine S.inBlock_x rfl ?_ | refine S.noGoto_r ?_ | refine S.noGoto_n ?_ | refine S.noGoto_x ?_)
          refine hK8 _ _ ?_
          refine S.region rfl ?_
          refine S.op (S.q (q_add rfl rfl (inI64 (by omega) (by omega))) rfl rfl ?_)
          refine S.op (S.q (q_move rfl) rfl rfl ?_)
          first | with_reducible refine S.nilK ?_ | refine S.nil ?_
          with_reducible repeat (first | refine S.then_n ?_ | refine S.then_x ?_ | refine S.then_r ?_ | refine S.inBlock_n ?_ | refine S.inBlock_r ?_ | refine S.inBlock_x rfl ?_ | refine S.noGoto_r ?_ | refine S.noGoto_n ?_ | refine S.noGoto_x ?_)
          first | (rw [flat_snoc cdC o x]; exact S.next (q - 1) ⟨i + 1, u2, o ++ [x], alPut (x.1 : Int) (.agg #[]) K, by omega, by omega, ho2, by rw [List.length_append, List.length_singleton]; omega, hK2, rfl, rfl⟩ (by omega) (by repeat (first | exact trivial | refine ⟨rfl, ?_⟩)) Sub.ent) | exact S.next (q - 1) ⟨i + 1, u, o, alPut (x.1 : Int) (.agg #[]) K, by omega, by omega, ho2, hun, hK2, rfl, rfl⟩ (by omega) (by repeat (first | exact trivial | refine ⟨rfl, ?_⟩)) Sub.ent | exact S.next (q - 1) ⟨i + 1, u, o, K, by omega, by omega, ho2, hun, hK2, rfl, rfl⟩ (by omega) (by repeat (first | exact trivial | refine ⟨rfl, ?_⟩)) Sub.ent
      · have ho2 : o = lesUp m row tier l (i + 1) := by rw [hstep, hg10_1]; rfl
        refine S.g_no rfl rfl rfl (hg10_1) rfl rfl ?_
        refine S.g_no rfl rfl rfl (hg10_1) rfl rfl ?_
        refine S.g_no rfl rfl rfl (hg10_1) rfl rfl ?_
        refine S.g_op rfl (S.q (q_pickF rfl (hg10_1) rfl) rfl rfl ?_)
        refine S.g_op rfl (S.q (q_move rfl) rfl rfl ?_)
        refine S.g_no rfl rfl rfl (rfl) rfl rfl ?_
        refine S.g_no rfl rfl rfl (rfl) rfl rfl ?_
        refine S.g_no rfl rfl rfl (rfl) rfl rfl ?_
        refine S.g_no rfl rfl rfl (rfl) rfl rfl ?_
        refine S.g_op rfl (S.q (q_pickF rfl (rfl) rfl) rfl rfl ?_)
        first | with_reducible refine S.g_nilK ?_ | refine S.g_nil ?_
        refine hK15 _ _ ?_
        refine S.condF rfl ?_
        refine S.skip ?_
        with_reducible repeat (first | refine S.then_n ?_ | refine S.then_x ?_ | refine S.then_r ?_ | refine S.inBlock_n ?_ | refine S.inBlock_r ?_ | refine S.inBlock_x rfl ?_ | refine S.noGoto_r ?_ | refine S.noGoto_n ?_ | refine S.noGoto_x ?_)
        with_reducible repeat (first | refine S.then_n ?_ | refine S.then_x ?_ | refine S.then_r ?_ | refine S.inBlock_n ?_ | refine S.inBlock_r ?_ | refine S.inBlock_x rfl ?_ | refine S.noGoto_r ?_ | refine S.noGoto_n ?_ | refine S.noGoto_x ?_)
        refine hK8 _ _ ?_
        refine S.region rfl ?_
        refine S.op (S.q (q_add rfl rfl (inI64 (by omega) (by omega))) rfl rfl ?_)
        refine S.op (S.q (q_move rfl) rfl rfl ?_)
        first | with_reducible refine S.nilK ?_ | refine S.nil ?_
        with_reducible repeat (first | refine S.then_n ?_ | refine S.then_x ?_ | refine S.then_r ?_ | refine S.inBlock_n ?_ | refine S.inBlock_r ?_ | refine S.inBlock_x rfl ?_ | refine S.noGoto_r ?_ | refine S.noGoto_n ?_ | refine S.noGoto_x ?_)
        first | (rw [flat_snoc cdC o x]; exact S.next (q - 1) ⟨i + 1, u2, o ++ [x], alPut (x.1 : Int) (.agg #[]) K, by omega, by omega, ho2, by rw [List.length_append, List.length_singleton]; omega, hK2, rfl, rfl⟩ (by omega) (by repeat (first | exact trivial | refine ⟨rfl, ?_⟩)) Sub.ent) | exact S.next (q - 1) ⟨i + 1, u, o, alPut (x.1 : Int) (.agg #[]) K, by omega, by omega, ho2, hun, hK2, rfl, rfl⟩ (by omega) (by repeat (first | exact trivial | refine ⟨rfl, ?_⟩)) Sub.ent | exact S.next (q - 1) ⟨i + 1, u, o, K, by omega, by omega, ho2, hun, hK2, rfl, rfl⟩ (by omega) (by repeat (first | exact trivial | refine ⟨rfl, ?_⟩)) Sub.ent
  · have hil : i = l.length := by omega
    refine S.exit ?_
    with_reducible repeat (first | refine S.then_n ?_ | refine S.then_x ?_ | refine S.then_r ?_ | refine S.inBlock_n ?_ | refine S.inBlock_r ?_ | refine S.inBlock_x rfl ?_ | refine S.noGoto_r ?_ | refine S.noGoto_n ?_ | refine S.noGoto_x ?_)
    with_reducible refine S.inBlock_s ?_
    with_reducible repeat (first | refine S.then_n ?_ | refine S.then_x ?_ | refine S.then_r ?_ | refine S.inBlock_n ?_ | refine S.inBlock_r ?_ | refine S.inBlock_x rfl ?_ | refine S.noGoto_r ?_ | refine S.noGoto_n ?_ | refine S.noGoto_x ?_)
    refine hK4 _ _ ?_
    refine S.seq fun K16 hK16 => ?_
    refine S.region rfl ?_
    refine S.op (S.q (q_move rfl) rfl rfl ?_)
    refine S.op (S.call Tryd.en84 (vs := [_, _]) ⟨rfl, rfl, trivial⟩ (SortC_S u o (by omega)) rfl ?_)
    rintro v Θ ⟨l', hp, hps, rfl⟩
    have hl' : l' = lesR m row tier l := by rw [lesR, ← hil, ← ho]; exact srtC_eq (by rw [ho]; exact lesUp_nd (by omega)) hp hps
    have hlen := hp.length_eq
    rw [hl'] at hlen ⊢
    first | with_reducible refine S.nilK ?_ | refine S.nil ?_
    refine hK16 _ _ ?_
    refine S.seq fun K17 hK17 => ?_
    refine S.region rfl ?_
    refine S.op (S.q (q_move rfl) rfl rfl ?_)
    refine S.op (S.q (q_assign rfl) rfl rfl ?_)
    first | with_reducible refine S.nilK ?_ | refine S.nil ?_
    refine hK17 _ _ ?_
    refine S.ret ?_
    with_reducible repeat (first | refine S.then_n ?_ | refine S.then_x ?_ | refine S.then_r ?_ | refine S.inBlock_n ?_ | refine S.inBlock_r ?_ | refine S.inBlock_x rfl ?_ | refine S.noGoto_r ?_ | refine S.noGoto_n ?_ | refine S.noGoto_x ?_)
    exact S.fin (rs := [_]) (vs := [_]) Tryd.results73 (⟨rfl, trivial⟩)  (⟨u, rfl, by omega, rfl⟩) Sub.ent
end Go.Proofs.YtegjmmocnffpiaaDoor
/- Who has to make room: of a row; of all. -/
namespace Go.Proofs.YtegjmmocnffpiaaDoor
open Go.RowKit
set_option maxRecDepth 20000
def haveUp (m : Mx) (al : List Cd) (h0 : Nat) : Nat → Nat
  | 0 => h0
  | i + 1 => haveUp m al h0 i + givR m (al.getD i (0, 0)).1
theorem givR_le (m : Mx) (j : Nat) : givR m j ≤ 16 := by
  have h1 := upN_le m (ofR m j).2.1 (ofR m j).2.1.length
  have h2 := ofR_len m j
  unfold givR
  omega
theorem haveUp_le {m : Mx} {al : List Cd} {h0 : Nat} (h : h0 ≤ 16) : ∀ i, haveUp m al h0 i ≤ 16 + 16 * i
  | 0 => h
  | i + 1 => by
    have h1 := haveUp_le (m := m) (al := al) h i
    have h2 := givR_le m (al.getD i (0, 0)).1
    rw [haveUp]
    omega
/-- The least number that is enough. -/
def vicUp (m : Mx) (al : List Cd) (h0 : Nat) (k : Int) : Nat → Option Nat
  | 0 => none
  | i + 1 => match vicUp m al h0 k i with
    | some r => some r
    | none => if k ≤ (haveUp m al h0 i : Nat) then some i else none
theorem vicUp_mono {m : Mx} {al : List Cd} {h0 : Nat} {k : Int} {r : Nat} : ∀ {p i : Nat}, vicUp m al h0 k i = some r → i ≤ p → vicUp m al h0 k p = some r
  | 0, i, h, hp => by rwa [show i = 0 by omega] at h
  | p + 1, i, h, hp => by
    by_cases e : i = p + 1
    · rwa [e] at h
    · rw [vicUp, vicUp_mono h (by omega)]
def ofV (m : Mx) (row tier k : Int) (l : List Cd) : List Cd × Bool :=
  if k < 1 ∨ row < 0 ∨ (m.R : Int) ≤ row then ([], false)
  else match vicUp m (lesR m row tier l) (freeR m row) k ((lesR m row tier l).length + 1) with
    | some i => ((lesR m row tier l).take i, true)
    | none => ([], false)
theorem freeR_le (m : Mx) (z : Int) : freeR m z ≤ 16 := by
  unfold freeR
  split
  · exact lst_len _
  · omega
theorem lesR_len (m : Mx) (row tier : Int) (l : List Cd) : (lesR m row tier l).length ≤ l.length := by
  rw [lesR, (srtC_perm _).length_eq]
  exact lesUp_len m row tier l _
theorem flat_take {α : Type} {enc : α → List Value} {sz : Nat} (he : ∀ x, (enc x).length = sz) (os : List α) (k : Nat) : (os.flatMap enc).take (k * sz) = (os.take k).flatMap enc := by
  induction os generalizing k with
  | nil => simp
  | cons x l ih =>
    cases k with
    | zero => simp
    | succ k =>
      rw [List.flatMap_cons, List.take_succ_cons, List.flatMap_cons, List.take_append, he, List.take_of_length_le (by rw [he, Nat.succ_mul]; omega), show (k + 1) * sz - sz = k * sz by rw [Nat.succ_mul]; omega, ih]
set_option maxHeartbeats 1000000 in
theorem of_S (b : Nat) (m : Mx) (row tier k : Int) (R : Assn) (s : SV) (l : List Cd) (hsn : s.n = l.length) (hl : l.length ≤ 1000) (hR : RdS R s s.n 2 (l.flatMap cdC)) {W : World} (hW : TabW W) : Spec Tryd.prog 38 [.pointer (some ⟨b, 0, none⟩), .int .i64 row, s.v, .int .u8 tier, .int .i64 k] [MI b m, R, old W] fun Γ v Θ =>
    ∃ u : SV, v = .tuple #[u.v, .bool (ofV m row tier k l).2] ∧ u.n = (ofV m row tier k l).1.length ∧ Θ = own u 86 2 ((ofV m row tier k l).1.flatMap cdC) :: MI b m :: R :: old W :: Γ := by
  refine Spec.of_body Tryd.func38 rfl Tryd.ntmps38 rfl ?_
  intro w0 Γ
  show S _ w0 [(0, .pointer (some ⟨b, 0, none⟩)), (1, .int .i64 row), (2, s.v), (3, .int .u8 tier), (4, .int .i64 k)] (MI b m :: R :: old W :: Γ) _
  obtain ⟨al, hal⟩ : ∃ al, al = lesR m row tier l := ⟨_, rfl⟩
  have hall := lesR_len m row tier l
  rw [← hal] at hall
  have hfr := freeR_le m row
  refine S.seq fun K1 hK1 => ?_
  refine S.region rfl ?_
  refine S.op (S.q (q_assign rfl) rfl rfl ?_)
  refine S.op (S.q (q_assign rfl) rfl rfl ?_)
  first | with_reducible refine S.nilK ?_ | refine S.nil ?_
  refine hK1 _ _ ?_
  refine S.seq fun K2 hK2 => ?_
  refine S.seq fun K3 hK3 => ?_
  refine S.region rfl ?_
  refine S.op (S.q (q_move rfl) rfl rfl ?_)
  refine S.op (S.call Tryd.en37 (vs := [_]) ⟨rfl, trivial⟩ (Size_S b m) rfl ?_)
  rintro v Θ ⟨rfl, rfl⟩
  refine S.op (S.q (q_move rfl) rfl rfl ?_)
  refine S.op (S.q (q_extract rfl rfl) rfl rfl ?_)
  refine S.op (S.q (q_extract rfl rfl) rfl rfl ?_)
  refine S.op (S.q (q_assign rfl) rfl rfl ?_)
  refine S.op (S.q (q_assign rfl) rfl rfl ?_)
  first | with_reducible refine S.nilK ?_ | refine S.nil ?_
  refine hK3 _ _ ?_
  refine S.seq fun K4 hK4 => ?_
  refine S.regionG ?_
  refine S.g_op rfl (S.q (q_move rfl) rfl rfl ?_)
  refine S.g_op rfl (S.q (q_lt rfl rfl) rfl rfl ?_)
  refine S.g_op rfl (S.q (q_move rfl) rfl rfl ?_)
  by_cases hg2_2 : k < 1
  · have hfin : ofV m row tier k l = ([], false) := by rw [ofV, if_pos (.inl hg2_2)]
    refine S.g_no rfl rfl rfl (decide_eq_true hg2_2) rfl rfl ?_
    refine S.g_no rfl rfl rfl (decide_eq_true hg2_2) rfl rfl ?_
    refine S.g_op rfl (S.q (q_pickT rfl (decide_eq_true hg2_2) rfl) rfl rfl ?_)
    refine S.g_op rfl (S.q (q_move rfl) rfl rfl ?_)
    refine S.g_no rfl rfl rfl (rfl) rfl rfl ?_
    refine S.g_no rfl rfl rfl (rfl) rfl rfl ?_
    refine S.g_no rfl rfl rfl (rfl) rfl rfl ?_
    refine S.g_op rfl (S.q (q_pickT rfl (rfl) rfl) rfl rfl ?_)
    first | with_reducible refine S.g_nilK ?_ | refine S.g_nil ?_
    refine hK4 _ _ ?_
    refine S.condT rfl ?_
    refine S.seq fun K5 hK5 => ?_
    refine S.region rfl ?_
    refine S.op (S.q (q_assign rfl) rfl rfl ?_)
    refine S.op (S.q (q_assign rfl) rfl rfl ?_)
    first | with_reducible refine S.nilK ?_ | refine S.nil ?_
    refine hK5 _ _ ?_
    refine S.ret ?_
    with_reducible repeat (first | refine S.then_n ?_ | refine S.then_x ?_ | refine S.then_r ?_ | refine S.inBlock_n ?_ | refine S.inBlock_r ?_ | refine S.inBlock_x rfl ?_ | refine S.noGoto_r ?_ | refine S.noGoto_n ?_ | refine S.noGoto_x ?_)
    refine S.ent (Ent.ownNil 86 2) ?_
    show S _ w0 _ (own SV.nil 86 2 (([] : List Cd).flatMap cdC) :: _) _
    exact S.fin (rs := [_, _]) (vs := [_, _]) Tryd.results38 (⟨rfl, rfl, trivial⟩)  (⟨SV.nil, by rw [hfin]; rfl, by rw [hfin]; rfl, by rw [hfin]⟩) Sub.ent
  · refine S.g_yes rfl rfl rfl (decide_eq_false hg2_2) (S.q (q_move rfl) rfl rfl ?_)
    refine S.g_yes rfl rfl rfl (decide_eq_false hg2_2) (S.q (q_lt rfl rfl) rfl rfl ?_)
    refine S.g_op rfl (S.q (q_pickF rfl (decide_eq_false hg2_2) rfl) rfl rfl ?_)
    refine S.g_op rfl (S.q (q_move rfl) rfl rfl ?_)
    by_cases hg2_6 : row < 0
    · have hfin : ofV m row tier k l = ([], false) := by rw [ofV, if_pos (.inr (.inl hg2_6))]
      refine S.g_no rfl rfl rfl (decide_eq_true hg2_6) rfl rfl ?_
      refine S.g_no rfl rfl rfl (decide_eq_true hg2_6) rfl rfl ?_
      refine S.g_no rfl rfl rfl (decide_eq_true hg2_6) rfl rfl ?_
      refine S.g_op rfl (S.q (q_pickT rfl (decide_eq_true hg2_6) rfl) rfl rfl ?_)
      first | with_reducible refine S.g_nilK ?_ | refine S.g_nil ?_
      refine hK4 _ _ ?_
      refine S.condT rfl ?_
      refine S.seq fun K6 hK6 => ?_
      refine S.region rfl ?_
      refine S.op (S.q (q_assign rfl) rfl rfl ?_)
      refine S.op (S.q (q_assign rfl) rfl rfl ?_)
      first | with_reducible refine S.nilK ?_ | refine S.nil ?_
      refine hK6 _ _ ?_
      refine S.ret ?_
      with_reducible repeat (first | refine S.then_n ?_ | refine S.then_x ?_ | refine S.then_r ?_ | refine S.inBlock_n ?_ | refine S.inBlock_r ?_ | refine S.inBlock_x rfl ?_ | refine S.noGoto_r ?_ | refine S.noGoto_n ?_ | refine S.noGoto_x ?_)
      refine S.ent (Ent.ownNil 86 2) ?_
      show S _ w0 _ (own SV.nil 86 2 (([] : List Cd).flatMap cdC) :: _) _
      exact S.fin (rs := [_, _]) (vs := [_, _]) Tryd.results38 (⟨rfl, rfl, trivial⟩)  (⟨SV.nil, by rw [hfin]; rfl, by rw [hfin]; rfl, by rw [hfin]⟩) Sub.ent
    · refine S.g_yes rfl rfl rfl (decide_eq_false hg2_6) (S.q (q_move rfl) rfl rfl ?_)
      refine S.g_yes rfl rfl rfl (decide_eq_false hg2_6) (S.q (q_move rfl) rfl rfl ?_)
      refine S.g_yes rfl rfl rfl (decide_eq_false hg2_6) (S.q (q_ge rfl rfl) rfl rfl ?_)
      refine S.g_op rfl (S.q (q_pickF rfl (decide_eq_false hg2_6) rfl) rfl rfl ?_)
      first | with_reducible refine S.g_nilK ?_ | refine S.g_nil ?_
      refine hK4 _ _ ?_
      refine S.condD rfl (fun h1 => ?_) (fun h1 => ?_)
      · have hfin : ofV m row tier k l = ([], false) := by rw [ofV, if_pos (.inr (.inr (by omega)))]
        refine S.seq fun K7 hK7 => ?_
        refine S.region rfl ?_
        refine S.op (S.q (q_assign rfl) rfl rfl ?_)
        refine S.op (S.q (q_assign rfl) rfl rfl ?_)
        first | with_reducible refine S.nilK ?_ | refine S.nil ?_
        refine hK7 _ _ ?_
        refine S.ret ?_
        with_reducible repeat (first | refine S.then_n ?_ | refine S.then_x ?_ | refine S.then_r ?_ | refine S.inBlock_n ?_ | refine S.inBlock_r ?_ | refine S.inBlock_x rfl ?_ | refine S.noGoto_r ?_ | refine S.noGoto_n ?_ | refine S.noGoto_x ?_)
        refine S.ent (Ent.ownNil 86 2) ?_
        show S _ w0 _ (own SV.nil 86 2 (([] : List Cd).flatMap cdC) :: _) _
        exact S.fin (rs := [_, _]) (vs := [_, _]) Tryd.results38 (⟨rfl, rfl, trivial⟩)  (⟨SV.nil, by rw [hfin]; rfl, by rw [hfin]; rfl, by rw [hfin]⟩) Sub.ent
      · have hof : ofV m row tier k l = match vicUp m al (freeR m row) k (al.length + 1) with | some i => (al.take i, true) | none => ([], false) := by rw [ofV, if_neg (by omega), ← hal]
        refine S.skip ?_
        with_reducible repeat (first | refine S.then_n ?_ | refine S.then_x ?_ | refine S.then_r ?_ | refine S.inBlock_n ?_ | refine S.inBlock_r ?_ | refine S.inBlock_x rfl ?_ | refine S.noGoto_r ?_ | refine S.noGoto_n ?_ | refine S.noGoto_x ?_)
        refine hK2 _ _ ?_
        refine S.seq fun K8 hK8 => ?_
        refine S.region rfl ?_
        refine S.op (S.q (q_move rfl) rfl rfl ?_)
        refine S.op (S.q (q_move rfl) rfl rfl ?_)
        refine S.op (S.call Tryd.en67 (vs := [_, _]) ⟨rfl, rfl, trivial⟩ (Free_S b m row) rfl ?_)
        rintro v Θ ⟨rfl, rfl⟩
        refine S.op (S.q (q_assign rfl) rfl rfl ?_)
        first | with_reducible refine S.nilK ?_ | refine S.nil ?_
        refine hK8 _ _ ?_
        refine S.seq fun K9 hK9 => ?_
        refine S.region rfl ?_
        refine S.op (S.q (q_move rfl) rfl rfl ?_)
        refine S.op (S.q (q_move rfl) rfl rfl ?_)
        refine S.op (S.q (q_move rfl) rfl rfl ?_)
        refine S.op (S.q (q_move rfl) rfl rfl ?_)
        refine S.op (S.call Tryd.en73 (vs := [_, _, _, _]) ⟨rfl, rfl, rfl, rfl, trivial⟩ (lesser_S b m row tier R s l hsn hl hR hW) rfl ?_)
        rintro v Θ ⟨u, rfl, hun, rfl⟩
        rw [← hal] at hun ⊢
        refine S.ownLen u fun hul1 hul2 hul3 => ?_
        refine S.op (S.q (q_assign rfl) rfl rfl ?_)
        first | with_reducible refine S.nilK ?_ | refine S.nil ?_
        refine hK9 _ _ ?_
        refine S.seq fun K10 hK10 => ?_
        refine S.region rfl ?_
        refine S.op (S.q (q_assign rfl) rfl rfl ?_)
        first | with_reducible refine S.nilK ?_ | refine S.nil ?_
        refine hK10 _ _ ?_
        refine S.block ?_
        refine S.loop (fun q ρ' Γ' => ∃ i : Nat, q = al.length - i ∧ i ≤ al.length ∧ vicUp m al (freeR m row) k i = none ∧ ρ' = [(0, .pointer (some ⟨b, 0, none⟩)), (4, .int .i64 k), (14, .int .i64 (haveUp m al (freeR m row) i : Nat)), (15, u.v), (16, .int .i64 (i : Int))] ∧ Γ' = own u 86 2 (al.flatMap cdC) :: MI b m :: R :: old W :: Γ) (m := _) (ρ0 := _) (Γ0 := _) (⟨0, rfl, by omega, rfl, rfl, rfl⟩) (by repeat (first | exact trivial | refine ⟨rfl, ?_⟩)) Sub.ent ?_
        rintro q ρ' Γ' ⟨i, hq, hi, hno, rfl, rfl⟩
        have hle := haveUp_le (m := m) (al := al) hfr i
        refine S.seq fun K11 hK11 => ?_
        refine S.block ?_
        refine S.seq fun K12 hK12 => ?_
        refine S.seq fun K13 hK13 => ?_
        refine S.region rfl ?_
        refine S.op (S.q (q_move rfl) rfl rfl ?_)
        refine S.op (S.q (q_move rfl) rfl rfl ?_)
        refine S.op (S.q (q_ge rfl rfl) rfl rfl ?_)
        first | with_reducible refine S.nilK ?_ | refine S.nil ?_
        refine hK13 _ _ ?_
        refine S.condD rfl (fun h2 => ?_) (fun h2 => ?_)
        · have hv : vicUp m al (freeR m row) k (i + 1) = some i := by rw [vicUp, hno]; exact if_pos (by omega)
          have hfin : ofV m row tier k l = (al.take i, true) := by rw [hof, vicUp_mono hv (by omega)]
          refine S.seq fun K14 hK14 => ?_
          refine S.region rfl ?_
          refine S.op (S.q (q_move rfl) rfl rfl ?_)
          refine S.op (S.q (q_move rfl) rfl rfl ?_)
          refine S.op (S.q (q_sliceTo (i) Tryd.el27 rfl rfl rfl (by omega)) rfl rfl ?_)
          refine S.op (S.q (q_assign rfl) rfl rfl ?_)
          refine S.op (S.q (q_assign rfl) rfl rfl ?_)
          first | with_reducible refine S.nilK ?_ | refine S.nil ?_
          refine hK14 _ _ ?_
          refine S.ret ?_
          with_reducible repeat (first | refine S.then_n ?_ | refine S.then_x ?_ | refine S.then_r ?_ | refine S.inBlock_n ?_ | refine S.inBlock_r ?_ | refine S.inBlock_x rfl ?_ | refine S.noGoto_r ?_ | refine S.noGoto_n ?_ | refine S.noGoto_x ?_)
          refine S.conv (own u 86 2 (al.flatMap cdC)) (Ent.ownTake u 86 2 _ (k := i) (by omega) _) ?_
          rw [flat_take cdC_len al i]
          exact S.fin (rs := [_, _]) (vs := [_, _]) Tryd.results38 (⟨rfl, rfl, trivial⟩)  (⟨⟨u.a, i, u.c⟩, by rw [hfin]; rfl, by rw [hfin]; show i = (al.take i).length; rw [List.length_take]; omega, by rw [hfin]⟩) Sub.ent
        · have hv : vicUp m al (freeR m row) k (i + 1) = none := by rw [vicUp, hno]; exact if_neg (by omega)
          refine S.skip ?_
          with_reducible repeat (first | refine S.then_n ?_ | refine S.then_x ?_ | refine S.then_r ?_ | refine S.inBlock_n ?_ | refine S.inBlock_r ?_ | refine S.inBlock_x rfl ?_ | refine S.noGoto_r ?_ | refine S.noGoto_n ?_ | refine S.noGoto_x ?_)
          refine hK12 _ _ ?_
          refine S.seq fun K15 hK15 => ?_
          refine S.seq fun K16 hK16 => ?_
          refine S.region rfl ?_
          refine S.op (S.q (q_move rfl) rfl rfl ?_)
          refine S.op (S.q (q_move rfl) rfl rfl ?_)
          refine S.op (S.q (q_len Tryd.underlying27 rfl) rfl rfl ?_)
          refine S.op (S.q (q_eq rfl rfl) rfl rfl ?_)
          first | with_reducible refine S.nilK ?_ | refine S.nil ?_
          refine hK16 _ _ ?_
          refine S.condD rfl (fun h3 => ?_) (fun h3 => ?_)
          · have hfin : ofV m row tier k l = ([], false) := by rw [hof, show al.length + 1 = i + 1 by omega, hv]
            refine S.seq fun K17 hK17 => ?_
            refine S.region rfl ?_
            refine S.op (S.q (q_assign rfl) rfl rfl ?_)
            refine S.op (S.q (q_assign rfl) rfl rfl ?_)
            first | with_reducible refine S.nilK ?_ | refine S.nil ?_
            refine hK17 _ _ ?_
            refine S.ret ?_
            with_reducible repeat (first | refine S.then_n ?_ | refine S.then_x ?_ | refine S.then_r ?_ | refine S.inBlock_n ?_ | refine S.inBlock_r ?_ | refine S.inBlock_x rfl ?_ | refine S.noGoto_r ?_ | refine S.noGoto_n ?_ | refine S.noGoto_x ?_)
            refine S.ent (Ent.ownNil 86 2) ?_
            show S _ w0 _ (own SV.nil 86 2 (([] : List Cd).flatMap cdC) :: _) _
            exact S.fin (rs := [_, _]) (vs := [_, _]) Tryd.results38 (⟨rfl, rfl, trivial⟩)  (⟨SV.nil, by rw [hfin]; rfl, by rw [hfin]; rfl, by rw [hfin]⟩) Sub.ent
          · refine S.ownSome u (by omega) fun ub uo hua _ _ _ => ?_
            obtain ⟨x, hx⟩ := getE (show i < al.length by omega)
            have hxd : al.getD i (0, 0) = x := by simp [List.getD, hx]
            have hs : haveUp m al (freeR m row) (i + 1) = haveUp m al (freeR m row) i + givR m x.1 := by rw [haveUp, hxd]
            have hgl := givR_le m x.1
            refine S.skip ?_
            with_reducible repeat (first | refine S.then_n ?_ | refine S.then_x ?_ | refine S.then_r ?_ | refine S.inBlock_n ?_ | refine S.inBlock_r ?_ | refine S.inBlock_x rfl ?_ | refine S.noGoto_r ?_ | refine S.noGoto_n ?_ | refine S.noGoto_x ?_)
            refine hK15 _ _ ?_
            refine S.region rfl ?_
            refine S.op (S.q (q_move rfl) rfl rfl ?_)
            refine S.op (S.q (q_move rfl) rfl rfl ?_)
            refine S.op (S.q (q_move rfl) rfl rfl ?_)
            refine S.op (S.q (q_move rfl) rfl rfl ?_)
            refine S.op (S.q (q_indexO (i) Tryd.el27 rfl hua rfl rfl (by omega)) rfl rfl ?_)
            refine S.op (S.q (q_field Tryd.fo86_0 rfl) rfl rfl ?_)
            refine S.op (S.q (q_loadOw (u) (i * 2 + 0) Tryd.at68 rfl hua (by first | rfl | exact Nat.add_assoc _ _ _ | omega) (flat_get (enc := cdC) (sz := 2) (k := 0) (v := .int .u32 (x.1 : Int)) cdC_len hx rfl)) rfl rfl ?_)
            refine S.op (S.call Tryd.en74 (vs := [_, _]) ⟨rfl, rfl, trivial⟩ (gives_S b m x.1 hW) rfl ?_)
            rintro v Θ ⟨rfl, rfl⟩
            refine S.op (S.q (q_add rfl rfl (inI64 (by omega) (by omega))) rfl rfl ?_)
            refine S.op (S.q (q_assign rfl) rfl rfl ?_)
            first | with_reducible refine S.nilK ?_ | refine S.nil ?_
            with_reducible repeat (first | refine S.then_n ?_ | refine S.then_x ?_ | refine S.then_r ?_ | refine S.inBlock_n ?_ | refine S.inBlock_r ?_ | refine S.inBlock_x rfl ?_ | refine S.noGoto_r ?_ | refine S.noGoto_n ?_ | refine S.noGoto_x ?_)
            refine hK11 _ _ ?_
            refine S.region rfl ?_
            refine S.op (S.q (q_move rfl) rfl rfl ?_)
            refine S.op (S.q (q_add rfl rfl (inI64 (by omega) (by omega))) rfl rfl ?_)
            refine S.op (S.q (q_assign rfl) rfl rfl ?_)
            first | with_reducible refine S.nilK ?_ | refine S.nil ?_
            with_reducible repeat (first | refine S.then_n ?_ | refine S.then_x ?_ | refine S.then_r ?_ | refine S.inBlock_n ?_ | refine S.inBlock_r ?_ | refine S.inBlock_x rfl ?_ | refine S.noGoto_r ?_ | refine S.noGoto_n ?_ | refine S.noGoto_x ?_)
            exact S.next (q - 1) (⟨i + 1, by omega, by omega, hv, by rw [hs], rfl⟩) (by omega) (by repeat (first | exact trivial | refine ⟨rfl, ?_⟩)) Sub.ent
theorem VOf_S (b : Nat) (m : Mx) (row tier k : Int) (R : Assn) (s : SV) (l : List Cd) (hsn : s.n = l.length) (hl : l.length ≤ 1000) (hR : RdS R s s.n 2 (l.flatMap cdC)) {W : World} (hW : TabW W) : Spec Tryd.prog 10 [.pointer (some ⟨b, 0, none⟩), .int .i64 row, s.v, .int .u8 tier, .int .i64 k] [MI b m, R, old W] fun Γ v Θ =>
    ∃ u : SV, v = .tuple #[u.v, .bool (ofV m row tier k l).2] ∧ u.n = (ofV m row tier k l).1.length ∧ Θ = own u 68 1 (idsV (jobsR (ofV m row tier k l).1)) :: MI b m :: R :: old W :: Γ := by
  refine Spec.of_body Tryd.func10 rfl Tryd.ntmps10 rfl ?_
  intro w0 Γ
  show S _ w0 [(0, .pointer (some ⟨b, 0, none⟩)), (1, .int .i64 row), (2, s.v), (3, .int .u8 tier), (4, .int .i64 k)] (MI b m :: R :: old W :: Γ) _
  obtain ⟨vl, hvl⟩ : ∃ vl, vl = (ofV m row tier k l).1 := ⟨_, rfl⟩
  have hlen : vl.length ≤ 1000 := by
    rw [hvl]
    have := lesR_len m row tier l
    unfold ofV
    split
    · simp
    · split
      · simp only [List.length_take]; omega
      · simp
  refine S.seq fun K1 hK1 => ?_
  refine S.region rfl ?_
  refine S.op (S.q (q_assign rfl) rfl rfl ?_)
  refine S.op (S.q (q_assign rfl) rfl rfl ?_)
  first | with_reducible refine S.nilK ?_ | refine S.nil ?_
  refine hK1 _ _ ?_
  refine S.seq fun K2 hK2 => ?_
  refine S.region rfl ?_
  refine S.op (S.q (q_move rfl) rfl rfl ?_)
  refine S.op (S.q (q_move rfl) rfl rfl ?_)
  refine S.op (S.q (q_move rfl) rfl rfl ?_)
  refine S.op (S.q (q_move rfl) rfl rfl ?_)
  refine S.op (S.q (q_move rfl) rfl rfl ?_)
  refine S.op (S.call Tryd.en38 (vs := [_, _, _, _, _]) ⟨rfl, rfl, rfl, rfl, rfl, trivial⟩ (of_S b m row tier k R s l hsn hl hR hW) rfl ?_)
  rintro v Θ ⟨u, rfl, hun, rfl⟩
  rw [← hvl] at hun ⊢
  refine S.op (S.q (q_move rfl) rfl rfl ?_)
  refine S.op (S.q (q_extract rfl rfl) rfl rfl ?_)
  refine S.op (S.q (q_extract rfl rfl) rfl rfl ?_)
  refine S.op (S.q (q_assign rfl) rfl rfl ?_)
  refine S.op (S.q (q_assign rfl) rfl rfl ?_)
  first | with_reducible refine S.nilK ?_ | refine S.nil ?_
  refine hK2 _ _ ?_
  refine S.seq fun K3 hK3 => ?_
  refine S.region rfl ?_
  refine S.op (S.q (q_move rfl) rfl rfl ?_)
  refine S.op (S.call Tryd.en42 (vs := [_]) ⟨rfl, trivial⟩ (jobs_S (own u 86 2 (vl.flatMap cdC)) u vl hun hlen RdS.own) rfl ?_)
  rintro v Θ ⟨u2, rfl, hu2, rfl⟩
  refine S.op (S.q (q_move rfl) rfl rfl ?_)
  refine S.op (S.q (q_assign rfl) rfl rfl ?_)
  refine S.op (S.q (q_assign rfl) rfl rfl ?_)
  first | with_reducible refine S.nilK ?_ | refine S.nil ?_
  refine hK3 _ _ ?_
  refine S.ret ?_
  with_reducible repeat (first | refine S.then_n ?_ | refine S.then_x ?_ | refine S.then_r ?_ | refine S.inBlock_n ?_ | refine S.inBlock_r ?_ | refine S.inBlock_x rfl ?_ | refine S.noGoto_r ?_ | refine S.noGoto_n ?_ | refine S.noGoto_x ?_)
  exact S.fin (rs := [_, _]) (vs := [_, _]) Tryd.results10 (⟨rfl, rfl, trivial⟩)  (⟨u2, rfl, by rw [← hvl]; exact hu2, by rw [← hvl]⟩) Sub.ent
end Go.Proofs.YtegjmmocnffpiaaDoor
/- Who has to make room: Choose. -/
namespace Go.Proofs.YtegjmmocnffpiaaDoor
open Go.RowKit
set_option maxRecDepth 20000
def cmpV (v w : List Cd) : Int := orI [cmpI (v.length : Int) (w.length : Int), cmpI (topR v) (topR w)]
def chUp (m : Mx) (tier k : Int) (l : List Cd) : Nat → List Cd × Nat × Bool
  | 0 => ([], 0, false)
  | i + 1 => if ((ofV m (i : Nat) tier k l).2 && (!(chUp m tier k l i).2.2 || decide (cmpV (ofV m (i : Nat) tier k l).1 (chUp m tier k l i).1 < 0))) = true then ((ofV m (i : Nat) tier k l).1, i, true) else chUp m tier k l i
def choR (m : Mx) (tier k : Int) (l : List Cd) : List Cd × Nat × Bool := chUp m tier k l m.R
theorem lesR_mem {m : Mx} {row tier : Int} {l : List Cd} {x : Cd} (h : x ∈ lesR m row tier l) : x ∈ l := by
  have h1 := (srtC_perm _).mem_iff.1 h
  exact List.mem_of_mem_take (lesUp_mem (Nat.le_refl _) h1)
theorem ofV_mem {m : Mx} {row tier k : Int} {l : List Cd} {x : Cd} (h : x ∈ (ofV m row tier k l).1) : x ∈ l := by
  unfold ofV at h
  split at h
  · cases h
  · split at h
    · exact lesR_mem (List.mem_of_mem_take h)
    · cases h
theorem ofV_len (m : Mx) (row tier k : Int) (l : List Cd) : (ofV m row tier k l).1.length ≤ l.length := by
  have := lesR_len m row tier l
  unfold ofV
  split
  · simp
  · split
    · simp only [List.length_take]; omega
    · simp
set_option maxHeartbeats 1000000 in
theorem Choose_S (b : Nat) (m : Mx) (tier k : Int) (R : Assn) (s : SV) (l : List Cd) (hsn : s.n = l.length) (hl : l.length ≤ 1000) (ht : ∀ x ∈ l, 0 ≤ x.2 ∧ x.2 ≤ 255) (hR : RdS R s s.n 2 (l.flatMap cdC)) {W : World} (hW : TabW W) : Spec Tryd.prog 8 [.pointer (some ⟨b, 0, none⟩), s.v, .int .u8 tier, .int .i64 k] [MI b m, R, old W] fun Γ v Θ =>
    ∃ u : SV, v = .tuple #[.agg #[.int .i64 ((choR m tier k l).2.1 : Nat), u.v], .bool (choR m tier k l).2.2] ∧ u.n = (choR m tier k l).1.length ∧ Θ = own u 68 1 (idsV (jobsR (choR m tier k l).1)) :: MI b m :: R :: old W :: Γ := by
  refine Spec.miOk fun hok => ?_
  refine Spec.of_body Tryd.func8 rfl Tryd.ntmps8 rfl ?_
  intro w0 Γ
  show S _ w0 [(0, .pointer (some ⟨b, 0, none⟩)), (1, s.v), (2, .int .u8 tier), (3, .int .i64 k)] (MI b m :: R :: old W :: Γ) _
  have hR8 := hok.R8
  refine S.seq fun K1 hK1 => ?_
  refine S.region rfl ?_
  refine S.op (S.alloc Tryd.z33 rfl ?_)
  intro b8
  refine S.op (S.q (q_assign rfl) rfl rfl ?_)
  first | with_reducible refine S.nilK ?_ | refine S.nil ?_
  refine hK1 _ _ ?_
  refine S.seq fun K2 hK2 => ?_
  refine S.region rfl ?_
  refine S.op (S.q (q_assign rfl) rfl rfl ?_)
  first | with_reducible refine S.nilK ?_ | refine S.nil ?_
  refine hK2 _ _ ?_
  refine S.seq fun K3 hK3 => ?_
  refine S.region rfl ?_
  refine S.op (S.q (q_assign rfl) rfl rfl ?_)
  refine S.op (S.q (q_assign rfl) rfl rfl ?_)
  first | with_reducible refine S.nilK ?_ | refine S.nil ?_
  refine hK3 _ _ ?_
  refine S.seq fun K4 hK4 => ?_
  refine S.region rfl ?_
  refine S.op (S.q (q_move rfl) rfl rfl ?_)
  refine S.op (S.call Tryd.en37 (vs := [_]) ⟨rfl, trivial⟩ (Size_S b m) rfl ?_)
  rintro v Θ ⟨rfl, rfl⟩
  refine S.op (S.q (q_move rfl) rfl rfl ?_)
  refine S.op (S.q (q_extract rfl rfl) rfl rfl ?_)
  refine S.op (S.q (q_extract rfl rfl) rfl rfl ?_)
  refine S.op (S.q (q_assign rfl) rfl rfl ?_)
  refine S.op (S.q (q_assign rfl) rfl rfl ?_)
  first | with_reducible refine S.nilK ?_ | refine S.nil ?_
  refine hK4 _ _ ?_
  refine S.seq fun K5 hK5 => ?_
  refine S.seq fun K6 hK6 => ?_
  refine S.region rfl ?_
  refine S.ent (Ent.ownNil 86 2) ?_
  show S _ w0 _ (own SV.nil 86 2 (([] : List Cd).flatMap cdC) :: _) _
  refine S.op (S.q (q_move rfl) rfl rfl ?_)
  refine S.op (S.q (q_move rfl) rfl rfl ?_)
  first | with_reducible refine S.nilK ?_ | refine S.nil ?_
  refine hK6 _ _ ?_
  refine S.block ?_
  refine S.loop (fun q ρ' Γ' => ∃ (i : Nat) (bu : SV) (best : List Cd) (row : Nat) (found : Bool), q = m.R - i ∧ i ≤ m.R ∧ chUp m tier k l i = (best, row, found) ∧ bu.n = best.length ∧ best.length ≤ 1000 ∧ (∀ x ∈ best, x ∈ l) ∧   ρ' = [(0, .pointer (some ⟨b, 0, none⟩)), (1, s.v), (2, .int .u8 tier), (3, .int .i64 k), (8, .pointer (some ⟨b8, 0, none⟩)), (10, bu.v), (11, .int .i64 (row : Int)), (12, .bool found), (23, .int .i64 (m.R : Int)), (24, .int .i64 (i : Int))] ∧   Γ' = own bu 86 2 (best.flatMap cdC) :: blk b8 33 #[.int .i64 0, .slice none 0 0] :: MI b m :: R :: old W :: Γ) (m := _) (ρ0 := _) (Γ0 := _) (⟨0, SV.nil, [], 0, false, rfl, by omega, rfl, rfl, by simp, fun _ h => (by cases h), rfl, rfl⟩) (by repeat (first | exact trivial | refine ⟨rfl, ?_⟩)) Sub.ent ?_
  rintro q ρ' Γ' ⟨i, bu, best, row, found, hq, hi, hch, hbu, hbl, hbm, rfl, rfl⟩
  obtain ⟨vl, ok, hv⟩ : ∃ vl ok, ofV m (i : Nat) tier k l = (vl, ok) := ⟨_, _, rfl⟩
  have hvl := ofV_len m (i : Nat) tier k l
  have hvm : ∀ x ∈ vl, x ∈ l := fun x hx => ofV_mem (m := m) (row := (i : Nat)) (tier := tier) (k := k) (by rw [hv]; exact hx)
  rw [hv] at hvl
  have hvl : vl.length ≤ l.length := hvl
  obtain ⟨c, hc⟩ : ∃ c, c = (ok && (!found || decide (cmpV vl best < 0))) := ⟨_, rfl⟩
  have hstep : chUp m tier k l (i + 1) = if c = true then (vl, i, true) else (best, row, found) := by rw [chUp, hch, hv, hc]
  refine S.seq fun K7 hK7 => ?_
  refine S.region rfl ?_
  refine S.op (S.q (q_lt rfl rfl) rfl rfl ?_)
  first | with_reducible refine S.nilK ?_ | refine S.nil ?_
  refine hK7 _ _ ?_
  refine S.seq fun K8 hK8 => ?_
  refine S.condD rfl (fun h1 => ?_) (fun h1 => ?_)
  · refine S.skip ?_
    with_reducible repeat (first | refine S.then_n ?_ | refine S.then_x ?_ | refine S.then_r ?_ | refine S.inBlock_n ?_ | refine S.inBlock_r ?_ | refine S.inBlock_x rfl ?_ | refine S.noGoto_r ?_ | refine S.noGoto_n ?_ | refine S.noGoto_x ?_)
    refine hK8 _ _ ?_
    refine S.seq fun K9 hK9 => ?_
    refine S.block ?_
    refine S.seq fun K10 hK10 => ?_
    refine S.region rfl ?_
    refine S.op (S.q (q_move rfl) rfl rfl ?_)
    refine S.op (S.q (q_assign rfl) rfl rfl ?_)
    first | with_reducible refine S.nilK ?_ | refine S.nil ?_
    refine hK10 _ _ ?_
    refine S.seq fun K11 hK11 => ?_
    refine S.region rfl ?_
    refine S.op (S.q (q_move rfl) rfl rfl ?_)
    refine S.op (S.q (q_move rfl) rfl rfl ?_)
    refine S.op (S.q (q_move rfl) rfl rfl ?_)
    refine S.op (S.q (q_move rfl) rfl rfl ?_)
    refine S.op (S.q (q_move rfl) rfl rfl ?_)
    refine S.op (S.call Tryd.en38 (vs := [_, _, _, _, _]) ⟨rfl, rfl, rfl, rfl, rfl, trivial⟩ (of_S b m (i : Nat) tier k R s l hsn hl hR hW) rfl ?_)
    rintro v Θ ⟨u, rfl, hun, rfl⟩
    rw [hv] at hun ⊢
    simp only at hun ⊢
    refine S.op (S.q (q_move rfl) rfl rfl ?_)
    refine S.op (S.q (q_extract rfl rfl) rfl rfl ?_)
    refine S.op (S.q (q_extract rfl rfl) rfl rfl ?_)
    refine S.op (S.q (q_assign rfl) rfl rfl ?_)
    refine S.op (S.q (q_assign rfl) rfl rfl ?_)
    first | with_reducible refine S.nilK ?_ | refine S.nil ?_
    refine hK11 _ _ ?_
    refine S.seq fun K12 hK12 => ?_
    refine S.cut (fun ρ' Γ' => ρ' = [(0, .pointer (some ⟨b, 0, none⟩)), (1, s.v), (2, .int .u8 tier), (3, .int .i64 k), (8, .pointer (some ⟨b8, 0, none⟩)), (10, bu.v), (11, .int .i64 (row : Int)), (12, .bool found), (15, .int .i64 (i : Int)), (16, u.v), (23, .int .i64 (m.R : Int)), (24, .int .i64 (i : Int)), (55, .bool c)] ∧   Γ' = own u 86 2 (vl.flatMap cdC) :: own bu 86 2 (best.flatMap cdC) :: blk b8 33 #[.int .i64 0, .slice none 0 0] :: MI b m :: R :: old W :: Γ) ?_ ?_
    · refine S.regionG ?_
      refine S.g_op rfl (S.q (q_move rfl) rfl rfl ?_)
      refine S.g_op rfl (S.q (q_move rfl) rfl rfl ?_)
      rcases Bool.eq_false_or_eq_true (ok) with hg8_1 | hg8_1
      · refine S.g_yes rfl rfl rfl (hg8_1) (S.q (q_move rfl) rfl rfl ?_)
        refine S.g_yes rfl rfl rfl (hg8_1) (S.q (q_not rfl) rfl rfl ?_)
        refine S.g_yes rfl rfl rfl (hg8_1) (S.q (q_move rfl) rfl rfl ?_)
        rcases Bool.eq_false_or_eq_true (!found) with hg8_4 | hg8_4
        · refine S.g_no rfl rfl rfl (hg8_4) rfl rfl ?_
          refine S.g_no rfl rfl rfl (hg8_4) rfl rfl ?_
          refine S.g_no rfl rfl rfl (hg8_4) rfl rfl ?_
          refine S.g_no rfl rfl rfl (hg8_4) rfl rfl ?_
          refine S.g_no rfl rfl rfl (hg8_4) rfl rfl ?_
          refine S.g_no rfl rfl rfl (hg8_4) rfl rfl ?_
          refine S.g_no rfl rfl rfl (hg8_4) rfl rfl ?_
          refine S.g_no rfl rfl rfl (hg8_4) rfl rfl ?_
          refine S.g_no rfl rfl rfl (hg8_4) rfl rfl ?_
          refine S.g_no rfl rfl rfl (hg8_4) rfl rfl ?_
          refine S.g_no rfl rfl rfl (hg8_4) rfl rfl ?_
          refine S.g_no rfl rfl rfl (hg8_4) rfl rfl ?_
          refine S.g_no rfl rfl rfl (hg8_4) rfl rfl ?_
          refine S.g_yes rfl rfl rfl (hg8_1) (S.q (q_pickT rfl (hg8_4) rfl) rfl rfl ?_)
          refine S.g_op rfl (S.q (q_pickT rfl (hg8_1) rfl) rfl rfl ?_)
          first | with_reducible refine S.g_nilK ?_ | refine S.g_nil ?_
          with_reducible repeat (first | refine S.then_n ?_ | refine S.then_x ?_ | refine S.then_r ?_ | refine S.inBlock_n ?_ | refine S.inBlock_r ?_ | refine S.inBlock_x rfl ?_ | refine S.noGoto_r ?_ | refine S.noGoto_n ?_ | refine S.noGoto_x ?_)
          first | (have e : c = decide (orI [cmpI u.n bu.n, cmpI (topR vl) (topR best)] < 0) := (by rw [hc, hg8_1, hg8_4, cmpV, hun, hbu]; rfl) ; rw [e] ; exact S.meet ⟨rfl, rfl⟩ ⟨rfl, rfl, rfl, rfl, rfl, rfl, rfl, rfl, rfl, rfl, rfl, rfl, rfl, trivial⟩ Sub.ent) | (have e : c = true := (by rw [hc, hg8_1, hg8_4]; rfl) ; rw [e] ; exact S.meet ⟨rfl, rfl⟩ ⟨rfl, rfl, rfl, rfl, rfl, rfl, rfl, rfl, rfl, rfl, rfl, rfl, rfl, trivial⟩ Sub.ent) | (have e : c = false := (by rw [hc, hg8_1]; rfl) ; rw [e] ; exact S.meet ⟨rfl, rfl⟩ ⟨rfl, rfl, rfl, rfl, rfl, rfl, rfl, rfl, rfl, rfl, rfl, rfl, rfl, trivial⟩ Sub.ent)
        · refine S.g_yes rfl rfl rfl (hg8_4) (S.q (q_move rfl) rfl rfl ?_)
          refine S.g_yes rfl rfl rfl (hg8_4) (S.q (q_len Tryd.underlying27 rfl) rfl rfl ?_)
          refine S.g_yes rfl rfl rfl (hg8_4) (S.q (q_move rfl) rfl rfl ?_)
          refine S.g_yes rfl rfl rfl (hg8_4) (S.q (q_len Tryd.underlying27 rfl) rfl rfl ?_)
          refine S.g_yes rfl rfl rfl (hg8_4) (S.call Tryd.en40 (vs := [_, _]) ⟨rfl, rfl, trivial⟩ (Compare64_S u.n bu.n) rfl ?_)
          rintro v Θ ⟨rfl, rfl⟩
          refine S.g_yes rfl rfl rfl (hg8_4) (S.q (q_move rfl) rfl rfl ?_)
          refine S.g_yes rfl rfl rfl (hg8_4) (S.call Tryd.en41 (vs := [_]) ⟨rfl, trivial⟩ (top_S (own u 86 2 (vl.flatMap cdC)) u vl hun RdS.own (fun x hx => ht x (hvm x hx))) rfl ?_)
          rintro v Θ ⟨rfl, rfl⟩
          refine S.g_yes rfl rfl rfl (hg8_4) (S.q (q_move rfl) rfl rfl ?_)
          refine S.g_yes rfl rfl rfl (hg8_4) (S.call Tryd.en41 (vs := [_]) ⟨rfl, trivial⟩ (top_S (own bu 86 2 (best.flatMap cdC)) bu best hbu RdS.own (fun x hx => ht x (hbm x hx))) rfl ?_)
          rintro v Θ ⟨rfl, rfl⟩
          refine S.g_yes rfl rfl rfl (hg8_4) (S.call Tryd.en40 (vs := [_, _]) ⟨rfl, rfl, trivial⟩ (Compare64_S (topR vl) (topR best)) rfl ?_)
          rintro v Θ ⟨rfl, rfl⟩
          refine S.g_yes rfl rfl rfl (hg8_4) (S.buildSlice (pvs := [(_, _), (_, _)]) [_, _] Tryd.underlying69 Tryd.inf3 rfl rfl ⟨⟨rfl, rfl⟩, ⟨rfl, rfl⟩, trivial⟩ rfl rfl ?_)
          intro b51
          refine S.g_yes rfl rfl rfl (hg8_4) (S.call Tryd.en39 (vs := [_]) ⟨rfl, trivial⟩ (Or_S (blk b51 3 #[.int .i64 (cmpI u.n bu.n), .int .i64 (cmpI (topR vl) (topR best))]) ⟨some ⟨b51, 0, none⟩, 2, 2⟩ [cmpI u.n bu.n, cmpI (topR vl) (topR best)] rfl (rdBlk (cs := [.int .i64 (cmpI u.n bu.n), .int .i64 (cmpI (topR vl) (topR best))]) rfl (by unfold maxLen; omega))) rfl ?_)
          rintro v Θ ⟨rfl, rfl⟩
          refine S.g_yes rfl rfl rfl (hg8_4) (S.q (q_lt rfl rfl) rfl rfl ?_)
          refine S.g_yes rfl rfl rfl (hg8_1) (S.q (q_pickF rfl (hg8_4) rfl) rfl rfl ?_)
          refine S.g_op rfl (S.q (q_pickT rfl (hg8_1) rfl) rfl rfl ?_)
          first | with_reducible refine S.g_nilK ?_ | refine S.g_nil ?_
          with_reducible repeat (first | refine S.then_n ?_ | refine S.then_x ?_ | refine S.then_r ?_ | refine S.inBlock_n ?_ | refine S.inBlock_r ?_ | refine S.inBlock_x rfl ?_ | refine S.noGoto_r ?_ | refine S.noGoto_n ?_ | refine S.noGoto_x ?_)
          first | (have e : c = decide (orI [cmpI u.n bu.n, cmpI (topR vl) (topR best)] < 0) := (by rw [hc, hg8_1, hg8_4, cmpV, hun, hbu]; rfl) ; rw [e] ; exact S.meet ⟨rfl, rfl⟩ ⟨rfl, rfl, rfl, rfl, rfl, rfl, rfl, rfl, rfl, rfl, rfl, rfl, rfl, trivial⟩ Sub.ent) | (have e : c = true := (by rw [hc, hg8_1, hg8_4]; rfl) ; rw [e] ; exact S.meet ⟨rfl, rfl⟩ ⟨rfl, rfl, rfl, rfl, rfl, rfl, rfl, rfl, rfl, rfl, rfl, rfl, rfl, trivial⟩ Sub.ent) | (have e : c = false := (by rw [hc, hg8_1]; rfl) ; rw [e] ; exact S.meet ⟨rfl, rfl⟩ ⟨rfl, rfl, rfl, rfl, rfl, rfl, rfl, rfl, rfl, rfl, rfl, rfl, rfl, trivial⟩ Sub.ent)
      · refine S.g_no rfl rfl rfl (hg8_1) rfl rfl ?_
        refine S.g_no rfl rfl rfl (hg8_1) rfl rfl ?_
        refine S.g_no rfl rfl rfl (hg8_1) rfl rfl ?_
        refine S.g_noU rfl rfl rfl rfl rfl ?_
        refine S.g_noU rfl rfl rfl rfl rfl ?_
        refine S.g_noU rfl rfl rfl rfl rfl ?_
        refine S.g_noU rfl rfl rfl rfl rfl ?_
        refine S.g_noU rfl rfl rfl rfl rfl ?_
        refine S.g_noU rfl rfl rfl rfl rfl ?_
        refine S.g_noU rfl rfl rfl rfl rfl ?_
        refine S.g_noU rfl rfl rfl rfl rfl ?_
        refine S.g_noU rfl rfl rfl rfl rfl ?_
        refine S.g_noU rfl rfl rfl rfl rfl ?_
        refine S.g_noU rfl rfl rfl rfl rfl ?_
        refine S.g_noU rfl rfl rfl rfl rfl ?_
        refine S.g_noU rfl rfl rfl rfl rfl ?_
        refine S.g_no rfl rfl rfl (hg8_1) rfl rfl ?_
        refine S.g_op rfl (S.q (q_pickF rfl (hg8_1) rfl) rfl rfl ?_)
        first | with_reducible refine S.g_nilK ?_ | refine S.g_nil ?_
        with_reducible repeat (first | refine S.then_n ?_ | refine S.then_x ?_ | refine S.then_r ?_ | refine S.inBlock_n ?_ | refine S.inBlock_r ?_ | refine S.inBlock_x rfl ?_ | refine S.noGoto_r ?_ | refine S.noGoto_n ?_ | refine S.noGoto_x ?_)
        first | (have e : c = decide (orI [cmpI u.n bu.n, cmpI (topR vl) (topR best)] < 0) := (by rw [hc, hg8_1, hg8_4, cmpV, hun, hbu]; rfl) ; rw [e] ; exact S.meet ⟨rfl, rfl⟩ ⟨rfl, rfl, rfl, rfl, rfl, rfl, rfl, rfl, rfl, rfl, rfl, rfl, rfl, trivial⟩ Sub.ent) | (have e : c = true := (by rw [hc, hg8_1, hg8_4]; rfl) ; rw [e] ; exact S.meet ⟨rfl, rfl⟩ ⟨rfl, rfl, rfl, rfl, rfl, rfl, rfl, rfl, rfl, rfl, rfl, rfl, rfl, trivial⟩ Sub.ent) | (have e : c = false := (by rw [hc, hg8_1]; rfl) ; rw [e] ; exact S.meet ⟨rfl, rfl⟩ ⟨rfl, rfl, rfl, rfl, rfl, rfl, rfl, rfl, rfl, rfl, rfl, rfl, rfl, trivial⟩ Sub.ent)
    · rintro ρ' Γ' ⟨rfl, rfl⟩
      refine hK12 _ _ ?_
      refine S.cond rfl (fun h2 => ?_) (fun h2 => ?_)
      · rw [if_pos h2] at hstep
        refine S.region rfl ?_
        refine S.op (S.q (q_move rfl) rfl rfl ?_)
        refine S.op (S.q (q_move rfl) rfl rfl ?_)
        refine S.op (S.q (q_assign rfl) rfl rfl ?_)
        refine S.op (S.q (q_assign rfl) rfl rfl ?_)
        refine S.op (S.q (q_assign rfl) rfl rfl ?_)
        first | with_reducible refine S.nilK ?_ | refine S.nil ?_
        with_reducible repeat (first | refine S.then_n ?_ | refine S.then_x ?_ | refine S.then_r ?_ | refine S.inBlock_n ?_ | refine S.inBlock_r ?_ | refine S.inBlock_x rfl ?_ | refine S.noGoto_r ?_ | refine S.noGoto_n ?_ | refine S.noGoto_x ?_)
        refine hK9 _ _ ?_
        refine S.region rfl ?_
        refine S.op (S.q (q_add rfl rfl (inI64 (by omega) (by omega))) rfl rfl ?_)
        refine S.op (S.q (q_move rfl) rfl rfl ?_)
        first | with_reducible refine S.nilK ?_ | refine S.nil ?_
        with_reducible repeat (first | refine S.then_n ?_ | refine S.then_x ?_ | refine S.then_r ?_ | refine S.inBlock_n ?_ | refine S.inBlock_r ?_ | refine S.inBlock_x rfl ?_ | refine S.noGoto_r ?_ | refine S.noGoto_n ?_ | refine S.noGoto_x ?_)
        first | exact S.next (q - 1) ⟨i + 1, u, vl, i, true, by omega, by omega, hstep, hun, by omega, hvm, rfl, rfl⟩ (by omega) (by repeat (first | exact trivial | refine ⟨rfl, ?_⟩)) Sub.ent | exact S.next (q - 1) ⟨i + 1, bu, best, row, found, by omega, by omega, hstep, hbu, hbl, hbm, rfl, rfl⟩ (by omega) (by repeat (first | exact trivial | refine ⟨rfl, ?_⟩)) Sub.ent
      · rw [if_neg (by rw [h2]; simp)] at hstep
        refine S.skip ?_
        with_reducible repeat (first | refine S.then_n ?_ | refine S.then_x ?_ | refine S.then_r ?_ | refine S.inBlock_n ?_ | refine S.inBlock_r ?_ | refine S.inBlock_x rfl ?_ | refine S.noGoto_r ?_ | refine S.noGoto_n ?_ | refine S.noGoto_x ?_)
        with_reducible repeat (first | refine S.then_n ?_ | refine S.then_x ?_ | refine S.then_r ?_ | refine S.inBlock_n ?_ | refine S.inBlock_r ?_ | refine S.inBlock_x rfl ?_ | refine S.noGoto_r ?_ | refine S.noGoto_n ?_ | refine S.noGoto_x ?_)
        refine hK9 _ _ ?_
        refine S.region rfl ?_
        refine S.op (S.q (q_add rfl rfl (inI64 (by omega) (by omega))) rfl rfl ?_)
        refine S.op (S.q (q_move rfl) rfl rfl ?_)
        first | with_reducible refine S.nilK ?_ | refine S.nil ?_
        with_reducible repeat (first | refine S.then_n ?_ | refine S.then_x ?_ | refine S.then_r ?_ | refine S.inBlock_n ?_ | refine S.inBlock_r ?_ | refine S.inBlock_x rfl ?_ | refine S.noGoto_r ?_ | refine S.noGoto_n ?_ | refine S.noGoto_x ?_)
        first | exact S.next (q - 1) ⟨i + 1, u, vl, i, true, by omega, by omega, hstep, hun, by omega, hvm, rfl, rfl⟩ (by omega) (by repeat (first | exact trivial | refine ⟨rfl, ?_⟩)) Sub.ent | exact S.next (q - 1) ⟨i + 1, bu, best, row, found, by omega, by omega, hstep, hbu, hbl, hbm, rfl, rfl⟩ (by omega) (by repeat (first | exact trivial | refine ⟨rfl, ?_⟩)) Sub.ent
  · have hfin : choR m tier k l = (best, row, found) := by rw [choR, ← hch, show i = m.R by omega]
    refine S.exit ?_
    with_reducible repeat (first | refine S.then_n ?_ | refine S.then_x ?_ | refine S.then_r ?_ | refine S.inBlock_n ?_ | refine S.inBlock_r ?_ | refine S.inBlock_x rfl ?_ | refine S.noGoto_r ?_ | refine S.noGoto_n ?_ | refine S.noGoto_x ?_)
    with_reducible refine S.inBlock_s ?_
    with_reducible repeat (first | refine S.then_n ?_ | refine S.then_x ?_ | refine S.then_r ?_ | refine S.inBlock_n ?_ | refine S.inBlock_r ?_ | refine S.inBlock_x rfl ?_ | refine S.noGoto_r ?_ | refine S.noGoto_n ?_ | refine S.noGoto_x ?_)
    refine hK5 _ _ ?_
    refine S.seq fun K13 hK13 => ?_
    refine S.region rfl ?_
    refine S.op (S.q (q_move rfl) rfl rfl ?_)
    refine S.op (S.q (q_move rfl) rfl rfl ?_)
    refine S.op (S.call Tryd.en42 (vs := [_]) ⟨rfl, trivial⟩ (jobs_S (own bu 86 2 (best.flatMap cdC)) bu best hbu hbl RdS.own) rfl ?_)
    rintro v Θ ⟨u2, rfl, hu2, rfl⟩
    refine S.op (S.q (q_build (pvs := [(_, _), (_, _)]) [_, _] Tryd.z33 Tryd.p33 ⟨⟨rfl, rfl⟩, ⟨rfl, rfl⟩, trivial⟩ rfl) rfl rfl ?_)
    refine S.op (S.q (q_move rfl) rfl rfl ?_)
    refine S.op (S.storeS (cs' := [_, _]) Tryd.ag33 rfl rfl rfl rfl rfl rfl ?_)
    refine S.op (S.q (q_assign rfl) rfl rfl ?_)
    first | with_reducible refine S.nilK ?_ | refine S.nil ?_
    refine hK13 _ _ ?_
    refine S.ret ?_
    with_reducible repeat (first | refine S.then_n ?_ | refine S.then_x ?_ | refine S.then_r ?_ | refine S.inBlock_n ?_ | refine S.inBlock_r ?_ | refine S.inBlock_x rfl ?_ | refine S.noGoto_r ?_ | refine S.noGoto_n ?_ | refine S.noGoto_x ?_)
    exact S.fin (rs := [_, _]) (vs := [_, _]) Tryd.results8 (⟨⟨_, _, rfl, lod_agg [_, _] Tryd.ag33 rfl ⟨rfl, rfl, trivial⟩⟩, rfl, trivial⟩)  (⟨u2, by rw [hfin]; rfl, by rw [hfin]; exact hu2, by rw [hfin]⟩) Sub.ent
end Go.Proofs.YtegjmmocnffpiaaDoor
