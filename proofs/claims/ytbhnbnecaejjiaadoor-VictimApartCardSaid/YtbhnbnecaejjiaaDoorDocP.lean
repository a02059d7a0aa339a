/- The document's matrix: cells, and which nodes are up; New. -/
import Derived.Test.YtbhnbnecaejjiaaDoorRef12A
namespace Go.Proofs.YtbhnbnecaejjiaaDoor
open Go.RowKit
set_option maxRecDepth 20000
def rowN (m : Mx) (r : Nat) : List Nat := (List.range m.N).map (atJ m.js r)
theorem rowN_len (m : Mx) (r : Nat) : (rowN m r).length = m.N := by rw [rowN, List.length_map, List.length_range]
theorem rowN_get {m : Mx} {i : Nat} (h : i < m.N) (r : Nat) : (rowN m r)[i]? = some (atJ m.js r i) := by simp [rowN, h]
abbrev Rr := SV × List Nat
abbrev rrV (p : Rr) : Value := p.1.v
abbrev rrB (p : Rr) : Assn := own p.1 36 1 (idsV p.2)
abbrev upC (m : Mx) : List Value := (List.range m.N).map fun i => .bool (m.up.getLsbD i)
structure RiOk (m : Mx) (cs us : SV) (rs : List Rr) : Prop where
  ok : MxOk m
  cn : cs.n = m.R
  un : us.n = m.N
  dat : rs.map (·.2) = (List.range m.R).map (rowN m)
  len : ∀ p ∈ rs, p.1.n = m.N
theorem RiOk.rlen {m : Mx} {cs us : SV} {rs : List Rr} (h : RiOk m cs us rs) : rs.length = m.R := by
  have := congrArg List.length h.dat
  simpa using this
theorem RiOk.at_ {m : Mx} {cs us : SV} {rs : List Rr} (h : RiOk m cs us rs) {r : Nat} (hr : r < m.R) : ∃ p : Rr, rs[r]? = some p ∧ p.2 = rowN m r ∧ p.1.n = m.N := by
  have h1 := List.getElem?_eq_getElem (show r < rs.length by rw [h.rlen]; exact hr)
  refine ⟨rs[r]'(by rw [h.rlen]; exact hr), h1, ?_, h.len _ (List.getElem_mem _)⟩
  have h2 := congrArg (fun l => l[r]?) h.dat
  simp only [List.getElem?_map, h1, List.getElem?_range hr, Option.map_some] at h2
  exact Option.some.inj h2
def RI (b : Nat) (m : Mx) : Assn := fun h => ∃ (cs us : SV) (rs : List Rr), RiOk m cs us rs ∧ stars [blk b 45 #[cs.v, us.v], own cs 34 1 (rs.map rrV), own us 4 1 (upC m), alls rs rrB] h
section
variable {n : Nat} {md : Bool} {w0 : WM md} {ρ : Env} {Γ Δ : List Assn} {φ : Act → World → Prop}
theorem S.riOpen (b : Nat) (m : Mx) [p : Pick (RI b m) Γ Δ] (k : ∀ cs us rs, RiOk m cs us rs → S n w0 ρ (blk b 45 #[cs.v, us.v] :: own cs 34 1 (rs.map rrV) :: own us 4 1 (upC m) :: alls rs rrB :: Δ) φ) : S n w0 ρ Γ φ := by
  intro a w ha hs hx
  obtain ⟨h0, l0, h1, h2, d, l1, l2, ⟨cs, us, rs, q1, q4⟩, s⟩ := hs.ent p.ent
  exact k cs us rs q1 a w ha ⟨h0, l0, (Ent.unpack [blk b 45 #[cs.v, us.v], own cs 34 1 (rs.map rrV), own us 4 1 (upC m), alls rs rrB] Δ) _ ⟨h1, h2, d, l1, l2, q4, s⟩⟩ hx
theorem Ent.ri {b : Nat} {m : Mx} {cs us : SV} {rs : List Rr} (h : RiOk m cs us rs) (Γ : List Assn) : Ent (blk b 45 #[cs.v, us.v] :: own cs 34 1 (rs.map rrV) :: own us 4 1 (upC m) :: alls rs rrB :: Γ) (RI b m :: Γ) :=
  (Ent.pack [blk b 45 #[cs.v, us.v], own cs 34 1 (rs.map rrV), own us 4 1 (upC m), alls rs rrB] Γ).trans (Ent.mono1 Γ fun _ s => ⟨cs, us, rs, h, s⟩)
theorem S.riClose (b : Nat) (m : Mx) (cs us : SV) (rs : List Rr) {Δ1 Δ2 Δ3 Δ4 : List Assn} (h : RiOk m cs us rs) [p1 : Pick (blk b 45 #[cs.v, us.v]) Γ Δ1] [p2 : Pick (own cs 34 1 (rs.map rrV)) Δ1 Δ2] [p3 : Pick (own us 4 1 (upC m)) Δ2 Δ3] [p4 : Pick (alls rs rrB) Δ3 Δ4]
    (k : S n w0 ρ (RI b m :: Δ4) φ) : S n w0 ρ Γ φ :=
  S.ent ((p1.ent.trans ((p2.ent.trans ((p3.ent.trans (p4.ent.cons _)).cons _)).cons _)).trans (Ent.ri h Δ4)) k
end
theorem Spec.riOk {b : Nat} {m : Mx} {P : Program} {f : FuncId} {args : List Value} {pre : List Assn} {post : List Assn → Value → List Assn → Prop} {md : Bool} (h : MxOk m → Spec P f args (RI b m :: pre) post md) : Spec P f args (RI b m :: pre) post md := by
  intro Γ w hs
  obtain ⟨_, _, _, _, _, q1, _⟩ := hs.head
  exact h q1.ok Γ w hs
theorem rowN_mx0 (R N r : Nat) : rowN (mx0 R N) r = List.replicate N 0 := by
  refine List.eq_replicate_iff.2 ⟨rowN_len _ _, fun v hv => ?_⟩
  obtain ⟨i, _, rfl⟩ := List.mem_map.1 hv
  rfl
theorem zeroRow_ids (N : Nat) : zeroRow [Value.int .u32 0] N = idsV (List.replicate N 0) := by
  induction N with
  | zero => rfl
  | succ N ih => rw [zeroRow, ih, List.replicate_succ]; rfl
theorem upC_mx0 (R : Nat) {N : Nat} (h : N ≤ 16) : upC (mx0 R N) = List.replicate N (.bool true) := by
  refine List.eq_replicate_iff.2 ⟨by simp; rfl, fun v hv => ?_⟩
  obtain ⟨i, hi, rfl⟩ := List.mem_map.1 hv
  rw [show (mx0 R N).up.getLsbD i = true from (mask_bit h i).2 (List.mem_range.1 hi)]
theorem rNew_S (R N : Nat) (hR1 : 1 ≤ R) (hR8 : R ≤ 8) (hN1 : 1 ≤ N) (hN16 : N ≤ 16) : Spec Tryd.prog 39 [.int .i64 (R : Int), .int .i64 (N : Int)] [] fun Γ v Θ => ∃ b, v = .tuple #[.pointer (some ⟨b, 0, none⟩), .int .i64 0] ∧ Θ = RI b (mx0 R N) :: Γ := by
  refine Spec.of_body Tryd.func39 rfl Tryd.ntmps39 rfl ?_
  intro w0 Γ
  show S _ w0 [(0, .int .i64 (R : Int)), (1, .int .i64 (N : Int))] Γ _
  refine S.seq fun K1 hK1 => ?_
  refine S.region rfl ?_
  refine S.op (S.q (q_assign rfl) rfl rfl ?_)
  refine S.op (S.q (q_assign rfl) rfl rfl ?_)
  first | with_reducible refine S.nilK ?_ | refine S.nil ?_
  refine hK1 _ _ ?_
  refine S.seq fun K2 hK2 => ?_
  refine S.seq fun K3 hK3 => ?_
  refine S.regionG ?_
  refine S.g_op rfl (S.q (q_move rfl) rfl rfl ?_)
  refine S.g_op rfl (S.q (q_lt rfl rfl) rfl rfl ?_)
  refine S.g_op rfl (S.q (q_move rfl) rfl rfl ?_)
  by_cases hg1_2 : (R : Int) < 1
  · omega
  · refine S.g_yes rfl rfl rfl (decide_eq_false hg1_2) (S.q (q_move rfl) rfl rfl ?_)
    refine S.g_yes rfl rfl rfl (decide_eq_false hg1_2) (S.q (q_gt rfl rfl) rfl rfl ?_)
    refine S.g_op rfl (S.q (q_pickF rfl (decide_eq_false hg1_2) rfl) rfl rfl ?_)
    refine S.g_op rfl (S.q (q_move rfl) rfl rfl ?_)
    by_cases hg1_6 : (8 : Int) < R
    · omega
    · refine S.g_yes rfl rfl rfl (decide_eq_false hg1_6) (S.q (q_move rfl) rfl rfl ?_)
      refine S.g_yes rfl rfl rfl (decide_eq_false hg1_6) (S.q (q_lt rfl rfl) rfl rfl ?_)
      refine S.g_op rfl (S.q (q_pickF rfl (decide_eq_false hg1_6) rfl) rfl rfl ?_)
      refine S.g_op rfl (S.q (q_move rfl) rfl rfl ?_)
      by_cases hg1_10 : (N : Int) < 1
      · omega
      · refine S.g_yes rfl rfl rfl (decide_eq_false hg1_10) (S.q (q_move rfl) rfl rfl ?_)
        refine S.g_yes rfl rfl rfl (decide_eq_false hg1_10) (S.q (q_gt rfl rfl) rfl rfl ?_)
        refine S.g_op rfl (S.q (q_pickF rfl (decide_eq_false hg1_10) rfl) rfl rfl ?_)
        first | with_reducible refine S.g_nilK ?_ | refine S.g_nil ?_
        refine hK3 _ _ ?_
        refine S.condD rfl (fun h1 => ?_) (fun h1 => ?_)
        · omega
        · refine S.skip ?_
          with_reducible repeat (first | refine S.then_n ?_ | refine S.then_x ?_ | refine S.then_r ?_ | refine S.inBlock_n ?_ | refine S.inBlock_r ?_ | refine S.inBlock_x rfl ?_ | refine S.noGoto_r ?_ | refine S.noGoto_n ?_ | refine S.noGoto_x ?_)
          refine hK2 _ _ ?_
          refine S.seq fun K4 hK4 => ?_
          refine S.region rfl ?_
          refine S.op (S.q (q_build (pvs := []) [_, _] Tryd.z45 Tryd.p45 trivial rfl) rfl rfl ?_)
          refine S.op (S.box (cs := [_, _]) rfl rfl rfl ?_)
          intro b22
          refine S.op (S.q (q_assign rfl) rfl rfl ?_)
          first | with_reducible refine S.nilK ?_ | refine S.nil ?_
          refine hK4 _ _ ?_
          refine S.seq fun K5 hK5 => ?_
          refine S.seq fun K6 hK6 => ?_
          refine S.region rfl ?_
          show S _ w0 _ (blk b22 45 #[SV.nil.v, SV.nil.v] :: Γ) _
          refine S.ent (Ent.ownNil 34 1) ?_
          refine S.ent (Ent.allsNil rrB _) ?_
          show S _ w0 _ (alls [] rrB :: own SV.nil 34 1 (([] : List Rr).map rrV) :: blk b22 45 #[SV.nil.v, SV.nil.v] :: Γ) _
          refine S.op (S.q (q_move rfl) rfl rfl ?_)
          refine S.op (S.q (q_move rfl) rfl rfl ?_)
          first | with_reducible refine S.nilK ?_ | refine S.nil ?_
          refine hK6 _ _ ?_
          refine S.block ?_
          refine S.loop (fun q ρ' Γ' => ∃ (i : Nat) (rs : List Rr) (cs : SV), q = R - i ∧ i ≤ R ∧ rs.length = i ∧ cs.n = i ∧ (∀ p ∈ rs, p.1.n = N ∧ p.2 = List.replicate N 0) ∧ ρ' = [(1, .int .i64 (N : Int)), (6, .pointer (some ⟨b22, 0, none⟩)), (23, .int .i64 (R : Int)), (24, .int .i64 (i : Int))] ∧   Γ' = alls rs rrB :: own cs 34 1 (rs.map rrV) :: blk b22 45 #[cs.v, SV.nil.v] :: Γ) (m := _) (ρ0 := _) (Γ0 := _) (⟨0, [], SV.nil, rfl, by omega, rfl, rfl, fun _ h => (by cases h), rfl, rfl⟩) (by repeat (first | exact trivial | refine ⟨rfl, ?_⟩)) Sub.ent ?_
          rintro q ρ' Γ' ⟨i, rs, cs, hq, hi, hrl, hcn, hall, rfl, rfl⟩
          refine S.seq fun K7 hK7 => ?_
          refine S.region rfl ?_
          refine S.op (S.q (q_lt rfl rfl) rfl rfl ?_)
          first | with_reducible refine S.nilK ?_ | refine S.nil ?_
          refine hK7 _ _ ?_
          refine S.seq fun K8 hK8 => ?_
          refine S.condD rfl (fun h2 => ?_) (fun h2 => ?_)
          · refine S.skip ?_
            with_reducible repeat (first | refine S.then_n ?_ | refine S.then_x ?_ | refine S.then_r ?_ | refine S.inBlock_n ?_ | refine S.inBlock_r ?_ | refine S.inBlock_x rfl ?_ | refine S.noGoto_r ?_ | refine S.noGoto_n ?_ | refine S.noGoto_x ?_)
            refine hK8 _ _ ?_
            refine S.seq fun K9 hK9 => ?_
            refine S.block ?_
            refine S.draw ([blk b22 45 #[cs.v, SV.nil.v]]) [11] Tryd.mixed ?_
            refine S.dr_take 0 [9, 10, 11] rfl (by kernel_rfl) rfl rfl rfl (q_move rfl) Sub.ent ?_
            refine S.dr_take 1 [2, 3, 4, 8, 9, 10, 11] rfl (by kernel_rfl) rfl rfl rfl (q_move rfl) Sub.ent ?_
            refine S.dr_take 2 [3, 4, 8, 9, 10, 11] rfl (by kernel_rfl) rfl rfl rfl (q_nilCheck rfl) Sub.ent ?_
            refine S.dr_take 3 [4, 8, 9, 10, 11] rfl (by kernel_rfl) rfl rfl rfl (q_field Tryd.fo45_0 rfl) Sub.ent ?_
            refine S.dr_take 4 [8, 9, 10, 11] rfl (by kernel_rfl) rfl rfl rfl (q_load Tryd.at42 rfl rfl) Sub.ent ?_
            refine S.dr_take 5 [6, 7, 8, 9, 10, 11] rfl (by kernel_rfl) rfl rfl rfl (q_move rfl) Sub.ent ?_
            refine S.dr_1 (i := 6) (by kernel_rfl) rfl rfl ?_
            refine  (S.makeSlice (N) (N) Tryd.underlying34 Tryd.inf36 rfl rfl rfl rfl rfl (Nat.le_refl _) (by omega) rfl ?_)
            intro nv hnv
            refine S.dr_k rfl Sub.ent ?_
            refine S.dr_1 (i := 7) (by kernel_rfl) rfl rfl ?_
            refine  (S.buildSlice (pvs := [(_, _)]) [_] Tryd.underlying42 Tryd.inf34 rfl rfl ⟨⟨rfl, rfl⟩, trivial⟩ rfl rfl ?_)
            intro b33
            refine S.dr_k rfl Sub.ent ?_
            refine S.dr_1 (i := 8) (by kernel_rfl) rfl rfl ?_
            refine  (S.appendOw (s := cs) (1) ([nv.v]) Tryd.underlying42 Tryd.inf34 rfl rfl rfl (blk_slAt (b := b33) rfl (by unfold maxLen; omega)) (by first | rfl | exact allOne_bcells _) (⟨by omega, by omega⟩) rfl ?_)
            intro cs2 hcs2
            refine S.dr_k rfl Sub.ent ?_
            refine S.dr_take 9 [10, 11] rfl (by kernel_rfl) rfl rfl rfl (q_nilCheck rfl) Sub.ent ?_
            refine S.dr_take 10 [11] rfl (by kernel_rfl) rfl rfl rfl (q_field Tryd.fo45_0 rfl) Sub.ent ?_
            refine S.dr_1 (i := 11) (by kernel_rfl) rfl rfl ?_
            refine  (S.store (cs' := [_, _]) Tryd.at42 rfl rfl rfl rfl rfl ?_)
            refine S.dr_late ([]) [] rfl ?_
            first | with_reducible refine S.dr_doneK (by kernel_rfl) ?_ | refine S.dr_done (by kernel_rfl) ?_
            with_reducible repeat (first | refine S.then_n ?_ | refine S.then_x ?_ | refine S.then_r ?_ | refine S.inBlock_n ?_ | refine S.inBlock_r ?_ | refine S.inBlock_x rfl ?_ | refine S.noGoto_r ?_ | refine S.noGoto_n ?_ | refine S.noGoto_x ?_)
            refine hK9 _ _ ?_
            refine S.region rfl ?_
            refine S.op (S.q (q_add rfl rfl (inI64 (by omega) (by omega))) rfl rfl ?_)
            refine S.op (S.q (q_move rfl) rfl rfl ?_)
            first | with_reducible refine S.nilK ?_ | refine S.nil ?_
            with_reducible repeat (first | refine S.then_n ?_ | refine S.then_x ?_ | refine S.then_r ?_ | refine S.inBlock_n ?_ | refine S.inBlock_r ?_ | refine S.inBlock_x rfl ?_ | refine S.noGoto_r ?_ | refine S.noGoto_n ?_ | refine S.noGoto_x ?_)
            have hall2 : ∀ p ∈ rs ++ [(nv, List.replicate N 0)], p.1.n = N ∧ p.2 = List.replicate N 0 := fun p hp => by
              rcases List.mem_append.1 hp with h9 | h9
              · exact hall p h9
              · rw [List.mem_singleton] at h9
                subst h9
                exact ⟨hnv, rfl⟩
            have hmap : rs.map rrV ++ [nv.v] = (rs ++ [((nv, List.replicate N 0) : Rr)]).map rrV := by rw [List.map_append]; rfl
            rw [hmap, zeroRow_ids]
            refine S.conv2 (own nv 36 1 (idsV (List.replicate N 0))) (alls rs rrB) (Ent.allsSnoc rrB rs ((nv, List.replicate N 0) : Rr) _) ?_
            exact S.next (q - 1) (⟨i + 1, rs ++ [(nv, List.replicate N 0)], cs2, by omega, by omega, by rw [List.length_append, hrl]; rfl, by omega, hall2, rfl, rfl⟩) (by omega) (by repeat (first | exact trivial | refine ⟨rfl, ?_⟩)) Sub.ent
          · have hiR : i = R := by omega
            refine S.ent (Ent.ownNil 4 1) ?_
            show S _ w0 _ (own SV.nil 4 1 (List.replicate 0 (.bool true)) :: _) _
            refine S.exit ?_
            with_reducible repeat (first | refine S.then_n ?_ | refine S.then_x ?_ | refine S.then_r ?_ | refine S.inBlock_n ?_ | refine S.inBlock_r ?_ | refine S.inBlock_x rfl ?_ | refine S.noGoto_r ?_ | refine S.noGoto_n ?_ | refine S.noGoto_x ?_)
            with_reducible refine S.inBlock_s ?_
            with_reducible repeat (first | refine S.then_n ?_ | refine S.then_x ?_ | refine S.then_r ?_ | refine S.inBlock_n ?_ | refine S.inBlock_r ?_ | refine S.inBlock_x rfl ?_ | refine S.noGoto_r ?_ | refine S.noGoto_n ?_ | refine S.noGoto_x ?_)
            refine hK5 _ _ ?_
            refine S.seq fun K10 hK10 => ?_
            refine S.seq fun K11 hK11 => ?_
            refine S.region rfl ?_
            refine S.op (S.q (q_move rfl) rfl rfl ?_)
            refine S.op (S.q (q_move rfl) rfl rfl ?_)
            first | with_reducible refine S.nilK ?_ | refine S.nil ?_
            refine hK11 _ _ ?_
            refine S.block ?_
            refine S.loop (fun q ρ' Γ' => ∃ (k : Nat) (us : SV), q = N - k ∧ k ≤ N ∧ us.n = k ∧ ρ' = [(6, .pointer (some ⟨b22, 0, none⟩)), (38, .int .i64 (N : Int)), (39, .int .i64 (k : Int))] ∧   Γ' = own us 4 1 (List.replicate k (.bool true)) :: alls rs rrB :: own cs 34 1 (rs.map rrV) :: blk b22 45 #[cs.v, us.v] :: Γ) (m := _) (ρ0 := _) (Γ0 := _) (⟨0, SV.nil, rfl, by omega, rfl, rfl, rfl⟩) (by repeat (first | exact trivial | refine ⟨rfl, ?_⟩)) Sub.ent ?_
            rintro q ρ' Γ' ⟨k, us, hq, hk, hun, rfl, rfl⟩
            refine S.seq fun K12 hK12 => ?_
            refine S.region rfl ?_
            refine S.op (S.q (q_lt rfl rfl) rfl rfl ?_)
            first | with_reducible refine S.nilK ?_ | refine S.nil ?_
            refine hK12 _ _ ?_
            refine S.seq fun K13 hK13 => ?_
            refine S.condD rfl (fun h3 => ?_) (fun h3 => ?_)
            · refine S.skip ?_
              with_reducible repeat (first | refine S.then_n ?_ | refine S.then_x ?_ | refine S.then_r ?_ | refine S.inBlock_n ?_ | refine S.inBlock_r ?_ | refine S.inBlock_x rfl ?_ | refine S.noGoto_r ?_ | refine S.noGoto_n ?_ | refine S.noGoto_x ?_)
              refine hK13 _ _ ?_
              refine S.seq fun K14 hK14 => ?_
              refine S.block ?_
              refine S.region rfl ?_
              refine S.op (S.q (q_move rfl) rfl rfl ?_)
              refine S.op (S.q (q_move rfl) rfl rfl ?_)
              refine S.op (S.q (q_nilCheck rfl) rfl rfl ?_)
              refine S.op (S.q (q_field Tryd.fo45_1 rfl) rfl rfl ?_)
              refine S.op (S.q (q_load Tryd.at43 rfl rfl) rfl rfl ?_)
              refine S.op (S.buildSlice (pvs := [(_, _)]) [_] Tryd.underlying43 Tryd.inf4 rfl rfl ⟨⟨rfl, rfl⟩, trivial⟩ rfl rfl ?_)
              intro b46
              refine S.op (S.appendOw (s := us) (1) ([.bool true]) Tryd.underlying43 Tryd.inf4 rfl rfl rfl (blk_slAt (b := b46) rfl (by unfold maxLen; omega)) (by first | rfl | exact allOne_bcells _) (⟨by omega, by omega⟩) rfl ?_)
              intro us2 hus2
              refine S.op (S.q (q_nilCheck rfl) rfl rfl ?_)
              refine S.op (S.q (q_field Tryd.fo45_1 rfl) rfl rfl ?_)
              refine S.op (S.store (cs' := [_, _]) Tryd.at43 rfl rfl rfl rfl rfl ?_)
              first | with_reducible refine S.nilK ?_ | refine S.nil ?_
              with_reducible repeat (first | refine S.then_n ?_ | refine S.then_x ?_ | refine S.then_r ?_ | refine S.inBlock_n ?_ | refine S.inBlock_r ?_ | refine S.inBlock_x rfl ?_ | refine S.noGoto_r ?_ | refine S.noGoto_n ?_ | refine S.noGoto_x ?_)
              refine hK14 _ _ ?_
              refine S.region rfl ?_
              refine S.op (S.q (q_add rfl rfl (inI64 (by omega) (by omega))) rfl rfl ?_)
              refine S.op (S.q (q_move rfl) rfl rfl ?_)
              first | with_reducible refine S.nilK ?_ | refine S.nil ?_
              with_reducible repeat (first | refine S.then_n ?_ | refine S.then_x ?_ | refine S.then_r ?_ | refine S.inBlock_n ?_ | refine S.inBlock_r ?_ | refine S.inBlock_x rfl ?_ | refine S.noGoto_r ?_ | refine S.noGoto_n ?_ | refine S.noGoto_x ?_)
              rw [show List.replicate k (Value.bool true) ++ [.bool true] = List.replicate (k + 1) (.bool true) from (List.replicate_succ').symm]
              exact S.next (q - 1) (⟨k + 1, us2, by omega, by omega, by omega, rfl, rfl⟩) (by omega) (by repeat (first | exact trivial | refine ⟨rfl, ?_⟩)) Sub.ent
            · have hkN : k = N := by omega
              rw [hkN, ← upC_mx0 R hN16]
              have hri : RiOk (mx0 R N) cs us rs := ⟨mx0_ok hR1 hR8 hN1 hN16, by rw [hcn, hiR]; rfl, by rw [hun, hkN]; rfl, by
                refine List.ext_getElem (by simp [hrl, hiR]; rfl) fun r h1 h2 => ?_
                simp only [List.getElem_map, List.getElem_range, rowN_mx0]
                exact (hall _ (List.getElem_mem _)).2, fun p hp => (hall p hp).1⟩
              refine S.exit ?_
              with_reducible repeat (first | refine S.then_n ?_ | refine S.then_x ?_ | refine S.then_r ?_ | refine S.inBlock_n ?_ | refine S.inBlock_r ?_ | refine S.inBlock_x rfl ?_ | refine S.noGoto_r ?_ | refine S.noGoto_n ?_ | refine S.noGoto_x ?_)
              with_reducible refine S.inBlock_s ?_
              with_reducible repeat (first | refine S.then_n ?_ | refine S.then_x ?_ | refine S.then_r ?_ | refine S.inBlock_n ?_ | refine S.inBlock_r ?_ | refine S.inBlock_x rfl ?_ | refine S.noGoto_r ?_ | refine S.noGoto_n ?_ | refine S.noGoto_x ?_)
              refine hK10 _ _ ?_
              refine S.seq fun K15 hK15 => ?_
              refine S.region rfl ?_
              refine S.op (S.q (q_move rfl) rfl rfl ?_)
              refine S.op (S.q (q_assign rfl) rfl rfl ?_)
              refine S.op (S.q (q_assign rfl) rfl rfl ?_)
              first | with_reducible refine S.nilK ?_ | refine S.nil ?_
              refine hK15 _ _ ?_
              refine S.ret ?_
              with_reducible repeat (first | refine S.then_n ?_ | refine S.then_x ?_ | refine S.then_r ?_ | refine S.inBlock_n ?_ | refine S.inBlock_r ?_ | refine S.inBlock_x rfl ?_ | refine S.noGoto_r ?_ | refine S.noGoto_n ?_ | refine S.noGoto_x ?_)
              refine S.riClose b22 (mx0 R N) cs us rs hri ?_
              exact S.fin (rs := [_, _]) (vs := [_, _]) Tryd.results39 (⟨rfl, rfl, trivial⟩)  (⟨b22, rfl, rfl⟩) Sub.ent
end Go.Proofs.YtbhnbnecaejjiaaDoor
