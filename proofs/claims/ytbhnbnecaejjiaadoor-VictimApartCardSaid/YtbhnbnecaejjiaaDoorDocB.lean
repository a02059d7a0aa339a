/- The document's matrix: Of. -/
import Derived.Test.YtbhnbnecaejjiaaDoorDocP
namespace Go.Proofs.YtbhnbnecaejjiaaDoor
open Go.RowKit
set_option maxRecDepth 20000
/-- The nodes below i of a row at which a job stands. -/
def ndsAt (m : Mx) (j r : Nat) : Nat → List Nat
  | 0 => []
  | i + 1 => if atJ m.js r i = j then ndsAt m j r i ++ [i] else ndsAt m j r i
theorem mem_ndsAt {m : Mx} {j r k : Nat} : ∀ {i : Nat}, k ∈ ndsAt m j r i ↔ k < i ∧ atJ m.js r k = j
  | 0 => by simp [ndsAt]
  | i + 1 => by
    rw [ndsAt]
    split
    · rename_i h
      rw [List.mem_append, mem_ndsAt, List.mem_singleton]
      constructor
      · rintro (⟨h1, h2⟩ | rfl)
        · exact ⟨by omega, h2⟩
        · exact ⟨by omega, h⟩
      · rintro ⟨h1, h2⟩
        by_cases e : k = i
        · exact .inr e
        · exact .inl ⟨by omega, h2⟩
    · rename_i h
      rw [mem_ndsAt]
      constructor
      · rintro ⟨h1, h2⟩; exact ⟨by omega, h2⟩
      · rintro ⟨h1, h2⟩
        by_cases e : k = i
        · subst e; exact absurd h2 h
        · exact ⟨by omega, h2⟩
theorem ndsAt_rise (m : Mx) (j r : Nat) : ∀ i, (ndsAt m j r i).Pairwise (· < ·)
  | 0 => List.Pairwise.nil
  | i + 1 => by
    rw [ndsAt]
    split
    · refine List.pairwise_append.2 ⟨ndsAt_rise m j r i, List.pairwise_singleton _ _, fun a ha b hb => ?_⟩
      rw [List.mem_singleton] at hb
      have := (mem_ndsAt.1 ha).1
      omega
    · exact ndsAt_rise m j r i
theorem ndsAt_len (m : Mx) (j r : Nat) : ∀ i, (ndsAt m j r i).length ≤ i
  | 0 => Nat.le_refl _
  | i + 1 => by
    have := ndsAt_len m j r i
    rw [ndsAt]
    split
    · rw [List.length_append, List.length_singleton]; omega
    · omega
theorem atJ_iff {m : Mx} (hm : MxOk m) {j r i : Nat} (hj : j ≠ 0) : atJ m.js r i = j ↔ ∃ x ∈ m.js, x.row = r ∧ x.ns.getLsbD i = true ∧ x.id = j := by
  constructor
  · intro h
    refine Classical.byContradiction fun hn => hj ?_
    rw [← h]
    refine atJ_none fun x hx e => ?_
    cases hb : x.ns.getLsbD i with
    | false => rfl
    | true => exact absurd ⟨x, hx, e, hb, (atJ_some hm hx e hb).symm.trans h⟩ hn
  · rintro ⟨x, h1, h2, h3, h4⟩
    rw [← h4]
    exact atJ_some hm h1 h2 h3
theorem ndsAt_some {m : Mx} (hm : MxOk m) {j : Nat} {x : Jb} (h : look m.js j = some x) : ndsAt m j x.row m.N = lst x.ns := by
  obtain ⟨h1, h2⟩ := look_some h
  have hj : j ≠ 0 := by have := hm.id1 x h1; omega
  refine rise_ext (ndsAt_rise _ _ _ _) (lst_rise _) fun k => ?_
  rw [mem_ndsAt, atJ_iff hm hj, mem_lst]
  constructor
  · rintro ⟨_, y, y1, _, y3, y4⟩
    rw [← id_inj hm.srt y1 h1 (y4.trans h2.symm)]
    exact y3
  · intro hk
    exact ⟨hm.ns x h1 k hk, x, h1, rfl, hk, h2⟩
theorem ndsAt_none {m : Mx} (hm : MxOk m) {j r : Nat} (hj : j ≠ 0) (h : ∀ x, look m.js j = some x → x.row ≠ r) : ndsAt m j r m.N = [] := by
  refine List.eq_nil_iff_forall_not_mem.2 fun k hk => ?_
  rw [mem_ndsAt, atJ_iff hm hj] at hk
  obtain ⟨_, x, h1, h2, _, h4⟩ := hk
  exact h x (by rw [← h4]; exact look_mem hm.srt h1) h2
theorem idsV_get {l : List Nat} {i x : Nat} (h : l[i]? = some x) : (idsV l)[i]? = some (.int .u32 (x : Int)) := by
  show (l.map _)[i]? = _
  rw [List.getElem?_map, h]
  rfl
theorem rOf_S (b : Nat) (m : Mx) (j : Nat) : Spec Tryd.prog 55 [.pointer (some ⟨b, 0, none⟩), .int .u32 (j : Int)] [RI b m] fun Γ v Θ => ∃ sv : SV, v = .tuple #[.int .i64 (ofR m j).1, sv.v, .bool (ofR m j).2.2] ∧ sv.n = (ofR m j).2.1.length ∧
    Θ = own sv 3 1 (nds (ofR m j).2.1) :: RI b m :: Γ := by
  refine Spec.riOk fun hm => ?_
  refine Spec.of_body Tryd.func55 rfl Tryd.ntmps55 rfl ?_
  intro w0 Γ
  show S _ w0 [(0, .pointer (some ⟨b, 0, none⟩)), (1, .int .u32 (j : Int))] (RI b m :: Γ) _
  have hR8 := hm.R8
  have hN16 := hm.N16
  have hN1 := hm.N1
  have hR1 := hm.R1
  refine S.seq fun K1 hK1 => ?_
  refine S.region rfl ?_
  refine S.op (S.q (q_assign rfl) rfl rfl ?_)
  refine S.op (S.q (q_assign rfl) rfl rfl ?_)
  refine S.op (S.q (q_assign rfl) rfl rfl ?_)
  first | with_reducible refine S.nilK ?_ | refine S.nil ?_
  refine hK1 _ _ ?_
  refine S.seq fun K2 hK2 => ?_
  refine S.seq fun K3 hK3 => ?_
  refine S.regionG ?_
  refine S.g_op rfl (S.q (q_move rfl) rfl rfl ?_)
  refine S.g_op rfl (S.q (q_eqN Tryd.underlying25 rfl rfl) rfl rfl ?_)
  refine S.g_op rfl (S.q (q_move rfl) rfl rfl ?_)
  refine S.g_yes rfl rfl rfl (rfl) (S.q (q_move rfl) rfl rfl ?_)
  refine S.g_yes rfl rfl rfl (rfl) (S.q (q_eq rfl rfl) rfl rfl ?_)
  refine S.g_op rfl (S.q (q_pickF rfl (rfl) rfl) rfl rfl ?_)
  first | with_reducible refine S.g_nilK ?_ | refine S.g_nil ?_
  refine hK3 _ _ ?_
  refine S.condD rfl (fun h1 => ?_) (fun h1 => ?_)
  · have hn : look m.js j = none := by
      cases h : look m.js j with
      | none => rfl
      | some x => obtain ⟨q1, q2⟩ := look_some h; have := hm.id1 x q1; omega
    refine S.seq fun K4 hK4 => ?_
    refine S.region rfl ?_
    refine S.op (S.q (q_assign rfl) rfl rfl ?_)
    refine S.op (S.q (q_assign rfl) rfl rfl ?_)
    refine S.op (S.q (q_assign rfl) rfl rfl ?_)
    first | with_reducible refine S.nilK ?_ | refine S.nil ?_
    refine hK4 _ _ ?_
    refine S.ret ?_
    with_reducible repeat (first | refine S.then_n ?_ | refine S.then_x ?_ | refine S.then_r ?_ | refine S.inBlock_n ?_ | refine S.inBlock_r ?_ | refine S.inBlock_x rfl ?_ | refine S.noGoto_r ?_ | refine S.noGoto_n ?_ | refine S.noGoto_x ?_)
    refine S.ent (Ent.ownNil 3 1) ?_
    show S _ w0 _ (own SV.nil 3 1 (nds []) :: RI b m :: Γ) _
    exact S.fin (rs := [_, _, _]) (vs := [_, _, _]) Tryd.results55 (⟨rfl, rfl, rfl, trivial⟩)  (⟨SV.nil, by rw [ofR_none hn]; rfl, by rw [ofR_none hn]; rfl, by rw [ofR_none hn]⟩) Sub.ent
  · have hj0 : j ≠ 0 := by omega
    refine S.riOpen b m fun cs us rs hri => ?_
    have hcn := hri.cn
    have hrl := hri.rlen
    refine S.ownSome cs (by omega) fun cb co hca _ _ _ => ?_
    refine S.skip ?_
    with_reducible repeat (first | refine S.then_n ?_ | refine S.then_x ?_ | refine S.then_r ?_ | refine S.inBlock_n ?_ | refine S.inBlock_r ?_ | refine S.inBlock_x rfl ?_ | refine S.noGoto_r ?_ | refine S.noGoto_n ?_ | refine S.noGoto_x ?_)
    refine hK2 _ _ ?_
    refine S.seq fun K5 hK5 => ?_
    refine S.seq fun K6 hK6 => ?_
    refine S.region rfl ?_
    refine S.op (S.q (q_move rfl) rfl rfl ?_)
    refine S.op (S.q (q_nilCheck rfl) rfl rfl ?_)
    refine S.op (S.q (q_field Tryd.fo45_0 rfl) rfl rfl ?_)
    refine S.op (S.q (q_load Tryd.at42 rfl rfl) rfl rfl ?_)
    refine S.op (S.q (q_len Tryd.underlying42 rfl) rfl rfl ?_)
    refine S.op (S.q (q_move rfl) rfl rfl ?_)
    first | with_reducible refine S.nilK ?_ | refine S.nil ?_
    refine hK6 _ _ ?_
    refine S.block ?_
    refine S.loop (fun q ρ' Γ' => ∃ o : Nat, q = m.R - o ∧ o ≤ m.R ∧ (∀ x, look m.js j = some x → o ≤ x.row) ∧ ρ' = [(1, .int .u32 (j : Int)), (21, cs.v), (22, .int .i64 cs.n), (23, .int .i64 (o : Int))] ∧ Γ' = blk b 45 #[cs.v, us.v] :: own cs 34 1 (rs.map rrV) :: own us 4 1 (upC m) :: alls rs rrB :: Γ) (m := _) (ρ0 := _) (Γ0 := _) (⟨0, rfl, by omega, fun _ _ => Nat.zero_le _, rfl, rfl⟩) (by repeat (first | exact trivial | refine ⟨rfl, ?_⟩)) Sub.ent ?_
    rintro q ρ' Γ' ⟨o, hq, ho, hno, rfl, rfl⟩
    refine S.seq fun K7 hK7 => ?_
    refine S.region rfl ?_
    refine S.op (S.q (q_lt rfl rfl) rfl rfl ?_)
    first | with_reducible refine S.nilK ?_ | refine S.nil ?_
    refine hK7 _ _ ?_
    refine S.seq fun K8 hK8 => ?_
    refine S.condD rfl (fun h2 => ?_) (fun h2 => ?_)
    · obtain ⟨p, hp, hpd, hpn⟩ := hri.at_ (show o < m.R by omega)
      have hRp : RdS (alls rs rrB) p.1 p.1.n 1 (idsV p.2) := RdS.alls hp RdS.own
      refine S.rSome hRp (by omega) fun pb po hpa => ?_
      refine S.skip ?_
      with_reducible repeat (first | refine S.then_n ?_ | refine S.then_x ?_ | refine S.then_r ?_ | refine S.inBlock_n ?_ | refine S.inBlock_r ?_ | refine S.inBlock_x rfl ?_ | refine S.noGoto_r ?_ | refine S.noGoto_n ?_ | refine S.noGoto_x ?_)
      refine hK8 _ _ ?_
      refine S.seq fun K9 hK9 => ?_
      refine S.block ?_
      refine S.seq fun K10 hK10 => ?_
      refine S.region rfl ?_
      refine S.op (S.q (q_move rfl) rfl rfl ?_)
      refine S.op (S.q (q_indexO (o) Tryd.el42 rfl hca rfl rfl (by omega)) rfl rfl ?_)
      refine S.op (S.q (q_loadOw (cs) (o) Tryd.at34 rfl hca (by first | rfl | exact Nat.add_assoc _ _ _ | omega) (by rw [List.getElem?_map, hp]; rfl)) rfl rfl ?_)
      refine S.op (S.q (q_assign rfl) rfl rfl ?_)
      refine S.op (S.q (q_assign rfl) rfl rfl ?_)
      first | with_reducible refine S.nilK ?_ | refine S.nil ?_
      refine hK10 _ _ ?_
      refine S.seq fun K11 hK11 => ?_
      refine S.region rfl ?_
      refine S.ent (Ent.ownNil 3 1) ?_
      show S _ w0 _ (own SV.nil 3 1 (nds (ndsAt m j o 0)) :: _) _
      refine S.op (S.q (q_assign rfl) rfl rfl ?_)
      first | with_reducible refine S.nilK ?_ | refine S.nil ?_
      refine hK11 _ _ ?_
      refine S.seq fun K12 hK12 => ?_
      refine S.seq fun K13 hK13 => ?_
      refine S.region rfl ?_
      refine S.op (S.q (q_move rfl) rfl rfl ?_)
      refine S.op (S.q (q_len Tryd.underlying34 rfl) rfl rfl ?_)
      refine S.op (S.q (q_move rfl) rfl rfl ?_)
      first | with_reducible refine S.nilK ?_ | refine S.nil ?_
      refine hK13 _ _ ?_
      refine S.block ?_
      refine S.loop (fun q2 ρ' Γ' => ∃ (k : Nat) (sv : SV) (nl : List Nat), q2 = m.N - k ∧ k ≤ m.N ∧ nl = ndsAt m j o k ∧ sv.n = nl.length ∧ ρ' = [(1, .int .u32 (j : Int)), (7, .int .i64 (o : Int)), (9, sv.v), (21, cs.v), (22, .int .i64 cs.n), (23, .int .i64 (o : Int)), (28, p.1.v), (29, .int .i64 p.1.n), (30, .int .i64 (k : Int))] ∧   Γ' = own sv 3 1 (nds nl) :: blk b 45 #[cs.v, us.v] :: own cs 34 1 (rs.map rrV) :: own us 4 1 (upC m) :: alls rs rrB :: Γ) (m := _) (ρ0 := _) (Γ0 := _) (⟨0, SV.nil, ndsAt m j o 0, rfl, by omega, rfl, rfl, rfl, rfl⟩) (by repeat (first | exact trivial | refine ⟨rfl, ?_⟩)) Sub.ent ?_
      rintro q2 ρ' Γ' ⟨k, sv, nl, hq2, hk, hnl, hsv, rfl, rfl⟩
      have hlen := ndsAt_len m j o k
      rw [← hnl] at hlen
      refine S.seq fun K14 hK14 => ?_
      refine S.region rfl ?_
      refine S.op (S.q (q_lt rfl rfl) rfl rfl ?_)
      first | with_reducible refine S.nilK ?_ | refine S.nil ?_
      refine hK14 _ _ ?_
      refine S.seq fun K15 hK15 => ?_
      refine S.condD rfl (fun h3 => ?_) (fun h3 => ?_)
      · have hxa := rowN_get (m := m) (i := k) (by omega) o
        rw [← hpd] at hxa
        refine S.skip ?_
        with_reducible repeat (first | refine S.then_n ?_ | refine S.then_x ?_ | refine S.then_r ?_ | refine S.inBlock_n ?_ | refine S.inBlock_r ?_ | refine S.inBlock_x rfl ?_ | refine S.noGoto_r ?_ | refine S.noGoto_n ?_ | refine S.noGoto_x ?_)
        refine hK15 _ _ ?_
        refine S.seq fun K16 hK16 => ?_
        refine S.block ?_
        refine S.seq fun K17 hK17 => ?_
        refine S.region rfl ?_
        refine S.op (S.q (q_move rfl) rfl rfl ?_)
        refine S.op (S.q (q_indexO (k) Tryd.el34 rfl hpa rfl rfl (by omega)) rfl rfl ?_)
        refine S.op (S.q (q_loadR hRp k Tryd.at36 rfl hpa (by omega) (by omega) (idsV_get hxa)) rfl rfl ?_)
        refine S.op (S.q (q_assign rfl) rfl rfl ?_)
        refine S.op (S.q (q_assign rfl) rfl rfl ?_)
        first | with_reducible refine S.nilK ?_ | refine S.nil ?_
        refine hK17 _ _ ?_
        refine S.seq fun K18 hK18 => ?_
        refine S.region rfl ?_
        refine S.op (S.q (q_move rfl) rfl rfl ?_)
        refine S.op (S.q (q_move rfl) rfl rfl ?_)
        refine S.op (S.q (q_eq rfl rfl) rfl rfl ?_)
        first | with_reducible refine S.nilK ?_ | refine S.nil ?_
        refine hK18 _ _ ?_
        refine S.condD rfl (fun h4 => ?_) (fun h4 => ?_)
        · have hs4 : nl ++ [k] = ndsAt m j o (k + 1) := by rw [ndsAt, if_pos (by omega), hnl]
          have hl4 : (nl ++ [k]).length = nl.length + 1 := by simp
          have hd4 : nds nl ++ [.int .i64 (k : Int)] = nds (nl ++ [k]) := by simp
          refine S.region rfl ?_
          refine S.op (S.q (q_move rfl) rfl rfl ?_)
          refine S.op (S.q (q_move rfl) rfl rfl ?_)
          refine S.op (S.buildSlice (pvs := [(_, _)]) [_] Tryd.underlying52 Tryd.inf3 rfl rfl ⟨⟨rfl, rfl⟩, trivial⟩ rfl rfl ?_)
          intro b40
          refine S.op (S.appendOw (s := sv) (1) ([.int .i64 (k : Int)]) Tryd.underlying52 Tryd.inf3 rfl rfl rfl (blk_slAt (b := b40) rfl (by unfold maxLen; omega)) (by first | rfl | exact allOne_bcells _) (⟨by omega, by omega⟩) rfl ?_)
          intro sv2 hsv2
          refine S.op (S.q (q_assign rfl) rfl rfl ?_)
          first | with_reducible refine S.nilK ?_ | refine S.nil ?_
          with_reducible repeat (first | refine S.then_n ?_ | refine S.then_x ?_ | refine S.then_r ?_ | refine S.inBlock_n ?_ | refine S.inBlock_r ?_ | refine S.inBlock_x rfl ?_ | refine S.noGoto_r ?_ | refine S.noGoto_n ?_ | refine S.noGoto_x ?_)
          refine hK16 _ _ ?_
          refine S.region rfl ?_
          refine S.op (S.q (q_add rfl rfl (inI64 (by omega) (by omega))) rfl rfl ?_)
          refine S.op (S.q (q_move rfl) rfl rfl ?_)
          first | with_reducible refine S.nilK ?_ | refine S.nil ?_
          with_reducible repeat (first | refine S.then_n ?_ | refine S.then_x ?_ | refine S.then_r ?_ | refine S.inBlock_n ?_ | refine S.inBlock_r ?_ | refine S.inBlock_x rfl ?_ | refine S.noGoto_r ?_ | refine S.noGoto_n ?_ | refine S.noGoto_x ?_)
          first | (rw [hd4]; exact S.next (q2 - 1) ⟨k + 1, sv2, nl ++ [k], by omega, by omega, hs4, by omega, rfl, rfl⟩ (by omega) (by repeat (first | exact trivial | refine ⟨rfl, ?_⟩)) Sub.ent) | exact S.next (q2 - 1) ⟨k + 1, sv, nl, by omega, by omega, hs4, hsv, rfl, rfl⟩ (by omega) (by repeat (first | exact trivial | refine ⟨rfl, ?_⟩)) Sub.ent
        · have hs4 : nl = ndsAt m j o (k + 1) := by rw [ndsAt, if_neg (by omega), hnl]
          refine S.skip ?_
          with_reducible repeat (first | refine S.then_n ?_ | refine S.then_x ?_ | refine S.then_r ?_ | refine S.inBlock_n ?_ | refine S.inBlock_r ?_ | refine S.inBlock_x rfl ?_ | refine S.noGoto_r ?_ | refine S.noGoto_n ?_ | refine S.noGoto_x ?_)
          with_reducible repeat (first | refine S.then_n ?_ | refine S.then_x ?_ | refine S.then_r ?_ | refine S.inBlock_n ?_ | refine S.inBlock_r ?_ | refine S.inBlock_x rfl ?_ | refine S.noGoto_r ?_ | refine S.noGoto_n ?_ | refine S.noGoto_x ?_)
          refine hK16 _ _ ?_
          refine S.region rfl ?_
          refine S.op (S.q (q_add rfl rfl (inI64 (by omega) (by omega))) rfl rfl ?_)
          refine S.op (S.q (q_move rfl) rfl rfl ?_)
          first | with_reducible refine S.nilK ?_ | refine S.nil ?_
          with_reducible repeat (first | refine S.then_n ?_ | refine S.then_x ?_ | refine S.then_r ?_ | refine S.inBlock_n ?_ | refine S.inBlock_r ?_ | refine S.inBlock_x rfl ?_ | refine S.noGoto_r ?_ | refine S.noGoto_n ?_ | refine S.noGoto_x ?_)
          first | (rw [hd4]; exact S.next (q2 - 1) ⟨k + 1, sv2, nl ++ [k], by omega, by omega, hs4, by omega, rfl, rfl⟩ (by omega) (by repeat (first | exact trivial | refine ⟨rfl, ?_⟩)) Sub.ent) | exact S.next (q2 - 1) ⟨k + 1, sv, nl, by omega, by omega, hs4, hsv, rfl, rfl⟩ (by omega) (by repeat (first | exact trivial | refine ⟨rfl, ?_⟩)) Sub.ent
      · have hkN : k = m.N := by omega
        rw [hkN] at hnl
        refine S.exit ?_
        with_reducible repeat (first | refine S.then_n ?_ | refine S.then_x ?_ | refine S.then_r ?_ | refine S.inBlock_n ?_ | refine S.inBlock_r ?_ | refine S.inBlock_x rfl ?_ | refine S.noGoto_r ?_ | refine S.noGoto_n ?_ | refine S.noGoto_x ?_)
        with_reducible refine S.inBlock_s ?_
        with_reducible repeat (first | refine S.then_n ?_ | refine S.then_x ?_ | refine S.then_r ?_ | refine S.inBlock_n ?_ | refine S.inBlock_r ?_ | refine S.inBlock_x rfl ?_ | refine S.noGoto_r ?_ | refine S.noGoto_n ?_ | refine S.noGoto_x ?_)
        refine hK12 _ _ ?_
        refine S.seq fun K19 hK19 => ?_
        refine S.region rfl ?_
        refine S.op (S.q (q_move rfl) rfl rfl ?_)
        refine S.op (S.q (q_len Tryd.underlying52 rfl) rfl rfl ?_)
        refine S.op (S.q (q_gt rfl rfl) rfl rfl ?_)
        first | with_reducible refine S.nilK ?_ | refine S.nil ?_
        refine hK19 _ _ ?_
        refine S.condD rfl (fun h5 => ?_) (fun h5 => ?_)
        · have hx5 : ∃ x, look m.js j = some x ∧ x.row = o := Classical.byContradiction fun hn => by
            rw [ndsAt_none hm hj0 fun x hx e => hn ⟨x, hx, e⟩] at hnl
            rw [hnl] at hsv
            simp at hsv
            omega
          obtain ⟨x, hx, hxo⟩ := hx5
          have hfin : ofR m j = ((o : Int), nl, true) := by rw [ofR_some hx, hxo, hnl, ← hxo, ndsAt_some hm hx]
          refine S.seq fun K20 hK20 => ?_
          refine S.region rfl ?_
          refine S.op (S.q (q_move rfl) rfl rfl ?_)
          refine S.op (S.q (q_move rfl) rfl rfl ?_)
          refine S.op (S.q (q_assign rfl) rfl rfl ?_)
          refine S.op (S.q (q_assign rfl) rfl rfl ?_)
          refine S.op (S.q (q_assign rfl) rfl rfl ?_)
          first | with_reducible refine S.nilK ?_ | refine S.nil ?_
          refine hK20 _ _ ?_
          refine S.ret ?_
          with_reducible repeat (first | refine S.then_n ?_ | refine S.then_x ?_ | refine S.then_r ?_ | refine S.inBlock_n ?_ | refine S.inBlock_r ?_ | refine S.inBlock_x rfl ?_ | refine S.noGoto_r ?_ | refine S.noGoto_n ?_ | refine S.noGoto_x ?_)
          refine S.riClose b m cs us rs hri ?_
          exact S.fin (rs := [_, _, _]) (vs := [_, _, _]) Tryd.results55 (⟨rfl, rfl, rfl, trivial⟩)  (⟨sv, by rw [hfin]; rfl, by rw [hfin]; exact hsv, by rw [hfin]⟩) Sub.ent
        · have hno2 : ∀ x, look m.js j = some x → o + 1 ≤ x.row := fun x hx => by
            have h8 := hno x hx
            by_cases e : x.row = o
            · have h9 := ndsAt_some hm hx
              rw [e, ← hnl] at h9
              have h7 := hm.some x (look_some hx).1
              rw [h9] at hsv
              have : (lst x.ns).length ≠ 0 := fun e2 => h7 (lst_nil.1 (List.length_eq_zero_iff.1 e2))
              omega
            · omega
          refine S.skip ?_
          with_reducible repeat (first | refine S.then_n ?_ | refine S.then_x ?_ | refine S.then_r ?_ | refine S.inBlock_n ?_ | refine S.inBlock_r ?_ | refine S.inBlock_x rfl ?_ | refine S.noGoto_r ?_ | refine S.noGoto_n ?_ | refine S.noGoto_x ?_)
          with_reducible repeat (first | refine S.then_n ?_ | refine S.then_x ?_ | refine S.then_r ?_ | refine S.inBlock_n ?_ | refine S.inBlock_r ?_ | refine S.inBlock_x rfl ?_ | refine S.noGoto_r ?_ | refine S.noGoto_n ?_ | refine S.noGoto_x ?_)
          refine hK9 _ _ ?_
          refine S.region rfl ?_
          refine S.op (S.q (q_add rfl rfl (inI64 (by omega) (by omega))) rfl rfl ?_)
          refine S.op (S.q (q_move rfl) rfl rfl ?_)
          first | with_reducible refine S.nilK ?_ | refine S.nil ?_
          with_reducible repeat (first | refine S.then_n ?_ | refine S.then_x ?_ | refine S.then_r ?_ | refine S.inBlock_n ?_ | refine S.inBlock_r ?_ | refine S.inBlock_x rfl ?_ | refine S.noGoto_r ?_ | refine S.noGoto_n ?_ | refine S.noGoto_x ?_)
          exact S.next (q - 1) (⟨o + 1, by omega, by omega, hno2, rfl, rfl⟩) (by omega) (by repeat (first | exact trivial | refine ⟨rfl, ?_⟩)) Sub.ent
    · have hn : look m.js j = none := by
        cases h : look m.js j with
        | none => rfl
        | some x => have h8 := hno x h; have h9 := hm.row x (look_some h).1; omega
      refine S.exit ?_
      with_reducible repeat (first | refine S.then_n ?_ | refine S.then_x ?_ | refine S.then_r ?_ | refine S.inBlock_n ?_ | refine S.inBlock_r ?_ | refine S.inBlock_x rfl ?_ | refine S.noGoto_r ?_ | refine S.noGoto_n ?_ | refine S.noGoto_x ?_)
      with_reducible refine S.inBlock_s ?_
      with_reducible repeat (first | refine S.then_n ?_ | refine S.then_x ?_ | refine S.then_r ?_ | refine S.inBlock_n ?_ | refine S.inBlock_r ?_ | refine S.inBlock_x rfl ?_ | refine S.noGoto_r ?_ | refine S.noGoto_n ?_ | refine S.noGoto_x ?_)
      refine hK5 _ _ ?_
      refine S.seq fun K21 hK21 => ?_
      refine S.region rfl ?_
      refine S.op (S.q (q_assign rfl) rfl rfl ?_)
      refine S.op (S.q (q_assign rfl) rfl rfl ?_)
      refine S.op (S.q (q_assign rfl) rfl rfl ?_)
      first | with_reducible refine S.nilK ?_ | refine S.nil ?_
      refine hK21 _ _ ?_
      refine S.ret ?_
      with_reducible repeat (first | refine S.then_n ?_ | refine S.then_x ?_ | refine S.then_r ?_ | refine S.inBlock_n ?_ | refine S.inBlock_r ?_ | refine S.inBlock_x rfl ?_ | refine S.noGoto_r ?_ | refine S.noGoto_n ?_ | refine S.noGoto_x ?_)
      refine S.riClose b m cs us rs hri ?_
      refine S.ent (Ent.ownNil 3 1) ?_
      show S _ w0 _ (own SV.nil 3 1 (nds []) :: RI b m :: Γ) _
      exact S.fin (rs := [_, _, _]) (vs := [_, _, _]) Tryd.results55 (⟨rfl, rfl, rfl, trivial⟩)  (⟨SV.nil, by rw [ofR_none hn]; rfl, by rw [ofR_none hn]; rfl, by rw [ofR_none hn]⟩) Sub.ent
end Go.Proofs.YtbhnbnecaejjiaaDoor
