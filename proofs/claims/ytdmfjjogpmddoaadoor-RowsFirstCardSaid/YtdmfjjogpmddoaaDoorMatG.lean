/- The matrix: Fill; lists held against lists. -/
import Derived.Test.YtdmfjjogpmddoaaDoorMatF
namespace Go.Proofs.YtdmfjjogpmddoaaDoor
open Go.RowKit
set_option maxRecDepth 20000
def fillStep (a : Bs × List Jb) (x : Jb) : Bs × List Jb := if x.ns &&& a.1 = 0#16 then (a.1 ||| x.ns, a.2 ++ [x]) else a
def fillUp (m : Mx) (r : Nat) : Nat → Bs × List Jb
  | 0 => (tk m.js r, [])
  | o + 1 => if o = r then fillUp m r o else (rowJ m o).foldl fillStep (fillUp m r o)
def fillIds (m : Mx) (z : Int) : List Nat := if rowB m z then (fillUp m z.toNat m.R).2.map (·.id) else []
theorem rowJ_len (m : Mx) (r : Nat) : (rowJ m r).length ≤ 16 := by
  have := List.length_filterMap_le (fun i => m.js.find? fun x => decide (x.row = r) && decide (tz x.ns = i)) (List.range 16)
  rw [List.length_range] at this
  exact this
theorem fold_len (l : List Jb) : ∀ a : Bs × List Jb, (l.foldl fillStep a).2.length ≤ a.2.length + l.length := by
  induction l with
  | nil => intro a; exact Nat.le_refl _
  | cons x l ih =>
    intro a
    have h1 := ih (fillStep a x)
    have h2 : (fillStep a x).2.length ≤ a.2.length + 1 := by
      unfold fillStep
      split
      · simp
      · omega
    rw [List.foldl_cons, List.length_cons]
    omega
theorem fillUp_len (m : Mx) (r : Nat) : ∀ o, (fillUp m r o).2.length ≤ 16 * o
  | 0 => Nat.le_refl _
  | o + 1 => by
    have h := fillUp_len m r o
    unfold fillUp
    split
    · omega
    · have h1 := fold_len (rowJ m o) (fillUp m r o)
      have h2 := rowJ_len m o
      omega
theorem idsV_at {js : List Jb} {q : Nat} {x : Jb} (h : js[q]? = some x) : (idsV (js.map (·.id)))[q]? = some (.int .u32 (x.id : Int)) := by
  show ((js.map (·.id)).map _)[q]? = _
  rw [List.getElem?_map, List.getElem?_map, h]
  rfl
theorem Fill_S (b : Nat) (m : Mx) (z : Int) {W : World} (hW : TabW W) : Spec Tryd.prog 19 [.pointer (some ⟨b, 0, none⟩), .int .i64 z] [MI b m, old W] fun Γ v Θ => ∃ sv : SV, v = sv.v ∧ sv.n = (fillIds m z).length ∧ Θ = own sv 40 1 (idsV (fillIds m z)) :: MI b m :: old W :: Γ := by
  refine Spec.miOk fun hok => ?_
  refine Spec.of_body Tryd.func19 rfl Tryd.ntmps19 rfl ?_
  intro w0 Γ
  show S _ w0 [(0, .pointer (some ⟨b, 0, none⟩)), (1, .int .i64 z)] (MI b m :: old W :: Γ) _
  have hR8 := hok.R8
  refine S.seq fun K1 hK1 => ?_
  refine S.region rfl ?_
  refine S.op (S.q (q_assign rfl) rfl rfl ?_)
  first | with_reducible refine S.nilK ?_ | refine S.nil ?_
  refine hK1 _ _ ?_
  refine S.seq fun K2 hK2 => ?_
  refine S.seq fun K3 hK3 => ?_
  refine S.region rfl ?_
  refine S.op (S.q (q_move rfl) rfl rfl ?_)
  refine S.op (S.q (q_move rfl) rfl rfl ?_)
  refine S.op (S.call Tryd.en35 (vs := [_, _]) ⟨rfl, rfl, trivial⟩ (row_S b m z) rfl ?_)
  rintro v Θ ⟨rfl, rfl⟩
  refine S.op (S.q (q_not rfl) rfl rfl ?_)
  first | with_reducible refine S.nilK ?_ | refine S.nil ?_
  refine hK3 _ _ ?_
  refine S.cond rfl (fun h1 => ?_) (fun h1 => ?_)
  · have hn : fillIds m z = [] := by rw [fillIds, show rowB m z = false by simpa using h1]; rfl
    refine S.seq fun K4 hK4 => ?_
    refine S.region rfl ?_
    refine S.op (S.q (q_assign rfl) rfl rfl ?_)
    first | with_reducible refine S.nilK ?_ | refine S.nil ?_
    refine hK4 _ _ ?_
    refine S.ret ?_
    with_reducible repeat (first | refine S.then_n ?_ | refine S.then_x ?_ | refine S.then_r ?_ | refine S.inBlock_n ?_ | refine S.inBlock_r ?_ | refine S.inBlock_x rfl ?_ | refine S.noGoto_r ?_ | refine S.noGoto_n ?_ | refine S.noGoto_x ?_)
    refine S.ent (Δ := own SV.nil 40 1 (idsV (fillIds m z)) :: MI b m :: old W :: Γ) (by rw [hn]; exact Ent.ownNil _ _) ?_
    exact S.fin (rs := [_]) (vs := [_]) Tryd.results19 (⟨rfl, trivial⟩)  (⟨SV.nil, rfl, by rw [hn]; rfl, rfl⟩) Sub.ent
  · have hrb : rowB m z = true := by simpa using h1
    have hrr := rowB_iff.1 hrb
    obtain ⟨r, rfl⟩ : ∃ r : Nat, z = r := ⟨z.toNat, by omega⟩
    have hn : fillIds m r = (fillUp m r m.R).2.map (·.id) := by rw [fillIds, if_pos hrb, Int.toNat_natCast]
    refine S.miOpen b m fun mb tv l _ hp htn => ?_
    refine S.ownSome tv (by omega) fun tb tf hta hl1 hl2 hl3 => ?_
    refine S.skip ?_
    with_reducible repeat (first | refine S.then_n ?_ | refine S.then_x ?_ | refine S.then_r ?_ | refine S.inBlock_n ?_ | refine S.inBlock_r ?_ | refine S.inBlock_x rfl ?_ | refine S.noGoto_r ?_ | refine S.noGoto_n ?_ | refine S.noGoto_x ?_)
    refine hK2 _ _ ?_
    refine S.seq fun K5 hK5 => ?_
    refine S.region rfl ?_
    refine S.op (S.q (q_assign rfl) rfl rfl ?_)
    first | with_reducible refine S.nilK ?_ | refine S.nil ?_
    refine hK5 _ _ ?_
    refine S.seq fun K6 hK6 => ?_
    refine S.region rfl ?_
    refine S.op (S.q (q_move rfl) rfl rfl ?_)
    refine S.op (S.q (q_nilCheck rfl) rfl rfl ?_)
    refine S.op (S.q (q_field Tryd.fo81_4 rfl) rfl rfl ?_)
    refine S.op (S.q (q_load Tryd.at79 rfl rfl) rfl rfl ?_)
    refine S.op (S.q (q_move rfl) rfl rfl ?_)
    refine S.op (S.q (q_indexO (r) Tryd.el79 rfl hta rfl rfl (by omega)) rfl rfl ?_)
    refine S.op (S.q (q_loadOw (tv) (r) Tryd.at77 rfl hta (by first | rfl | exact Nat.add_assoc _ _ _ | omega) (tks_get (show r < m.R by omega))) rfl rfl ?_)
    refine S.op (S.q (q_assign rfl) rfl rfl ?_)
    first | with_reducible refine S.nilK ?_ | refine S.nil ?_
    refine hK6 _ _ ?_
    refine S.seq fun K7 hK7 => ?_
    refine S.seq fun K8 hK8 => ?_
    refine S.region rfl ?_
    refine S.op (S.q (q_move rfl) rfl rfl ?_)
    refine S.op (S.q (q_nilCheck rfl) rfl rfl ?_)
    refine S.op (S.q (q_field Tryd.fo81_0 rfl) rfl rfl ?_)
    refine S.op (S.q (q_load Tryd.at3 rfl rfl) rfl rfl ?_)
    refine S.miClose (b := b) (m := m) (mb := mb) (tv := tv) rfl rfl rfl hok hp htn ?_
    refine S.ent (Ent.ownNil 40 1) ?_
    refine S.op (S.q (q_move rfl) rfl rfl ?_)
    first | with_reducible refine S.nilK ?_ | refine S.nil ?_
    refine hK8 _ _ ?_
    refine S.block ?_
    refine S.loop (fun k ρ' Γ' => ∃ (o : Nat) (tn : Bs) (out : List Jb) (sv : SV) (dv : List Value), k = m.R - o ∧ o ≤ m.R ∧ fillUp m r o = (tn, out) ∧ sv.n = out.length ∧ dv = idsV (out.map (·.id)) ∧   ρ' = [(0, .pointer (some ⟨b, 0, none⟩)), (1, .int .i64 (r : Int)), (5, sv.v), (6, bsv tn), (25, .int .i64 (m.R : Int)), (26, .int .i64 (o : Int))] ∧ Γ' = own sv 40 1 dv :: MI b m :: old W :: Γ) (m := _) (ρ0 := _) (Γ0 := _) (⟨0, tk m.js r, [], SV.nil, [], rfl, by omega, rfl, rfl, rfl, rfl, rfl⟩) (by repeat (first | exact trivial | refine ⟨rfl, ?_⟩)) Sub.ent ?_
    rintro k ρ' Γ' ⟨o, tn, out, sv, dv, hk, hoR, hfu, hsv, hdv, rfl, rfl⟩
    have hol := fillUp_len m r o
    rw [hfu] at hol
    simp only at hol
    refine S.seq fun K9 hK9 => ?_
    refine S.region rfl ?_
    skip
    refine S.op (S.q (q_lt rfl rfl) rfl rfl ?_)
    first | with_reducible refine S.nilK ?_ | refine S.nil ?_
    refine hK9 _ _ ?_
    refine S.seq fun K10 hK10 => ?_
    refine S.condD rfl (fun h2 => ?_) (fun h2 => ?_)
    · refine S.skip ?_
      with_reducible repeat (first | refine S.then_n ?_ | refine S.then_x ?_ | refine S.then_r ?_ | refine S.inBlock_n ?_ | refine S.inBlock_r ?_ | refine S.inBlock_x rfl ?_ | refine S.noGoto_r ?_ | refine S.noGoto_n ?_ | refine S.noGoto_x ?_)
      refine hK10 _ _ ?_
      refine S.seq fun K11 hK11 => ?_
      refine S.block ?_
      refine S.seq fun K12 hK12 => ?_
      refine S.region rfl ?_
      refine S.op (S.q (q_move rfl) rfl rfl ?_)
      refine S.op (S.q (q_assign rfl) rfl rfl ?_)
      first | with_reducible refine S.nilK ?_ | refine S.nil ?_
      refine hK12 _ _ ?_
      refine S.seq fun K13 hK13 => ?_
      refine S.seq fun K14 hK14 => ?_
      refine S.region rfl ?_
      refine S.op (S.q (q_move rfl) rfl rfl ?_)
      refine S.op (S.q (q_move rfl) rfl rfl ?_)
      refine S.op (S.q (q_eq rfl rfl) rfl rfl ?_)
      first | with_reducible refine S.nilK ?_ | refine S.nil ?_
      refine hK14 _ _ ?_
      refine S.condD rfl (fun h3 => ?_) (fun h3 => ?_)
      · have hor : o = r := by omega
        have hfu2 : fillUp m r (o + 1) = (tn, out) := by rw [fillUp, if_pos hor]; exact hfu
        refine S.exit ?_
        with_reducible repeat (first | refine S.then_n ?_ | refine S.then_x ?_ | refine S.then_r ?_ | refine S.inBlock_n ?_ | refine S.inBlock_r ?_ | refine S.inBlock_x rfl ?_ | refine S.noGoto_r ?_ | refine S.noGoto_n ?_ | refine S.noGoto_x ?_)
        with_reducible refine S.inBlock_s ?_
        with_reducible repeat (first | refine S.then_n ?_ | refine S.then_x ?_ | refine S.then_r ?_ | refine S.inBlock_n ?_ | refine S.inBlock_r ?_ | refine S.inBlock_x rfl ?_ | refine S.noGoto_r ?_ | refine S.noGoto_n ?_ | refine S.noGoto_x ?_)
        refine hK11 _ _ ?_
        refine S.region rfl ?_
        refine S.op (S.q (q_add rfl rfl (inI64 (by omega) (by omega))) rfl rfl ?_)
        refine S.op (S.q (q_move rfl) rfl rfl ?_)
        first | with_reducible refine S.nilK ?_ | refine S.nil ?_
        with_reducible repeat (first | refine S.then_n ?_ | refine S.then_x ?_ | refine S.then_r ?_ | refine S.inBlock_n ?_ | refine S.inBlock_r ?_ | refine S.inBlock_x rfl ?_ | refine S.noGoto_r ?_ | refine S.noGoto_n ?_ | refine S.noGoto_x ?_)
        first | exact S.next (k - 1) ⟨o + 1, tn, out, sv, dv, by omega, by omega, hfu2, hsv, hdv, rfl, rfl⟩ (by omega) (by repeat (first | exact trivial | refine ⟨rfl, ?_⟩)) Sub.ent | exact S.next (k - 1) ⟨o + 1, tn2, out2, s2, dv2, by omega, by omega, hfu2.trans hfo, hs2, hdv2, rfl, rfl⟩ (by omega) (by repeat (first | exact trivial | refine ⟨rfl, ?_⟩)) Sub.ent
      · have hor : ¬ o = r := by omega
        have hfu2 : fillUp m r (o + 1) = (rowJ m o).foldl fillStep (tn, out) := by rw [fillUp, if_neg hor, hfu]
        refine S.skip ?_
        with_reducible repeat (first | refine S.then_n ?_ | refine S.then_x ?_ | refine S.then_r ?_ | refine S.inBlock_n ?_ | refine S.inBlock_r ?_ | refine S.inBlock_x rfl ?_ | refine S.noGoto_r ?_ | refine S.noGoto_n ?_ | refine S.noGoto_x ?_)
        refine hK13 _ _ ?_
        refine S.seq fun K15 hK15 => ?_
        refine S.region rfl ?_
        refine S.op (S.q (q_move rfl) rfl rfl ?_)
        refine S.op (S.q (q_move rfl) rfl rfl ?_)
        refine S.op (S.call Tryd.en13 (vs := [_, _]) ⟨rfl, rfl, trivial⟩ (Row_S b m o hW) rfl ?_)
        rintro v Θ ⟨rv, rfl, hrv, rfl⟩
        have hro : rowIds m o = (rowJ m o).map (·.id) := by rw [rowIds, if_pos (rowB_iff.2 (by omega)), Int.toNat_natCast]
        rw [hro] at hrv ⊢
        rw [List.length_map] at hrv
        have hj16 := rowJ_len m o
        refine S.miOpen b m fun mb tv l _ hp htn => ?_
        refine S.ownLen rv fun hrl1 hrl2 hrl3 => ?_
        refine S.op (S.q (q_len Tryd.underlying29 rfl) rfl rfl ?_)
        refine S.op (S.q (q_move rfl) rfl rfl ?_)
        first | with_reducible refine S.nilK ?_ | refine S.nil ?_
        refine hK15 _ _ ?_
        refine S.block ?_
        refine S.loop (fun k2 ρ' Γ' => ∃ (q : Nat) (tn2 : Bs) (out2 : List Jb) (s2 : SV) (dv2 : List Value), k2 = (rowJ m o).length - q ∧ q ≤ (rowJ m o).length ∧ ((rowJ m o).take q).foldl fillStep (tn, out) = (tn2, out2) ∧ s2.n = out2.length ∧ dv2 = idsV (out2.map (·.id)) ∧   ρ' = [(0, .pointer (some ⟨b, 0, none⟩)), (1, .int .i64 (r : Int)), (5, s2.v), (6, bsv tn2), (25, .int .i64 (m.R : Int)), (26, .int .i64 (o : Int)), (34, rv.v), (35, .int .i64 rv.n), (36, .int .i64 (q : Int))] ∧   Γ' = own s2 40 1 dv2 :: own rv 40 1 (idsV ((rowJ m o).map (·.id))) :: blk b 81 (mxC m mb tv).toArray :: mapL mb .u32 l :: own tv 77 1 (tks m) :: old W :: Γ) (m := _) (ρ0 := _) (Γ0 := _) (⟨0, tn, out, sv, dv, rfl, by omega, rfl, hsv, hdv, rfl, rfl⟩) (by repeat (first | exact trivial | refine ⟨rfl, ?_⟩)) Sub.ent ?_
        rintro k2 ρ' Γ' ⟨q, tn2, out2, s2, dv2, hk2, hq, hfo, hs2, hdv2, rfl, rfl⟩
        have hfl := fold_len ((rowJ m o).take q) (tn, out)
        rw [hfo] at hfl
        rw [List.length_take] at hfl
        simp only at hfl
        refine S.seq fun K16 hK16 => ?_
        refine S.region rfl ?_
        refine S.op (S.q (q_lt rfl rfl) rfl rfl ?_)
        first | with_reducible refine S.nilK ?_ | refine S.nil ?_
        refine hK16 _ _ ?_
        refine S.seq fun K17 hK17 => ?_
        refine S.condD rfl (fun h4 => ?_) (fun h4 => ?_)
        · obtain ⟨x, hx⟩ := getE (show q < (rowJ m o).length by omega)
          have hxm := ((mem_rowJ hok).1 (List.mem_of_getElem? hx)).1
          refine S.ownSome rv (by omega) fun rb rf hra _ _ _ => ?_
          have hgx : alGet (x.id : Int) l = some (jbV x) := by rw [get_look hok.srt hp, look_mem hok.srt hxm]; rfl
          have hstep : ((rowJ m o).take (q + 1)).foldl fillStep (tn, out) = fillStep (tn2, out2) x := by rw [List.take_add_one, hx, List.foldl_append, hfo]; rfl
          refine S.skip ?_
          with_reducible repeat (first | refine S.then_n ?_ | refine S.then_x ?_ | refine S.then_r ?_ | refine S.inBlock_n ?_ | refine S.inBlock_r ?_ | refine S.inBlock_x rfl ?_ | refine S.noGoto_r ?_ | refine S.noGoto_n ?_ | refine S.noGoto_x ?_)
          refine hK17 _ _ ?_
          refine S.seq fun K18 hK18 => ?_
          refine S.block ?_
          refine S.seq fun K19 hK19 => ?_
          refine S.region rfl ?_
          refine S.op (S.q (q_indexO (q) Tryd.el29 rfl hra rfl rfl (by omega)) rfl rfl ?_)
          refine S.op (S.q (q_loadOw (rv) (q) Tryd.at40 rfl hra (by first | rfl | exact Nat.add_assoc _ _ _ | omega) (idsV_at hx)) rfl rfl ?_)
          refine S.op (S.q (q_assign rfl) rfl rfl ?_)
          first | with_reducible refine S.nilK ?_ | refine S.nil ?_
          refine hK19 _ _ ?_
          refine S.seq fun K20 hK20 => ?_
          refine S.region rfl ?_
          refine S.op (S.q (q_move rfl) rfl rfl ?_)
          refine S.op (S.q (q_nilCheck rfl) rfl rfl ?_)
          refine S.op (S.q (q_field Tryd.fo81_3 rfl) rfl rfl ?_)
          refine S.op (S.q (q_load Tryd.at78 rfl rfl) rfl rfl ?_)
          refine S.op (S.q (q_move rfl) rfl rfl ?_)
          refine S.op (S.q (q_lookup1 (jbV x) Tryd.underlying78 Tryd.underlying40 Tryd.zv83 rfl rfl rfl (by rw [hgx]; rfl)) rfl rfl ?_)
          refine S.op (S.alloc Tryd.z83 rfl ?_)
          intro b10
          refine S.op (S.storeS (cs' := [_, _]) Tryd.ag83 rfl rfl rfl rfl rfl rfl ?_)
          first | with_reducible refine S.nilK ?_ | refine S.nil ?_
          refine hK20 _ _ ?_
          refine S.seq fun K21 hK21 => ?_
          refine S.region rfl ?_
          refine S.op (S.q (q_field Tryd.fo83_1 rfl) rfl rfl ?_)
          refine S.op (S.q (q_load Tryd.at77 rfl rfl) rfl rfl ?_)
          refine S.op (S.q (q_move rfl) rfl rfl ?_)
          refine S.op (S.q (q_andB (x.ns) (tn2) rfl rfl (rfl) (rfl)) rfl rfl ?_)
          refine S.op (S.q (q_eq rfl rfl) rfl rfl ?_)
          first | with_reducible refine S.nilK ?_ | refine S.nil ?_
          refine hK21 _ _ ?_
          refine S.condD rfl (fun h5 => ?_) (fun h5 => ?_)
          · have hz : x.ns &&& tn2 = 0#16 := bs_zero.1 h5
            have hfs : fillStep (tn2, out2) x = (tn2 ||| x.ns, out2 ++ [x]) := if_pos hz
            have hdv3 : dv2 ++ [.int .u32 (x.id : Int)] = idsV ((out2 ++ [x]).map (·.id)) := by rw [hdv2]; simp
            have hlen3 : (out2 ++ [x]).length = out2.length + 1 := by simp
            refine S.seq fun K22 hK22 => ?_
            refine S.region rfl ?_
            refine S.op (S.q (q_move rfl) rfl rfl ?_)
            refine S.op (S.q (q_field Tryd.fo83_1 rfl) rfl rfl ?_)
            refine S.op (S.q (q_load Tryd.at77 rfl rfl) rfl rfl ?_)
            refine S.op (S.q (q_orB (tn2) (x.ns) rfl rfl (rfl) (rfl)) rfl rfl ?_)
            refine S.op (S.q (q_assign rfl) rfl rfl ?_)
            first | with_reducible refine S.nilK ?_ | refine S.nil ?_
            refine hK22 _ _ ?_
            refine S.region rfl ?_
            refine S.op (S.q (q_move rfl) rfl rfl ?_)
            refine S.op (S.q (q_move rfl) rfl rfl ?_)
            refine S.op (S.buildSlice (pvs := [(_, _)]) [_] Tryd.underlying29 Tryd.inf40 rfl rfl ⟨⟨rfl, rfl⟩, trivial⟩ rfl rfl ?_)
            intro b57
            refine S.op (S.appendOw (s := s2) (1) ([.int .u32 (x.id : Int)]) Tryd.underlying29 Tryd.inf40 rfl rfl rfl (blk_slAt (b := b57) rfl (by unfold maxLen; omega)) (by first | rfl | exact allOne_bcells _) (⟨by omega, by omega⟩) rfl ?_)
            intro s3 hs3
            refine S.op (S.q (q_assign rfl) rfl rfl ?_)
            first | with_reducible refine S.nilK ?_ | refine S.nil ?_
            with_reducible repeat (first | refine S.then_n ?_ | refine S.then_x ?_ | refine S.then_r ?_ | refine S.inBlock_n ?_ | refine S.inBlock_r ?_ | refine S.inBlock_x rfl ?_ | refine S.noGoto_r ?_ | refine S.noGoto_n ?_ | refine S.noGoto_x ?_)
            refine hK18 _ _ ?_
            refine S.region rfl ?_
            refine S.op (S.q (q_add rfl rfl (inI64 (by omega) (by omega))) rfl rfl ?_)
            refine S.op (S.q (q_move rfl) rfl rfl ?_)
            first | with_reducible refine S.nilK ?_ | refine S.nil ?_
            with_reducible repeat (first | refine S.then_n ?_ | refine S.then_x ?_ | refine S.then_r ?_ | refine S.inBlock_n ?_ | refine S.inBlock_r ?_ | refine S.inBlock_x rfl ?_ | refine S.noGoto_r ?_ | refine S.noGoto_n ?_ | refine S.noGoto_x ?_)
            first | exact S.next (k2 - 1) ⟨q + 1, tn2 ||| x.ns, out2 ++ [x], s3, dv2 ++ [.int .u32 (x.id : Int)], by omega, by omega, hstep.trans hfs, by omega, hdv3, rfl, rfl⟩ (by omega) (by repeat (first | exact trivial | refine ⟨rfl, ?_⟩)) Sub.ent | exact S.next (k2 - 1) ⟨q + 1, tn2, out2, s2, dv2, by omega, by omega, hstep.trans hfs, hs2, hdv2, rfl, rfl⟩ (by omega) (by repeat (first | exact trivial | refine ⟨rfl, ?_⟩)) Sub.ent
          · have hz : ¬ x.ns &&& tn2 = 0#16 := fun e => h5 (bs_zero.2 e)
            have hfs : fillStep (tn2, out2) x = (tn2, out2) := if_neg hz
            refine S.skip ?_
            with_reducible repeat (first | refine S.then_n ?_ | refine S.then_x ?_ | refine S.then_r ?_ | refine S.inBlock_n ?_ | refine S.inBlock_r ?_ | refine S.inBlock_x rfl ?_ | refine S.noGoto_r ?_ | refine S.noGoto_n ?_ | refine S.noGoto_x ?_)
            with_reducible repeat (first | refine S.then_n ?_ | refine S.then_x ?_ | refine S.then_r ?_ | refine S.inBlock_n ?_ | refine S.inBlock_r ?_ | refine S.inBlock_x rfl ?_ | refine S.noGoto_r ?_ | refine S.noGoto_n ?_ | refine S.noGoto_x ?_)
            refine hK18 _ _ ?_
            refine S.region rfl ?_
            refine S.op (S.q (q_add rfl rfl (inI64 (by omega) (by omega))) rfl rfl ?_)
            refine S.op (S.q (q_move rfl) rfl rfl ?_)
            first | with_reducible refine S.nilK ?_ | refine S.nil ?_
            with_reducible repeat (first | refine S.then_n ?_ | refine S.then_x ?_ | refine S.then_r ?_ | refine S.inBlock_n ?_ | refine S.inBlock_r ?_ | refine S.inBlock_x rfl ?_ | refine S.noGoto_r ?_ | refine S.noGoto_n ?_ | refine S.noGoto_x ?_)
            first | exact S.next (k2 - 1) ⟨q + 1, tn2 ||| x.ns, out2 ++ [x], s3, dv2 ++ [.int .u32 (x.id : Int)], by omega, by omega, hstep.trans hfs, by omega, hdv3, rfl, rfl⟩ (by omega) (by repeat (first | exact trivial | refine ⟨rfl, ?_⟩)) Sub.ent | exact S.next (k2 - 1) ⟨q + 1, tn2, out2, s2, dv2, by omega, by omega, hstep.trans hfs, hs2, hdv2, rfl, rfl⟩ (by omega) (by repeat (first | exact trivial | refine ⟨rfl, ?_⟩)) Sub.ent
        · have hq2 : q = (rowJ m o).length := by omega
          rw [hq2, List.take_length] at hfo
          refine S.miClose (b := b) (m := m) (mb := mb) (tv := tv) rfl rfl rfl hok hp htn ?_
          refine S.exit ?_
          with_reducible repeat (first | refine S.then_n ?_ | refine S.then_x ?_ | refine S.then_r ?_ | refine S.inBlock_n ?_ | refine S.inBlock_r ?_ | refine S.inBlock_x rfl ?_ | refine S.noGoto_r ?_ | refine S.noGoto_n ?_ | refine S.noGoto_x ?_)
          with_reducible refine S.inBlock_s ?_
          with_reducible repeat (first | refine S.then_n ?_ | refine S.then_x ?_ | refine S.then_r ?_ | refine S.inBlock_n ?_ | refine S.inBlock_r ?_ | refine S.inBlock_x rfl ?_ | refine S.noGoto_r ?_ | refine S.noGoto_n ?_ | refine S.noGoto_x ?_)
          with_reducible repeat (first | refine S.then_n ?_ | refine S.then_x ?_ | refine S.then_r ?_ | refine S.inBlock_n ?_ | refine S.inBlock_r ?_ | refine S.inBlock_x rfl ?_ | refine S.noGoto_r ?_ | refine S.noGoto_n ?_ | refine S.noGoto_x ?_)
          refine hK11 _ _ ?_
          refine S.region rfl ?_
          refine S.op (S.q (q_add rfl rfl (inI64 (by omega) (by omega))) rfl rfl ?_)
          refine S.op (S.q (q_move rfl) rfl rfl ?_)
          first | with_reducible refine S.nilK ?_ | refine S.nil ?_
          with_reducible repeat (first | refine S.then_n ?_ | refine S.then_x ?_ | refine S.then_r ?_ | refine S.inBlock_n ?_ | refine S.inBlock_r ?_ | refine S.inBlock_x rfl ?_ | refine S.noGoto_r ?_ | refine S.noGoto_n ?_ | refine S.noGoto_x ?_)
          first | exact S.next (k - 1) ⟨o + 1, tn, out, sv, dv, by omega, by omega, hfu2, hsv, hdv, rfl, rfl⟩ (by omega) (by repeat (first | exact trivial | refine ⟨rfl, ?_⟩)) Sub.ent | exact S.next (k - 1) ⟨o + 1, tn2, out2, s2, dv2, by omega, by omega, hfu2.trans hfo, hs2, hdv2, rfl, rfl⟩ (by omega) (by repeat (first | exact trivial | refine ⟨rfl, ?_⟩)) Sub.ent
    · have hoR2 : o = m.R := by omega
      have hfin : fillIds m r = out.map (·.id) := by rw [hn, ← hoR2, hfu]
      rw [hdv, ← hfin]
      refine S.exit ?_
      with_reducible repeat (first | refine S.then_n ?_ | refine S.then_x ?_ | refine S.then_r ?_ | refine S.inBlock_n ?_ | refine S.inBlock_r ?_ | refine S.inBlock_x rfl ?_ | refine S.noGoto_r ?_ | refine S.noGoto_n ?_ | refine S.noGoto_x ?_)
      with_reducible refine S.inBlock_s ?_
      with_reducible repeat (first | refine S.then_n ?_ | refine S.then_x ?_ | refine S.then_r ?_ | refine S.inBlock_n ?_ | refine S.inBlock_r ?_ | refine S.inBlock_x rfl ?_ | refine S.noGoto_r ?_ | refine S.noGoto_n ?_ | refine S.noGoto_x ?_)
      refine hK7 _ _ ?_
      refine S.seq fun K23 hK23 => ?_
      refine S.region rfl ?_
      refine S.op (S.q (q_move rfl) rfl rfl ?_)
      refine S.op (S.q (q_assign rfl) rfl rfl ?_)
      first | with_reducible refine S.nilK ?_ | refine S.nil ?_
      refine hK23 _ _ ?_
      refine S.ret ?_
      with_reducible repeat (first | refine S.then_n ?_ | refine S.then_x ?_ | refine S.then_r ?_ | refine S.inBlock_n ?_ | refine S.inBlock_r ?_ | refine S.inBlock_x rfl ?_ | refine S.noGoto_r ?_ | refine S.noGoto_n ?_ | refine S.noGoto_x ?_)
      exact S.fin (rs := [_]) (vs := [_]) Tryd.results19 (⟨rfl, trivial⟩)  (⟨sv, rfl, by rw [hfin, List.length_map]; exact hsv, rfl⟩) Sub.ent
/-! Lists held against lists. -/
theorem rdBlk {b : Nat} {e : TypeId} {cs : List Value} {m sz : Nat} (hl : cs.length = m * sz) (hm : m ≤ maxLen) : RdS (blk b e cs.toArray) ⟨some ⟨b, 0, none⟩, m, m⟩ m sz cs := fun Γ w hs => blk_slAt (b := b) (Γ := blk b e cs.toArray :: Γ) hl hm w hs
def sameUp (k l : List Int) : Nat → Bool
  | 0 => true
  | i + 1 => sameUp k l i && decide (k.getD i 0 = l.getD i 0)
theorem sameUp_eq {k l : List Int} (h : k.length = l.length) : sameUp k l k.length = decide (k = l) := by
  have : ∀ i, i ≤ k.length → (sameUp k l i = true ↔ k.take i = l.take i) := by
    intro i
    induction i with
    | zero => simp [sameUp]
    | succ i ih =>
      intro hi
      have h1 := List.getElem?_eq_getElem (show i < k.length by omega)
      have h2 := List.getElem?_eq_getElem (show i < l.length by omega)
      rw [sameUp, Bool.and_eq_true, ih (by omega), decide_eq_true_eq, List.take_add_one, List.take_add_one, List.getD, List.getD, h1, h2]
      simp only [Option.getD_some, Option.toList_some]
      constructor
      · rintro ⟨e1, e2⟩
        rw [e1, e2]
      · intro e
        have := List.append_inj e (by simp; omega)
        exact ⟨this.1, by simpa using this.2⟩
  rw [Bool.eq_iff_iff, this _ (Nat.le_refl _), decide_eq_true_eq, List.take_length, h, List.take_length]
end Go.Proofs.YtdmfjjogpmddoaaDoor
