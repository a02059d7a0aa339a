/- The laws of rows: awake, build. -/
import Derived.Test.YtdmfjjogpmddoaaDoorRef12A
namespace Go.Proofs.YtdmfjjogpmddoaaDoor
open Go.RowKit
set_option maxRecDepth 20000
abbrev casts (l : List Nat) : List Int := l.map fun i : Nat => (i : Int)
theorem rdNds (s : SV) (T : TypeId) (l : List Nat) : RdS (own s T 1 (nds l)) s s.n 1 (ints (casts l)) := by
  have e : ints (casts l) = nds l := by simp
  rw [e]
  exact RdS.own
theorem rdIds (s : SV) (T : TypeId) (l : List Nat) : RdS (own s T 1 (idsV l)) s s.n 1 (u32s (casts l)) := by
  have e : u32s (casts l) = idsV l := by simp
  rw [e]
  exact RdS.own
def am1 : Mx := (placeR (mx0 2 3) 1 2).2
def am2 : Mx := (placeR am1 2 2).2
def am3 : Mx := (placeR am2 3 1).2
theorem awake_facts : (placeR am1 2 2).1.1 = 1 ∧ (placeR am2 3 1).1.2.1 = [2] ∧ fillIds am3 0 = [] ∧ fillIds am3 1 = [3] ∧ (nextR am3 1).1 = 0 :=
  ⟨by kernel_rfl, by kernel_rfl, by kernel_rfl, by kernel_rfl, by kernel_rfl⟩
theorem awake_S {W : World} (hW : TabW W) : Spec Tryd.prog 10 [] [old W] fun Γ v Θ => v = .bool true ∧ Θ = old W :: Γ := by
  refine Spec.of_body Tryd.func10 rfl Tryd.ntmps10 rfl ?_
  intro w0 Γ
  obtain ⟨f1, f2, f3, f4, f5⟩ := awake_facts
  show S _ w0 [] (old W :: Γ) _
  refine S.seq fun K1 hK1 => ?_
  refine S.region rfl ?_
  refine S.op (S.q (q_assign rfl) rfl rfl ?_)
  first | with_reducible refine S.nilK ?_ | refine S.nil ?_
  refine hK1 _ _ ?_
  refine S.seq fun K2 hK2 => ?_
  refine S.region rfl ?_
  refine S.op (S.call Tryd.en26 (vs := [_, _]) ⟨rfl, rfl, trivial⟩ (New_S 2 3 (by omega) (by omega) (by omega) (by omega)) rfl ?_)
  rintro v Θ ⟨b, rfl, rfl⟩
  refine S.op (S.q (q_move rfl) rfl rfl ?_)
  refine S.op (S.q (q_extract rfl rfl) rfl rfl ?_)
  refine S.op (S.q (q_extract rfl rfl) rfl rfl ?_)
  refine S.op (S.q (q_assign rfl) rfl rfl ?_)
  refine S.op (S.q (q_assign rfl) rfl rfl ?_)
  first | with_reducible refine S.nilK ?_ | refine S.nil ?_
  refine hK2 _ _ ?_
  refine S.seq fun K3 hK3 => ?_
  refine S.seq fun K4 hK4 => ?_
  refine S.regionG ?_
  refine S.g_op rfl (S.q (q_move rfl) rfl rfl ?_)
  refine S.g_op rfl (S.q (q_ne rfl rfl) rfl rfl ?_)
  refine S.g_op rfl (S.q (q_move rfl) rfl rfl ?_)
  refine S.g_yes rfl rfl rfl (rfl) (S.q (q_move rfl) rfl rfl ?_)
  refine S.g_yes rfl rfl rfl (rfl) (S.q (q_eqN Tryd.underlying24 rfl rfl) rfl rfl ?_)
  refine S.g_op rfl (S.q (q_pickF rfl (rfl) rfl) rfl rfl ?_)
  first | with_reducible refine S.g_nilK ?_ | refine S.g_nil ?_
  refine hK4 _ _ ?_
  refine S.condF rfl ?_
  refine S.skip ?_
  with_reducible repeat (first | refine S.then_n ?_ | refine S.then_x ?_ | refine S.then_r ?_ | refine S.inBlock_n ?_ | refine S.inBlock_r ?_ | refine S.inBlock_x rfl ?_ | refine S.noGoto_r ?_ | refine S.noGoto_n ?_ | refine S.noGoto_x ?_)
  refine hK3 _ _ ?_
  refine S.seq fun K5 hK5 => ?_
  refine S.region rfl ?_
  refine S.op (S.q (q_move rfl) rfl rfl ?_)
  refine S.op (S.call Tryd.en16 (vs := [_, _, _]) ⟨rfl, rfl, rfl, trivial⟩ (Place_S b (mx0 2 3) 1 2 (by omega) (by omega) hW) rfl ?_)
  rintro v Θ ⟨s1, rfl, hs1, rfl⟩
  rw [show (placeR (mx0 2 3) 1 2).2 = am1 from rfl]
  first | with_reducible refine S.nilK ?_ | refine S.nil ?_
  refine hK5 _ _ ?_
  refine S.seq fun K6 hK6 => ?_
  refine S.region rfl ?_
  refine S.op (S.q (q_move rfl) rfl rfl ?_)
  refine S.op (S.call Tryd.en16 (vs := [_, _, _]) ⟨rfl, rfl, rfl, trivial⟩ (Place_S b am1 2 2 (by omega) (by omega) hW) rfl ?_)
  rintro v Θ ⟨s2, rfl, hs2, rfl⟩
  rw [show (placeR am1 2 2).2 = am2 from rfl]
  refine S.op (S.q (q_move rfl) rfl rfl ?_)
  refine S.op (S.q (q_extract rfl rfl) rfl rfl ?_)
  refine S.op (S.q (q_extract rfl rfl) rfl rfl ?_)
  refine S.op (S.q (q_extract rfl rfl) rfl rfl ?_)
  refine S.op (S.q (q_assign rfl) rfl rfl ?_)
  refine S.op (S.q (q_assign rfl) rfl rfl ?_)
  refine S.op (S.q (q_assign rfl) rfl rfl ?_)
  first | with_reducible refine S.nilK ?_ | refine S.nil ?_
  refine hK6 _ _ ?_
  refine S.seq fun K7 hK7 => ?_
  refine S.region rfl ?_
  refine S.op (S.q (q_move rfl) rfl rfl ?_)
  refine S.op (S.call Tryd.en16 (vs := [_, _, _]) ⟨rfl, rfl, rfl, trivial⟩ (Place_S b am2 3 1 (by omega) (by omega) hW) rfl ?_)
  rintro v Θ ⟨s3, rfl, hs3, rfl⟩
  rw [show (placeR am2 3 1).2 = am3 from rfl]
  rw [f2] at hs3 ⊢
  refine S.op (S.q (q_move rfl) rfl rfl ?_)
  refine S.op (S.q (q_extract rfl rfl) rfl rfl ?_)
  refine S.op (S.q (q_extract rfl rfl) rfl rfl ?_)
  refine S.op (S.q (q_extract rfl rfl) rfl rfl ?_)
  refine S.op (S.q (q_assign rfl) rfl rfl ?_)
  refine S.op (S.q (q_assign rfl) rfl rfl ?_)
  refine S.op (S.q (q_assign rfl) rfl rfl ?_)
  first | with_reducible refine S.nilK ?_ | refine S.nil ?_
  refine hK7 _ _ ?_
  refine S.seq fun K8 hK8 => ?_
  refine S.region rfl ?_
  refine S.op (S.q (q_move rfl) rfl rfl ?_)
  refine S.op (S.call Tryd.en14 (vs := [_, _]) ⟨rfl, rfl, trivial⟩ (Next_S b am3 1) rfl ?_)
  rintro v Θ ⟨rfl, rfl⟩
  refine S.op (S.q (q_move rfl) rfl rfl ?_)
  refine S.op (S.q (q_extract rfl rfl) rfl rfl ?_)
  refine S.op (S.q (q_extract rfl rfl) rfl rfl ?_)
  refine S.op (S.q (q_assign rfl) rfl rfl ?_)
  refine S.op (S.q (q_assign rfl) rfl rfl ?_)
  first | with_reducible refine S.nilK ?_ | refine S.nil ?_
  refine hK8 _ _ ?_
  refine S.seq fun K9 hK9 => ?_
  refine S.regionG ?_
  refine S.g_op rfl (S.q (q_move rfl) rfl rfl ?_)
  refine S.g_op rfl (S.q (q_eq rfl rfl) rfl rfl ?_)
  refine S.g_op rfl (S.q (q_move rfl) rfl rfl ?_)
  refine S.g_yes rfl rfl rfl ((decide_eq_true f1)) (S.q (q_move rfl) rfl rfl ?_)
  refine S.g_yes rfl rfl rfl ((decide_eq_true f1)) (S.buildSlice (pvs := [(_, _)]) [_] Tryd.underlying36 Tryd.inf3 rfl rfl ⟨⟨rfl, rfl⟩, trivial⟩ rfl rfl ?_)
  intro b44
  refine S.g_yes rfl rfl rfl ((decide_eq_true f1)) (S.call Tryd.en30 (vs := [_, _]) ⟨rfl, rfl, trivial⟩ (SameInts_S (own s3 3 1 (nds [2])) (blk b44 3 #[.int .i64 2]) s3 ⟨some ⟨b44, 0, none⟩, 1, 1⟩ (casts [2]) [2] (rdNds s3 3 [2]) (rdBlk (cs := [.int .i64 2]) rfl (by unfold maxLen; omega)) hs3 rfl) rfl ?_)
  rintro v Θ ⟨rfl, rfl⟩
  refine S.g_op rfl (S.q (q_pickT rfl ((decide_eq_true f1)) rfl) rfl rfl ?_)
  refine S.g_op rfl (S.q (q_move rfl) rfl rfl ?_)
  refine S.g_yes rfl rfl rfl ((decide_eq_true rfl)) (S.q (q_move rfl) rfl rfl ?_)
  refine S.g_yes rfl rfl rfl ((decide_eq_true rfl)) (S.call Tryd.en19 (vs := [_, _]) ⟨rfl, rfl, trivial⟩ (Fill_S b am3 0 hW) rfl ?_)
  rintro v Θ ⟨s4, rfl, hs4, rfl⟩
  rw [f3] at hs4
  refine S.g_yes rfl rfl rfl ((decide_eq_true rfl)) (S.q (q_len Tryd.underlying29 rfl) rfl rfl ?_)
  refine S.g_yes rfl rfl rfl ((decide_eq_true rfl)) (S.q (q_eq rfl rfl) rfl rfl ?_)
  refine S.g_op rfl (S.q (q_pickT rfl ((decide_eq_true rfl)) rfl) rfl rfl ?_)
  refine S.g_op rfl (S.q (q_move rfl) rfl rfl ?_)
  refine S.g_yes rfl rfl rfl ((decide_eq_true (by rw [hs4]; rfl))) (S.q (q_move rfl) rfl rfl ?_)
  refine S.g_yes rfl rfl rfl ((decide_eq_true (by rw [hs4]; rfl))) (S.call Tryd.en19 (vs := [_, _]) ⟨rfl, rfl, trivial⟩ (Fill_S b am3 1 hW) rfl ?_)
  rintro v Θ ⟨s5, rfl, hs5, rfl⟩
  rw [f4] at hs5 ⊢
  refine S.g_yes rfl rfl rfl ((decide_eq_true (by rw [hs4]; rfl))) (S.buildSlice (pvs := [(_, _)]) [_] Tryd.underlying29 Tryd.inf40 rfl rfl ⟨⟨rfl, rfl⟩, trivial⟩ rfl rfl ?_)
  intro b56
  refine S.g_yes rfl rfl rfl ((decide_eq_true (by rw [hs4]; rfl))) (S.call Tryd.en25 (vs := [_, _]) ⟨rfl, rfl, trivial⟩ (Same_S (own s5 40 1 (idsV [3])) (blk b56 40 #[.int .u32 3]) s5 ⟨some ⟨b56, 0, none⟩, 1, 1⟩ (casts [3]) [3] (rdIds s5 40 [3]) (rdBlk (cs := [.int .u32 3]) rfl (by unfold maxLen; omega)) hs5 rfl) rfl ?_)
  rintro v Θ ⟨rfl, rfl⟩
  refine S.g_op rfl (S.q (q_pickT rfl ((decide_eq_true (by rw [hs4]; rfl))) rfl) rfl rfl ?_)
  refine S.g_op rfl (S.q (q_move rfl) rfl rfl ?_)
  refine S.g_yes rfl rfl rfl ((decide_eq_true rfl)) (S.q (q_move rfl) rfl rfl ?_)
  refine S.g_yes rfl rfl rfl ((decide_eq_true rfl)) (S.q (q_eq rfl rfl) rfl rfl ?_)
  refine S.g_op rfl (S.q (q_pickT rfl ((decide_eq_true rfl)) rfl) rfl rfl ?_)
  refine S.g_op rfl (S.q (q_assign rfl) rfl rfl ?_)
  first | with_reducible refine S.g_nilK ?_ | refine S.g_nil ?_
  refine hK9 _ _ ?_
  refine S.ret ?_
  with_reducible repeat (first | refine S.then_n ?_ | refine S.then_x ?_ | refine S.then_r ?_ | refine S.inBlock_n ?_ | refine S.inBlock_r ?_ | refine S.inBlock_x rfl ?_ | refine S.noGoto_r ?_ | refine S.noGoto_n ?_ | refine S.noGoto_x ?_)
  exact S.fin (rs := [_]) (vs := [_]) Tryd.results10 (⟨rfl, trivial⟩)  (⟨by simp only [resV]; rw [decide_eq_true f5], rfl⟩) Sub.ent
/-- The matrix that the laws build. -/
def addUp (m : Mx) (ws : List Int) : Nat → Mx
  | 0 => m
  | i + 1 => (placeR (addUp m ws i) (i + 1) (1 + ws.getD i 0 % 6)).2
def delUp (m : Mx) (gs : List Int) : Nat → Mx
  | 0 => m
  | i + 1 => (removeR (delUp m gs i) (gs.getD i 0).toNat).2
def buildR (r n : Int) (ws gs : List Int) : Mx := delUp (addUp (mx0 (1 + r % 8).toNat (1 + n % 16).toNat) ws (min ws.length 40)) gs gs.length
theorem addUp_ok {m : Mx} (hm : MxOk m) (ws : List Int) : ∀ i, i ≤ 40 → MxOk (addUp m ws i)
  | 0, _ => hm
  | i + 1, h => placeR_ok (addUp_ok hm ws i (by omega)) (by omega) _
theorem removeR_ok {m : Mx} (hm : MxOk m) (j : Nat) : MxOk (removeR m j).2 := by
  unfold removeR
  split
  · exact hm.del j
  · exact hm
theorem build_S (r n : Int) (ws gs : List Int) (s t : SV) (hr : 0 ≤ r ∧ r ≤ 255) (hn : 0 ≤ n ∧ n ≤ 255) {W : World} (hW : TabW W) (hs : BW W s ws) (ht : BW W t gs) : Spec Tryd.prog 11 [.int .u8 r, .int .u8 n, s.v, t.v] [old W] fun Γ v Θ => ∃ b k, v = .tuple #[.pointer (some ⟨b, 0, none⟩), .int .i64 k] ∧ Θ = MI b (buildR r n ws gs) :: old W :: Γ := by
  refine Spec.of_body Tryd.func11 rfl Tryd.ntmps11 rfl ?_
  intro w0 Γ
  show S _ w0 [(0, .int .u8 r), (1, .int .u8 n), (2, s.v), (3, t.v)] (old W :: Γ) _
  have hRs : RdS (old W) s s.n 1 (bcells ws) := by rw [hs.len]; exact RdS.old hs.at_
  have hRt : RdS (old W) t t.n 1 (bcells gs) := by rw [ht.len]; exact RdS.old ht.at_
  have hsl := hs.len
  have htl := ht.len
  refine S.rCap hRs fun _ hc1 hc2 => ?_
  refine S.rCap hRt fun _ hd1 hd2 => ?_
  obtain ⟨R, hR⟩ : ∃ R : Nat, (R : Int) = 1 + r % 8 := ⟨(1 + r % 8).toNat, by omega⟩
  obtain ⟨N, hN⟩ : ∃ N : Nat, (N : Int) = 1 + n % 16 := ⟨(1 + n % 16).toNat, by omega⟩
  have hbR : buildR r n ws gs = delUp (addUp (mx0 R N) ws (min ws.length 40)) gs gs.length := by rw [buildR, ← hR, ← hN, Int.toNat_natCast, Int.toNat_natCast]
  have hok0 := mx0_ok (R := R) (N := N) (by omega) (by omega) (by omega) (by omega)
  refine S.seq fun K1 hK1 => ?_
  refine S.region rfl ?_
  refine S.op (S.q (q_assign rfl) rfl rfl ?_)
  refine S.op (S.q (q_assign rfl) rfl rfl ?_)
  first | with_reducible refine S.nilK ?_ | refine S.nil ?_
  refine hK1 _ _ ?_
  refine S.seq fun K2 hK2 => ?_
  refine S.region rfl ?_
  refine S.op (S.q (q_move rfl) rfl rfl ?_)
  refine S.op (S.q (q_rem rfl rfl (⟨by omega, by omega⟩)) rfl rfl ?_)
  refine S.op (S.q (q_conv Tryd.it3 (by rw [Tryd.underlying5]; rfl) rfl (inI64 (by omega) (by omega))) rfl rfl ?_)
  refine S.op (S.q (q_add rfl rfl (inI64 (by omega) (by omega))) rfl rfl ?_)
  refine S.op (S.q (q_move rfl) rfl rfl ?_)
  refine S.op (S.q (q_rem rfl rfl (⟨by omega, by omega⟩)) rfl rfl ?_)
  refine S.op (S.q (q_conv Tryd.it3 (by rw [Tryd.underlying5]; rfl) rfl (inI64 (by omega) (by omega))) rfl rfl ?_)
  refine S.op (S.q (q_add rfl rfl (inI64 (by omega) (by omega))) rfl rfl ?_)
  refine S.op (S.call Tryd.en26 (vs := [_, _]) ⟨rfl, rfl, trivial⟩ ((by rw [← hR, ← hN]; exact New_S R N (by omega) (by omega) (by omega) (by omega))) rfl ?_)
  rintro v Θ ⟨b, rfl, rfl⟩
  refine S.op (S.q (q_move rfl) rfl rfl ?_)
  refine S.op (S.q (q_extract rfl rfl) rfl rfl ?_)
  refine S.op (S.q (q_extract rfl rfl) rfl rfl ?_)
  refine S.op (S.q (q_assign rfl) rfl rfl ?_)
  refine S.op (S.q (q_assign rfl) rfl rfl ?_)
  first | with_reducible refine S.nilK ?_ | refine S.nil ?_
  refine hK2 _ _ ?_
  refine S.seq fun K3 hK3 => ?_
  refine S.region rfl ?_
  refine S.op (S.q (q_assign rfl) rfl rfl ?_)
  first | with_reducible refine S.nilK ?_ | refine S.nil ?_
  refine hK3 _ _ ?_
  refine S.seq fun K4 hK4 => ?_
  refine S.seq fun K5 hK5 => ?_
  refine S.region rfl ?_
  refine S.op (S.q (q_move rfl) rfl rfl ?_)
  refine S.op (S.q (q_len Tryd.underlying22 rfl) rfl rfl ?_)
  refine S.op (S.q (q_move rfl) rfl rfl ?_)
  first | with_reducible refine S.nilK ?_ | refine S.nil ?_
  refine hK5 _ _ ?_
  refine S.cut (fun ρ' Γ' => ∃ k, ρ' = [(3, t.v), (10, .pointer (some ⟨b, 0, none⟩)), (12, .int .i64 k)] ∧ Γ' = MI b (addUp (mx0 R N) ws (min ws.length 40)) :: old W :: Γ) ?_ ?_
  · refine S.block ?_
    refine S.loop (fun q ρ' Γ' => ∃ (i : Nat) (mm : Mx), q = ws.length - i ∧ i ≤ ws.length ∧ i ≤ 40 ∧ mm = addUp (mx0 R N) ws i ∧ ρ' = [(3, t.v), (10, .pointer (some ⟨b, 0, none⟩)), (12, .int .i64 (i : Int)), (29, s.v), (30, .int .i64 s.n), (31, .int .i64 (i : Int))] ∧ Γ' = MI b mm :: old W :: Γ) (m := _) (ρ0 := _) (Γ0 := _) (⟨0, mx0 R N, rfl, by omega, by omega, rfl, rfl, rfl⟩) (by repeat (first | exact trivial | refine ⟨rfl, ?_⟩)) Sub.ent ?_
    rintro q ρ' Γ' ⟨i, mm, hq, hi, hi40, hmm, rfl, rfl⟩
    refine S.seq fun K6 hK6 => ?_
    refine S.region rfl ?_
    refine S.op (S.q (q_lt rfl rfl) rfl rfl ?_)
    first | with_reducible refine S.nilK ?_ | refine S.nil ?_
    refine hK6 _ _ ?_
    refine S.seq fun K7 hK7 => ?_
    refine S.condD rfl (fun h1 => ?_) (fun h1 => ?_)
    · refine S.rSome hRs (by omega) fun sb so hsa => ?_
      obtain ⟨x, hx⟩ := getE (show i < ws.length by omega)
      have hxr := hs.rng x (List.mem_of_getElem? hx)
      have hxd : ws.getD i 0 = x := by simp [List.getD, hx]
      refine S.skip ?_
      with_reducible repeat (first | refine S.then_n ?_ | refine S.then_x ?_ | refine S.then_r ?_ | refine S.inBlock_n ?_ | refine S.inBlock_r ?_ | refine S.inBlock_x rfl ?_ | refine S.noGoto_r ?_ | refine S.noGoto_n ?_ | refine S.noGoto_x ?_)
      refine hK7 _ _ ?_
      refine S.seq fun K8 hK8 => ?_
      refine S.block ?_
      refine S.seq fun K9 hK9 => ?_
      refine S.region rfl ?_
      refine S.op (S.q (q_move rfl) rfl rfl ?_)
      refine S.op (S.q (q_indexO (i) Tryd.el22 rfl hsa rfl rfl (by omega)) rfl rfl ?_)
      refine S.op (S.q (q_loadR hRs i Tryd.at5 rfl hsa (by omega) (by omega) (by rw [bcells, List.getElem?_map, hx]; rfl)) rfl rfl ?_)
      refine S.op (S.q (q_assign rfl) rfl rfl ?_)
      refine S.op (S.q (q_assign rfl) rfl rfl ?_)
      first | with_reducible refine S.nilK ?_ | refine S.nil ?_
      refine hK9 _ _ ?_
      refine S.seq fun K10 hK10 => ?_
      refine S.seq fun K11 hK11 => ?_
      refine S.region rfl ?_
      refine S.op (S.q (q_move rfl) rfl rfl ?_)
      refine S.op (S.q (q_ge rfl rfl) rfl rfl ?_)
      first | with_reducible refine S.nilK ?_ | refine S.nil ?_
      refine hK11 _ _ ?_
      refine S.condD rfl (fun h2 => ?_) (fun h2 => ?_)
      · have hmin : min ws.length 40 = i := by omega
        refine S.exit ?_
        with_reducible repeat (first | refine S.then_n ?_ | refine S.then_x ?_ | refine S.then_r ?_ | refine S.inBlock_n ?_ | refine S.inBlock_r ?_ | refine S.inBlock_x rfl ?_ | refine S.noGoto_r ?_ | refine S.noGoto_n ?_ | refine S.noGoto_x ?_)
        with_reducible refine S.inBlock_s ?_
        with_reducible repeat (first | refine S.then_n ?_ | refine S.then_x ?_ | refine S.then_r ?_ | refine S.inBlock_n ?_ | refine S.inBlock_r ?_ | refine S.inBlock_x rfl ?_ | refine S.noGoto_r ?_ | refine S.noGoto_n ?_ | refine S.noGoto_x ?_)
        with_reducible repeat (first | refine S.then_n ?_ | refine S.then_x ?_ | refine S.then_r ?_ | refine S.inBlock_n ?_ | refine S.inBlock_r ?_ | refine S.inBlock_x rfl ?_ | refine S.noGoto_r ?_ | refine S.noGoto_n ?_ | refine S.noGoto_x ?_)
        rw [hmin, ← hmm]
        exact S.meet ⟨_, rfl, rfl⟩ ⟨rfl, rfl, rfl, trivial⟩ Sub.ent
      · refine S.skip ?_
        with_reducible repeat (first | refine S.then_n ?_ | refine S.then_x ?_ | refine S.then_r ?_ | refine S.inBlock_n ?_ | refine S.inBlock_r ?_ | refine S.inBlock_x rfl ?_ | refine S.noGoto_r ?_ | refine S.noGoto_n ?_ | refine S.noGoto_x ?_)
        refine hK10 _ _ ?_
        refine S.seq fun K12 hK12 => ?_
        refine S.region rfl ?_
        refine S.op (S.q (q_move rfl) rfl rfl ?_)
        refine S.op (S.q (q_add rfl rfl (inI64 (by omega) (by omega))) rfl rfl ?_)
        refine S.op (S.q (q_assign rfl) rfl rfl ?_)
        first | with_reducible refine S.nilK ?_ | refine S.nil ?_
        refine hK12 _ _ ?_
        refine S.region rfl ?_
        refine S.op (S.q (q_move rfl) rfl rfl ?_)
        refine S.op (S.q (q_move rfl) rfl rfl ?_)
        refine S.op (S.q (q_add rfl rfl (inI64 (by omega) (by omega))) rfl rfl ?_)
        refine S.op (S.q (q_conv Tryd.it40 (by rw [Tryd.underlying3]; rfl) rfl (inU32 (by omega) (by omega))) rfl rfl ?_)
        refine S.op (S.q (q_move rfl) rfl rfl ?_)
        refine S.op (S.q (q_rem rfl rfl (⟨by omega, by omega⟩)) rfl rfl ?_)
        refine S.op (S.q (q_conv Tryd.it3 (by rw [Tryd.underlying5]; rfl) rfl (inI64 (by omega) (by omega))) rfl rfl ?_)
        refine S.op (S.q (q_add rfl rfl (inI64 (by omega) (by omega))) rfl rfl ?_)
        refine S.op (S.call Tryd.en16 (vs := [_, _, _]) ⟨rfl, rfl, rfl, trivial⟩ (Place_S b mm (i + 1) (1 + x % 6) (by omega) (by omega) hW) rfl ?_)
        rintro v Θ ⟨s8, rfl, _, rfl⟩
        first | with_reducible refine S.nilK ?_ | refine S.nil ?_
        with_reducible repeat (first | refine S.then_n ?_ | refine S.then_x ?_ | refine S.then_r ?_ | refine S.inBlock_n ?_ | refine S.inBlock_r ?_ | refine S.inBlock_x rfl ?_ | refine S.noGoto_r ?_ | refine S.noGoto_n ?_ | refine S.noGoto_x ?_)
        refine hK8 _ _ ?_
        refine S.region rfl ?_
        refine S.op (S.q (q_add rfl rfl (inI64 (by omega) (by omega))) rfl rfl ?_)
        refine S.op (S.q (q_move rfl) rfl rfl ?_)
        first | with_reducible refine S.nilK ?_ | refine S.nil ?_
        with_reducible repeat (first | refine S.then_n ?_ | refine S.then_x ?_ | refine S.then_r ?_ | refine S.inBlock_n ?_ | refine S.inBlock_r ?_ | refine S.inBlock_x rfl ?_ | refine S.noGoto_r ?_ | refine S.noGoto_n ?_ | refine S.noGoto_x ?_)
        exact S.next (q - 1) (⟨i + 1, (placeR mm (i + 1) (1 + x % 6)).2, by omega, by omega, by omega, by rw [addUp, hxd, hmm], rfl, rfl⟩) (by omega) (by repeat (first | exact trivial | refine ⟨rfl, ?_⟩)) Sub.ent
    · have hmin : min ws.length 40 = i := by omega
      refine S.exit ?_
      with_reducible repeat (first | refine S.then_n ?_ | refine S.then_x ?_ | refine S.then_r ?_ | refine S.inBlock_n ?_ | refine S.inBlock_r ?_ | refine S.inBlock_x rfl ?_ | refine S.noGoto_r ?_ | refine S.noGoto_n ?_ | refine S.noGoto_x ?_)
      with_reducible refine S.inBlock_s ?_
      with_reducible repeat (first | refine S.then_n ?_ | refine S.then_x ?_ | refine S.then_r ?_ | refine S.inBlock_n ?_ | refine S.inBlock_r ?_ | refine S.inBlock_x rfl ?_ | refine S.noGoto_r ?_ | refine S.noGoto_n ?_ | refine S.noGoto_x ?_)
      with_reducible repeat (first | refine S.then_n ?_ | refine S.then_x ?_ | refine S.then_r ?_ | refine S.inBlock_n ?_ | refine S.inBlock_r ?_ | refine S.inBlock_x rfl ?_ | refine S.noGoto_r ?_ | refine S.noGoto_n ?_ | refine S.noGoto_x ?_)
      rw [hmin, ← hmm]
      exact S.meet ⟨_, rfl, rfl⟩ ⟨rfl, rfl, rfl, trivial⟩ Sub.ent
  · rintro ρ' Γ' ⟨k, rfl, rfl⟩
    refine hK4 _ _ ?_
    refine S.seq fun K13 hK13 => ?_
    refine S.seq fun K14 hK14 => ?_
    refine S.region rfl ?_
    refine S.op (S.q (q_move rfl) rfl rfl ?_)
    refine S.op (S.q (q_len Tryd.underlying22 rfl) rfl rfl ?_)
    refine S.op (S.q (q_move rfl) rfl rfl ?_)
    first | with_reducible refine S.nilK ?_ | refine S.nil ?_
    refine hK14 _ _ ?_
    refine S.block ?_
    refine S.loop (fun q ρ' Γ' => ∃ (i : Nat) (mm : Mx), q = gs.length - i ∧ i ≤ gs.length ∧ mm = delUp (addUp (mx0 R N) ws (min ws.length 40)) gs i ∧ ρ' = [(10, .pointer (some ⟨b, 0, none⟩)), (12, .int .i64 k), (50, t.v), (51, .int .i64 t.n), (52, .int .i64 (i : Int))] ∧ Γ' = MI b mm :: old W :: Γ) (m := _) (ρ0 := _) (Γ0 := _) (⟨0, addUp (mx0 R N) ws (min ws.length 40), rfl, by omega, rfl, rfl, rfl⟩) (by repeat (first | exact trivial | refine ⟨rfl, ?_⟩)) Sub.ent ?_
    rintro q ρ' Γ' ⟨i, mm, hq, hi, hmm, rfl, rfl⟩
    refine S.seq fun K15 hK15 => ?_
    refine S.region rfl ?_
    refine S.op (S.q (q_lt rfl rfl) rfl rfl ?_)
    first | with_reducible refine S.nilK ?_ | refine S.nil ?_
    refine hK15 _ _ ?_
    refine S.seq fun K16 hK16 => ?_
    refine S.condD rfl (fun h3 => ?_) (fun h3 => ?_)
    · refine S.rSome hRt (by omega) fun tb tf hta => ?_
      obtain ⟨x, hx⟩ := getE (show i < gs.length by omega)
      have hxr := ht.rng x (List.mem_of_getElem? hx)
      obtain ⟨g, rfl⟩ : ∃ g : Nat, x = g := ⟨x.toNat, by omega⟩
      have hxd : (gs.getD i 0).toNat = g := by simp [List.getD, hx]
      refine S.skip ?_
      with_reducible repeat (first | refine S.then_n ?_ | refine S.then_x ?_ | refine S.then_r ?_ | refine S.inBlock_n ?_ | refine S.inBlock_r ?_ | refine S.inBlock_x rfl ?_ | refine S.noGoto_r ?_ | refine S.noGoto_n ?_ | refine S.noGoto_x ?_)
      refine hK16 _ _ ?_
      refine S.seq fun K17 hK17 => ?_
      refine S.block ?_
      refine S.seq fun K18 hK18 => ?_
      refine S.region rfl ?_
      refine S.op (S.q (q_indexO (i) Tryd.el22 rfl hta rfl rfl (by omega)) rfl rfl ?_)
      refine S.op (S.q (q_loadR hRt i Tryd.at5 rfl hta (by omega) (by omega) (by rw [bcells, List.getElem?_map, hx]; rfl)) rfl rfl ?_)
      refine S.op (S.q (q_assign rfl) rfl rfl ?_)
      first | with_reducible refine S.nilK ?_ | refine S.nil ?_
      refine hK18 _ _ ?_
      refine S.region rfl ?_
      refine S.op (S.q (q_move rfl) rfl rfl ?_)
      refine S.op (S.q (q_move rfl) rfl rfl ?_)
      refine S.op (S.q (q_conv Tryd.it40 (by rw [Tryd.underlying5]; rfl) rfl (inU32 (by omega) (by omega))) rfl rfl ?_)
      refine S.op (S.call Tryd.en24 (vs := [_, _]) ⟨rfl, rfl, trivial⟩ (Remove_S b mm g) rfl ?_)
      rintro v Θ ⟨rfl, rfl⟩
      first | with_reducible refine S.nilK ?_ | refine S.nil ?_
      with_reducible repeat (first | refine S.then_n ?_ | refine S.then_x ?_ | refine S.then_r ?_ | refine S.inBlock_n ?_ | refine S.inBlock_r ?_ | refine S.inBlock_x rfl ?_ | refine S.noGoto_r ?_ | refine S.noGoto_n ?_ | refine S.noGoto_x ?_)
      refine hK17 _ _ ?_
      refine S.region rfl ?_
      refine S.op (S.q (q_add rfl rfl (inI64 (by omega) (by omega))) rfl rfl ?_)
      refine S.op (S.q (q_move rfl) rfl rfl ?_)
      first | with_reducible refine S.nilK ?_ | refine S.nil ?_
      with_reducible repeat (first | refine S.then_n ?_ | refine S.then_x ?_ | refine S.then_r ?_ | refine S.inBlock_n ?_ | refine S.inBlock_r ?_ | refine S.inBlock_x rfl ?_ | refine S.noGoto_r ?_ | refine S.noGoto_n ?_ | refine S.noGoto_x ?_)
      exact S.next (q - 1) (⟨i + 1, (removeR mm g).2, by omega, by omega, by rw [delUp, hxd, hmm], rfl, rfl⟩) (by omega) (by repeat (first | exact trivial | refine ⟨rfl, ?_⟩)) Sub.ent
    · have hgl : i = gs.length := by omega
      rw [hgl, ← hbR] at hmm
      subst hmm
      refine S.exit ?_
      with_reducible repeat (first | refine S.then_n ?_ | refine S.then_x ?_ | refine S.then_r ?_ | refine S.inBlock_n ?_ | refine S.inBlock_r ?_ | refine S.inBlock_x rfl ?_ | refine S.noGoto_r ?_ | refine S.noGoto_n ?_ | refine S.noGoto_x ?_)
      with_reducible refine S.inBlock_s ?_
      with_reducible repeat (first | refine S.then_n ?_ | refine S.then_x ?_ | refine S.then_r ?_ | refine S.inBlock_n ?_ | refine S.inBlock_r ?_ | refine S.inBlock_x rfl ?_ | refine S.noGoto_r ?_ | refine S.noGoto_n ?_ | refine S.noGoto_x ?_)
      refine hK13 _ _ ?_
      refine S.seq fun K19 hK19 => ?_
      refine S.region rfl ?_
      refine S.op (S.q (q_move rfl) rfl rfl ?_)
      refine S.op (S.q (q_move rfl) rfl rfl ?_)
      refine S.op (S.q (q_assign rfl) rfl rfl ?_)
      refine S.op (S.q (q_assign rfl) rfl rfl ?_)
      first | with_reducible refine S.nilK ?_ | refine S.nil ?_
      refine hK19 _ _ ?_
      refine S.ret ?_
      with_reducible repeat (first | refine S.then_n ?_ | refine S.then_x ?_ | refine S.then_r ?_ | refine S.inBlock_n ?_ | refine S.inBlock_r ?_ | refine S.inBlock_x rfl ?_ | refine S.noGoto_r ?_ | refine S.noGoto_n ?_ | refine S.noGoto_x ?_)
      exact S.fin (rs := [_, _]) (vs := [_, _]) Tryd.results11 (⟨rfl, rfl, trivial⟩)  (⟨b, k, rfl, rfl⟩) Sub.ent
end Go.Proofs.YtdmfjjogpmddoaaDoor
