/- slices.Sort at whole numbers of 32 bits: what chooses, what scatters, what is partly in order. -/
import Derived.WideKeyMaps
import Derived.DeepKeys3
import Derived.Sort.AssemblyPlain
import Derived.Sort.LotD1
import Derived.Test.YtmhdapbfpenjpaaDoorMG3
/- The laws of rows: awake, build. -/
namespace Go.Proofs.YtmhdapbfpenjpaaDoor
open Go.RowKit
set_option maxRecDepth 20000
def am1 : Mx := (placeR (mx0 2 3) 1 2).2
def am2 : Mx := (placeR am1 2 2).2
def am3 : Mx := (placeR am2 3 1).2
theorem awake_facts : (placeR am1 2 2).1.1 = 1 ∧ (placeR am2 3 1).1.2.1 = [2] ∧ fillIds am3 0 = [] ∧ fillIds am3 1 = [3] ∧ (nextR am3 1).1 = 0 :=
  ⟨by kernel_rfl, by kernel_rfl, by kernel_rfl, by kernel_rfl, by kernel_rfl⟩
theorem awake_S {W : World} (hW : TabW W) : Spec Tryd.prog 32 [] [old W] fun Γ v Θ => v = .bool true ∧ Θ = old W :: Γ := by
  refine Spec.of_body Tryd.func32 rfl Tryd.ntmps32 rfl ?_
  intro w0 Γ
  obtain ⟨f1, f2, f3, f4, f5⟩ := awake_facts
  show S _ w0 [] (old W :: Γ) _
  refine S.seq fun K1 hK1 => ?_
  refine S.region rfl ?_
  refine S.op (S.q (q_assign rfl) rfl rfl ?_)
  first | with_reducible refine S.nilK ?_ | refine S.nil ?_
  refine hK1 _ _ ?_
  refine S.seq fun K2 hK2 => ?_
  refine S.region rfl ?_
  refine S.op (S.call Tryd.en45 (vs := [_, _]) ⟨rfl, rfl, trivial⟩ (New_S 2 3 (by omega) (by omega) (by omega) (by omega)) rfl ?_)
  rintro v Θ ⟨b, rfl, rfl⟩
  refine S.op (S.q (q_move rfl) rfl rfl ?_)
  refine S.op (S.q (q_extract rfl rfl) rfl rfl ?_)
  refine S.op (S.q (q_extract rfl rfl) rfl rfl ?_)
  refine S.op (S.q (q_assign rfl) rfl rfl ?_)
  refine S.op (S.q (q_assign rfl) rfl rfl ?_)
  first | with_reducible refine S.nilK ?_ | refine S.nil ?_
  refine hK2 _ _ ?_
  refine S.seq fun K3 hK3 => ?_
  refine S.seq fun K4 hK4 => ?_
  refine S.regionG ?_
  refine S.g_op rfl (S.q (q_move rfl) rfl rfl ?_)
  refine S.g_op rfl (S.q (q_ne rfl rfl) rfl rfl ?_)
  refine S.g_op rfl (S.q (q_move rfl) rfl rfl ?_)
  refine S.g_yes rfl rfl rfl (rfl) (S.q (q_move rfl) rfl rfl ?_)
  refine S.g_yes rfl rfl rfl (rfl) (S.q (q_eqN Tryd.underlying25 rfl rfl) rfl rfl ?_)
  refine S.g_op rfl (S.q (q_pickF rfl (rfl) rfl) rfl rfl ?_)
  first | with_reducible refine S.g_nilK ?_ | refine S.g_nil ?_
  refine hK4 _ _ ?_
  refine S.condF rfl ?_
  refine S.skip ?_
  with_reducible repeat (first | refine S.then_n ?_ | refine S.then_x ?_ | refine S.then_r ?_ | refine S.inBlock_n ?_ | refine S.inBlock_r ?_ | refine S.inBlock_x rfl ?_ | refine S.noGoto_r ?_ | refine S.noGoto_n ?_ | refine S.noGoto_x ?_)
  refine hK3 _ _ ?_
  refine S.seq fun K5 hK5 => ?_
  refine S.region rfl ?_
  refine S.op (S.q (q_move rfl) rfl rfl ?_)
  refine S.op (S.call Tryd.en40 (vs := [_, _, _]) ⟨rfl, rfl, rfl, trivial⟩ (Place_S b (mx0 2 3) 1 2 (by omega) (by omega) hW) rfl ?_)
  rintro v Θ ⟨s1, rfl, hs1, rfl⟩
  rw [show (placeR (mx0 2 3) 1 2).2 = am1 from rfl]
  first | with_reducible refine S.nilK ?_ | refine S.nil ?_
  refine hK5 _ _ ?_
  refine S.seq fun K6 hK6 => ?_
  refine S.region rfl ?_
  refine S.op (S.q (q_move rfl) rfl rfl ?_)
  refine S.op (S.call Tryd.en40 (vs := [_, _, _]) ⟨rfl, rfl, rfl, trivial⟩ (Place_S b am1 2 2 (by omega) (by omega) hW) rfl ?_)
  rintro v Θ ⟨s2, rfl, hs2, rfl⟩
  rw [show (placeR am1 2 2).2 = am2 from rfl]
  refine S.op (S.q (q_move rfl) rfl rfl ?_)
  refine S.op (S.q (q_extract rfl rfl) rfl rfl ?_)
  refine S.op (S.q (q_extract rfl rfl) rfl rfl ?_)
  refine S.op (S.q (q_extract rfl rfl) rfl rfl ?_)
  refine S.op (S.q (q_assign rfl) rfl rfl ?_)
  refine S.op (S.q (q_assign rfl) rfl rfl ?_)
  refine S.op (S.q (q_assign rfl) rfl rfl ?_)
  first | with_reducible refine S.nilK ?_ | refine S.nil ?_
  refine hK6 _ _ ?_
  refine S.seq fun K7 hK7 => ?_
  refine S.region rfl ?_
  refine S.op (S.q (q_move rfl) rfl rfl ?_)
  refine S.op (S.call Tryd.en40 (vs := [_, _, _]) ⟨rfl, rfl, rfl, trivial⟩ (Place_S b am2 3 1 (by omega) (by omega) hW) rfl ?_)
  rintro v Θ ⟨s3, rfl, hs3, rfl⟩
  rw [show (placeR am2 3 1).2 = am3 from rfl]
  rw [f2] at hs3 ⊢
  refine S.op (S.q (q_move rfl) rfl rfl ?_)
  refine S.op (S.q (q_extract rfl rfl) rfl rfl ?_)
  refine S.op (S.q (q_extract rfl rfl) rfl rfl ?_)
  refine S.op (S.q (q_extract rfl rfl) rfl rfl ?_)
  refine S.op (S.q (q_assign rfl) rfl rfl ?_)
  refine S.op (S.q (q_assign rfl) rfl rfl ?_)
  refine S.op (S.q (q_assign rfl) rfl rfl ?_)
  first | with_reducible refine S.nilK ?_ | refine S.nil ?_
  refine hK7 _ _ ?_
  refine S.seq fun K8 hK8 => ?_
  refine S.region rfl ?_
  refine S.op (S.q (q_move rfl) rfl rfl ?_)
  refine S.op (S.call Tryd.en70 (vs := [_, _]) ⟨rfl, rfl, trivial⟩ (Next_S b am3 1) rfl ?_)
  rintro v Θ ⟨rfl, rfl⟩
  refine S.op (S.q (q_move rfl) rfl rfl ?_)
  refine S.op (S.q (q_extract rfl rfl) rfl rfl ?_)
  refine S.op (S.q (q_extract rfl rfl) rfl rfl ?_)
  refine S.op (S.q (q_assign rfl) rfl rfl ?_)
  refine S.op (S.q (q_assign rfl) rfl rfl ?_)
  first | with_reducible refine S.nilK ?_ | refine S.nil ?_
  refine hK8 _ _ ?_
  refine S.seq fun K9 hK9 => ?_
  refine S.regionG ?_
  refine S.g_op rfl (S.q (q_move rfl) rfl rfl ?_)
  refine S.g_op rfl (S.q (q_eq rfl rfl) rfl rfl ?_)
  refine S.g_op rfl (S.q (q_move rfl) rfl rfl ?_)
  refine S.g_yes rfl rfl rfl ((decide_eq_true f1)) (S.q (q_move rfl) rfl rfl ?_)
  refine S.g_yes rfl rfl rfl ((decide_eq_true f1)) (S.buildSlice (pvs := [(_, _)]) [_] Tryd.underlying47 Tryd.inf3 rfl rfl ⟨⟨rfl, rfl⟩, trivial⟩ rfl rfl ?_)
  intro b44
  refine S.g_yes rfl rfl rfl ((decide_eq_true f1)) (S.call Tryd.en43 (vs := [_, _]) ⟨rfl, rfl, trivial⟩ (SameInts_S (own s3 3 1 (nds [2])) (blk b44 3 #[.int .i64 2]) s3 ⟨some ⟨b44, 0, none⟩, 1, 1⟩ (casts [2]) [2] (rdNds s3 3 [2]) (rdBlk (cs := [.int .i64 2]) rfl (by unfold maxLen; omega)) hs3 rfl) rfl ?_)
  rintro v Θ ⟨rfl, rfl⟩
  refine S.g_op rfl (S.q (q_pickT rfl ((decide_eq_true f1)) rfl) rfl rfl ?_)
  refine S.g_op rfl (S.q (q_move rfl) rfl rfl ?_)
  refine S.g_yes rfl rfl rfl ((decide_eq_true rfl)) (S.q (q_move rfl) rfl rfl ?_)
  refine S.g_yes rfl rfl rfl ((decide_eq_true rfl)) (S.call Tryd.en36 (vs := [_, _]) ⟨rfl, rfl, trivial⟩ (Fill_S b am3 0 hW) rfl ?_)
  rintro v Θ ⟨s4, rfl, hs4, rfl⟩
  rw [f3] at hs4
  refine S.g_yes rfl rfl rfl ((decide_eq_true rfl)) (S.q (q_len Tryd.underlying31 rfl) rfl rfl ?_)
  refine S.g_yes rfl rfl rfl ((decide_eq_true rfl)) (S.q (q_eq rfl rfl) rfl rfl ?_)
  refine S.g_op rfl (S.q (q_pickT rfl ((decide_eq_true rfl)) rfl) rfl rfl ?_)
  refine S.g_op rfl (S.q (q_move rfl) rfl rfl ?_)
  refine S.g_yes rfl rfl rfl ((decide_eq_true (by rw [hs4]; rfl))) (S.q (q_move rfl) rfl rfl ?_)
  refine S.g_yes rfl rfl rfl ((decide_eq_true (by rw [hs4]; rfl))) (S.call Tryd.en36 (vs := [_, _]) ⟨rfl, rfl, trivial⟩ (Fill_S b am3 1 hW) rfl ?_)
  rintro v Θ ⟨s5, rfl, hs5, rfl⟩
  rw [f4] at hs5 ⊢
  refine S.g_yes rfl rfl rfl ((decide_eq_true (by rw [hs4]; rfl))) (S.buildSlice (pvs := [(_, _)]) [_] Tryd.underlying31 Tryd.inf44 rfl rfl ⟨⟨rfl, rfl⟩, trivial⟩ rfl rfl ?_)
  intro b56
  refine S.g_yes rfl rfl rfl ((decide_eq_true (by rw [hs4]; rfl))) (S.call Tryd.en19 (vs := [_, _]) ⟨rfl, rfl, trivial⟩ (Same_S (own s5 44 1 (idsV [3])) (blk b56 44 #[.int .u32 3]) s5 ⟨some ⟨b56, 0, none⟩, 1, 1⟩ (casts [3]) [3] (rdIds s5 44 [3]) (rdBlk (cs := [.int .u32 3]) rfl (by unfold maxLen; omega)) hs5 rfl) rfl ?_)
  rintro v Θ ⟨rfl, rfl⟩
  refine S.g_op rfl (S.q (q_pickT rfl ((decide_eq_true (by rw [hs4]; rfl))) rfl) rfl rfl ?_)
  refine S.g_op rfl (S.q (q_move rfl) rfl rfl ?_)
  refine S.g_yes rfl rfl rfl ((decide_eq_true rfl)) (S.q (q_move rfl) rfl rfl ?_)
  refine S.g_yes rfl rfl rfl ((decide_eq_true rfl)) (S.q (q_eq rfl rfl) rfl rfl ?_)
  refine S.g_op rfl (S.q (q_pickT rfl ((decide_eq_true rfl)) rfl) rfl rfl ?_)
  refine S.g_op rfl (S.q (q_assign rfl) rfl rfl ?_)
  first | with_reducible refine S.g_nilK ?_ | refine S.g_nil ?_
  refine hK9 _ _ ?_
  refine S.ret ?_
  with_reducible repeat (first | refine S.then_n ?_ | refine S.then_x ?_ | refine S.then_r ?_ | refine S.inBlock_n ?_ | refine S.inBlock_r ?_ | refine S.inBlock_x rfl ?_ | refine S.noGoto_r ?_ | refine S.noGoto_n ?_ | refine S.noGoto_x ?_)
  exact S.fin (rs := [_]) (vs := [_]) Tryd.results32 (⟨rfl, trivial⟩)  (⟨by simp only [resV]; rw [decide_eq_true f5], rfl⟩) Sub.ent
/-- The matrix that the laws build. -/
def addUp (m : Mx) (ws : List Int) : Nat → Mx
  | 0 => m
  | i + 1 => (placeR (addUp m ws i) (i + 1) (1 + ws.getD i 0 % 6)).2
def delUp (m : Mx) (gs : List Int) : Nat → Mx
  | 0 => m
  | i + 1 => (removeR (delUp m gs i) (gs.getD i 0).toNat).2
def buildR (r n : Int) (ws gs : List Int) : Mx := delUp (addUp (mx0 (1 + r % 8).toNat (1 + n % 16).toNat) ws (min ws.length 40)) gs gs.length
theorem addUp_ok {m : Mx} (hm : MxOk m) (ws : List Int) : ∀ i, i ≤ 40 → MxOk (addUp m ws i)
  | 0, _ => hm
  | i + 1, h => placeR_ok (addUp_ok hm ws i (by omega)) (by omega) _
theorem removeR_ok {m : Mx} (hm : MxOk m) (j : Nat) : MxOk (removeR m j).2 := by
  unfold removeR
  split
  · exact hm.del j
  · exact hm
theorem build_S (r n : Int) (ws gs : List Int) (s t : SV) (hr : 0 ≤ r ∧ r ≤ 255) (hn : 0 ≤ n ∧ n ≤ 255) {W : World} (hW : TabW W) (hs : BW W s ws) (ht : BW W t gs) : Spec Tryd.prog 33 [.int .u8 r, .int .u8 n, s.v, t.v] [old W] fun Γ v Θ => ∃ b k, v = .tuple #[.pointer (some ⟨b, 0, none⟩), .int .i64 k] ∧ Θ = MI b (buildR r n ws gs) :: old W :: Γ := by
  refine Spec.of_body Tryd.func33 rfl Tryd.ntmps33 rfl ?_
  intro w0 Γ
  show S _ w0 [(0, .int .u8 r), (1, .int .u8 n), (2, s.v), (3, t.v)] (old W :: Γ) _
  have hRs : RdS (old W) s s.n 1 (bcells ws) := by rw [hs.len]; exact RdS.old hs.at_
  have hRt : RdS (old W) t t.n 1 (bcells gs) := by rw [ht.len]; exact RdS.old ht.at_
  have hsl := hs.len
  have htl := ht.len
  refine S.rCap hRs fun _ hc1 hc2 => ?_
  refine S.rCap hRt fun _ hd1 hd2 => ?_
  obtain ⟨R, hR⟩ : ∃ R : Nat, (R : Int) = 1 + r % 8 := ⟨(1 + r % 8).toNat, by omega⟩
  obtain ⟨N, hN⟩ : ∃ N : Nat, (N : Int) = 1 + n % 16 := ⟨(1 + n % 16).toNat, by omega⟩
  have hbR : buildR r n ws gs = delUp (addUp (mx0 R N) ws (min ws.length 40)) gs gs.length := by rw [buildR, ← hR, ← hN, Int.toNat_natCast, Int.toNat_natCast]
  have hok0 := mx0_ok (R := R) (N := N) (by omega) (by omega) (by omega) (by omega)
  refine S.seq fun K1 hK1 => ?_
  refine S.region rfl ?_
  refine S.op (S.q (q_assign rfl) rfl rfl ?_)
  refine S.op (S.q (q_assign rfl) rfl rfl ?_)
  first | with_reducible refine S.nilK ?_ | refine S.nil ?_
  refine hK1 _ _ ?_
  refine S.seq fun K2 hK2 => ?_
  refine S.region rfl ?_
  refine S.op (S.q (q_move rfl) rfl rfl ?_)
  refine S.op (S.q (q_rem rfl rfl (⟨by omega, by omega⟩)) rfl rfl ?_)
  refine S.op (S.q (q_conv Tryd.it3 (by rw [Tryd.underlying5]; rfl) rfl (inI64 (by omega) (by omega))) rfl rfl ?_)
  refine S.op (S.q (q_add rfl rfl (inI64 (by omega) (by omega))) rfl rfl ?_)
  refine S.op (S.q (q_move rfl) rfl rfl ?_)
  refine S.op (S.q (q_rem rfl rfl (⟨by omega, by omega⟩)) rfl rfl ?_)
  refine S.op (S.q (q_conv Tryd.it3 (by rw [Tryd.underlying5]; rfl) rfl (inI64 (by omega) (by omega))) rfl rfl ?_)
  refine S.op (S.q (q_add rfl rfl (inI64 (by omega) (by omega))) rfl rfl ?_)
  refine S.op (S.call Tryd.en45 (vs := [_, _]) ⟨rfl, rfl, trivial⟩ ((by rw [← hR, ← hN]; exact New_S R N (by omega) (by omega) (by omega) (by omega))) rfl ?_)
  rintro v Θ ⟨b, rfl, rfl⟩
  refine S.op (S.q (q_move rfl) rfl rfl ?_)
  refine S.op (S.q (q_extract rfl rfl) rfl rfl ?_)
  refine S.op (S.q (q_extract rfl rfl) rfl rfl ?_)
  refine S.op (S.q (q_assign rfl) rfl rfl ?_)
  refine S.op (S.q (q_assign rfl) rfl rfl ?_)
  first | with_reducible refine S.nilK ?_ | refine S.nil ?_
  refine hK2 _ _ ?_
  refine S.seq fun K3 hK3 => ?_
  refine S.region rfl ?_
  refine S.op (S.q (q_assign rfl) rfl rfl ?_)
  first | with_reducible refine S.nilK ?_ | refine S.nil ?_
  refine hK3 _ _ ?_
  refine S.seq fun K4 hK4 => ?_
  refine S.seq fun K5 hK5 => ?_
  refine S.region rfl ?_
  refine S.op (S.q (q_move rfl) rfl rfl ?_)
  refine S.op (S.q (q_len Tryd.underlying70 rfl) rfl rfl ?_)
  refine S.op (S.q (q_move rfl) rfl rfl ?_)
  first | with_reducible refine S.nilK ?_ | refine S.nil ?_
  refine hK5 _ _ ?_
  refine S.cut (fun ρ' Γ' => ∃ k, ρ' = [(3, t.v), (10, .pointer (some ⟨b, 0, none⟩)), (12, .int .i64 k)] ∧ Γ' = MI b (addUp (mx0 R N) ws (min ws.length 40)) :: old W :: Γ) ?_ ?_
  · refine S.block ?_
    refine S.loop (fun q ρ' Γ' => ∃ (i : Nat) (mm : Mx), q = ws.length - i ∧ i ≤ ws.length ∧ i ≤ 40 ∧ mm = addUp (mx0 R N) ws i ∧ ρ' = [(3, t.v), (10, .pointer (some ⟨b, 0, none⟩)), (12, .int .i64 (i : Int)), (29, s.v), (30, .int .i64 s.n), (31, .int .i64 (i : Int))] ∧ Γ' = MI b mm :: old W :: Γ) (m := _) (ρ0 := _) (Γ0 := _) (⟨0, mx0 R N, rfl, by omega, by omega, rfl, rfl, rfl⟩) (by repeat (first | exact trivial | refine ⟨rfl, ?_⟩)) Sub.ent ?_
    rintro q ρ' Γ' ⟨i, mm, hq, hi, hi40, hmm, rfl, rfl⟩
    refine S.seq fun K6 hK6 => ?_
    refine S.region rfl ?_
    refine S.op (S.q (q_lt rfl rfl) rfl rfl ?_)
    first | with_reducible refine S.nilK ?_ | refine S.nil ?_
    refine hK6 _ _ ?_
    refine S.seq fun K7 hK7 => ?_
    refine S.condD rfl (fun h1 => ?_) (fun h1 => ?_)
    · refine S.rSome hRs (by omega) fun sb so hsa => ?_
      obtain ⟨x, hx⟩ := getE (show i < ws.length by omega)
      have hxr := hs.rng x (List.mem_of_getElem? hx)
      have hxd : ws.getD i 0 = x := by simp [List.getD, hx]
      refine S.skip ?_
      with_reducible repeat (first | refine S.then_n ?_ | refine S.then_x ?_ | refine S.then_r ?_ | refine S.inBlock_n ?_ | refine S.inBlock_r ?_ | refine S.inBlock_x rfl ?_ | refine S.noGoto_r ?_ | refine S.noGoto_n ?_ | refine S.noGoto_x ?_)
      refine hK7 _ _ ?_
      refine S.seq fun K8 hK8 => ?_
      refine S.block ?_
      refine S.seq fun K9 hK9 => ?_
      refine S.region rfl ?_
      refine S.op (S.q (q_move rfl) rfl rfl ?_)
      refine S.op (S.q (q_indexO (i) Tryd.el70 rfl hsa rfl rfl (by omega)) rfl rfl ?_)
      refine S.op (S.q (q_loadR hRs i Tryd.at5 rfl hsa (by omega) (by omega) (by rw [bcells, List.getElem?_map, hx]; rfl)) rfl rfl ?_)
      refine S.op (S.q (q_assign rfl) rfl rfl ?_)
      refine S.op (S.q (q_assign rfl) rfl rfl ?_)
      first | with_reducible refine S.nilK ?_ | refine S.nil ?_
      refine hK9 _ _ ?_
      refine S.seq fun K10 hK10 => ?_
      refine S.seq fun K11 hK11 => ?_
      refine S.region rfl ?_
      refine S.op (S.q (q_move rfl) rfl rfl ?_)
      refine S.op (S.q (q_ge rfl rfl) rfl rfl ?_)
      first | with_reducible refine S.nilK ?_ | refine S.nil ?_
      refine hK11 _ _ ?_
      refine S.condD rfl (fun h2 => ?_) (fun h2 => ?_)
      · have hmin : min ws.length 40 = i := by omega
        refine S.exit ?_
        with_reducible repeat (first | refine S.then_n ?_ | refine S.then_x ?_ | refine S.then_r ?_ | refine S.inBlock_n ?_ | refine S.inBlock_r ?_ | refine S.inBlock_x rfl ?_ | refine S.noGoto_r ?_ | refine S.noGoto_n ?_ | refine S.noGoto_x ?_)
        with_reducible refine S.inBlock_s ?_
        with_reducible repeat (first | refine S.then_n ?_ | refine S.then_x ?_ | refine S.then_r ?_ | refine S.inBlock_n ?_ | refine S.inBlock_r ?_ | refine S.inBlock_x rfl ?_ | refine S.noGoto_r ?_ | refine S.noGoto_n ?_ | refine S.noGoto_x ?_)
        with_reducible repeat (first | refine S.then_n ?_ | refine S.then_x ?_ | refine S.then_r ?_ | refine S.inBlock_n ?_ | refine S.inBlock_r ?_ | refine S.inBlock_x rfl ?_ | refine S.noGoto_r ?_ | refine S.noGoto_n ?_ | refine S.noGoto_x ?_)
        rw [hmin, ← hmm]
        exact S.meet ⟨_, rfl, rfl⟩ ⟨rfl, rfl, rfl, trivial⟩ Sub.ent
      · refine S.skip ?_
        with_reducible repeat (first | refine S.then_n ?_ | refine S.then_x ?_ | refine S.then_r ?_ | refine S.inBlock_n ?_ | refine S.inBlock_r ?_ | refine S.inBlock_x rfl ?_ | refine S.noGoto_r ?_ | refine S.noGoto_n ?_ | refine S.noGoto_x ?_)
        refine hK10 _ _ ?_
        refine S.seq fun K12 hK12 => ?_
        refine S.region rfl ?_
        refine S.op (S.q (q_move rfl) rfl rfl ?_)
        refine S.op (S.q (q_add rfl rfl (inI64 (by omega) (by omega))) rfl rfl ?_)
        refine S.op (S.q (q_assign rfl) rfl rfl ?_)
        first | with_reducible refine S.nilK ?_ | refine S.nil ?_
        refine hK12 _ _ ?_
        refine S.region rfl ?_
        refine S.op (S.q (q_move rfl) rfl rfl ?_)
        refine S.op (S.q (q_move rfl) rfl rfl ?_)
        refine S.op (S.q (q_add rfl rfl (inI64 (by omega) (by omega))) rfl rfl ?_)
        refine S.op (S.q (q_conv Tryd.it44 (by rw [Tryd.underlying3]; rfl) rfl (inU32 (by omega) (by omega))) rfl rfl ?_)
        refine S.op (S.q (q_move rfl) rfl rfl ?_)
        refine S.op (S.q (q_rem rfl rfl (⟨by omega, by omega⟩)) rfl rfl ?_)
        refine S.op (S.q (q_conv Tryd.it3 (by rw [Tryd.underlying5]; rfl) rfl (inI64 (by omega) (by omega))) rfl rfl ?_)
        refine S.op (S.q (q_add rfl rfl (inI64 (by omega) (by omega))) rfl rfl ?_)
        refine S.op (S.call Tryd.en40 (vs := [_, _, _]) ⟨rfl, rfl, rfl, trivial⟩ (Place_S b mm (i + 1) (1 + x % 6) (by omega) (by omega) hW) rfl ?_)
        rintro v Θ ⟨s8, rfl, _, rfl⟩
        first | with_reducible refine S.nilK ?_ | refine S.nil ?_
        with_reducible repeat (first | refine S.then_n ?_ | refine S.then_x ?_ | refine S.then_r ?_ | refine S.inBlock_n ?_ | refine S.inBlock_r ?_ | refine S.inBlock_x rfl ?_ | refine S.noGoto_r ?_ | refine S.noGoto_n ?_ | refine S.noGoto_x ?_)
        refine hK8 _ _ ?_
        refine S.region rfl ?_
        refine S.op (S.q (q_add rfl rfl (inI64 (by omega) (by omega))) rfl rfl ?_)
        refine S.op (S.q (q_move rfl) rfl rfl ?_)
        first | with_reducible refine S.nilK ?_ | refine S.nil ?_
        with_reducible repeat (first | refine S.then_n ?_ | refine S.then_x ?_ | refine S.then_r ?_ | refine S.inBlock_n ?_ | refine S.inBlock_r ?_ | refine S.inBlock_x rfl ?_ | refine S.noGoto_r ?_ | refine S.noGoto_n ?_ | refine S.noGoto_x ?_)
        exact S.next (q - 1) (⟨i + 1, (placeR mm (i + 1) (1 + x % 6)).2, by omega, by omega, by omega, by rw [addUp, hxd, hmm], rfl, rfl⟩) (by omega) (by repeat (first | exact trivial | refine ⟨rfl, ?_⟩)) Sub.ent
    · have hmin : min ws.length 40 = i := by omega
      refine S.exit ?_
      with_reducible repeat (first | refine S.then_n ?_ | refine S.then_x ?_ | refine S.then_r ?_ | refine S.inBlock_n ?_ | refine S.inBlock_r ?_ | refine S.inBlock_x rfl ?_ | refine S.noGoto_r ?_ | refine S.noGoto_n ?_ | refine S.noGoto_x ?_)
      with_reducible refine S.inBlock_s ?_
      with_reducible repeat (first | refine S.then_n ?_ | refine S.then_x ?_ | refine S.then_r ?_ | refine S.inBlock_n ?_ | refine S.inBlock_r ?_ | refine S.inBlock_x rfl ?_ | refine S.noGoto_r ?_ | refine S.noGoto_n ?_ | refine S.noGoto_x ?_)
      with_reducible repeat (first | refine S.then_n ?_ | refine S.then_x ?_ | refine S.then_r ?_ | refine S.inBlock_n ?_ | refine S.inBlock_r ?_ | refine S.inBlock_x rfl ?_ | refine S.noGoto_r ?_ | refine S.noGoto_n ?_ | refine S.noGoto_x ?_)
      rw [hmin, ← hmm]
      exact S.meet ⟨_, rfl, rfl⟩ ⟨rfl, rfl, rfl, trivial⟩ Sub.ent
  · rintro ρ' Γ' ⟨k, rfl, rfl⟩
    refine hK4 _ _ ?_
    refine S.seq fun K13 hK13 => ?_
    refine S.seq fun K14 hK14 => ?_
    refine S.region rfl ?_
    refine S.op (S.q (q_move rfl) rfl rfl ?_)
    refine S.op (S.q (q_len Tryd.underlying70 rfl) rfl rfl ?_)
    refine S.op (S.q (q_move rfl) rfl rfl ?_)
    first | with_reducible refine S.nilK ?_ | refine S.nil ?_
    refine hK14 _ _ ?_
    refine S.block ?_
    refine S.loop (fun q ρ' Γ' => ∃ (i : Nat) (mm : Mx), q = gs.length - i ∧ i ≤ gs.length ∧ mm = delUp (addUp (mx0 R N) ws (min ws.length 40)) gs i ∧ ρ' = [(10, .pointer (some ⟨b, 0, none⟩)), (12, .int .i64 k), (50, t.v), (51, .int .i64 t.n), (52, .int .i64 (i : Int))] ∧ Γ' = MI b mm :: old W :: Γ) (m := _) (ρ0 := _) (Γ0 := _) (⟨0, addUp (mx0 R N) ws (min ws.length 40), rfl, by omega, rfl, rfl, rfl⟩) (by repeat (first | exact trivial | refine ⟨rfl, ?_⟩)) Sub.ent ?_
    rintro q ρ' Γ' ⟨i, mm, hq, hi, hmm, rfl, rfl⟩
    refine S.seq fun K15 hK15 => ?_
    refine S.region rfl ?_
    refine S.op (S.q (q_lt rfl rfl) rfl rfl ?_)
    first | with_reducible refine S.nilK ?_ | refine S.nil ?_
    refine hK15 _ _ ?_
    refine S.seq fun K16 hK16 => ?_
    refine S.condD rfl (fun h3 => ?_) (fun h3 => ?_)
    · refine S.rSome hRt (by omega) fun tb tf hta => ?_
      obtain ⟨x, hx⟩ := getE (show i < gs.length by omega)
      have hxr := ht.rng x (List.mem_of_getElem? hx)
      obtain ⟨g, rfl⟩ : ∃ g : Nat, x = g := ⟨x.toNat, by omega⟩
      have hxd : (gs.getD i 0).toNat = g := by simp [List.getD, hx]
      refine S.skip ?_
      with_reducible repeat (first | refine S.then_n ?_ | refine S.then_x ?_ | refine S.then_r ?_ | refine S.inBlock_n ?_ | refine S.inBlock_r ?_ | refine S.inBlock_x rfl ?_ | refine S.noGoto_r ?_ | refine S.noGoto_n ?_ | refine S.noGoto_x ?_)
      refine hK16 _ _ ?_
      refine S.seq fun K17 hK17 => ?_
      refine S.block ?_
      refine S.seq fun K18 hK18 => ?_
      refine S.region rfl ?_
      refine S.op (S.q (q_indexO (i) Tryd.el70 rfl hta rfl rfl (by omega)) rfl rfl ?_)
      refine S.op (S.q (q_loadR hRt i Tryd.at5 rfl hta (by omega) (by omega) (by rw [bcells, List.getElem?_map, hx]; rfl)) rfl rfl ?_)
      refine S.op (S.q (q_assign rfl) rfl rfl ?_)
      first | with_reducible refine S.nilK ?_ | refine S.nil ?_
      refine hK18 _ _ ?_
      refine S.region rfl ?_
      refine S.op (S.q (q_move rfl) rfl rfl ?_)
      refine S.op (S.q (q_move rfl) rfl rfl ?_)
      refine S.op (S.q (q_conv Tryd.it44 (by rw [Tryd.underlying5]; rfl) rfl (inU32 (by omega) (by omega))) rfl rfl ?_)
      refine S.op (S.call Tryd.en22 (vs := [_, _]) ⟨rfl, rfl, trivial⟩ (Remove_S b mm g) rfl ?_)
      rintro v Θ ⟨rfl, rfl⟩
      first | with_reducible refine S.nilK ?_ | refine S.nil ?_
      with_reducible repeat (first | refine S.then_n ?_ | refine S.then_x ?_ | refine S.then_r ?_ | refine S.inBlock_n ?_ | refine S.inBlock_r ?_ | refine S.inBlock_x rfl ?_ | refine S.noGoto_r ?_ | refine S.noGoto_n ?_ | refine S.noGoto_x ?_)
      refine hK17 _ _ ?_
      refine S.region rfl ?_
      refine S.op (S.q (q_add rfl rfl (inI64 (by omega) (by omega))) rfl rfl ?_)
      refine S.op (S.q (q_move rfl) rfl rfl ?_)
      first | with_reducible refine S.nilK ?_ | refine S.nil ?_
      with_reducible repeat (first | refine S.then_n ?_ | refine S.then_x ?_ | refine S.then_r ?_ | refine S.inBlock_n ?_ | refine S.inBlock_r ?_ | refine S.inBlock_x rfl ?_ | refine S.noGoto_r ?_ | refine S.noGoto_n ?_ | refine S.noGoto_x ?_)
      exact S.next (q - 1) (⟨i + 1, (removeR mm g).2, by omega, by omega, by rw [delUp, hxd, hmm], rfl, rfl⟩) (by omega) (by repeat (first | exact trivial | refine ⟨rfl, ?_⟩)) Sub.ent
    · have hgl : i = gs.length := by omega
      rw [hgl, ← hbR] at hmm
      subst hmm
      refine S.exit ?_
      with_reducible repeat (first | refine S.then_n ?_ | refine S.then_x ?_ | refine S.then_r ?_ | refine S.inBlock_n ?_ | refine S.inBlock_r ?_ | refine S.inBlock_x rfl ?_ | refine S.noGoto_r ?_ | refine S.noGoto_n ?_ | refine S.noGoto_x ?_)
      with_reducible refine S.inBlock_s ?_
      with_reducible repeat (first | refine S.then_n ?_ | refine S.then_x ?_ | refine S.then_r ?_ | refine S.inBlock_n ?_ | refine S.inBlock_r ?_ | refine S.inBlock_x rfl ?_ | refine S.noGoto_r ?_ | refine S.noGoto_n ?_ | refine S.noGoto_x ?_)
      refine hK13 _ _ ?_
      refine S.seq fun K19 hK19 => ?_
      refine S.region rfl ?_
      refine S.op (S.q (q_move rfl) rfl rfl ?_)
      refine S.op (S.q (q_move rfl) rfl rfl ?_)
      refine S.op (S.q (q_assign rfl) rfl rfl ?_)
      refine S.op (S.q (q_assign rfl) rfl rfl ?_)
      first | with_reducible refine S.nilK ?_ | refine S.nil ?_
      refine hK19 _ _ ?_
      refine S.ret ?_
      with_reducible repeat (first | refine S.then_n ?_ | refine S.then_x ?_ | refine S.then_r ?_ | refine S.inBlock_n ?_ | refine S.inBlock_r ?_ | refine S.inBlock_x rfl ?_ | refine S.noGoto_r ?_ | refine S.noGoto_n ?_ | refine S.noGoto_x ?_)
      exact S.fin (rs := [_, _]) (vs := [_, _]) Tryd.results33 (⟨rfl, rfl, trivial⟩)  (⟨b, k, rfl, rfl⟩) Sub.ent
end Go.Proofs.YtmhdapbfpenjpaaDoor
/- What the laws build, and what Place answers there. Of no program but for its matrix. -/
namespace Go.Proofs.YtmhdapbfpenjpaaDoor
open Go.RowKit
set_option maxRecDepth 20000
theorem buildR_ok (r n : Int) (ws gs : List Int) : MxOk (buildR r n ws gs) := by
  have : ∀ (m : Mx) i, MxOk m → MxOk (delUp m gs i) := fun m i hm => by
    induction i with
    | zero => exact hm
    | succ i ih => exact removeR_ok ih _
  exact this _ _ (addUp_ok (mx0_ok (by omega) (by omega) (by omega) (by omega)) ws _ (by omega))
theorem placeR_zero {m : Mx} {j : Nat} {k : Int} (h : (placeR m j k).1.2.2 = 0) : ∃ r, placeRow m k.toNat m.R = some r ∧ 1 ≤ k ∧ look m.js j = none ∧ placeR m j k = (((r : Int), (lst (m.free r)).take k.toNat, 0), m.add ⟨j, r, leastK (m.free r) k.toNat⟩) := by
  unfold placeR at h ⊢
  by_cases h1 : j = 0 ∨ k < 1
  · rw [if_pos h1] at h; cases h
  rw [if_neg h1] at h ⊢
  cases hl : look m.js j with
  | some x => rw [hl] at h; cases h
  | none =>
  rw [hl] at h
  rw [if_neg (by decide)] at h ⊢
  by_cases h3 : (m.N : Int) < k
  · rw [if_pos h3] at h; cases h
  rw [if_neg h3] at h ⊢
  cases h4 : placeRow m k.toNat m.R with
  | none => rw [h4] at h; cases h
  | some r => exact ⟨r, rfl, by omega, rfl, rfl⟩
/-- Where it is refused all is as it was. -/
theorem placeR_not {m : Mx} {j : Nat} {k : Int} (h : (placeR m j k).1.2.2 ≠ 0) : (placeR m j k).2 = m := by
  unfold placeR at h ⊢
  by_cases h1 : j = 0 ∨ k < 1
  · rw [if_pos h1]
  rw [if_neg h1] at h ⊢
  by_cases h2 : (look m.js j).isSome = true
  · rw [if_pos h2]
  rw [if_neg h2] at h ⊢
  by_cases h3 : (m.N : Int) < k
  · rw [if_pos h3]
  rw [if_neg h3] at h ⊢
  cases h4 : placeRow m k.toNat m.R with
  | none => rfl
  | some r => rw [h4] at h; exact absurd rfl h
theorem placeR_back {m : Mx} (hm : MxOk m) {j : Nat} {k : Int} (h : (placeR m j k).1.2.2 = 0) : removeR (placeR m j k).2 j = (0, m) := by
  obtain ⟨r, _, _, hl, e⟩ := placeR_zero h
  rw [e]
  have hn := look_none hl
  have hs : (look (addJ ⟨j, r, leastK (m.free r) k.toNat⟩ m.js) j).isSome = true := by
    have := look_mem (js := addJ ⟨j, r, leastK (m.free r) k.toNat⟩ m.js) (x := ⟨j, r, leastK (m.free r) k.toNat⟩) (addJ_srt hm.srt hn) (mem_addJ.2 (.inl rfl))
    rw [show look (addJ ⟨j, r, leastK (m.free r) k.toNat⟩ m.js) j = some ⟨j, r, leastK (m.free r) k.toNat⟩ from this]
    rfl
  have hd : delJ j (addJ ⟨j, r, leastK (m.free r) k.toNat⟩ m.js) = m.js := delJ_addJ (x := ⟨j, r, leastK (m.free r) k.toNat⟩) hm.srt hn
  show removeR ({ m with js := addJ ⟨j, r, leastK (m.free r) k.toNat⟩ m.js } : Mx) j = _
  rw [removeR, if_pos hs]
  show (0, ({ m with js := delJ j (addJ ⟨j, r, leastK (m.free r) k.toNat⟩ m.js) } : Mx)) = _
  rw [hd]
/-! Which jobs there may be. -/
theorem place_ids {m : Mx} {j : Nat} {k : Int} {x : Jb} (h : x ∈ (placeR m j k).2.js) : x ∈ m.js ∨ x.id = j := by
  by_cases hz : (placeR m j k).1.2.2 = 0
  · obtain ⟨r, _, _, _, e⟩ := placeR_zero hz
    rw [e] at h
    rcases mem_addJ.1 h with rfl | h
    · exact .inr rfl
    · exact .inl h
  · rw [placeR_not hz] at h
    exact .inl h
theorem remove_ids {m : Mx} {j : Nat} {x : Jb} (h : x ∈ (removeR m j).2.js) : x ∈ m.js := by
  unfold removeR at h
  split at h
  · exact (mem_delJ.1 h).1
  · exact h
theorem addUp_ids {m : Mx} (h0 : m.js = []) {ws : List Int} {x : Jb} : ∀ {i : Nat}, x ∈ (addUp m ws i).js → 1 ≤ x.id ∧ x.id ≤ i
  | 0, h => by rw [show (addUp m ws 0).js = m.js from rfl, h0] at h; cases h
  | i + 1, h => by
    rcases place_ids h with h | h
    · have := addUp_ids h0 h; omega
    · omega
theorem buildR_ids {r n : Int} {ws gs : List Int} {x : Jb} (h : x ∈ (buildR r n ws gs).js) : 1 ≤ x.id ∧ x.id ≤ min ws.length 40 := by
  have h2 : ∀ (m : Mx) i, x ∈ (delUp m gs i).js → x ∈ m.js := fun m i => by
    induction i with
    | zero => exact id
    | succ i ih => exact fun h => ih (remove_ids h)
  exact addUp_ids rfl (h2 _ _ h)
theorem look_big {m : Mx} {b j : Nat} (h : ∀ x ∈ m.js, x.id ≤ b) (hj : b < j) : look m.js j = none := by
  cases e : look m.js j with
  | none => rfl
  | some x =>
    obtain ⟨h1, h2⟩ := look_some e
    have := h x h1
    omega
/-! Nodes go down. -/
def offUp (m : Mx) (ds : List Int) : Nat → Mx
  | 0 => m
  | i + 1 => (upR (offUp m ds i) (ds.getD i 0 % m.N) false).2
theorem offUp_ok {m : Mx} (hm : MxOk m) (ds : List Int) : ∀ i, MxOk (offUp m ds i) ∧ (offUp m ds i).R = m.R ∧ (offUp m ds i).N = m.N ∧ (offUp m ds i).js = m.js
  | 0 => ⟨hm, rfl, rfl, rfl⟩
  | i + 1 => by
    obtain ⟨h1, h2, h3, h4⟩ := offUp_ok hm ds i
    rw [offUp]
    unfold upR
    split
    · rename_i h
      have := nodeB_iff.1 h
      exact ⟨h1.setUp (by omega) false, h2, h3, h4⟩
    · exact ⟨h1, h2, h3, h4⟩
/-! The most free nodes of a row. -/
def bestFree (m : Mx) : Nat → Nat
  | 0 => 0
  | i + 1 => max (bestFree m i) (freeR m (i : Nat))
theorem bestFree_ge {m : Mx} {r : Nat} : ∀ {i : Nat}, r < i → freeR m (r : Nat) ≤ bestFree m i
  | 0, h => by omega
  | i + 1, h => by
    rw [bestFree]
    by_cases e : r = i
    · subst e; omega
    · have := bestFree_ge (m := m) (r := r) (i := i) (by omega); omega
theorem bestFree_ex {m : Mx} {k : Nat} (hk : 0 < k) : ∀ {i : Nat}, k ≤ bestFree m i → ∃ r, r < i ∧ k ≤ freeR m (r : Nat)
  | 0, h => by rw [bestFree] at h; omega
  | i + 1, h => by
    rw [bestFree] at h
    by_cases e : k ≤ bestFree m i
    · obtain ⟨r, h1, h2⟩ := bestFree_ex hk e
      exact ⟨r, by omega, h2⟩
    · exact ⟨i, by omega, by omega⟩
theorem freeR_row {m : Mx} {r : Nat} (hr : r < m.R) : freeR m (r : Nat) = (lst (m.free r)).length := by rw [freeR, if_pos (rowB_iff.2 (by omega)), Int.toNat_natCast]
theorem freeR_16 (m : Mx) (z : Int) : freeR m z ≤ 16 := by
  unfold freeR
  split
  · exact lst_len _
  · omega
theorem bestFree_16 (m : Mx) : ∀ i, bestFree m i ≤ 16
  | 0 => by rw [bestFree]; omega
  | i + 1 => by have := bestFree_16 m i; have := freeR_16 m (i : Nat); rw [bestFree]; omega
theorem place_wide {m : Mx} {j : Nat} {k : Int} (hj : j ≠ 0) (hk : 1 ≤ k) (hl : look m.js j = none) (hw : m.N < k) : placeR m j k = ((0, [], 9), m) := by
  rw [placeR, if_neg (by omega), hl, if_neg (by decide), if_pos hw]
theorem place_full {m : Mx} {j : Nat} {k : Int} (hj : j ≠ 0) (hk : 1 ≤ k) (hl : look m.js j = none) (hw : k ≤ m.N) (hf : (bestFree m m.R : Int) < k) : placeR m j k = ((0, [], 8), m) := by
  have h4 : placeRow m k.toNat m.R = none := by
    cases e : placeRow m k.toNat m.R with
    | none => rfl
    | some r =>
      obtain ⟨h1, h2, _⟩ := placeRow_some e
      have := bestFree_ge (m := m) h1
      rw [freeR_row h1] at this
      omega
  rw [placeR, if_neg (by omega), hl, if_neg (by decide), if_neg (by omega), h4]
theorem place_room {m : Mx} {j : Nat} {k : Int} (hj : j ≠ 0) (hk : 1 ≤ k) (hl : look m.js j = none) (hw : k ≤ m.N) (hf : k ≤ (bestFree m m.R : Nat)) : ∃ r, r < m.R ∧ k.toNat ≤ (lst (m.free r)).length ∧ placeR m j k = (((r : Int), (lst (m.free r)).take k.toNat, 0), m.add ⟨j, r, leastK (m.free r) k.toNat⟩) := by
  cases e : placeRow m k.toNat m.R with
  | none =>
    exfalso
    obtain ⟨r, h1, h2⟩ := bestFree_ex (m := m) (k := k.toNat) (by omega) (show k.toNat ≤ bestFree m m.R by omega)
    have := placeRow_some.placeRow_none e r h1
    rw [freeR_row h1] at h2
    omega
  | some r =>
    obtain ⟨h1, h2, _⟩ := placeRow_some e
    exact ⟨r, h1, h2, by rw [placeR, if_neg (by omega), hl, if_neg (by decide), if_neg (by omega), e]⟩
theorem atR_add {m : Mx} {x : Jb} (hm' : MxOk (m.add x)) {i : Nat} (hr : x.row < m.R) (hi : x.ns.getLsbD i = true) (hN : i < m.N) : atR (m.add x) (x.row : Nat) (i : Nat) = x.id := by
  rw [atR, show (rowB (m.add x) (x.row : Nat) && nodeB (m.add x) (i : Nat)) = true by rw [rowB_iff.2 ⟨by omega, by show ((x.row : Nat) : Int) < (m.R : Nat); omega⟩, nodeB_iff.2 ⟨by omega, by show ((i : Nat) : Int) < (m.N : Nat); omega⟩]; rfl, if_pos rfl, Int.toNat_natCast, Int.toNat_natCast]
  exact atJ_some hm' (mem_addJ.2 (.inl rfl)) rfl hi
end Go.Proofs.YtmhdapbfpenjpaaDoor
/- With whom a row goes: each has its nodes alone; who is left out has not. Of no program. -/
namespace Go.Proofs.YtmhdapbfpenjpaaDoor
open Go.RowKit
set_option maxRecDepth 20000
def Apart (x y : Jb) : Prop := ∀ i, x.ns.getLsbD i = true → y.ns.getLsbD i = true → False
structure FillI (m : Mx) (k o : Nat) (a : Bs × List Jb) : Prop where
  bits : ∀ i, a.1.getLsbD i = true ↔ ∃ x ∈ rowJ m k ++ a.2, x.ns.getLsbD i = true
  pw : (rowJ m k ++ a.2).Pairwise Apart
  mem : ∀ x ∈ a.2, x ∈ m.js ∧ x.row ≠ k ∧ x.row < o
theorem and_zero {s t : Bs} : s &&& t = 0#16 ↔ ∀ i, s.getLsbD i = true → t.getLsbD i = true → False := by
  constructor
  · intro h i h1 h2
    have := congrArg (fun q => q.getLsbD i) h
    simp [h1, h2] at this
  · intro h
    refine BitVec.eq_of_getLsbD_eq fun i _ => ?_
    rw [BitVec.getLsbD_and]
    cases h1 : s.getLsbD i with
    | false => simp
    | true =>
      cases h2 : t.getLsbD i with
      | false => simp
      | true => exact (h i h1 h2).elim
theorem FillI.step {m : Mx} {k o : Nat} {a : Bs × List Jb} (h : FillI m k o a) {x : Jb} (hx : x ∈ m.js) (hxk : x.row ≠ k) (hxo : x.row < o) : FillI m k o (fillStep a x) ∧ (∀ i, a.1.getLsbD i = true → (fillStep a x).1.getLsbD i = true) ∧ (∀ y ∈ a.2, y ∈ (fillStep a x).2) ∧ (x ∈ (fillStep a x).2 ∨ x.ns &&& (fillStep a x).1 ≠ 0#16) := by
  unfold fillStep
  by_cases hz : x.ns &&& a.1 = 0#16
  · rw [if_pos hz]
    have hz := and_zero.1 hz
    refine ⟨⟨fun i => ?_, ?_, fun y hy => ?_⟩, fun i hi => ?_, fun y hy => List.mem_append_left _ hy, .inl (List.mem_append_right _ (List.mem_singleton.2 rfl))⟩
    · show (a.1 ||| x.ns).getLsbD i = true ↔ _
      rw [BitVec.getLsbD_or, Bool.or_eq_true, h.bits]
      simp only [List.mem_append, List.mem_singleton]
      constructor
      · rintro (⟨y, hy, h1⟩ | h1)
        · rcases hy with hy | hy
          · exact ⟨y, .inl hy, h1⟩
          · exact ⟨y, .inr (.inl hy), h1⟩
        · exact ⟨x, .inr (.inr rfl), h1⟩
      · rintro ⟨y, hy, h1⟩
        rcases hy with hy | hy | rfl
        · exact .inl ⟨y, .inl hy, h1⟩
        · exact .inl ⟨y, .inr hy, h1⟩
        · exact .inr h1
    · show (rowJ m k ++ (a.2 ++ [x])).Pairwise Apart
      rw [← List.append_assoc]
      refine List.pairwise_append.2 ⟨h.pw, List.pairwise_singleton _ _, fun y hy z hzz i h1 h2 => ?_⟩
      rw [List.mem_singleton] at hzz
      subst hzz
      exact hz i h2 ((h.bits i).2 ⟨y, hy, h1⟩)
    · rcases List.mem_append.1 hy with hy | hy
      · exact h.mem y hy
      · rw [List.mem_singleton] at hy
        subst hy
        exact ⟨hx, hxk, hxo⟩
    · show (a.1 ||| x.ns).getLsbD i = true
      rw [BitVec.getLsbD_or, hi, Bool.true_or]
  · rw [if_neg hz]
    exact ⟨h, fun i hi => hi, fun y hy => hy, .inr hz⟩
theorem FillI.fold {m : Mx} {k o : Nat} : ∀ (l : List Jb) {a : Bs × List Jb}, FillI m k o a → (∀ x ∈ l, x ∈ m.js ∧ x.row ≠ k ∧ x.row < o) → FillI m k o (l.foldl fillStep a) ∧ (∀ i, a.1.getLsbD i = true → (l.foldl fillStep a).1.getLsbD i = true) ∧ (∀ y ∈ a.2, y ∈ (l.foldl fillStep a).2) ∧ ∀ x ∈ l, x ∈ (l.foldl fillStep a).2 ∨ x.ns &&& (l.foldl fillStep a).1 ≠ 0#16
  | [], a, h, _ => ⟨h, fun _ hi => hi, fun _ hy => hy, fun x hx => by cases hx⟩
  | x :: l, a, h, hl => by
    obtain ⟨h1, h2, h3⟩ := hl x (List.mem_cons_self ..)
    obtain ⟨s1, s2, s3, s4⟩ := h.step h1 h2 h3
    obtain ⟨f1, f2, f3, f4⟩ := FillI.fold l s1 fun y hy => hl y (List.mem_cons_of_mem _ hy)
    refine ⟨f1, fun i hi => f2 i (s2 i hi), fun y hy => f3 y (s3 y hy), fun y hy => ?_⟩
    rcases List.mem_cons.1 hy with rfl | hy
    · rcases s4 with s4 | s4
      · exact .inl (f3 _ s4)
      · refine .inr fun e => s4 (and_zero.2 fun i h5 h6 => and_zero.1 e i h5 (f2 i h6))
    · exact f4 y hy
theorem fillUp_I {m : Mx} (hm : MxOk m) {k : Nat} : ∀ o, FillI m k o (fillUp m k o) ∧ ∀ x ∈ m.js, x.row < o → x.row ≠ k → x ∈ (fillUp m k o).2 ∨ x.ns &&& (fillUp m k o).1 ≠ 0#16
  | 0 => by
    refine ⟨⟨fun i => ?_, ?_, fun x hx => by cases hx⟩, fun x _ h => by omega⟩
    · show (tk m.js k).getLsbD i = true ↔ ∃ x ∈ rowJ m k ++ [], x.ns.getLsbD i = true
      rw [tk_bit, List.append_nil]
      constructor
      · rintro ⟨x, h1, h2, h3⟩; exact ⟨x, (mem_rowJ hm).2 ⟨h1, h2⟩, h3⟩
      · rintro ⟨x, h1, h3⟩; exact ⟨x, ((mem_rowJ hm).1 h1).1, ((mem_rowJ hm).1 h1).2, h3⟩
    · show (rowJ m k ++ []).Pairwise Apart
      rw [List.append_nil]
      refine rowJ_srt.imp_of_mem fun {x y} hx hy hlt i h1 h2 => ?_
      obtain ⟨x1, x2⟩ := (mem_rowJ hm).1 hx
      obtain ⟨y1, y2⟩ := (mem_rowJ hm).1 hy
      exact hm.dis x x1 y y1 (fun e => by rw [id_inj hm.srt x1 y1 e] at hlt; omega) (x2.trans y2.symm) i h1 h2
  | o + 1 => by
    obtain ⟨h1, h2⟩ := fillUp_I hm o
    have h1' : FillI m k (o + 1) (fillUp m k o) := ⟨h1.bits, h1.pw, fun x hx => by obtain ⟨a, b, c⟩ := h1.mem x hx; exact ⟨a, b, by omega⟩⟩
    rw [fillUp]
    by_cases e : o = k
    · rw [if_pos e]
      exact ⟨h1', fun x hx hr hk => h2 x hx (by omega) hk⟩
    · rw [if_neg e]
      obtain ⟨f1, f2, f3, f4⟩ := FillI.fold (rowJ m o) h1' fun x hx => ⟨((mem_rowJ hm).1 hx).1, by rw [((mem_rowJ hm).1 hx).2]; exact e, by rw [((mem_rowJ hm).1 hx).2]; omega⟩
      refine ⟨f1, fun x hx hr hk => ?_⟩
      by_cases er : x.row = o
      · exact f4 x ((mem_rowJ hm).2 ⟨hx, er⟩)
      · rcases h2 x hx (by omega) hk with h3 | h3
        · exact .inl (f3 x h3)
        · exact .inr fun e2 => h3 (and_zero.2 fun i h5 h6 => and_zero.1 e2 i h5 (f2 i h6))
/-- Those of a row, and those with whom it goes. -/
def goJ (m : Mx) (k : Nat) : List Jb := rowJ m k ++ (fillUp m k m.R).2
theorem goJ_ids {m : Mx} {k : Nat} (hk : k < m.R) : rowIds m k ++ fillIds m k = (goJ m k).map (·.id) := by
  rw [rowIds, fillIds, if_pos (rowB_iff.2 ⟨by omega, by omega⟩), if_pos (rowB_iff.2 ⟨by omega, by omega⟩), Int.toNat_natCast, goJ, List.map_append]
theorem goJ_mem {m : Mx} (hm : MxOk m) {k : Nat} {x : Jb} (h : x ∈ goJ m k) : x ∈ m.js := by
  rcases List.mem_append.1 h with h | h
  · exact ((mem_rowJ hm).1 h).1
  · exact ((fillUp_I hm m.R).1.mem x h).1
theorem goJ_pw {m : Mx} (hm : MxOk m) (k : Nat) : (goJ m k).Pairwise Apart := (fillUp_I hm m.R).1.pw
def orJ (l : List Jb) : Bs := l.foldr (fun x s => x.ns ||| s) 0#16
theorem orJ_bit (l : List Jb) (i : Nat) : (orJ l).getLsbD i = true ↔ ∃ x ∈ l, x.ns.getLsbD i = true := by
  induction l with
  | nil => simp [orJ]
  | cons x l ih =>
    rw [orJ, List.foldr_cons, BitVec.getLsbD_or, Bool.or_eq_true]
    show _ ∨ (orJ l).getLsbD i = true ↔ _
    rw [ih]
    simp
theorem orJ_snoc (l : List Jb) (x : Jb) : orJ (l ++ [x]) = orJ l ||| x.ns := lst_ext fun i => by
  rw [orJ_bit, BitVec.getLsbD_or, Bool.or_eq_true, orJ_bit]
  simp only [List.mem_append, List.mem_singleton]
  constructor
  · rintro ⟨y, h1 | rfl, h2⟩
    · exact .inl ⟨y, h1, h2⟩
    · exact .inr h2
  · rintro (⟨y, h1, h2⟩ | h2)
    · exact ⟨y, .inl h1, h2⟩
    · exact ⟨x, .inr rfl, h2⟩
/-- Who is left out meets someone. -/
theorem goJ_out {m : Mx} (hm : MxOk m) {k : Nat} {x : Jb} (hx : x ∈ m.js) (h : x ∉ goJ m k) : x.ns &&& orJ (goJ m k) ≠ 0#16 := by
  obtain ⟨h1, h2⟩ := fillUp_I hm (k := k) m.R
  have hk : x.row ≠ k := fun e => h (List.mem_append_left _ ((mem_rowJ hm).2 ⟨hx, e⟩))
  rcases h2 x hx (hm.row x hx) hk with h3 | h3
  · exact absurd (List.mem_append_right _ h3) h
  · refine fun e => h3 (and_zero.2 fun i h5 h6 => and_zero.1 e i h5 ((orJ_bit _ _).2 ((h1.bits i).1 h6)))
theorem goJ_step {m : Mx} (hm : MxOk m) {k p : Nat} {x : Jb} (h : (goJ m k)[p]? = some x) : ∀ i, x.ns.getLsbD i = true → (orJ ((goJ m k).take p)).getLsbD i = false := fun i hi => by
  cases hb : (orJ ((goJ m k).take p)).getLsbD i with
  | false => rfl
  | true =>
    obtain ⟨y, hy, h1⟩ := (orJ_bit _ _).1 hb
    obtain ⟨hp, he⟩ := List.getElem?_eq_some_iff.1 h
    have h9 := goJ_pw hm k
    rw [← List.take_append_drop p (goJ m k), List.drop_eq_getElem_cons hp, he] at h9
    exact ((List.pairwise_append.1 h9).2.2 y hy x (List.mem_cons_self ..) i h1 hi).elim
/-! Nodes that are taken, as a list of bools. -/
abbrev btC (T : Bs) (N : Nat) : List Value := (List.range N).map fun i => .bool (T.getLsbD i)
theorem btC_len (T : Bs) (N : Nat) : (btC T N).length = N := by simp
theorem btC_get {T : Bs} {N i : Nat} (h : i < N) : (btC T N)[i]? = some (.bool (T.getLsbD i)) := by simp [h]
theorem btC_zero (N : Nat) : zeroRow [Value.bool false] N = btC 0#16 N := by
  have e : btC 0#16 N = List.replicate N (.bool false) := List.eq_replicate_iff.2 ⟨btC_len _ _, fun v hv => by
    obtain ⟨i, _, rfl⟩ := List.mem_map.1 hv
    simp⟩
  rw [e]
  clear e
  induction N with
  | zero => rfl
  | succ N ih => rw [zeroRow, ih, List.replicate_succ]; rfl
theorem btC_set {T : Bs} {N k : Nat} (hN : N ≤ 16) (hk : k < N) : (btC T N).set k (.bool true) = btC (T ||| BitVec.twoPow 16 k) N := by
  refine List.ext_getElem? fun i => ?_
  by_cases hi : i < N
  · rw [btC_get hi, BitVec.getLsbD_or, BitVec.getLsbD_twoPow]
    by_cases e : k = i
    · subst e
      rw [List.getElem?_set_self (by rw [btC_len]; exact hk)]
      have : k < 16 := by omega
      simp [this]
    · rw [List.getElem?_set_ne e, btC_get hi]
      simp [e]
  · rw [List.getElem?_eq_none (by rw [List.length_set, btC_len]; omega), List.getElem?_eq_none (by rw [btC_len]; omega)]
/-- The nodes of a job, one by one. -/
theorem node_step {T s : Bs} (h : ∀ i, s.getLsbD i = true → T.getLsbD i = false) {q x : Nat} (hx : (lst s)[q]? = some x) : (T ||| ofL ((lst s).take q)).getLsbD x = false ∧ (T ||| ofL ((lst s).take q)) ||| BitVec.twoPow 16 x = T ||| ofL ((lst s).take (q + 1)) := by
  have hm := List.mem_of_getElem? hx
  have hs := mem_lst.1 hm
  constructor
  · rw [BitVec.getLsbD_or, h x hs, Bool.false_or]
    cases hb : (ofL ((lst s).take q)).getLsbD x with
    | false => rfl
    | true =>
      obtain ⟨_, h2⟩ := (ofL_bit _ _).1 hb
      obtain ⟨hq, he⟩ := List.getElem?_eq_some_iff.1 hx
      have h9 := lst_rise s
      rw [← List.take_append_drop q (lst s), List.drop_eq_getElem_cons hq, he] at h9
      have := (List.pairwise_append.1 h9).2.2 x h2 x (List.mem_cons_self ..)
      omega
  · rw [List.take_add_one, hx, ofL_append, BitVec.or_assoc]
    simp [ofL]
theorem ids_one (l : List Nat) : allOne (idsV l) = true := List.all_eq_true.2 fun v hv => by
  obtain ⟨j, _, rfl⟩ := List.mem_map.1 hv
  rfl
/-- Is none of the first nodes taken? -/
def freeTo (T s : Bs) (q : Nat) : Bool := ((lst s).take q).all fun i => !T.getLsbD i
theorem freeTo_succ {T s : Bs} {q x : Nat} (hx : (lst s)[q]? = some x) : freeTo T s (q + 1) = (freeTo T s q && !T.getLsbD x) := by
  rw [freeTo, freeTo, List.take_add_one, hx, List.all_append]
  simp
theorem freeTo_all {T s : Bs} (h : freeTo T s (lst s).length = true) : s &&& T = 0#16 := by
  rw [freeTo, List.take_length, List.all_eq_true] at h
  refine and_zero.2 fun i h1 h2 => ?_
  have := h i (mem_lst.2 h1)
  rw [h2] at this
  cases this
end Go.Proofs.YtmhdapbfpenjpaaDoor
/- A set of places: a map whose keys are two whole numbers. -/
namespace Go.Proofs.YtmhdapbfpenjpaaDoor
open Go.RowKit
set_option maxRecDepth 20000
/-- An array, built of its cells. -/
theorem q_buildA {P : Program} {n : Nat} {ρ : Env} {Γ : List Assn} {ty : TypeId} {pos : String} {af : Array Edge} {gd : Option (Nat × Bool)} {ds : Option Tmp} {t : TypeId} {xs : List (Nat × Operand)} {pvs : List (Nat × Value)} {zs : List Value} {m s : Nat} (vs : List Value) (hz : zeroT P t = some zs) (hp : arrT P t = some (m, s)) (he : EvP ρ xs pvs) (hf : fillL (fun i => some (i * s, s)) zs pvs = some vs) :
    Qv P n ρ Γ ⟨ds, .build t xs.toArray, ty, pos, af, gd⟩ (.agg vs.toArray) := by
  intro a w ha _
  have hb : P.built t pvs = some vs.toArray := by
    unfold zeroT at hz
    unfold arrT at hp
    unfold Program.built
    cases hi : P.info? t with
    | none => simp [hi] at hz
    | some i =>
      cases hz' : i.zero with
      | none => simp [hi, hz'] at hz
      | some z =>
        simp only [hi, hz', Option.bind_some, Option.map_some, Option.some.injEq] at hz
        cases hu : P.underlying t with
        | none => simp [hu] at hp
        | some dd =>
          cases dd <;> simp [hu] at hp
          case array k e =>
            obtain ⟨ie, h1, rfl, rfl⟩ := hp
            simp only [hz', h1]
            have := fillL_fill _ pvs zs vs hf
            rw [← hz] at this
            simpa using this
  have hr := run_build (P := P) w t pvs.toArray vs.toArray hb
  have hm : (xs.toArray.map fun x : Nat × Operand => (x.1, a.eval x.2)) = pvs.toArray := by
    have := he.map ha
    simpa using congrArg List.toArray this
  simp only [execOp, hm, Sem.run_bind, hr, Result.andThen_ok, Sem.run_pure]
abbrev kvA (x : Nat × Nat) : Value := .agg #[.int .i64 (x.1 : Int), .int .i64 (x.2 : Int)]
theorem kvA_inj {x y : Nat × Nat} (h : kvA x = kvA y) : x = y := by
  simp only [kvA, Value.agg.injEq, Array.mk.injEq, List.cons.injEq, Value.int.injEq, true_and, and_true] at h
  obtain ⟨h1, h2⟩ := h
  exact Prod.ext (by omega) (by omega)
theorem keyOk_all : ((List.range 8).all fun r => (List.range 16).all fun y => (keyOf Tryd.prog 80 (kvA (r, y))).isSome) = true := by kernel_rfl
theorem keyOk {x : Nat × Nat} (h1 : x.1 < 8) (h2 : x.2 < 16) : ∃ l, keyOf Tryd.prog 80 (kvA x) = some l := by
  have h := List.all_eq_true.1 keyOk_all x.1 (List.mem_range.2 h1)
  have h := List.all_eq_true.1 h x.2 (List.mem_range.2 h2)
  exact Option.isSome_iff_exists.1 h
theorem lawK : WideMaps.KeyLaw Tryd.prog 80 := deep_law (m := 2) (by omega) (by kernel_rfl) (by kernel_rfl) (by kernel_rfl)
structure SetRep (l : List (Nat × Nat)) (es : List MapEntry) : Prop where
  key : es.map (·.key) = l.map kvA
  rng : ∀ x ∈ l, x.1 < 8 ∧ x.2 < 16
def setK (b : Nat) (l : List (Nat × Nat)) : Assn := fun h => ∃ es clock, h b = some (.map es clock) ∧ SetRep l es.toList
theorem Ent.setK (b : Nat) (kk : IntKind) (Γ : List Assn) : Ent (mapL b kk [] :: Γ) (setK b [] :: Γ) := Ent.mono1 Γ fun h ⟨es, clock, h1, h2⟩ => ⟨es, clock, h1, by
  have e := h2.ent
  simp only [List.map_nil, List.map_eq_nil_iff] at e
  rw [e]
  exact ⟨rfl, fun x hx => by cases hx⟩⟩
class HasK (Γ : List Assn) (b : Nat) (l : outParam (List (Nat × Nat))) (Δ : outParam (List Assn)) : Prop where
  ent : Ent Γ (setK b l :: Δ)
instance (priority := high) HasK.head {Γ : List Assn} {b : Nat} {l : List (Nat × Nat)} : HasK (setK b l :: Γ) b l Γ := ⟨Ent.refl _⟩
instance HasK.tail {P : Assn} {Γ Δ : List Assn} {b : Nat} {l : List (Nat × Nat)} [h : HasK Γ b l Δ] : HasK (P :: Γ) b l (P :: Δ) := ⟨(h.ent.cons P).trans (Ent.swap _ _ _)⟩
theorem Sat.isK {w : World} {b : Nat} {l : List (Nat × Nat)} {Γ : List Assn} (h : Sat w (setK b l :: Γ)) : ∃ es clock, w.heap[b]? = some (.map es clock) ∧ SetRep l es.toList := by
  obtain ⟨x, le, es, clock, p, r⟩ := h.head
  exact ⟨es, clock, le b _ p, r⟩
theorem SetRep.find {l : List (Nat × Nat)} {es : List MapEntry} (h : SetRep l es) {x : Nat × Nat} (h1 : x.1 < 8) (h2 : x.2 < 16) (hx : x ∉ l) (w : World) : (Instr.findKey 80 (kvA x) es).run Tryd.prog w = .ok none w := by
  obtain ⟨lx, hlx⟩ := keyOk h1 h2
  have hk : ∀ e ∈ es, ∃ y ∈ l, e.key = kvA y := fun e he => by
    have := List.mem_map_of_mem (f := fun e : MapEntry => e.key) he
    rw [h.key] at this
    obtain ⟨y, hy, e2⟩ := List.mem_map.1 this
    exact ⟨y, hy, e2.symm⟩
  rcases lawK.find w hlx es (fun e he => by obtain ⟨y, hy, e2⟩ := hk e he; rw [e2]; exact keyOk (h.rng y hy).1 (h.rng y hy).2) with ⟨h3, _⟩ | ⟨j, e, _, h4, h5⟩
  · exact h3
  · obtain ⟨y, hy, e2⟩ := hk e (List.mem_of_getElem? h4)
    rw [e2] at h5
    rw [kvA_inj h5] at hy
    exact absurd hy hx
section
variable {n : Nat} {md : Bool} {w0 : WM md} {ρ : Env} {Γ : List Assn} {Q : Exit → Act → World → Prop} {K : Act → World → Prop} {ty : TypeId} {pos : String} {af : Array Edge} {gd : Option (Nat × Bool)} {ds : Option Tmp}
theorem q_lookupK {x y : Operand} {b : Nat} {l : List (Nat × Nat)} {Δ : List Assn} (z : Nat × Nat) (hx : ev ρ x = some (.map (some b))) (hy : ev ρ y = some (kvA z)) [h : HasK Γ b l Δ] (h1 : z.1 < 8) (h2 : z.2 < 16) (hz : z ∉ l) : Qv Tryd.prog n ρ Γ ⟨ds, .lookup 79 x y false, ty, pos, af, gd⟩ (.bool false) := fun a w ha hs => by
  obtain ⟨es, clock, hb, r⟩ := (hs.ent h.ent).isK
  have hf := r.find h1 h2 hz w
  obtain ⟨lx, hlx⟩ := keyOk h1 h2
  have hc : ∀ e, (Instr.checkKey e 10000 80 (kvA z)).run Tryd.prog w = .ok () w := fun e => lawK.check w e hlx
  have hzv : (zeroValue 4).run Tryd.prog w = .ok (.bool false) w := by
    have hzv : (Tryd.prog.info? 4).bind (·.zero) = some (.bool false) := by kernel_rfl
    cases hi : Tryd.prog.info? 4 with
    | none => simp [hi] at hzv
    | some i =>
      cases hz' : i.zero with
      | none => simp [hi, hz'] at hzv
      | some z0 =>
        simp only [hi, hz', Option.bind_some, Option.some.injEq] at hzv
        simp [zeroValue, typeInfo, hi, hz', hzv]
  simp [execOp, ha.ev hx, ha.ev hy, Instr.lookup, run_underlying Tryd.underlying79, MapKept.run_getObj_map (P := Tryd.prog) hb, hc, hf, hzv, Result.andThen]
theorem S.mapUpdateK {x y v : Operand} {b : Nat} {vv : Value} {l : List (Nat × Nat)} {Δ : List Assn} (z : Nat × Nat) (hx : ev ρ x = some (.map (some b))) (hy : ev ρ y = some (kvA z)) (hv : ev ρ v = some vv) [h : HasK Γ b l Δ] (h1 : z.1 < 8) (h2 : z.2 < 16) (hz : z ∉ l) (kK : S n w0 ρ (setK b (l ++ [z]) :: Δ) K) : S n w0 ρ Γ (Ow Tryd.prog Q ⟨none, .mapUpdate 79 x y v, ty, pos, af, gd⟩ K) := by
  intro a w ha hs hxt
  have hs1 := hs.ent h.ent
  obtain ⟨es, clock, hb, r⟩ := hs1.isK
  have hf := r.find h1 h2 hz w
  obtain ⟨lx, hlx⟩ := keyOk h1 h2
  have hc : ∀ e, (Instr.checkKey e 10000 80 (kvA z)).run Tryd.prog w = .ok () w := fun e => lawK.check w e hlx
  have hA : ∀ x, setK b l x → ∃ o', x b = some o' := fun x ⟨es, c, e, _⟩ => ⟨_, e⟩
  have hr : (execOp a.eval ⟨none, .mapUpdate 79 x y v, ty, pos, af, gd⟩).run Tryd.prog w = .ok .skip ({ w with heap := w.heap.setIfInBounds b (.map (es.push ⟨kvA z, vv, clock⟩) (clock + 1)) } : World) := by
    simp [execOp, ha.ev hx, ha.ev hy, ha.ev hv, Instr.mapUpdate, run_underlying Tryd.underlying79, MapKept.run_getObj_map (P := Tryd.prog) hb, hc, hf, MapKept.run_setObj_map (P := Tryd.prog) _ hb, Result.andThen]
  unfold Ow Oper.wp
  rw [hr, Oper.upon_skip]
  refine kK _ _ (ha.putNone _) (hs1.setObj _ hA ⟨_, _, HL.one_self _ _, ?_⟩) (hxt.setObj _ _)
  refine ⟨?_, fun q hq => ?_⟩
  · have e := r.key
    simp [e]
  · rcases List.mem_append.1 hq with hq | hq
    · exact r.rng q hq
    · rw [List.mem_singleton] at hq
      rw [hq]
      exact ⟨h1, h2⟩
end
/-! How many nodes each has. -/
theorem addUp_wide {m : Mx} (h0 : m.js = []) {ws : List Int} {x : Jb} : ∀ {i : Nat}, x ∈ (addUp m ws i).js → ((lst x.ns).length : Int) = 1 + ws.getD (x.id - 1) 0 % 6
  | 0, h => by rw [show (addUp m ws 0).js = m.js from rfl, h0] at h; cases h
  | i + 1, h => by
    rw [addUp] at h
    by_cases hz : (placeR (addUp m ws i) (i + 1) (1 + ws.getD i 0 % 6)).1.2.2 = 0
    · obtain ⟨r, h1, h2, _, e⟩ := placeR_zero hz
      rw [e] at h
      rcases mem_addJ.1 h with rfl | h
      · show ((lst (leastK _ _)).length : Int) = 1 + ws.getD (i + 1 - 1) 0 % 6
        rw [lst_leastK, List.length_take, Nat.add_sub_cancel]
        have := (placeRow_some h1).2.1
        omega
      · exact addUp_wide h0 h
    · rw [placeR_not hz] at h
      exact addUp_wide h0 h
theorem buildR_wide {r n : Int} {ws gs : List Int} {x : Jb} (h : x ∈ (buildR r n ws gs).js) : ((lst x.ns).length : Int) = 1 + ws.getD (x.id - 1) 0 % 6 := by
  have h2 : ∀ (m : Mx) i, x ∈ (delUp m gs i).js → x ∈ m.js := fun m i => by
    induction i with
    | zero => exact id
    | succ i ih => exact fun h => ih (remove_ids h)
  exact addUp_wide rfl (h2 _ _ h)
end Go.Proofs.YtmhdapbfpenjpaaDoor
/- Regions that draw their order: an operation that looks at no memory may be taken at any time. Of no program. -/
namespace Go.Proofs.YtmhdapbfpenjpaaDoor
open Go.RowKit
section
variable {P : Program} {ops : Array Oper} {Q : Exit → Act → World → Prop} {H : World → Prop} {late : Nat → Bool}
theorem wpT_firstP {i : Nat} {oi : Oper} {v : Value} (hi : ops[i]? = some oi) (hsel : ∀ (j : Nat) (o : Oper) cs b, ops[j]? = some o → o.op ≠ .select cs b)
    (hQ : ∀ c a w, Q (.panic c) (a.put oi.dst v) w → Q (.panic c) a w) (hni : late i ≠ true) :
    ∀ (fuel : Nat) (listed : Array Bool) (a : Act) (w : World),
      (∀ j oj, ops[j]? = some oj → j ≠ i → listed.getD j true = false → (∀ e ∈ oj.after, Region.binds .any e = true → e.on ≠ i) → oi.apart ops oj = true) →
      i ∈ Region.ready .any ops listed → Yields P ops oi v a → H w →
      wpT P ops Q H late fuel (listed.setIfInBounds i true) (a.put oi.dst v) w → wpT P ops Q H late (fuel + 1) listed a w := by
  have yes : ∀ (fuel : Nat) (listed : Array Bool) (a : Act) (w : World), Yields P ops oi v a → H w → wpT P ops Q H late fuel (listed.setIfInBounds i true) (a.put oi.dst v) w →
      wpOp P ops Q i (fun a' w' => if late i = true then wpAny P .any ops Q fuel (listed.setIfInBounds i true) a' w' else H w' ∧ wpT P ops Q H late fuel (listed.setIfInBounds i true) a' w') a w := by
    intro fuel listed a w hy hS hh
    refine hy.wpOp hi ?_
    simp only [hni]
    exact ⟨hS, hh⟩
  intro fuel
  induction fuel with
  | zero =>
    intro listed a w _ hr hy hS hh
    refine ⟨fun h => (by rw [h] at hr; cases hr), fun j hj => ?_⟩
    by_cases hji : j = i
    · subst hji; exact yes 0 listed a w hy hS hh
    · have := ready_mono hj hji
      rw [hh.1] at this
      cases this
  | succ fuel ih =>
    intro listed a w hfree hr hy hS hh
    refine ⟨fun h => (by rw [h] at hr; cases hr), fun j hj => ?_⟩
    by_cases hji : j = i
    · subst hji; exact yes (fuel + 1) listed a w hy hS hh
    · have h1 := hh.2 j (ready_mono hj hji)
      obtain ⟨hjun, oj, hoj, hall⟩ := mem_ready.1 hj
      have hnot : ∀ e ∈ oj.after, Region.binds .any e = true → e.on ≠ i := fun e he hb heq => by
        have h1 := hall e he hb
        have h0 := (mem_ready.1 hr).1
        rw [heq] at h1
        rcases Nat.lt_or_ge i listed.size with h' | h'
        · simp [h'] at h0 h1; rw [h0] at h1; cases h1
        · simp [Array.getElem?_eq_none h'] at h1
      have h2 := wpOp_put hoj (hfree j oj hoj hji hjun hnot) (fun cs b => hsel i oi cs b hi) (fun cs b => hsel j oj cs b hoj) hQ hy h1
      have hfree' : ∀ k ok, ops[k]? = some ok → k ≠ i → (listed.setIfInBounds j true).getD k true = false →
          (∀ e ∈ ok.after, Region.binds .any e = true → e.on ≠ i) → oi.apart ops ok = true := fun k ok hk hki hun hno => by
        refine hfree k ok hk hki ?_ hno
        by_cases hjk : j = k
        · subst hjk; exact hjun
        · rw [getD_set_ne true hjk] at hun; exact hun
      refine wpOp_mono (fun a' w' h3 => ?_) h2
      obtain ⟨h3, h4⟩ := h3
      by_cases hl : late j = true
      · rw [if_pos hl] at h4 ⊢
        refine wpAny_first hi hsel hQ fuel (listed.setIfInBounds j true) a' w' hfree' (ready_mono hr (Ne.symm hji)) h3 ?_
        rw [Array.setIfInBounds_comm _ _ hji]
        exact h4
      · rw [if_neg hl] at h4 ⊢
        refine ⟨h4.1, ih (listed.setIfInBounds j true) a' w' hfree' (ready_mono hr (Ne.symm hji)) h3 h4.1 ?_⟩
        rw [Array.setIfInBounds_comm _ _ hji]
        exact h4.2
end
def takeOkP (ops : Array Oper) (listed : Array Bool) (i : Nat) (late : List Nat) : Bool :=
  Region.noSelect ops && Region.free .any ops listed i && (Region.ready .any ops listed).contains i && !late.contains i
section
variable {P : Program} {n : Nat} {md : Bool} {w0 : WM md} {ρ : Env} {Γ : List Assn} {Q : Exit → Act → World → Prop} {ops : Array Oper} {d : Nat} {Hs : List Assn} {late : List Nat} {fuel : Nat} {listed : Array Bool}
theorem S.dr_takeP {o : Oper} {v : Value} (i : Nat) (hi : ops[i]? = some o) (hok : takeOkP ops listed i late = true) (hg : o.guard = none) (hd : o.dst = some d) (hn : Nat.blt d n = true) (hy : Qv P n ρ [] o v) (hH : Ent Γ Hs)
    (k : S n w0 ((d, v) :: ρ) Γ (Dr P ops Q Hs late fuel (listed.setIfInBounds i true))) : S n w0 ρ Γ (Dr P ops Q Hs late (fuel + 1) listed) := by
  intro a w ha hs hx
  unfold takeOkP at hok
  simp only [Bool.and_eq_true] at hok
  obtain ⟨⟨⟨h1, h2⟩, h3⟩, h4⟩ := hok
  have hY : Yields P ops o v a := .inl ⟨by simp [Region.wanted, hg], fun w => hy a w ha ⟨HL.emp, HL.emp_le _, trivial⟩⟩
  unfold Dr
  refine wpT_firstP hi (Region.noSelect_spec h1) (fun _ _ _ h => h) (by simpa using h4) fuel listed a w (Region.free_spec hi h2) (by simpa using h3) hY (hs.ent hH) ?_
  rw [hd]
  exact k _ _ (ha.put hn v) hs hx
end
section
variable {P : Program} {n : Nat} {md : Bool} {w0 : WM md} {ρ : Env} {Γ : List Assn} {Q : Exit → Act → World → Prop} {rest : List Oper}
/-- What follows, hidden: so that nobody reckons it ahead of its time. -/
theorem S.opH {o : Oper} (h : ∀ K : Act → World → Prop, (∀ ρ Γ, S n w0 ρ Γ (wpL P Q rest) → S n w0 ρ Γ K) → S n w0 ρ Γ (Ow P Q o K)) : S n w0 ρ Γ (wpL P Q (o :: rest)) := h _ fun _ _ h => h
end
end Go.Proofs.YtmhdapbfpenjpaaDoor
/- slices.Sort at whole numbers of 32 bits: the inner functions, each as the plain one. -/
namespace Go.Proofs.YtmhdapbfpenjpaaDoor
open Go.RowKit
open Go.Sort
set_option maxRecDepth 20000
abbrev uA (d : Array Int) : List Value := d.toList.map (Value.int .u32)
theorem uA_len (d : Array Int) : (uA d).length = d.size := by simp
theorem uA_get {d : Array Int} {i : Nat} (h : i < d.size) : (uA d)[i]? = some (.int .u32 d[i]!) := by simp [h]
theorem uA_set (d : Array Int) (i : Nat) (x : Int) : (uA d).set i (.int .u32 x) = uA (d.setIfInBounds i x) := by simp [uA, List.map_set]
theorem swpZ (d : Array Int) (i j : Nat) : (swp d i j).size = d.size := by simp [swp]
theorem isNaNU_S (x : Int) : Spec Tryd.prog 115 [.int .u32 x] [] fun Γ v Θ => v = .bool false ∧ Θ = Γ := by
  refine Spec.of_body Tryd.func115 rfl Tryd.ntmps115 rfl ?_
  intro w0 Γ
  show S _ w0 [(0, .int .u32 x)] Γ _
  refine S.seq fun K1 hK1 => ?_
  refine S.region rfl ?_
  refine S.op (S.q (q_assign rfl) rfl rfl ?_)
  first | with_reducible refine S.nilK ?_ | refine S.nil ?_
  refine hK1 _ _ ?_
  refine S.seq fun K2 hK2 => ?_
  refine S.region rfl ?_
  refine S.op (S.q (q_move rfl) rfl rfl ?_)
  refine S.op (S.q (q_move rfl) rfl rfl ?_)
  refine S.op (S.q (q_ne rfl rfl) rfl rfl ?_)
  refine S.op (S.q (q_assign rfl) rfl rfl ?_)
  first | with_reducible refine S.nilK ?_ | refine S.nil ?_
  refine hK2 _ _ ?_
  refine S.ret ?_
  with_reducible repeat (first | refine S.then_n ?_ | refine S.then_x ?_ | refine S.then_r ?_ | refine S.inBlock_n ?_ | refine S.inBlock_r ?_ | refine S.inBlock_x rfl ?_ | refine S.noGoto_r ?_ | refine S.noGoto_n ?_ | refine S.noGoto_x ?_)
  exact S.fin (rs := [_]) (vs := [_]) Tryd.results115 (⟨rfl, trivial⟩)  (⟨by simp only [resV]; rw [decide_eq_false (fun h => h rfl)], rfl⟩) Sub.ent
theorem Less_S (x y : Int) : Spec Tryd.prog 127 [.int .u32 x, .int .u32 y] [] fun Γ v Θ => v = .bool (ltInt x y) ∧ Θ = Γ := by
  refine Spec.of_body Tryd.func127 rfl Tryd.ntmps127 rfl ?_
  intro w0 Γ
  show S _ w0 [(0, .int .u32 x), (1, .int .u32 y)] Γ _
  refine S.seq fun K1 hK1 => ?_
  refine S.region rfl ?_
  refine S.op (S.q (q_assign rfl) rfl rfl ?_)
  first | with_reducible refine S.nilK ?_ | refine S.nil ?_
  refine hK1 _ _ ?_
  refine S.seq fun K2 hK2 => ?_
  refine S.regionG ?_
  refine S.g_op rfl (S.q (q_move rfl) rfl rfl ?_)
  refine S.g_op rfl (S.call Tryd.en115 (vs := [_]) ⟨rfl, trivial⟩ (isNaNU_S x) rfl ?_)
  rintro v Θ ⟨rfl, rfl⟩
  refine S.g_op rfl (S.q (q_move rfl) rfl rfl ?_)
  refine S.g_no rfl rfl rfl (rfl) rfl rfl ?_
  refine S.g_no rfl rfl rfl (rfl) rfl rfl ?_
  refine S.g_no rfl rfl rfl (rfl) rfl rfl ?_
  refine S.g_op rfl (S.q (q_pickF rfl (rfl) rfl) rfl rfl ?_)
  refine S.g_op rfl (S.q (q_move rfl) rfl rfl ?_)
  refine S.g_yes rfl rfl rfl (rfl) (S.q (q_move rfl) rfl rfl ?_)
  refine S.g_yes rfl rfl rfl (rfl) (S.q (q_move rfl) rfl rfl ?_)
  refine S.g_yes rfl rfl rfl (rfl) (S.q (q_lt rfl rfl) rfl rfl ?_)
  refine S.g_op rfl (S.q (q_pickF rfl (rfl) rfl) rfl rfl ?_)
  refine S.g_op rfl (S.q (q_assign rfl) rfl rfl ?_)
  first | with_reducible refine S.g_nilK ?_ | refine S.g_nil ?_
  refine hK2 _ _ ?_
  refine S.ret ?_
  with_reducible repeat (first | refine S.then_n ?_ | refine S.then_x ?_ | refine S.then_r ?_ | refine S.inBlock_n ?_ | refine S.inBlock_r ?_ | refine S.inBlock_x rfl ?_ | refine S.noGoto_r ?_ | refine S.noGoto_n ?_ | refine S.noGoto_x ?_)
  exact S.fin (rs := [_]) (vs := [_]) Tryd.results127 (⟨rfl, trivial⟩)  (⟨rfl, rfl⟩) Sub.ent
theorem insInner_stop {a j : Nat} {d : Array Int} (h : ¬ (a < j ∧ ltInt d[j]! d[j - 1]! = true)) : insInner ltInt a j d = d := by
  cases j with
  | zero => rfl
  | succ j =>
    rw [insInner, if_neg]
    simp only [Nat.add_sub_cancel] at h
    simp only [Bool.and_eq_true, decide_eq_true_eq]
    exact h
theorem insInner_step {a j : Nat} {d : Array Int} (h : a < j) (h2 : ltInt d[j]! d[j - 1]! = true) : insInner ltInt a j d = insInner ltInt a (j - 1) (swp d j (j - 1)) := by
  cases j with
  | zero => omega
  | succ j =>
    simp only [Nat.add_sub_cancel] at h2 ⊢
    rw [insInner, if_pos]
    simp only [Bool.and_eq_true, decide_eq_true_eq]
    exact ⟨h, h2⟩
theorem insSort_S (s : SV) (d : Array Int) (a b : Nat) (hab : a ≤ b) (hb : b ≤ d.size) (hsz : d.size ≤ 65535) (hsn : s.n = d.size) : Spec Tryd.prog 121 [s.v, .int .i64 (a : Int), .int .i64 (b : Int)] [own s 44 1 (uA d)] fun Γ _ Θ => Θ = own s 44 1 (uA (insertionSort ltInt d a b)) :: Γ := by
  refine Spec.of_body Tryd.func121 rfl Tryd.ntmps121 rfl ?_
  intro w0 Γ
  show S _ w0 [(0, s.v), (1, .int .i64 (a : Int)), (2, .int .i64 (b : Int))] (own s 44 1 (uA d) :: Γ) _
  refine S.seq fun K1 hK1 => ?_
  refine S.region rfl ?_
  refine S.op (S.q (q_move rfl) rfl rfl ?_)
  refine S.op (S.q (q_add rfl rfl (inI64 (by omega) (by omega))) rfl rfl ?_)
  refine S.op (S.q (q_assign rfl) rfl rfl ?_)
  first | with_reducible refine S.nilK ?_ | refine S.nil ?_
  refine hK1 _ _ ?_
  refine S.block ?_
  refine S.loop (fun q ρ' Γ' => ∃ (i : Nat) (e : Array Int), q = b - i ∧ a + 1 ≤ i ∧ i ≤ 65536 ∧ e.size = d.size ∧ insOuter ltInt a b i e = insertionSort ltInt d a b ∧ ρ' = [(0, s.v), (1, .int .i64 (a : Int)), (2, .int .i64 (b : Int)), (6, .int .i64 (i : Int))] ∧ Γ' = own s 44 1 (uA e) :: Γ) (m := _) (ρ0 := _) (Γ0 := _) (⟨a + 1, d, rfl, by omega, by omega, rfl, rfl, rfl, rfl⟩) (by repeat (first | exact trivial | refine ⟨rfl, ?_⟩)) Sub.ent ?_
  rintro q ρ' Γ' ⟨i, e, hq, hai, hi9, hes, hio, rfl, rfl⟩
  refine S.seq fun K2 hK2 => ?_
  refine S.seq fun K3 hK3 => ?_
  refine S.region rfl ?_
  refine S.op (S.q (q_move rfl) rfl rfl ?_)
  refine S.op (S.q (q_move rfl) rfl rfl ?_)
  refine S.op (S.q (q_lt rfl rfl) rfl rfl ?_)
  first | with_reducible refine S.nilK ?_ | refine S.nil ?_
  refine hK3 _ _ ?_
  refine S.condD rfl (fun h1 => ?_) (fun h1 => ?_)
  · refine S.ownSome s (by omega) fun sb so hsa _ _ _ => ?_
    refine S.skip ?_
    with_reducible repeat (first | refine S.then_n ?_ | refine S.then_x ?_ | refine S.then_r ?_ | refine S.inBlock_n ?_ | refine S.inBlock_r ?_ | refine S.inBlock_x rfl ?_ | refine S.noGoto_r ?_ | refine S.noGoto_n ?_ | refine S.noGoto_x ?_)
    refine hK2 _ _ ?_
    refine S.seq fun K4 hK4 => ?_
    refine S.cut (fun ρ' Γ' => ∃ e2 : Array Int, e2.size = d.size ∧ e2 = insInner ltInt a i e ∧ ρ' = [(0, s.v), (1, .int .i64 (a : Int)), (2, .int .i64 (b : Int)), (6, .int .i64 (i : Int))] ∧ Γ' = own s 44 1 (uA e2) :: Γ) ?_ ?_
    · refine S.block ?_
      refine S.seq fun K5 hK5 => ?_
      refine S.region rfl ?_
      refine S.op (S.q (q_move rfl) rfl rfl ?_)
      refine S.op (S.q (q_assign rfl) rfl rfl ?_)
      first | with_reducible refine S.nilK ?_ | refine S.nil ?_
      refine hK5 _ _ ?_
      refine S.block ?_
      refine S.loop (fun q2 ρ' Γ' => ∃ (j : Nat) (z : Int) (e2 : Array Int), q2 = j ∧ z = j ∧ j ≤ i ∧ e2.size = d.size ∧ insInner ltInt a j e2 = insInner ltInt a i e ∧ ρ' = [(0, s.v), (1, .int .i64 (a : Int)), (2, .int .i64 (b : Int)), (6, .int .i64 (i : Int)), (7, .int .i64 z)] ∧ Γ' = own s 44 1 (uA e2) :: Γ) (m := _) (ρ0 := _) (Γ0 := _) (⟨i, i, e, rfl, rfl, Nat.le_refl _, hes, rfl, rfl, rfl⟩) (by repeat (first | exact trivial | refine ⟨rfl, ?_⟩)) Sub.ent ?_
      rintro q2 ρ' Γ' ⟨j, z, e2, hq2, hz, hji, he2, hin, rfl, rfl⟩
      refine S.seq fun K6 hK6 => ?_
      refine S.seq fun K7 hK7 => ?_
      refine S.draw ([own s 44 1 (uA e2)]) [] Tryd.mixed ?_
      refine S.dr_take 0 [] rfl (by kernel_rfl) rfl rfl rfl (q_move rfl) Sub.ent ?_
      refine S.dr_take 1 [] rfl (by kernel_rfl) rfl rfl rfl (q_move rfl) Sub.ent ?_
      refine S.dr_take 2 [] rfl (by kernel_rfl) rfl rfl rfl (q_gt rfl rfl) Sub.ent ?_
      refine S.dr_take 3 [] rfl (by kernel_rfl) rfl rfl rfl (q_move rfl) Sub.ent ?_
      by_cases hg4_3 : (a : Int) < z
      · refine S.dr_takeY 4 [] rfl (by kernel_rfl) rfl rfl rfl (decide_eq_true hg4_3) rfl rfl (q_move rfl) Sub.ent ?_
        refine S.dr_takeY 5 [] rfl (by kernel_rfl) rfl rfl rfl (decide_eq_true hg4_3) rfl rfl (q_move rfl) Sub.ent ?_
        refine S.dr_takeY 6 [] rfl (by kernel_rfl) rfl rfl rfl (decide_eq_true hg4_3) rfl rfl (q_indexO (j) Tryd.el31 rfl hsa rfl hz (by omega)) Sub.ent ?_
        refine S.dr_takeY 7 [] rfl (by kernel_rfl) rfl rfl rfl (decide_eq_true hg4_3) rfl rfl (q_loadOw (s) (j) Tryd.at44 rfl hsa (by first | rfl | exact Nat.add_assoc _ _ _ | omega) (uA_get (by omega))) Sub.ent ?_
        refine S.dr_takeY 8 [] rfl (by kernel_rfl) rfl rfl rfl (decide_eq_true hg4_3) rfl rfl (q_move rfl) Sub.ent ?_
        refine S.dr_takeY 9 [] rfl (by kernel_rfl) rfl rfl rfl (decide_eq_true hg4_3) rfl rfl (q_move rfl) Sub.ent ?_
        refine S.dr_takeY 10 [] rfl (by kernel_rfl) rfl rfl rfl (decide_eq_true hg4_3) rfl rfl (q_sub rfl rfl (inI64 (by omega) (by omega))) Sub.ent ?_
        refine S.dr_takeY 11 [] rfl (by kernel_rfl) rfl rfl rfl (decide_eq_true hg4_3) rfl rfl (q_indexO (j - 1) Tryd.el31 rfl hsa rfl (by omega) (by omega)) Sub.ent ?_
        refine S.dr_takeY 12 [] rfl (by kernel_rfl) rfl rfl rfl (decide_eq_true hg4_3) rfl rfl (q_loadOw (s) (j - 1) Tryd.at44 rfl hsa (by first | rfl | exact Nat.add_assoc _ _ _ | omega) (uA_get (by omega))) Sub.ent ?_
        refine S.dr_1Y (i := 13) (by kernel_rfl) rfl rfl rfl rfl (decide_eq_true hg4_3) ?_
        refine  (S.call Tryd.en127 (vs := [_, _]) ⟨rfl, rfl, trivial⟩ (Less_S (e2[j]!) (e2[j - 1]!)) rfl ?_)
        rintro v Θ ⟨rfl, rfl⟩
        refine S.dr_k rfl Sub.ent ?_
        refine S.dr_take 14 [] rfl (by kernel_rfl) rfl rfl rfl (q_pickT rfl (decide_eq_true hg4_3) rfl) Sub.ent ?_
        first | with_reducible refine S.dr_doneK (by kernel_rfl) ?_ | refine S.dr_done (by kernel_rfl) ?_
        refine hK7 _ _ ?_
        refine S.cond rfl (fun h2 => ?_) (fun h2 => ?_)
        · have hst := insInner_step (a := a) (j := j) (d := e2) (by omega) h2
          rw [hin] at hst
          refine S.skip ?_
          with_reducible repeat (first | refine S.then_n ?_ | refine S.then_x ?_ | refine S.then_r ?_ | refine S.inBlock_n ?_ | refine S.inBlock_r ?_ | refine S.inBlock_x rfl ?_ | refine S.noGoto_r ?_ | refine S.noGoto_n ?_ | refine S.noGoto_x ?_)
          refine hK6 _ _ ?_
          refine S.seq fun K8 hK8 => ?_
          refine S.block ?_
          refine S.draw ([own s 44 1 (uA e2)]) [15] Tryd.mixed ?_
          refine S.dr_take 0 [14, 15, 16, 17] rfl (by kernel_rfl) rfl rfl rfl (q_move rfl) Sub.ent ?_
          refine S.dr_take 1 [14, 15, 16, 17] rfl (by kernel_rfl) rfl rfl rfl (q_move rfl) Sub.ent ?_
          refine S.dr_takeP 2 rfl (by kernel_rfl) rfl rfl rfl (q_move rfl) Sub.ent ?_
          refine S.dr_takeP 3 rfl (by kernel_rfl) rfl rfl rfl (q_move rfl) Sub.ent ?_
          refine S.dr_takeP 4 rfl (by kernel_rfl) rfl rfl rfl (q_sub rfl rfl (inI64 (by omega) (by omega))) Sub.ent ?_
          refine S.dr_take 5 [8, 9, 14, 15, 16, 17] rfl (by kernel_rfl) rfl rfl rfl (q_move rfl) Sub.ent ?_
          refine S.dr_take 6 [7, 8, 9, 14, 15, 16, 17] rfl (by kernel_rfl) rfl rfl rfl (q_move rfl) Sub.ent ?_
          refine S.dr_take 7 [8, 9, 14, 15, 16, 17] rfl (by kernel_rfl) rfl rfl rfl (q_sub rfl rfl (inI64 (by omega) (by omega))) Sub.ent ?_
          refine S.dr_take 8 [9, 14, 15, 16, 17] rfl (by kernel_rfl) rfl rfl rfl (q_indexO (j - 1) Tryd.el31 rfl hsa rfl (by omega) (by omega)) Sub.ent ?_
          refine S.dr_take 9 [14, 15, 16, 17] rfl (by kernel_rfl) rfl rfl rfl (q_loadOw (s) (j - 1) Tryd.at44 rfl hsa (by first | rfl | exact Nat.add_assoc _ _ _ | omega) (uA_get (by omega))) Sub.ent ?_
          refine S.dr_take 10 [12, 13, 14, 15, 16, 17] rfl (by kernel_rfl) rfl rfl rfl (q_move rfl) Sub.ent ?_
          refine S.dr_take 11 [12, 13, 14, 15, 16, 17] rfl (by kernel_rfl) rfl rfl rfl (q_move rfl) Sub.ent ?_
          refine S.dr_take 12 [13, 14, 15, 16, 17] rfl (by kernel_rfl) rfl rfl rfl (q_indexO (j) Tryd.el31 rfl hsa rfl hz (by omega)) Sub.ent ?_
          refine S.dr_take 13 [14, 15, 16, 17] rfl (by kernel_rfl) rfl rfl rfl (q_loadOw (s) (j) Tryd.at44 rfl hsa (by first | rfl | exact Nat.add_assoc _ _ _ | omega) (uA_get (by omega))) Sub.ent ?_
          refine S.dr_take 14 [15, 16, 17] rfl (by kernel_rfl) rfl rfl rfl (q_indexO (j) Tryd.el31 rfl hsa rfl hz (by omega)) Sub.ent ?_
          refine S.dr_1 (i := 15) (by kernel_rfl) rfl rfl ?_
          refine  (S.storeOw (s) (j) Tryd.at44 rfl rfl rfl hsa (by first | rfl | exact Nat.add_assoc _ _ _ | omega) (by rw [uA_len]; omega) (uA_set _ _ _) ?_)
          refine S.dr_late ([]) [] rfl ?_
          refine S.dr_take 16 [] rfl (by kernel_rfl) rfl rfl rfl (q_indexO (j - 1) Tryd.el31 rfl hsa rfl (by omega) (by omega)) Sub.ent ?_
          refine S.dr_1 (i := 17) (by kernel_rfl) rfl rfl ?_
          refine  (S.storeOw (s) (j - 1) Tryd.at44 rfl rfl rfl hsa (by first | rfl | exact Nat.add_assoc _ _ _ | omega) (by rw [uA_len, Array.size_setIfInBounds]; omega) (show _ = uA (Go.Sort.swp e2 (j) (j - 1)) from uA_set _ _ _) ?_)
          refine S.dr_k rfl Sub.ent ?_
          first | with_reducible refine S.dr_doneK (by kernel_rfl) ?_ | refine S.dr_done (by kernel_rfl) ?_
          with_reducible repeat (first | refine S.then_n ?_ | refine S.then_x ?_ | refine S.then_r ?_ | refine S.inBlock_n ?_ | refine S.inBlock_r ?_ | refine S.inBlock_x rfl ?_ | refine S.noGoto_r ?_ | refine S.noGoto_n ?_ | refine S.noGoto_x ?_)
          refine hK8 _ _ ?_
          refine S.region rfl ?_
          refine S.op (S.q (q_move rfl) rfl rfl ?_)
          refine S.op (S.q (q_sub rfl rfl (inI64 (by omega) (by omega))) rfl rfl ?_)
          refine S.op (S.q (q_assign rfl) rfl rfl ?_)
          first | with_reducible refine S.nilK ?_ | refine S.nil ?_
          with_reducible repeat (first | refine S.then_n ?_ | refine S.then_x ?_ | refine S.then_r ?_ | refine S.inBlock_n ?_ | refine S.inBlock_r ?_ | refine S.inBlock_x rfl ?_ | refine S.noGoto_r ?_ | refine S.noGoto_n ?_ | refine S.noGoto_x ?_)
          exact S.next (j - 1) (⟨j - 1, z - 1, swp e2 j (j - 1), rfl, by omega, by omega, by rw [swpZ, he2], hst.symm, rfl, rfl⟩) (by omega) (by repeat (first | exact trivial | refine ⟨rfl, ?_⟩)) Sub.ent
        · have hst : insInner ltInt a j e2 = e2 := insInner_stop (fun h => by rw [h.2] at h2; cases h2)
          refine S.exit ?_
          with_reducible repeat (first | refine S.then_n ?_ | refine S.then_x ?_ | refine S.then_r ?_ | refine S.inBlock_n ?_ | refine S.inBlock_r ?_ | refine S.inBlock_x rfl ?_ | refine S.noGoto_r ?_ | refine S.noGoto_n ?_ | refine S.noGoto_x ?_)
          with_reducible refine S.inBlock_s ?_
          with_reducible repeat (first | refine S.then_n ?_ | refine S.then_x ?_ | refine S.then_r ?_ | refine S.inBlock_n ?_ | refine S.inBlock_r ?_ | refine S.inBlock_x rfl ?_ | refine S.noGoto_r ?_ | refine S.noGoto_n ?_ | refine S.noGoto_x ?_)
          with_reducible repeat (first | refine S.then_n ?_ | refine S.then_x ?_ | refine S.then_r ?_ | refine S.inBlock_n ?_ | refine S.inBlock_r ?_ | refine S.inBlock_x rfl ?_ | refine S.noGoto_r ?_ | refine S.noGoto_n ?_ | refine S.noGoto_x ?_)
          with_reducible repeat (first | refine S.then_n ?_ | refine S.then_x ?_ | refine S.then_r ?_ | refine S.inBlock_n ?_ | refine S.inBlock_r ?_ | refine S.inBlock_x rfl ?_ | refine S.noGoto_r ?_ | refine S.noGoto_n ?_ | refine S.noGoto_x ?_)
          exact S.meet ⟨e2, he2, hst.symm.trans hin, rfl, rfl⟩ ⟨rfl, rfl, rfl, rfl, trivial⟩ Sub.ent
      · have hst : insInner ltInt a j e2 = e2 := insInner_stop (fun h => hg4_3 (by omega))
        refine S.dr_takeN 4 [] rfl (by kernel_rfl) rfl rfl rfl (decide_eq_false hg4_3) rfl rfl Sub.ent ?_
        refine S.dr_takeN 5 [] rfl (by kernel_rfl) rfl rfl rfl (decide_eq_false hg4_3) rfl rfl Sub.ent ?_
        refine S.dr_takeN 6 [] rfl (by kernel_rfl) rfl rfl rfl (decide_eq_false hg4_3) rfl rfl Sub.ent ?_
        refine S.dr_takeN 7 [] rfl (by kernel_rfl) rfl rfl rfl (decide_eq_false hg4_3) rfl rfl Sub.ent ?_
        refine S.dr_takeN 8 [] rfl (by kernel_rfl) rfl rfl rfl (decide_eq_false hg4_3) rfl rfl Sub.ent ?_
        refine S.dr_takeN 9 [] rfl (by kernel_rfl) rfl rfl rfl (decide_eq_false hg4_3) rfl rfl Sub.ent ?_
        refine S.dr_takeN 10 [] rfl (by kernel_rfl) rfl rfl rfl (decide_eq_false hg4_3) rfl rfl Sub.ent ?_
        refine S.dr_takeN 11 [] rfl (by kernel_rfl) rfl rfl rfl (decide_eq_false hg4_3) rfl rfl Sub.ent ?_
        refine S.dr_takeN 12 [] rfl (by kernel_rfl) rfl rfl rfl (decide_eq_false hg4_3) rfl rfl Sub.ent ?_
        refine S.dr_takeN 13 [] rfl (by kernel_rfl) rfl rfl rfl (decide_eq_false hg4_3) rfl rfl Sub.ent ?_
        refine S.dr_take 14 [] rfl (by kernel_rfl) rfl rfl rfl (q_pickF rfl (decide_eq_false hg4_3) rfl) Sub.ent ?_
        first | with_reducible refine S.dr_doneK (by kernel_rfl) ?_ | refine S.dr_done (by kernel_rfl) ?_
        refine hK7 _ _ ?_
        refine S.condF rfl ?_
        refine S.exit ?_
        with_reducible repeat (first | refine S.then_n ?_ | refine S.then_x ?_ | refine S.then_r ?_ | refine S.inBlock_n ?_ | refine S.inBlock_r ?_ | refine S.inBlock_x rfl ?_ | refine S.noGoto_r ?_ | refine S.noGoto_n ?_ | refine S.noGoto_x ?_)
        with_reducible refine S.inBlock_s ?_
        with_reducible repeat (first | refine S.then_n ?_ | refine S.then_x ?_ | refine S.then_r ?_ | refine S.inBlock_n ?_ | refine S.inBlock_r ?_ | refine S.inBlock_x rfl ?_ | refine S.noGoto_r ?_ | refine S.noGoto_n ?_ | refine S.noGoto_x ?_)
        with_reducible repeat (first | refine S.then_n ?_ | refine S.then_x ?_ | refine S.then_r ?_ | refine S.inBlock_n ?_ | refine S.inBlock_r ?_ | refine S.inBlock_x rfl ?_ | refine S.noGoto_r ?_ | refine S.noGoto_n ?_ | refine S.noGoto_x ?_)
        with_reducible repeat (first | refine S.then_n ?_ | refine S.then_x ?_ | refine S.then_r ?_ | refine S.inBlock_n ?_ | refine S.inBlock_r ?_ | refine S.inBlock_x rfl ?_ | refine S.noGoto_r ?_ | refine S.noGoto_n ?_ | refine S.noGoto_x ?_)
        exact S.meet ⟨e2, he2, hst.symm.trans hin, rfl, rfl⟩ ⟨rfl, rfl, rfl, rfl, trivial⟩ Sub.ent
    · rintro ρ' Γ' ⟨e2, he2, hin, rfl, rfl⟩
      refine hK4 _ _ ?_
      refine S.region rfl ?_
      refine S.op (S.q (q_move rfl) rfl rfl ?_)
      refine S.op (S.q (q_add rfl rfl (inI64 (by omega) (by omega))) rfl rfl ?_)
      refine S.op (S.q (q_assign rfl) rfl rfl ?_)
      first | with_reducible refine S.nilK ?_ | refine S.nil ?_
      with_reducible repeat (first | refine S.then_n ?_ | refine S.then_x ?_ | refine S.then_r ?_ | refine S.inBlock_n ?_ | refine S.inBlock_r ?_ | refine S.inBlock_x rfl ?_ | refine S.noGoto_r ?_ | refine S.noGoto_n ?_ | refine S.noGoto_x ?_)
      exact S.next (q - 1) (⟨i + 1, e2, by omega, by omega, by omega, he2, by rw [hin, ← hio]; conv => rhs; rw [insOuter, if_pos (by omega)], rfl, rfl⟩) (by omega) (by repeat (first | exact trivial | refine ⟨rfl, ?_⟩)) Sub.ent
  · refine S.exit ?_
    with_reducible repeat (first | refine S.then_n ?_ | refine S.then_x ?_ | refine S.then_r ?_ | refine S.inBlock_n ?_ | refine S.inBlock_r ?_ | refine S.inBlock_x rfl ?_ | refine S.noGoto_r ?_ | refine S.noGoto_n ?_ | refine S.noGoto_x ?_)
    with_reducible refine S.inBlock_s ?_
    with_reducible repeat (first | refine S.then_n ?_ | refine S.then_x ?_ | refine S.then_r ?_ | refine S.inBlock_n ?_ | refine S.inBlock_r ?_ | refine S.inBlock_x rfl ?_ | refine S.noGoto_r ?_ | refine S.noGoto_n ?_ | refine S.noGoto_x ?_)
    with_reducible repeat (first | refine S.then_n ?_ | refine S.then_x ?_ | refine S.then_r ?_ | refine S.inBlock_n ?_ | refine S.inBlock_r ?_ | refine S.inBlock_x rfl ?_ | refine S.noGoto_r ?_ | refine S.noGoto_n ?_ | refine S.noGoto_x ?_)
    exact S.finN (rs := []) (vs := []) Tryd.results121 (trivial)  (by have hfin : insertionSort ltInt d a b = e := (by rw [← hio, insOuter, if_neg (by omega)]); rw [hfin]) Sub.ent
theorem sift_sizeN (hi F : Nat) : ∀ (n r : Nat) (d : Array Int), hi - r ≤ n → (siftDown ltInt hi F r d).size = d.size
  | 0, r, d, h => by rw [siftDown, dif_pos (by omega)]
  | n + 1, r, d, h => by
    rw [siftDown]
    split
    · rfl
    split
    · split
      · rfl
      split
      · rw [sift_sizeN hi F n _ _ (by omega), swpZ]
      · rfl
    · split
      · rfl
      · rw [sift_sizeN hi F n _ _ (by omega), swpZ]
theorem sift_size (hi F r : Nat) (d : Array Int) : (siftDown ltInt hi F r d).size = d.size := sift_sizeN hi F _ r d (Nat.le_refl _)
theorem siftDown_S (s : SV) (d : Array Int) (lo hi F : Nat) (hF : F + hi ≤ d.size) (hlo : lo ≤ 65535) (hsz : d.size ≤ 65535) (hsn : s.n = d.size) : Spec Tryd.prog 139 [s.v, .int .i64 (lo : Int), .int .i64 (hi : Int), .int .i64 (F : Int)] [own s 44 1 (uA d)] fun Γ _ Θ => Θ = own s 44 1 (uA (siftDown ltInt hi F lo d)) :: Γ := by
  refine Spec.of_body Tryd.func139 rfl Tryd.ntmps139 rfl ?_
  intro w0 Γ
  show S _ w0 [(0, s.v), (1, .int .i64 (lo : Int)), (2, .int .i64 (hi : Int)), (3, .int .i64 (F : Int))] (own s 44 1 (uA d) :: Γ) _
  refine S.seq fun K1 hK1 => ?_
  refine S.region rfl ?_
  refine S.op (S.q (q_move rfl) rfl rfl ?_)
  refine S.op (S.q (q_assign rfl) rfl rfl ?_)
  first | with_reducible refine S.nilK ?_ | refine S.nil ?_
  refine hK1 _ _ ?_
  refine S.block ?_
  refine S.loop (fun q ρ' Γ' => ∃ (r : Nat) (z : Int) (e : Array Int), q = hi - r ∧ z = r ∧ r ≤ 65535 ∧ e.size = d.size ∧ siftDown ltInt hi F r e = siftDown ltInt hi F lo d ∧ ρ' = [(0, s.v), (1, .int .i64 (lo : Int)), (2, .int .i64 (hi : Int)), (3, .int .i64 (F : Int)), (8, .int .i64 z)] ∧ Γ' = own s 44 1 (uA e) :: Γ) (m := _) (ρ0 := _) (Γ0 := _) (⟨lo, lo, d, rfl, rfl, hlo, rfl, rfl, rfl, rfl⟩) (by repeat (first | exact trivial | refine ⟨rfl, ?_⟩)) Sub.ent ?_
  rintro q ρ' Γ' ⟨r, z, e, hq, hz, hr9, hes, hsd, rfl, rfl⟩
  refine S.block ?_
  refine S.seq fun K2 hK2 => ?_
  refine S.region rfl ?_
  refine S.op (S.q (q_move rfl) rfl rfl ?_)
  refine S.op (S.q (q_mul rfl rfl (inI64 (by omega) (by omega))) rfl rfl ?_)
  refine S.op (S.q (q_add rfl rfl (inI64 (by omega) (by omega))) rfl rfl ?_)
  refine S.op (S.q (q_assign rfl) rfl rfl ?_)
  first | with_reducible refine S.nilK ?_ | refine S.nil ?_
  refine hK2 _ _ ?_
  refine S.seq fun K3 hK3 => ?_
  refine S.seq fun K4 hK4 => ?_
  refine S.region rfl ?_
  refine S.op (S.q (q_move rfl) rfl rfl ?_)
  refine S.op (S.q (q_move rfl) rfl rfl ?_)
  refine S.op (S.q (q_ge rfl rfl) rfl rfl ?_)
  first | with_reducible refine S.nilK ?_ | refine S.nil ?_
  refine hK4 _ _ ?_
  refine S.condD rfl (fun h1 => ?_) (fun h1 => ?_)
  · have hfin : e = siftDown ltInt hi F lo d := by rw [← hsd, siftDown, dif_pos (by omega)]
    refine S.exit ?_
    with_reducible repeat (first | refine S.then_n ?_ | refine S.then_x ?_ | refine S.then_r ?_ | refine S.inBlock_n ?_ | refine S.inBlock_r ?_ | refine S.inBlock_x rfl ?_ | refine S.noGoto_r ?_ | refine S.noGoto_n ?_ | refine S.noGoto_x ?_)
    with_reducible refine S.inBlock_s ?_
    with_reducible repeat (first | refine S.then_n ?_ | refine S.then_x ?_ | refine S.then_r ?_ | refine S.inBlock_n ?_ | refine S.inBlock_r ?_ | refine S.inBlock_x rfl ?_ | refine S.noGoto_r ?_ | refine S.noGoto_n ?_ | refine S.noGoto_x ?_)
    with_reducible repeat (first | refine S.then_n ?_ | refine S.then_x ?_ | refine S.then_r ?_ | refine S.inBlock_n ?_ | refine S.inBlock_r ?_ | refine S.inBlock_x rfl ?_ | refine S.noGoto_r ?_ | refine S.noGoto_n ?_ | refine S.noGoto_x ?_)
    exact S.finN (rs := []) (vs := []) Tryd.results139 (trivial)  (by rw [← hfin]) Sub.ent
  · refine S.ownSome s (by omega) fun sb so hsa _ _ _ => ?_
    have hno : ¬ (2 * r + 1 ≥ hi) := by omega
    refine S.skip ?_
    with_reducible repeat (first | refine S.then_n ?_ | refine S.then_x ?_ | refine S.then_r ?_ | refine S.inBlock_n ?_ | refine S.inBlock_r ?_ | refine S.inBlock_x rfl ?_ | refine S.noGoto_r ?_ | refine S.noGoto_n ?_ | refine S.noGoto_x ?_)
    refine hK3 _ _ ?_
    refine S.seq fun K5 hK5 => ?_
    refine S.seq fun K6 hK6 => ?_
    refine S.cut (fun ρ' Γ' => ∃ bb : Bool, bb = (decide (2 * r + 1 + 1 < hi) && ltInt e[F + (2 * r + 1)]! e[F + (2 * r + 1) + 1]!) ∧ ρ' = [(0, s.v), (1, .int .i64 (lo : Int)), (2, .int .i64 (hi : Int)), (3, .int .i64 (F : Int)), (8, .int .i64 z), (9, .int .i64 (2 * z + 1)), (36, .bool bb)] ∧ Γ' = own s 44 1 (uA e) :: Γ) ?_ ?_
    · refine S.draw ([own s 44 1 (uA e)]) [] Tryd.mixed ?_
      refine S.dr_take 0 [] rfl (by kernel_rfl) rfl rfl rfl (q_move rfl) Sub.ent ?_
      refine S.dr_take 1 [] rfl (by kernel_rfl) rfl rfl rfl (q_add rfl rfl (inI64 (by omega) (by omega))) Sub.ent ?_
      refine S.dr_take 2 [] rfl (by kernel_rfl) rfl rfl rfl (q_move rfl) Sub.ent ?_
      refine S.dr_take 3 [] rfl (by kernel_rfl) rfl rfl rfl (q_lt rfl rfl) Sub.ent ?_
      refine S.dr_take 4 [] rfl (by kernel_rfl) rfl rfl rfl (q_move rfl) Sub.ent ?_
      by_cases hg3_4 : 2 * z + 1 + 1 < (hi : Int)
      · refine S.dr_takeY 5 [] rfl (by kernel_rfl) rfl rfl rfl (decide_eq_true hg3_4) rfl rfl (q_move rfl) Sub.ent ?_
        refine S.dr_takeY 6 [] rfl (by kernel_rfl) rfl rfl rfl (decide_eq_true hg3_4) rfl rfl (q_move rfl) Sub.ent ?_
        refine S.dr_takeY 7 [] rfl (by kernel_rfl) rfl rfl rfl (decide_eq_true hg3_4) rfl rfl (q_move rfl) Sub.ent ?_
        refine S.dr_takeY 8 [] rfl (by kernel_rfl) rfl rfl rfl (decide_eq_true hg3_4) rfl rfl (q_add rfl rfl (inI64 (by omega) (by omega))) Sub.ent ?_
        refine S.dr_takeY 9 [] rfl (by kernel_rfl) rfl rfl rfl (decide_eq_true hg3_4) rfl rfl (q_indexO (F + (2 * r + 1)) Tryd.el31 rfl hsa rfl (by omega) (by omega)) Sub.ent ?_
        refine S.dr_takeY 10 [] rfl (by kernel_rfl) rfl rfl rfl (decide_eq_true hg3_4) rfl rfl (q_loadOw (s) (F + (2 * r + 1)) Tryd.at44 rfl hsa (by first | rfl | exact Nat.add_assoc _ _ _ | omega) (uA_get (by omega))) Sub.ent ?_
        refine S.dr_takeY 11 [] rfl (by kernel_rfl) rfl rfl rfl (decide_eq_true hg3_4) rfl rfl (q_move rfl) Sub.ent ?_
        refine S.dr_takeY 12 [] rfl (by kernel_rfl) rfl rfl rfl (decide_eq_true hg3_4) rfl rfl (q_move rfl) Sub.ent ?_
        refine S.dr_takeY 13 [] rfl (by kernel_rfl) rfl rfl rfl (decide_eq_true hg3_4) rfl rfl (q_move rfl) Sub.ent ?_
        refine S.dr_takeY 14 [] rfl (by kernel_rfl) rfl rfl rfl (decide_eq_true hg3_4) rfl rfl (q_add rfl rfl (inI64 (by omega) (by omega))) Sub.ent ?_
        refine S.dr_takeY 15 [] rfl (by kernel_rfl) rfl rfl rfl (decide_eq_true hg3_4) rfl rfl (q_add rfl rfl (inI64 (by omega) (by omega))) Sub.ent ?_
        refine S.dr_takeY 16 [] rfl (by kernel_rfl) rfl rfl rfl (decide_eq_true hg3_4) rfl rfl (q_indexO (F + (2 * r + 1) + 1) Tryd.el31 rfl hsa rfl (by omega) (by omega)) Sub.ent ?_
        refine S.dr_takeY 17 [] rfl (by kernel_rfl) rfl rfl rfl (decide_eq_true hg3_4) rfl rfl (q_loadOw (s) (F + (2 * r + 1) + 1) Tryd.at44 rfl hsa (by first | rfl | exact Nat.add_assoc _ _ _ | omega) (uA_get (by omega))) Sub.ent ?_
        refine S.dr_1Y (i := 18) (by kernel_rfl) rfl rfl rfl rfl (decide_eq_true hg3_4) ?_
        refine  (S.call Tryd.en127 (vs := [_, _]) ⟨rfl, rfl, trivial⟩ (Less_S (e[F + (2 * r + 1)]!) (e[F + (2 * r + 1) + 1]!)) rfl ?_)
        rintro v Θ ⟨rfl, rfl⟩
        refine S.dr_k rfl Sub.ent ?_
        refine S.dr_take 19 [] rfl (by kernel_rfl) rfl rfl rfl (q_pickT rfl (decide_eq_true hg3_4) rfl) Sub.ent ?_
        first | with_reducible refine S.dr_doneK (by kernel_rfl) ?_ | refine S.dr_done (by kernel_rfl) ?_
        with_reducible repeat (first | refine S.then_n ?_ | refine S.then_x ?_ | refine S.then_r ?_ | refine S.inBlock_n ?_ | refine S.inBlock_r ?_ | refine S.inBlock_x rfl ?_ | refine S.noGoto_r ?_ | refine S.noGoto_n ?_ | refine S.noGoto_x ?_)
        first | (exact S.meet ⟨_, by rw [decide_eq_true (show 2 * r + 1 + 1 < hi by omega)]; rfl, rfl, rfl⟩ ⟨rfl, rfl, rfl, rfl, rfl, rfl, rfl, trivial⟩ Sub.ent) | (exact S.meet ⟨_, by rw [decide_eq_false (show ¬ 2 * r + 1 + 1 < hi by omega)]; rfl, rfl, rfl⟩ ⟨rfl, rfl, rfl, rfl, rfl, rfl, rfl, trivial⟩ Sub.ent)
      · refine S.dr_takeN 5 [] rfl (by kernel_rfl) rfl rfl rfl (decide_eq_false hg3_4) rfl rfl Sub.ent ?_
        refine S.dr_takeN 6 [] rfl (by kernel_rfl) rfl rfl rfl (decide_eq_false hg3_4) rfl rfl Sub.ent ?_
        refine S.dr_takeN 7 [] rfl (by kernel_rfl) rfl rfl rfl (decide_eq_false hg3_4) rfl rfl Sub.ent ?_
        refine S.dr_takeN 8 [] rfl (by kernel_rfl) rfl rfl rfl (decide_eq_false hg3_4) rfl rfl Sub.ent ?_
        refine S.dr_takeN 9 [] rfl (by kernel_rfl) rfl rfl rfl (decide_eq_false hg3_4) rfl rfl Sub.ent ?_
        refine S.dr_takeN 10 [] rfl (by kernel_rfl) rfl rfl rfl (decide_eq_false hg3_4) rfl rfl Sub.ent ?_
        refine S.dr_takeN 11 [] rfl (by kernel_rfl) rfl rfl rfl (decide_eq_false hg3_4) rfl rfl Sub.ent ?_
        refine S.dr_takeN 12 [] rfl (by kernel_rfl) rfl rfl rfl (decide_eq_false hg3_4) rfl rfl Sub.ent ?_
        refine S.dr_takeN 13 [] rfl (by kernel_rfl) rfl rfl rfl (decide_eq_false hg3_4) rfl rfl Sub.ent ?_
        refine S.dr_takeN 14 [] rfl (by kernel_rfl) rfl rfl rfl (decide_eq_false hg3_4) rfl rfl Sub.ent ?_
        refine S.dr_takeN 15 [] rfl (by kernel_rfl) rfl rfl rfl (decide_eq_false hg3_4) rfl rfl Sub.ent ?_
        refine S.dr_takeN 16 [] rfl (by kernel_rfl) rfl rfl rfl (decide_eq_false hg3_4) rfl rfl Sub.ent ?_
        refine S.dr_takeN 17 [] rfl (by kernel_rfl) rfl rfl rfl (decide_eq_false hg3_4) rfl rfl Sub.ent ?_
        refine S.dr_takeN 18 [] rfl (by kernel_rfl) rfl rfl rfl (decide_eq_false hg3_4) rfl rfl Sub.ent ?_
        refine S.dr_take 19 [] rfl (by kernel_rfl) rfl rfl rfl (q_pickF rfl (decide_eq_false hg3_4) rfl) Sub.ent ?_
        first | with_reducible refine S.dr_doneK (by kernel_rfl) ?_ | refine S.dr_done (by kernel_rfl) ?_
        with_reducible repeat (first | refine S.then_n ?_ | refine S.then_x ?_ | refine S.then_r ?_ | refine S.inBlock_n ?_ | refine S.inBlock_r ?_ | refine S.inBlock_x rfl ?_ | refine S.noGoto_r ?_ | refine S.noGoto_n ?_ | refine S.noGoto_x ?_)
        first | (exact S.meet ⟨_, by rw [decide_eq_true (show 2 * r + 1 + 1 < hi by omega)]; rfl, rfl, rfl⟩ ⟨rfl, rfl, rfl, rfl, rfl, rfl, rfl, trivial⟩ Sub.ent) | (exact S.meet ⟨_, by rw [decide_eq_false (show ¬ 2 * r + 1 + 1 < hi by omega)]; rfl, rfl, rfl⟩ ⟨rfl, rfl, rfl, rfl, rfl, rfl, rfl, trivial⟩ Sub.ent)
    · rintro ρ' Γ' ⟨bb, hbb, rfl, rfl⟩
      refine hK6 _ _ ?_
      refine S.cut (fun ρ' Γ' => ∃ (c : Nat) (zc : Int), zc = c ∧ r < c ∧ c < hi ∧ (siftDown ltInt hi F r e = if (!ltInt e[F + r]! e[F + c]!) = true then e else siftDown ltInt hi F c (swp e (F + r) (F + c))) ∧ ρ' = [(0, s.v), (1, .int .i64 (lo : Int)), (2, .int .i64 (hi : Int)), (3, .int .i64 (F : Int)), (8, .int .i64 z), (9, .int .i64 zc)] ∧ Γ' = own s 44 1 (uA e) :: Γ) ?_ ?_
      · refine S.cond rfl (fun h2 => ?_) (fun h2 => ?_)
        · rw [h2] at hbb
          have hb2 : 2 * r + 2 < hi := by
            have := hbb.symm
            rw [Bool.and_eq_true, decide_eq_true_eq] at this
            omega
          have hstep : siftDown ltInt hi F r e = if (!ltInt e[F + r]! e[F + (2 * r + 2)]!) = true then e else siftDown ltInt hi F (2 * r + 2) (swp e (F + r) (F + (2 * r + 2))) := by
            conv => lhs; rw [siftDown, dif_neg hno, if_pos hbb.symm, dif_pos hb2]
          refine S.region rfl ?_
          refine S.op (S.q (q_move rfl) rfl rfl ?_)
          refine S.op (S.q (q_add rfl rfl (inI64 (by omega) (by omega))) rfl rfl ?_)
          refine S.op (S.q (q_assign rfl) rfl rfl ?_)
          first | with_reducible refine S.nilK ?_ | refine S.nil ?_
          with_reducible repeat (first | refine S.then_n ?_ | refine S.then_x ?_ | refine S.then_r ?_ | refine S.inBlock_n ?_ | refine S.inBlock_r ?_ | refine S.inBlock_x rfl ?_ | refine S.noGoto_r ?_ | refine S.noGoto_n ?_ | refine S.noGoto_x ?_)
          first | exact S.meet ⟨2 * r + 2, 2 * z + 1 + 1, by omega, by omega, hb2, hstep, rfl, rfl⟩ ⟨rfl, rfl, rfl, rfl, rfl, rfl, trivial⟩ Sub.ent | exact S.meet ⟨2 * r + 1, 2 * z + 1, by omega, by omega, hb2, hstep, rfl, rfl⟩ ⟨rfl, rfl, rfl, rfl, rfl, rfl, trivial⟩ Sub.ent
        · rw [h2] at hbb
          have hb2 : 2 * r + 1 < hi := by omega
          have hstep : siftDown ltInt hi F r e = if (!ltInt e[F + r]! e[F + (2 * r + 1)]!) = true then e else siftDown ltInt hi F (2 * r + 1) (swp e (F + r) (F + (2 * r + 1))) := by
            conv => lhs; rw [siftDown, dif_neg hno, if_neg (by rw [← hbb]; simp)]
          refine S.skip ?_
          with_reducible repeat (first | refine S.then_n ?_ | refine S.then_x ?_ | refine S.then_r ?_ | refine S.inBlock_n ?_ | refine S.inBlock_r ?_ | refine S.inBlock_x rfl ?_ | refine S.noGoto_r ?_ | refine S.noGoto_n ?_ | refine S.noGoto_x ?_)
          with_reducible repeat (first | refine S.then_n ?_ | refine S.then_x ?_ | refine S.then_r ?_ | refine S.inBlock_n ?_ | refine S.inBlock_r ?_ | refine S.inBlock_x rfl ?_ | refine S.noGoto_r ?_ | refine S.noGoto_n ?_ | refine S.noGoto_x ?_)
          first | exact S.meet ⟨2 * r + 2, 2 * z + 1 + 1, by omega, by omega, hb2, hstep, rfl, rfl⟩ ⟨rfl, rfl, rfl, rfl, rfl, rfl, trivial⟩ Sub.ent | exact S.meet ⟨2 * r + 1, 2 * z + 1, by omega, by omega, hb2, hstep, rfl, rfl⟩ ⟨rfl, rfl, rfl, rfl, rfl, rfl, trivial⟩ Sub.ent
      · rintro ρ' Γ' ⟨c, zc, hzc, hrc, hch, hstep, rfl, rfl⟩
        refine hK5 _ _ ?_
        refine S.seq fun K7 hK7 => ?_
        refine S.seq fun K8 hK8 => ?_
        refine S.draw ([own s 44 1 (uA e)]) [] Tryd.mixed ?_
        refine S.dr_take 0 [] rfl (by kernel_rfl) rfl rfl rfl (q_move rfl) Sub.ent ?_
        refine S.dr_take 1 [] rfl (by kernel_rfl) rfl rfl rfl (q_move rfl) Sub.ent ?_
        refine S.dr_take 2 [] rfl (by kernel_rfl) rfl rfl rfl (q_move rfl) Sub.ent ?_
        refine S.dr_take 3 [] rfl (by kernel_rfl) rfl rfl rfl (q_add rfl rfl (inI64 (by omega) (by omega))) Sub.ent ?_
        refine S.dr_take 4 [] rfl (by kernel_rfl) rfl rfl rfl (q_indexO (F + r) Tryd.el31 rfl hsa rfl (by omega) (by omega)) Sub.ent ?_
        refine S.dr_take 5 [] rfl (by kernel_rfl) rfl rfl rfl (q_loadOw (s) (F + r) Tryd.at44 rfl hsa (by first | rfl | exact Nat.add_assoc _ _ _ | omega) (uA_get (by omega))) Sub.ent ?_
        refine S.dr_take 6 [] rfl (by kernel_rfl) rfl rfl rfl (q_move rfl) Sub.ent ?_
        refine S.dr_take 7 [] rfl (by kernel_rfl) rfl rfl rfl (q_move rfl) Sub.ent ?_
        refine S.dr_take 8 [] rfl (by kernel_rfl) rfl rfl rfl (q_move rfl) Sub.ent ?_
        refine S.dr_take 9 [] rfl (by kernel_rfl) rfl rfl rfl (q_add rfl rfl (inI64 (by omega) (by omega))) Sub.ent ?_
        refine S.dr_take 10 [] rfl (by kernel_rfl) rfl rfl rfl (q_indexO (F + c) Tryd.el31 rfl hsa rfl (by omega) (by omega)) Sub.ent ?_
        refine S.dr_take 11 [] rfl (by kernel_rfl) rfl rfl rfl (q_loadOw (s) (F + c) Tryd.at44 rfl hsa (by first | rfl | exact Nat.add_assoc _ _ _ | omega) (uA_get (by omega))) Sub.ent ?_
        refine S.dr_1 (i := 12) (by kernel_rfl) rfl rfl ?_
        refine  (S.call Tryd.en127 (vs := [_, _]) ⟨rfl, rfl, trivial⟩ (Less_S (e[F + r]!) (e[F + c]!)) rfl ?_)
        rintro v Θ ⟨rfl, rfl⟩
        refine S.dr_k rfl Sub.ent ?_
        refine S.dr_take 13 [] rfl (by kernel_rfl) rfl rfl rfl (q_not rfl) Sub.ent ?_
        first | with_reducible refine S.dr_doneK (by kernel_rfl) ?_ | refine S.dr_done (by kernel_rfl) ?_
        refine hK8 _ _ ?_
        refine S.cond rfl (fun h3 => ?_) (fun h3 => ?_)
        · have hfin : e = siftDown ltInt hi F lo d := by rw [← hsd, hstep, if_pos h3]
          refine S.ret ?_
          with_reducible repeat (first | refine S.then_n ?_ | refine S.then_x ?_ | refine S.then_r ?_ | refine S.inBlock_n ?_ | refine S.inBlock_r ?_ | refine S.inBlock_x rfl ?_ | refine S.noGoto_r ?_ | refine S.noGoto_n ?_ | refine S.noGoto_x ?_)
          exact S.fin (rs := []) (vs := []) Tryd.results139 (trivial)  (by rw [← hfin]) Sub.ent
        · have hfin : siftDown ltInt hi F c (swp e (F + r) (F + c)) = siftDown ltInt hi F lo d := by rw [← hsd, hstep, if_neg (by rw [h3]; simp)]
          refine S.skip ?_
          with_reducible repeat (first | refine S.then_n ?_ | refine S.then_x ?_ | refine S.then_r ?_ | refine S.inBlock_n ?_ | refine S.inBlock_r ?_ | refine S.inBlock_x rfl ?_ | refine S.noGoto_r ?_ | refine S.noGoto_n ?_ | refine S.noGoto_x ?_)
          refine hK7 _ _ ?_
          refine S.seq fun K9 hK9 => ?_
          refine S.draw ([own s 44 1 (uA e)]) [21] Tryd.mixed ?_
          refine S.dr_take 0 [20, 21, 22, 23] rfl (by kernel_rfl) rfl rfl rfl (q_move rfl) Sub.ent ?_
          refine S.dr_take 1 [3, 20, 21, 22, 23] rfl (by kernel_rfl) rfl rfl rfl (q_move rfl) Sub.ent ?_
          refine S.dr_take 2 [3, 20, 21, 22, 23] rfl (by kernel_rfl) rfl rfl rfl (q_move rfl) Sub.ent ?_
          refine S.dr_take 3 [20, 21, 22, 23] rfl (by kernel_rfl) rfl rfl rfl (q_add rfl rfl (inI64 (by omega) (by omega))) Sub.ent ?_
          refine S.dr_takeP 4 rfl (by kernel_rfl) rfl rfl rfl (q_move rfl) Sub.ent ?_
          refine S.dr_takeP 5 rfl (by kernel_rfl) rfl rfl rfl (q_move rfl) Sub.ent ?_
          refine S.dr_takeP 6 rfl (by kernel_rfl) rfl rfl rfl (q_move rfl) Sub.ent ?_
          refine S.dr_takeP 7 rfl (by kernel_rfl) rfl rfl rfl (q_add rfl rfl (inI64 (by omega) (by omega))) Sub.ent ?_
          refine S.dr_take 8 [12, 13, 20, 21, 22, 23] rfl (by kernel_rfl) rfl rfl rfl (q_move rfl) Sub.ent ?_
          refine S.dr_take 9 [11, 12, 13, 20, 21, 22, 23] rfl (by kernel_rfl) rfl rfl rfl (q_move rfl) Sub.ent ?_
          refine S.dr_take 10 [11, 12, 13, 20, 21, 22, 23] rfl (by kernel_rfl) rfl rfl rfl (q_move rfl) Sub.ent ?_
          refine S.dr_take 11 [12, 13, 20, 21, 22, 23] rfl (by kernel_rfl) rfl rfl rfl (q_add rfl rfl (inI64 (by omega) (by omega))) Sub.ent ?_
          refine S.dr_take 12 [13, 20, 21, 22, 23] rfl (by kernel_rfl) rfl rfl rfl (q_indexO (F + c) Tryd.el31 rfl hsa rfl (by omega) (by omega)) Sub.ent ?_
          refine S.dr_take 13 [20, 21, 22, 23] rfl (by kernel_rfl) rfl rfl rfl (q_loadOw (s) (F + c) Tryd.at44 rfl hsa (by first | rfl | exact Nat.add_assoc _ _ _ | omega) (uA_get (by omega))) Sub.ent ?_
          refine S.dr_take 14 [18, 19, 20, 21, 22, 23] rfl (by kernel_rfl) rfl rfl rfl (q_move rfl) Sub.ent ?_
          refine S.dr_take 15 [17, 18, 19, 20, 21, 22, 23] rfl (by kernel_rfl) rfl rfl rfl (q_move rfl) Sub.ent ?_
          refine S.dr_take 16 [17, 18, 19, 20, 21, 22, 23] rfl (by kernel_rfl) rfl rfl rfl (q_move rfl) Sub.ent ?_
          refine S.dr_take 17 [18, 19, 20, 21, 22, 23] rfl (by kernel_rfl) rfl rfl rfl (q_add rfl rfl (inI64 (by omega) (by omega))) Sub.ent ?_
          refine S.dr_take 18 [19, 20, 21, 22, 23] rfl (by kernel_rfl) rfl rfl rfl (q_indexO (F + r) Tryd.el31 rfl hsa rfl (by omega) (by omega)) Sub.ent ?_
          refine S.dr_take 19 [20, 21, 22, 23] rfl (by kernel_rfl) rfl rfl rfl (q_loadOw (s) (F + r) Tryd.at44 rfl hsa (by first | rfl | exact Nat.add_assoc _ _ _ | omega) (uA_get (by omega))) Sub.ent ?_
          refine S.dr_take 20 [21, 22, 23] rfl (by kernel_rfl) rfl rfl rfl (q_indexO (F + r) Tryd.el31 rfl hsa rfl (by omega) (by omega)) Sub.ent ?_
          refine S.dr_1 (i := 21) (by kernel_rfl) rfl rfl ?_
          refine  (S.storeOw (s) (F + r) Tryd.at44 rfl rfl rfl hsa (by first | rfl | exact Nat.add_assoc _ _ _ | omega) (by rw [uA_len]; omega) (uA_set _ _ _) ?_)
          refine S.dr_late ([]) [] rfl ?_
          refine S.dr_take 22 [] rfl (by kernel_rfl) rfl rfl rfl (q_indexO (F + c) Tryd.el31 rfl hsa rfl (by omega) (by omega)) Sub.ent ?_
          refine S.dr_1 (i := 23) (by kernel_rfl) rfl rfl ?_
          refine  (S.storeOw (s) (F + c) Tryd.at44 rfl rfl rfl hsa (by first | rfl | exact Nat.add_assoc _ _ _ | omega) (by rw [uA_len, Array.size_setIfInBounds]; omega) (show _ = uA (Go.Sort.swp e (F + r) (F + c)) from uA_set _ _ _) ?_)
          refine S.dr_k rfl Sub.ent ?_
          first | with_reducible refine S.dr_doneK (by kernel_rfl) ?_ | refine S.dr_done (by kernel_rfl) ?_
          refine hK9 _ _ ?_
          refine S.region rfl ?_
          refine S.op (S.q (q_move rfl) rfl rfl ?_)
          refine S.op (S.q (q_assign rfl) rfl rfl ?_)
          first | with_reducible refine S.nilK ?_ | refine S.nil ?_
          with_reducible repeat (first | refine S.then_n ?_ | refine S.then_x ?_ | refine S.then_r ?_ | refine S.inBlock_n ?_ | refine S.inBlock_r ?_ | refine S.inBlock_x rfl ?_ | refine S.noGoto_r ?_ | refine S.noGoto_n ?_ | refine S.noGoto_x ?_)
          with_reducible repeat (first | refine S.then_n ?_ | refine S.then_x ?_ | refine S.then_r ?_ | refine S.inBlock_n ?_ | refine S.inBlock_r ?_ | refine S.inBlock_x rfl ?_ | refine S.noGoto_r ?_ | refine S.noGoto_n ?_ | refine S.noGoto_x ?_)
          exact S.next (hi - c) (⟨c, zc, swp e (F + r) (F + c), rfl, hzc, by omega, by rw [swpZ, hes], hfin, rfl, rfl⟩) (by omega) (by repeat (first | exact trivial | refine ⟨rfl, ?_⟩)) Sub.ent
theorem heapSort_S (s : SV) (d : Array Int) (a b : Nat) (hab : a < b) (hb : b ≤ d.size) (hsz : d.size ≤ 65535) (hsn : s.n = d.size) : Spec Tryd.prog 122 [s.v, .int .i64 (a : Int), .int .i64 (b : Int)] [own s 44 1 (uA d)] fun Γ _ Θ => Θ = own s 44 1 (uA (heapSort ltInt d a b)) :: Γ := by
  refine Spec.of_body Tryd.func122 rfl Tryd.ntmps122 rfl ?_
  intro w0 Γ
  show S _ w0 [(0, s.v), (1, .int .i64 (a : Int)), (2, .int .i64 (b : Int))] (own s 44 1 (uA d) :: Γ) _
  have hsift : ∀ hi F lo (e : Array Int), F + hi ≤ e.size → lo ≤ 65535 → e.size = d.size → (siftDown ltInt hi F lo e).size = d.size := fun hi F lo e h1 _ h3 => by
    rw [sift_size, h3]
  refine S.seq fun K1 hK1 => ?_
  refine S.region rfl ?_
  refine S.op (S.q (q_move rfl) rfl rfl ?_)
  refine S.op (S.q (q_assign rfl) rfl rfl ?_)
  first | with_reducible refine S.nilK ?_ | refine S.nil ?_
  refine hK1 _ _ ?_
  refine S.seq fun K2 hK2 => ?_
  refine S.region rfl ?_
  refine S.op (S.q (q_assign rfl) rfl rfl ?_)
  first | with_reducible refine S.nilK ?_ | refine S.nil ?_
  refine hK2 _ _ ?_
  refine S.seq fun K3 hK3 => ?_
  refine S.region rfl ?_
  refine S.op (S.q (q_move rfl) rfl rfl ?_)
  refine S.op (S.q (q_move rfl) rfl rfl ?_)
  refine S.op (S.q (q_sub rfl rfl (inI64 (by omega) (by omega))) rfl rfl ?_)
  refine S.op (S.q (q_assign rfl) rfl rfl ?_)
  first | with_reducible refine S.nilK ?_ | refine S.nil ?_
  refine hK3 _ _ ?_
  refine S.seq fun K4 hK4 => ?_
  refine S.seq fun K5 hK5 => ?_
  refine S.region rfl ?_
  refine S.op (S.q (q_move rfl) rfl rfl ?_)
  refine S.op (S.q (q_sub rfl rfl (inI64 (by omega) (by omega))) rfl rfl ?_)
  refine S.op (S.q (q_quo rfl rfl (⟨by omega, by omega⟩) (inI64 (by omega) (by omega))) rfl rfl ?_)
  refine S.op (S.q (q_assign rfl) rfl rfl ?_)
  first | with_reducible refine S.nilK ?_ | refine S.nil ?_
  refine hK5 _ _ ?_
  refine S.block ?_
  refine S.loop (fun q ρ' Γ' => ∃ (k : Nat) (z : Int) (e : Array Int), q = k ∧ z = (k : Int) - 1 ∧ k ≤ 65535 ∧ e.size = d.size ∧ heapBuild ltInt (b - a) a k e = heapBuild ltInt (b - a) a ((b - a - 1) / 2 + 1) d ∧ ρ' = [(0, s.v), (6, .int .i64 (a : Int)), (7, .int .i64 0), (8, .int .i64 ((b : Int) - a)), (9, .int .i64 z)] ∧ Γ' = own s 44 1 (uA e) :: Γ) (m := _) (ρ0 := _) (Γ0 := _) (⟨(b - a - 1) / 2 + 1, ((b : Int) - a - 1) / 2, d, rfl, by omega, by omega, rfl, rfl, rfl, rfl⟩) (by repeat (first | exact trivial | refine ⟨rfl, ?_⟩)) Sub.ent ?_
  rintro q ρ' Γ' ⟨k, z, e, hq, hz, hk9, hes, hhb, rfl, rfl⟩
  refine S.seq fun K6 hK6 => ?_
  refine S.seq fun K7 hK7 => ?_
  refine S.region rfl ?_
  refine S.op (S.q (q_move rfl) rfl rfl ?_)
  refine S.op (S.q (q_ge rfl rfl) rfl rfl ?_)
  first | with_reducible refine S.nilK ?_ | refine S.nil ?_
  refine hK7 _ _ ?_
  refine S.condD rfl (fun h1 => ?_) (fun h1 => ?_)
  · obtain ⟨k, rfl⟩ : ∃ k', k = k' + 1 := ⟨k - 1, by omega⟩
    refine S.skip ?_
    with_reducible repeat (first | refine S.then_n ?_ | refine S.then_x ?_ | refine S.then_r ?_ | refine S.inBlock_n ?_ | refine S.inBlock_r ?_ | refine S.inBlock_x rfl ?_ | refine S.noGoto_r ?_ | refine S.noGoto_n ?_ | refine S.noGoto_x ?_)
    refine hK6 _ _ ?_
    refine S.seq fun K8 hK8 => ?_
    refine S.block ?_
    refine S.region rfl ?_
    refine S.op (S.q (q_move rfl) rfl rfl ?_)
    refine S.op (S.q (q_move rfl) rfl rfl ?_)
    refine S.op (S.q (q_move rfl) rfl rfl ?_)
    refine S.op (S.q (q_move rfl) rfl rfl ?_)
    refine S.op (S.call Tryd.en139 (vs := [_, _, _, _]) ⟨rfl, rfl, rfl, rfl, trivial⟩ ((by rw [show z = (k : Int) by omega, show ((b : Int) - a) = ((b - a : Nat) : Int) by omega]; exact siftDown_S s e k (b - a) a (by omega) (by omega) (by omega) (by omega))) rfl ?_)
    rintro v Θ rfl
    first | with_reducible refine S.nilK ?_ | refine S.nil ?_
    with_reducible repeat (first | refine S.then_n ?_ | refine S.then_x ?_ | refine S.then_r ?_ | refine S.inBlock_n ?_ | refine S.inBlock_r ?_ | refine S.inBlock_x rfl ?_ | refine S.noGoto_r ?_ | refine S.noGoto_n ?_ | refine S.noGoto_x ?_)
    refine hK8 _ _ ?_
    refine S.region rfl ?_
    refine S.op (S.q (q_move rfl) rfl rfl ?_)
    refine S.op (S.q (q_sub rfl rfl (inI64 (by omega) (by omega))) rfl rfl ?_)
    refine S.op (S.q (q_assign rfl) rfl rfl ?_)
    first | with_reducible refine S.nilK ?_ | refine S.nil ?_
    with_reducible repeat (first | refine S.then_n ?_ | refine S.then_x ?_ | refine S.then_r ?_ | refine S.inBlock_n ?_ | refine S.inBlock_r ?_ | refine S.inBlock_x rfl ?_ | refine S.noGoto_r ?_ | refine S.noGoto_n ?_ | refine S.noGoto_x ?_)
    exact S.next (k) (⟨k, z - 1, siftDown ltInt (b - a) a k e, rfl, by omega, by omega, hsift _ _ _ _ (by omega) (by omega) hes, hhb, rfl, rfl⟩) (by omega) (by repeat (first | exact trivial | refine ⟨rfl, ?_⟩)) Sub.ent
  · have hk0 : k = 0 := by omega
    subst hk0
    have hhb : e = heapBuild ltInt (b - a) a ((b - a - 1) / 2 + 1) d := hhb
    have hhs : heapSort ltInt d a b = heapPop ltInt a (b - a) e := by rw [hhb]; rfl
    refine S.ownSome s (by omega) fun sb so hsa _ _ _ => ?_
    refine S.exit ?_
    with_reducible repeat (first | refine S.then_n ?_ | refine S.then_x ?_ | refine S.then_r ?_ | refine S.inBlock_n ?_ | refine S.inBlock_r ?_ | refine S.inBlock_x rfl ?_ | refine S.noGoto_r ?_ | refine S.noGoto_n ?_ | refine S.noGoto_x ?_)
    with_reducible refine S.inBlock_s ?_
    with_reducible repeat (first | refine S.then_n ?_ | refine S.then_x ?_ | refine S.then_r ?_ | refine S.inBlock_n ?_ | refine S.inBlock_r ?_ | refine S.inBlock_x rfl ?_ | refine S.noGoto_r ?_ | refine S.noGoto_n ?_ | refine S.noGoto_x ?_)
    refine hK4 _ _ ?_
    refine S.seq fun K9 hK9 => ?_
    refine S.region rfl ?_
    refine S.op (S.q (q_move rfl) rfl rfl ?_)
    refine S.op (S.q (q_sub rfl rfl (inI64 (by omega) (by omega))) rfl rfl ?_)
    refine S.op (S.q (q_assign rfl) rfl rfl ?_)
    first | with_reducible refine S.nilK ?_ | refine S.nil ?_
    refine hK9 _ _ ?_
    refine S.block ?_
    refine S.loop (fun q ρ' Γ' => ∃ (k : Nat) (z : Int) (e : Array Int), q = k ∧ z = (k : Int) - 1 ∧ k ≤ b - a ∧ e.size = d.size ∧ heapPop ltInt a k e = heapSort ltInt d a b ∧ ρ' = [(0, s.v), (6, .int .i64 (a : Int)), (7, .int .i64 0), (10, .int .i64 z)] ∧ Γ' = own s 44 1 (uA e) :: Γ) (m := _) (ρ0 := _) (Γ0 := _) (⟨b - a, ((b : Int) - a) - 1, e, rfl, by omega, by omega, hes, hhs.symm, rfl, rfl⟩) (by repeat (first | exact trivial | refine ⟨rfl, ?_⟩)) Sub.ent ?_
    rintro q ρ' Γ' ⟨k, z, e, hq, hz, hk9, hes, hhb, rfl, rfl⟩
    refine S.seq fun K10 hK10 => ?_
    refine S.seq fun K11 hK11 => ?_
    refine S.region rfl ?_
    refine S.op (S.q (q_move rfl) rfl rfl ?_)
    refine S.op (S.q (q_ge rfl rfl) rfl rfl ?_)
    first | with_reducible refine S.nilK ?_ | refine S.nil ?_
    refine hK11 _ _ ?_
    refine S.condD rfl (fun h2 => ?_) (fun h2 => ?_)
    · obtain ⟨k, rfl⟩ : ∃ k', k = k' + 1 := ⟨k - 1, by omega⟩
      refine S.skip ?_
      with_reducible repeat (first | refine S.then_n ?_ | refine S.then_x ?_ | refine S.then_r ?_ | refine S.inBlock_n ?_ | refine S.inBlock_r ?_ | refine S.inBlock_x rfl ?_ | refine S.noGoto_r ?_ | refine S.noGoto_n ?_ | refine S.noGoto_x ?_)
      refine hK10 _ _ ?_
      refine S.seq fun K12 hK12 => ?_
      refine S.block ?_
      refine S.seq fun K13 hK13 => ?_
      refine S.draw ([own s 44 1 (uA e)]) [17] Tryd.mixed ?_
      refine S.dr_take 0 [16, 17, 18, 19] rfl (by kernel_rfl) rfl rfl rfl (q_move rfl) Sub.ent ?_
      refine S.dr_take 1 [16, 17, 18, 19] rfl (by kernel_rfl) rfl rfl rfl (q_move rfl) Sub.ent ?_
      refine S.dr_takeP 2 rfl (by kernel_rfl) rfl rfl rfl (q_move rfl) Sub.ent ?_
      refine S.dr_takeP 3 rfl (by kernel_rfl) rfl rfl rfl (q_move rfl) Sub.ent ?_
      refine S.dr_takeP 4 rfl (by kernel_rfl) rfl rfl rfl (q_move rfl) Sub.ent ?_
      refine S.dr_takeP 5 rfl (by kernel_rfl) rfl rfl rfl (q_add rfl rfl (inI64 (by omega) (by omega))) Sub.ent ?_
      refine S.dr_take 6 [10, 11, 16, 17, 18, 19] rfl (by kernel_rfl) rfl rfl rfl (q_move rfl) Sub.ent ?_
      refine S.dr_take 7 [9, 10, 11, 16, 17, 18, 19] rfl (by kernel_rfl) rfl rfl rfl (q_move rfl) Sub.ent ?_
      refine S.dr_take 8 [9, 10, 11, 16, 17, 18, 19] rfl (by kernel_rfl) rfl rfl rfl (q_move rfl) Sub.ent ?_
      refine S.dr_take 9 [10, 11, 16, 17, 18, 19] rfl (by kernel_rfl) rfl rfl rfl (q_add rfl rfl (inI64 (by omega) (by omega))) Sub.ent ?_
      refine S.dr_take 10 [11, 16, 17, 18, 19] rfl (by kernel_rfl) rfl rfl rfl (q_indexO (a + k) Tryd.el31 rfl hsa rfl (by omega) (by omega)) Sub.ent ?_
      refine S.dr_take 11 [16, 17, 18, 19] rfl (by kernel_rfl) rfl rfl rfl (q_loadOw (s) (a + k) Tryd.at44 rfl hsa (by first | rfl | exact Nat.add_assoc _ _ _ | omega) (uA_get (by omega))) Sub.ent ?_
      refine S.dr_take 12 [14, 15, 16, 17, 18, 19] rfl (by kernel_rfl) rfl rfl rfl (q_move rfl) Sub.ent ?_
      refine S.dr_take 13 [14, 15, 16, 17, 18, 19] rfl (by kernel_rfl) rfl rfl rfl (q_move rfl) Sub.ent ?_
      refine S.dr_take 14 [15, 16, 17, 18, 19] rfl (by kernel_rfl) rfl rfl rfl (q_indexO (a) Tryd.el31 rfl hsa rfl rfl (by omega)) Sub.ent ?_
      refine S.dr_take 15 [16, 17, 18, 19] rfl (by kernel_rfl) rfl rfl rfl (q_loadOw (s) (a) Tryd.at44 rfl hsa (by first | rfl | exact Nat.add_assoc _ _ _ | omega) (uA_get (by omega))) Sub.ent ?_
      refine S.dr_take 16 [17, 18, 19] rfl (by kernel_rfl) rfl rfl rfl (q_indexO (a) Tryd.el31 rfl hsa rfl rfl (by omega)) Sub.ent ?_
      refine S.dr_1 (i := 17) (by kernel_rfl) rfl rfl ?_
      refine  (S.storeOw (s) (a) Tryd.at44 rfl rfl rfl hsa (by first | rfl | exact Nat.add_assoc _ _ _ | omega) (by rw [uA_len]; omega) (uA_set _ _ _) ?_)
      refine S.dr_late ([]) [] rfl ?_
      refine S.dr_take 18 [] rfl (by kernel_rfl) rfl rfl rfl (q_indexO (a + k) Tryd.el31 rfl hsa rfl (by omega) (by omega)) Sub.ent ?_
      refine S.dr_1 (i := 19) (by kernel_rfl) rfl rfl ?_
      refine  (S.storeOw (s) (a + k) Tryd.at44 rfl rfl rfl hsa (by first | rfl | exact Nat.add_assoc _ _ _ | omega) (by rw [uA_len, Array.size_setIfInBounds]; omega) (show _ = uA (Go.Sort.swp e (a) (a + k)) from uA_set _ _ _) ?_)
      refine S.dr_k rfl Sub.ent ?_
      first | with_reducible refine S.dr_doneK (by kernel_rfl) ?_ | refine S.dr_done (by kernel_rfl) ?_
      refine hK13 _ _ ?_
      refine S.region rfl ?_
      refine S.op (S.q (q_move rfl) rfl rfl ?_)
      refine S.op (S.q (q_move rfl) rfl rfl ?_)
      refine S.op (S.q (q_move rfl) rfl rfl ?_)
      refine S.op (S.q (q_move rfl) rfl rfl ?_)
      refine S.op (S.call Tryd.en139 (vs := [_, _, _, _]) ⟨rfl, rfl, rfl, rfl, trivial⟩ ((by rw [show z = (k : Int) by omega]; exact siftDown_S s (swp e a (a + k)) 0 k a (by rw [swpZ]; omega) (by omega) (by rw [swpZ]; omega) (by rw [swpZ]; omega))) rfl ?_)
      rintro v Θ rfl
      first | with_reducible refine S.nilK ?_ | refine S.nil ?_
      with_reducible repeat (first | refine S.then_n ?_ | refine S.then_x ?_ | refine S.then_r ?_ | refine S.inBlock_n ?_ | refine S.inBlock_r ?_ | refine S.inBlock_x rfl ?_ | refine S.noGoto_r ?_ | refine S.noGoto_n ?_ | refine S.noGoto_x ?_)
      refine hK12 _ _ ?_
      refine S.region rfl ?_
      refine S.op (S.q (q_move rfl) rfl rfl ?_)
      refine S.op (S.q (q_sub rfl rfl (inI64 (by omega) (by omega))) rfl rfl ?_)
      refine S.op (S.q (q_assign rfl) rfl rfl ?_)
      first | with_reducible refine S.nilK ?_ | refine S.nil ?_
      with_reducible repeat (first | refine S.then_n ?_ | refine S.then_x ?_ | refine S.then_r ?_ | refine S.inBlock_n ?_ | refine S.inBlock_r ?_ | refine S.inBlock_x rfl ?_ | refine S.noGoto_r ?_ | refine S.noGoto_n ?_ | refine S.noGoto_x ?_)
      exact S.next (k) (⟨k, z - 1, siftDown ltInt k a 0 (swp e a (a + k)), rfl, by omega, by omega, hsift _ _ _ _ (by rw [swpZ]; omega) (by omega) (by rw [swpZ, hes]), hhb, rfl, rfl⟩) (by omega) (by repeat (first | exact trivial | refine ⟨rfl, ?_⟩)) Sub.ent
    · refine S.exit ?_
      with_reducible repeat (first | refine S.then_n ?_ | refine S.then_x ?_ | refine S.then_r ?_ | refine S.inBlock_n ?_ | refine S.inBlock_r ?_ | refine S.inBlock_x rfl ?_ | refine S.noGoto_r ?_ | refine S.noGoto_n ?_ | refine S.noGoto_x ?_)
      with_reducible refine S.inBlock_s ?_
      with_reducible repeat (first | refine S.then_n ?_ | refine S.then_x ?_ | refine S.then_r ?_ | refine S.inBlock_n ?_ | refine S.inBlock_r ?_ | refine S.inBlock_x rfl ?_ | refine S.noGoto_r ?_ | refine S.noGoto_n ?_ | refine S.noGoto_x ?_)
      with_reducible repeat (first | refine S.then_n ?_ | refine S.then_x ?_ | refine S.then_r ?_ | refine S.inBlock_n ?_ | refine S.inBlock_r ?_ | refine S.inBlock_x rfl ?_ | refine S.noGoto_r ?_ | refine S.noGoto_n ?_ | refine S.noGoto_x ?_)
      exact S.finN (rs := []) (vs := []) Tryd.results122 (trivial)  (by have hk0 : k = 0 := (by omega); subst hk0; have hhb : e = heapSort ltInt d a b := hhb; rw [← hhb]) Sub.ent
end Go.Proofs.YtmhdapbfpenjpaaDoor
/- slices.Sort at whole numbers of 32 bits: what chooses, what scatters, what is partly in order. -/
namespace Go.Proofs.YtmhdapbfpenjpaaDoor
open Go.RowKit
open Go.Sort
set_option maxRecDepth 20000
theorem PermIn.sizeZ {a b : Nat} {d e : Array Int} (h : PermIn a b d e) : e.size = d.size := h.1
theorem PermIn.swpZ {a b i j : Nat} {d e : Array Int} (h : PermIn a b d e) (h1 : a ≤ i) (h2 : i < b) (h3 : a ≤ j) (h4 : j < b) (hb : b ≤ d.size) : PermIn a b d (swp e i j) :=
  permIn_trans _ _ _ _ _ h (swp_permIn e a b i j h1 h2 h3 h4 (by rw [h.1]; exact hb))
theorem reverse_S (s : SV) (d : Array Int) (a b : Nat) (hab : a < b) (hb : b ≤ d.size) (hsz : d.size ≤ 65535) (hsn : s.n = d.size) : Spec Tryd.prog 125 [s.v, .int .i64 (a : Int), .int .i64 (b : Int)] [own s 44 1 (uA d)] fun Γ _ Θ => ∃ e, PermIn a b d e ∧ Θ = own s 44 1 (uA e) :: Γ := by
  refine Spec.of_body Tryd.func125 rfl Tryd.ntmps125 rfl ?_
  intro w0 Γ
  show S _ w0 [(0, s.v), (1, .int .i64 (a : Int)), (2, .int .i64 (b : Int))] (own s 44 1 (uA d) :: Γ) _
  refine S.ownSome s (by omega) fun sb so hsa _ _ _ => ?_
  refine S.seq fun K1 hK1 => ?_
  refine S.region rfl ?_
  refine S.op (S.q (q_move rfl) rfl rfl ?_)
  refine S.op (S.q (q_assign rfl) rfl rfl ?_)
  first | with_reducible refine S.nilK ?_ | refine S.nil ?_
  refine hK1 _ _ ?_
  refine S.seq fun K2 hK2 => ?_
  refine S.region rfl ?_
  refine S.op (S.q (q_move rfl) rfl rfl ?_)
  refine S.op (S.q (q_sub rfl rfl (inI64 (by omega) (by omega))) rfl rfl ?_)
  refine S.op (S.q (q_assign rfl) rfl rfl ?_)
  first | with_reducible refine S.nilK ?_ | refine S.nil ?_
  refine hK2 _ _ ?_
  refine S.block ?_
  refine S.loop (fun q ρ' Γ' => ∃ (i j : Nat) (zi zj : Int) (e : Array Int), q = j - i ∧ zi = i ∧ zj = j ∧ a ≤ i ∧ i ≤ b ∧ j < b ∧ e.size = d.size ∧ PermIn a b d e ∧ ρ' = [(0, s.v), (6, .int .i64 zi), (7, .int .i64 zj)] ∧ Γ' = own s 44 1 (uA e) :: Γ) (m := _) (ρ0 := _) (Γ0 := _) (⟨a, b - 1, a, (b : Int) - 1, d, rfl, rfl, by omega, by omega, by omega, by omega, rfl, permIn_refl _ _ _, rfl, rfl⟩) (by repeat (first | exact trivial | refine ⟨rfl, ?_⟩)) Sub.ent ?_
  rintro q ρ' Γ' ⟨i, j, zi, zj, e, hq, hzi, hzj, hai, hib, hjb, hes, hpe, rfl, rfl⟩
  refine S.seq fun K3 hK3 => ?_
  refine S.seq fun K4 hK4 => ?_
  refine S.region rfl ?_
  refine S.op (S.q (q_move rfl) rfl rfl ?_)
  refine S.op (S.q (q_move rfl) rfl rfl ?_)
  refine S.op (S.q (q_lt rfl rfl) rfl rfl ?_)
  first | with_reducible refine S.nilK ?_ | refine S.nil ?_
  refine hK4 _ _ ?_
  refine S.condD rfl (fun h1 => ?_) (fun h1 => ?_)
  · refine S.skip ?_
    with_reducible repeat (first | refine S.then_n ?_ | refine S.then_x ?_ | refine S.then_r ?_ | refine S.inBlock_n ?_ | refine S.inBlock_r ?_ | refine S.inBlock_x rfl ?_ | refine S.noGoto_r ?_ | refine S.noGoto_n ?_ | refine S.noGoto_x ?_)
    refine hK3 _ _ ?_
    refine S.block ?_
    refine S.seq fun K5 hK5 => ?_
    refine S.draw ([own s 44 1 (uA e)]) [13] Tryd.mixed ?_
    refine S.dr_take 0 [12, 13, 14, 15] rfl (by kernel_rfl) rfl rfl rfl (q_move rfl) Sub.ent ?_
    refine S.dr_take 1 [12, 13, 14, 15] rfl (by kernel_rfl) rfl rfl rfl (q_move rfl) Sub.ent ?_
    refine S.dr_takeP 2 rfl (by kernel_rfl) rfl rfl rfl (q_move rfl) Sub.ent ?_
    refine S.dr_takeP 3 rfl (by kernel_rfl) rfl rfl rfl (q_move rfl) Sub.ent ?_
    refine S.dr_take 4 [6, 7, 12, 13, 14, 15] rfl (by kernel_rfl) rfl rfl rfl (q_move rfl) Sub.ent ?_
    refine S.dr_take 5 [6, 7, 12, 13, 14, 15] rfl (by kernel_rfl) rfl rfl rfl (q_move rfl) Sub.ent ?_
    refine S.dr_take 6 [7, 12, 13, 14, 15] rfl (by kernel_rfl) rfl rfl rfl (q_indexO (j) Tryd.el31 rfl hsa rfl hzj (by omega)) Sub.ent ?_
    refine S.dr_take 7 [12, 13, 14, 15] rfl (by kernel_rfl) rfl rfl rfl (q_loadOw (s) (j) Tryd.at44 rfl hsa (by first | rfl | exact Nat.add_assoc _ _ _ | omega) (uA_get (by omega))) Sub.ent ?_
    refine S.dr_take 8 [10, 11, 12, 13, 14, 15] rfl (by kernel_rfl) rfl rfl rfl (q_move rfl) Sub.ent ?_
    refine S.dr_take 9 [10, 11, 12, 13, 14, 15] rfl (by kernel_rfl) rfl rfl rfl (q_move rfl) Sub.ent ?_
    refine S.dr_take 10 [11, 12, 13, 14, 15] rfl (by kernel_rfl) rfl rfl rfl (q_indexO (i) Tryd.el31 rfl hsa rfl hzi (by omega)) Sub.ent ?_
    refine S.dr_take 11 [12, 13, 14, 15] rfl (by kernel_rfl) rfl rfl rfl (q_loadOw (s) (i) Tryd.at44 rfl hsa (by first | rfl | exact Nat.add_assoc _ _ _ | omega) (uA_get (by omega))) Sub.ent ?_
    refine S.dr_take 12 [13, 14, 15] rfl (by kernel_rfl) rfl rfl rfl (q_indexO (i) Tryd.el31 rfl hsa rfl hzi (by omega)) Sub.ent ?_
    refine S.dr_1 (i := 13) (by kernel_rfl) rfl rfl ?_
    refine  (S.storeOw (s) (i) Tryd.at44 rfl rfl rfl hsa (by first | rfl | exact Nat.add_assoc _ _ _ | omega) (by rw [uA_len]; omega) (uA_set _ _ _) ?_)
    refine S.dr_late ([]) [] rfl ?_
    refine S.dr_take 14 [] rfl (by kernel_rfl) rfl rfl rfl (q_indexO (j) Tryd.el31 rfl hsa rfl hzj (by omega)) Sub.ent ?_
    refine S.dr_1 (i := 15) (by kernel_rfl) rfl rfl ?_
    refine  (S.storeOw (s) (j) Tryd.at44 rfl rfl rfl hsa (by first | rfl | exact Nat.add_assoc _ _ _ | omega) (by rw [uA_len, Array.size_setIfInBounds]; omega) (show _ = uA (Go.Sort.swp e (i) (j)) from uA_set _ _ _) ?_)
    refine S.dr_k rfl Sub.ent ?_
    first | with_reducible refine S.dr_doneK (by kernel_rfl) ?_ | refine S.dr_done (by kernel_rfl) ?_
    refine hK5 _ _ ?_
    refine S.seq fun K6 hK6 => ?_
    refine S.region rfl ?_
    refine S.op (S.q (q_move rfl) rfl rfl ?_)
    refine S.op (S.q (q_add rfl rfl (inI64 (by omega) (by omega))) rfl rfl ?_)
    refine S.op (S.q (q_assign rfl) rfl rfl ?_)
    first | with_reducible refine S.nilK ?_ | refine S.nil ?_
    refine hK6 _ _ ?_
    refine S.region rfl ?_
    refine S.op (S.q (q_move rfl) rfl rfl ?_)
    refine S.op (S.q (q_sub rfl rfl (inI64 (by omega) (by omega))) rfl rfl ?_)
    refine S.op (S.q (q_assign rfl) rfl rfl ?_)
    first | with_reducible refine S.nilK ?_ | refine S.nil ?_
    with_reducible repeat (first | refine S.then_n ?_ | refine S.then_x ?_ | refine S.then_r ?_ | refine S.inBlock_n ?_ | refine S.inBlock_r ?_ | refine S.inBlock_x rfl ?_ | refine S.noGoto_r ?_ | refine S.noGoto_n ?_ | refine S.noGoto_x ?_)
    with_reducible repeat (first | refine S.then_n ?_ | refine S.then_x ?_ | refine S.then_r ?_ | refine S.inBlock_n ?_ | refine S.inBlock_r ?_ | refine S.inBlock_x rfl ?_ | refine S.noGoto_r ?_ | refine S.noGoto_n ?_ | refine S.noGoto_x ?_)
    exact S.next (q - 1 - 1) (⟨i + 1, j - 1, zi + 1, zj - 1, swp e i j, by omega, by omega, by omega, by omega, by omega, by omega, by rw [swpZ, hes], PermIn.swpZ (a := a) (b := b) (d := d) (e := e) hpe (by omega) (by omega) (by omega) (by omega) hb, rfl, rfl⟩) (by omega) (by repeat (first | exact trivial | refine ⟨rfl, ?_⟩)) Sub.ent
  · refine S.exit ?_
    with_reducible repeat (first | refine S.then_n ?_ | refine S.then_x ?_ | refine S.then_r ?_ | refine S.inBlock_n ?_ | refine S.inBlock_r ?_ | refine S.inBlock_x rfl ?_ | refine S.noGoto_r ?_ | refine S.noGoto_n ?_ | refine S.noGoto_x ?_)
    with_reducible refine S.inBlock_s ?_
    with_reducible repeat (first | refine S.then_n ?_ | refine S.then_x ?_ | refine S.then_r ?_ | refine S.inBlock_n ?_ | refine S.inBlock_r ?_ | refine S.inBlock_x rfl ?_ | refine S.noGoto_r ?_ | refine S.noGoto_n ?_ | refine S.noGoto_x ?_)
    with_reducible repeat (first | refine S.then_n ?_ | refine S.then_x ?_ | refine S.then_r ?_ | refine S.inBlock_n ?_ | refine S.inBlock_r ?_ | refine S.inBlock_x rfl ?_ | refine S.noGoto_r ?_ | refine S.noGoto_n ?_ | refine S.noGoto_x ?_)
    exact S.finN (rs := []) (vs := []) Tryd.results125 (trivial)  (⟨e, hpe, rfl⟩) Sub.ent
theorem order2_S (s : SV) (d : Array Int) (x y p : Nat) (k K : Int) (hx : x < d.size) (hy : y < d.size) (hk : 0 ≤ k ∧ k ≤ K) (hK : K ≤ 1000) (hsn : s.n = d.size) : Spec Tryd.prog 145 [s.v, .int .i64 (x : Int), .int .i64 (y : Int), .pointer (some ⟨p, 0, none⟩)] [own s 44 1 (uA d), blk p 3 #[.int .i64 k]] fun Γ v Θ =>
    ∃ (u v' : Nat) (k' : Int), (u = x ∧ v' = y ∨ u = y ∧ v' = x) ∧ (0 ≤ k' ∧ k' ≤ K + 1) ∧ v = .tuple #[.int .i64 (u : Int), .int .i64 (v' : Int)] ∧ Θ = own s 44 1 (uA d) :: blk p 3 #[.int .i64 k'] :: Γ := by
  refine Spec.of_body Tryd.func145 rfl Tryd.ntmps145 rfl ?_
  intro w0 Γ
  show S _ w0 [(0, s.v), (1, .int .i64 (x : Int)), (2, .int .i64 (y : Int)), (3, .pointer (some ⟨p, 0, none⟩))] (own s 44 1 (uA d) :: blk p 3 #[.int .i64 k] :: Γ) _
  refine S.ownSome s (by omega) fun sb so hsa _ _ _ => ?_
  refine S.seq fun K1 hK1 => ?_
  refine S.region rfl ?_
  refine S.op (S.q (q_assign rfl) rfl rfl ?_)
  refine S.op (S.q (q_assign rfl) rfl rfl ?_)
  first | with_reducible refine S.nilK ?_ | refine S.nil ?_
  refine hK1 _ _ ?_
  refine S.seq fun K2 hK2 => ?_
  refine S.seq fun K3 hK3 => ?_
  refine S.draw ([own s 44 1 (uA d), blk p 3 #[.int .i64 k]]) [] Tryd.mixed ?_
  refine S.dr_take 0 [] rfl (by kernel_rfl) rfl rfl rfl (q_move rfl) Sub.ent ?_
  refine S.dr_take 1 [] rfl (by kernel_rfl) rfl rfl rfl (q_move rfl) Sub.ent ?_
  refine S.dr_take 2 [] rfl (by kernel_rfl) rfl rfl rfl (q_indexO (y) Tryd.el31 rfl hsa rfl rfl (by omega)) Sub.ent ?_
  refine S.dr_take 3 [] rfl (by kernel_rfl) rfl rfl rfl (q_loadOw (s) (y) Tryd.at44 rfl hsa (by first | rfl | exact Nat.add_assoc _ _ _ | omega) (uA_get hy)) Sub.ent ?_
  refine S.dr_take 4 [] rfl (by kernel_rfl) rfl rfl rfl (q_move rfl) Sub.ent ?_
  refine S.dr_take 5 [] rfl (by kernel_rfl) rfl rfl rfl (q_move rfl) Sub.ent ?_
  refine S.dr_take 6 [] rfl (by kernel_rfl) rfl rfl rfl (q_indexO (x) Tryd.el31 rfl hsa rfl rfl (by omega)) Sub.ent ?_
  refine S.dr_take 7 [] rfl (by kernel_rfl) rfl rfl rfl (q_loadOw (s) (x) Tryd.at44 rfl hsa (by first | rfl | exact Nat.add_assoc _ _ _ | omega) (uA_get hx)) Sub.ent ?_
  refine S.dr_1 (i := 8) (by kernel_rfl) rfl rfl ?_
  refine  (S.call Tryd.en127 (vs := [_, _]) ⟨rfl, rfl, trivial⟩ (Less_S (d[y]!) (d[x]!)) rfl ?_)
  rintro v Θ ⟨rfl, rfl⟩
  refine S.dr_k rfl Sub.ent ?_
  first | with_reducible refine S.dr_doneK (by kernel_rfl) ?_ | refine S.dr_done (by kernel_rfl) ?_
  refine hK3 _ _ ?_
  refine S.cond rfl (fun h1 => ?_) (fun h1 => ?_)
  · refine S.seq fun K4 hK4 => ?_
    refine S.region rfl ?_
    refine S.op (S.q (q_move rfl) rfl rfl ?_)
    refine S.op (S.q (q_nilCheck rfl) rfl rfl ?_)
    refine S.op (S.q (q_load Tryd.at3 rfl rfl) rfl rfl ?_)
    refine S.op (S.q (q_add rfl rfl (inI64 (by omega) (by omega))) rfl rfl ?_)
    refine S.op (S.q (q_nilCheck rfl) rfl rfl ?_)
    refine S.op (S.store (cs' := [_]) Tryd.at3 rfl rfl rfl rfl rfl ?_)
    first | with_reducible refine S.nilK ?_ | refine S.nil ?_
    refine hK4 _ _ ?_
    refine S.seq fun K5 hK5 => ?_
    refine S.region rfl ?_
    refine S.op (S.q (q_move rfl) rfl rfl ?_)
    refine S.op (S.q (q_move rfl) rfl rfl ?_)
    refine S.op (S.q (q_assign rfl) rfl rfl ?_)
    refine S.op (S.q (q_assign rfl) rfl rfl ?_)
    first | with_reducible refine S.nilK ?_ | refine S.nil ?_
    refine hK5 _ _ ?_
    refine S.ret ?_
    with_reducible repeat (first | refine S.then_n ?_ | refine S.then_x ?_ | refine S.then_r ?_ | refine S.inBlock_n ?_ | refine S.inBlock_r ?_ | refine S.inBlock_x rfl ?_ | refine S.noGoto_r ?_ | refine S.noGoto_n ?_ | refine S.noGoto_x ?_)
    exact S.fin (rs := [_, _]) (vs := [_, _]) Tryd.results145 (⟨rfl, rfl, trivial⟩)  (⟨y, x, k + 1, .inr ⟨rfl, rfl⟩, by omega, rfl, rfl⟩) Sub.ent
  · refine S.skip ?_
    with_reducible repeat (first | refine S.then_n ?_ | refine S.then_x ?_ | refine S.then_r ?_ | refine S.inBlock_n ?_ | refine S.inBlock_r ?_ | refine S.inBlock_x rfl ?_ | refine S.noGoto_r ?_ | refine S.noGoto_n ?_ | refine S.noGoto_x ?_)
    refine hK2 _ _ ?_
    refine S.seq fun K6 hK6 => ?_
    refine S.region rfl ?_
    refine S.op (S.q (q_move rfl) rfl rfl ?_)
    refine S.op (S.q (q_move rfl) rfl rfl ?_)
    refine S.op (S.q (q_assign rfl) rfl rfl ?_)
    refine S.op (S.q (q_assign rfl) rfl rfl ?_)
    first | with_reducible refine S.nilK ?_ | refine S.nil ?_
    refine hK6 _ _ ?_
    refine S.ret ?_
    with_reducible repeat (first | refine S.then_n ?_ | refine S.then_x ?_ | refine S.then_r ?_ | refine S.inBlock_n ?_ | refine S.inBlock_r ?_ | refine S.inBlock_x rfl ?_ | refine S.noGoto_r ?_ | refine S.noGoto_n ?_ | refine S.noGoto_x ?_)
    exact S.fin (rs := [_, _]) (vs := [_, _]) Tryd.results145 (⟨rfl, rfl, trivial⟩)  (⟨x, y, k, .inl ⟨rfl, rfl⟩, by omega, rfl, rfl⟩) Sub.ent
theorem median_S (s : SV) (d : Array Int) (x y z p : Nat) (k K : Int) (hx : x < d.size) (hy : y < d.size) (hz : z < d.size) (hk : 0 ≤ k ∧ k ≤ K) (hK : K ≤ 900) (hsn : s.n = d.size) : Spec Tryd.prog 141 [s.v, .int .i64 (x : Int), .int .i64 (y : Int), .int .i64 (z : Int), .pointer (some ⟨p, 0, none⟩)] [own s 44 1 (uA d), blk p 3 #[.int .i64 k]] fun Γ v Θ =>
    ∃ (u : Nat) (k' : Int), (u = x ∨ u = y ∨ u = z) ∧ (0 ≤ k' ∧ k' ≤ K + 3) ∧ v = .int .i64 (u : Int) ∧ Θ = own s 44 1 (uA d) :: blk p 3 #[.int .i64 k'] :: Γ := by
  refine Spec.of_body Tryd.func141 rfl Tryd.ntmps141 rfl ?_
  intro w0 Γ
  show S _ w0 [(0, s.v), (1, .int .i64 (x : Int)), (2, .int .i64 (y : Int)), (3, .int .i64 (z : Int)), (4, .pointer (some ⟨p, 0, none⟩))] (own s 44 1 (uA d) :: blk p 3 #[.int .i64 k] :: Γ) _
  refine S.seq fun K1 hK1 => ?_
  refine S.region rfl ?_
  refine S.op (S.q (q_assign rfl) rfl rfl ?_)
  first | with_reducible refine S.nilK ?_ | refine S.nil ?_
  refine hK1 _ _ ?_
  refine S.seq fun K2 hK2 => ?_
  refine S.region rfl ?_
  refine S.op (S.q (q_move rfl) rfl rfl ?_)
  refine S.op (S.q (q_move rfl) rfl rfl ?_)
  refine S.op (S.q (q_move rfl) rfl rfl ?_)
  refine S.op (S.q (q_move rfl) rfl rfl ?_)
  refine S.op (S.call Tryd.en145 (vs := [_, _, _, _]) ⟨rfl, rfl, rfl, rfl, trivial⟩ (order2_S s d x y p k K hx hy hk (by omega) hsn) rfl ?_)
  rintro v Θ ⟨x1, y1, k1, h1, hk1, rfl, rfl⟩
  refine S.op (S.q (q_move rfl) rfl rfl ?_)
  refine S.op (S.q (q_extract rfl rfl) rfl rfl ?_)
  refine S.op (S.q (q_extract rfl rfl) rfl rfl ?_)
  refine S.op (S.q (q_assign rfl) rfl rfl ?_)
  refine S.op (S.q (q_assign rfl) rfl rfl ?_)
  first | with_reducible refine S.nilK ?_ | refine S.nil ?_
  refine hK2 _ _ ?_
  refine S.seq fun K3 hK3 => ?_
  refine S.region rfl ?_
  refine S.op (S.q (q_move rfl) rfl rfl ?_)
  refine S.op (S.q (q_move rfl) rfl rfl ?_)
  refine S.op (S.q (q_move rfl) rfl rfl ?_)
  refine S.op (S.q (q_move rfl) rfl rfl ?_)
  refine S.op (S.call Tryd.en145 (vs := [_, _, _, _]) ⟨rfl, rfl, rfl, rfl, trivial⟩ (order2_S s d y1 z p k1 (K + 1) (by omega) hz hk1 (by omega) hsn) rfl ?_)
  rintro v Θ ⟨y2, z2, k2, h2, hk2, rfl, rfl⟩
  refine S.op (S.q (q_move rfl) rfl rfl ?_)
  refine S.op (S.q (q_extract rfl rfl) rfl rfl ?_)
  refine S.op (S.q (q_extract rfl rfl) rfl rfl ?_)
  refine S.op (S.q (q_assign rfl) rfl rfl ?_)
  refine S.op (S.q (q_assign rfl) rfl rfl ?_)
  first | with_reducible refine S.nilK ?_ | refine S.nil ?_
  refine hK3 _ _ ?_
  refine S.seq fun K4 hK4 => ?_
  refine S.region rfl ?_
  refine S.op (S.q (q_move rfl) rfl rfl ?_)
  refine S.op (S.q (q_move rfl) rfl rfl ?_)
  refine S.op (S.q (q_move rfl) rfl rfl ?_)
  refine S.op (S.q (q_move rfl) rfl rfl ?_)
  refine S.op (S.call Tryd.en145 (vs := [_, _, _, _]) ⟨rfl, rfl, rfl, rfl, trivial⟩ (order2_S s d x1 y2 p k2 (K + 1 + 1) (by omega) (by omega) hk2 (by omega) hsn) rfl ?_)
  rintro v Θ ⟨x3, y3, k3, h3, hk3, rfl, rfl⟩
  refine S.op (S.q (q_move rfl) rfl rfl ?_)
  refine S.op (S.q (q_extract rfl rfl) rfl rfl ?_)
  refine S.op (S.q (q_extract rfl rfl) rfl rfl ?_)
  refine S.op (S.q (q_assign rfl) rfl rfl ?_)
  refine S.op (S.q (q_assign rfl) rfl rfl ?_)
  first | with_reducible refine S.nilK ?_ | refine S.nil ?_
  refine hK4 _ _ ?_
  refine S.seq fun K5 hK5 => ?_
  refine S.region rfl ?_
  refine S.op (S.q (q_move rfl) rfl rfl ?_)
  refine S.op (S.q (q_assign rfl) rfl rfl ?_)
  first | with_reducible refine S.nilK ?_ | refine S.nil ?_
  refine hK5 _ _ ?_
  refine S.ret ?_
  with_reducible repeat (first | refine S.then_n ?_ | refine S.then_x ?_ | refine S.then_r ?_ | refine S.inBlock_n ?_ | refine S.inBlock_r ?_ | refine S.inBlock_x rfl ?_ | refine S.noGoto_r ?_ | refine S.noGoto_n ?_ | refine S.noGoto_x ?_)
  exact S.fin (rs := [_]) (vs := [_]) Tryd.results141 (⟨rfl, trivial⟩)  (⟨y3, k3, by omega, by omega, rfl, rfl⟩) Sub.ent
theorem medianAdj_S (s : SV) (d : Array Int) (x p : Nat) (k K : Int) (hx0 : 0 < x) (hx : x + 1 < d.size) (hsz : d.size ≤ 65535) (hk : 0 ≤ k ∧ k ≤ K) (hK : K ≤ 900) (hsn : s.n = d.size) : Spec Tryd.prog 140 [s.v, .int .i64 (x : Int), .pointer (some ⟨p, 0, none⟩)] [own s 44 1 (uA d), blk p 3 #[.int .i64 k]] fun Γ v Θ =>
    ∃ (u : Nat) (k' : Int), (x ≤ u + 1 ∧ u ≤ x + 1) ∧ (0 ≤ k' ∧ k' ≤ K + 3) ∧ v = .int .i64 (u : Int) ∧ Θ = own s 44 1 (uA d) :: blk p 3 #[.int .i64 k'] :: Γ := by
  refine Spec.of_body Tryd.func140 rfl Tryd.ntmps140 rfl ?_
  intro w0 Γ
  show S _ w0 [(0, s.v), (1, .int .i64 (x : Int)), (2, .pointer (some ⟨p, 0, none⟩))] (own s 44 1 (uA d) :: blk p 3 #[.int .i64 k] :: Γ) _
  refine S.seq fun K1 hK1 => ?_
  refine S.region rfl ?_
  refine S.op (S.q (q_assign rfl) rfl rfl ?_)
  first | with_reducible refine S.nilK ?_ | refine S.nil ?_
  refine hK1 _ _ ?_
  refine S.seq fun K2 hK2 => ?_
  refine S.region rfl ?_
  refine S.op (S.q (q_move rfl) rfl rfl ?_)
  refine S.op (S.q (q_move rfl) rfl rfl ?_)
  refine S.op (S.q (q_sub rfl rfl (inI64 (by omega) (by omega))) rfl rfl ?_)
  refine S.op (S.q (q_move rfl) rfl rfl ?_)
  refine S.op (S.q (q_move rfl) rfl rfl ?_)
  refine S.op (S.q (q_add rfl rfl (inI64 (by omega) (by omega))) rfl rfl ?_)
  refine S.op (S.q (q_move rfl) rfl rfl ?_)
  refine S.op (S.call Tryd.en141 (vs := [_, _, _, _, _]) ⟨rfl, rfl, rfl, rfl, rfl, trivial⟩ ((by rw [show ((x : Int) - 1) = ((x - 1 : Nat) : Int) by omega]; exact median_S s d (x - 1) x (x + 1) p k K (by omega) (by omega) hx hk hK hsn)) rfl ?_)
  rintro v Θ ⟨u, k', hu, hk', rfl, rfl⟩
  refine S.op (S.q (q_assign rfl) rfl rfl ?_)
  first | with_reducible refine S.nilK ?_ | refine S.nil ?_
  refine hK2 _ _ ?_
  refine S.ret ?_
  with_reducible repeat (first | refine S.then_n ?_ | refine S.then_x ?_ | refine S.then_r ?_ | refine S.inBlock_n ?_ | refine S.inBlock_r ?_ | refine S.inBlock_x rfl ?_ | refine S.noGoto_r ?_ | refine S.noGoto_n ?_ | refine S.noGoto_x ?_)
  exact S.fin (rs := [_]) (vs := [_]) Tryd.results140 (⟨rfl, trivial⟩)  (⟨u, k', by omega, hk', rfl, rfl⟩) Sub.ent
theorem choose_S (s : SV) (d : Array Int) (a b : Nat) (hab : a + 12 < b) (hb : b ≤ d.size) (hsz : d.size ≤ 65535) (hsn : s.n = d.size) : Spec Tryd.prog 124 [s.v, .int .i64 (a : Int), .int .i64 (b : Int)] [own s 44 1 (uA d)] fun Γ v Θ =>
    ∃ (u : Nat) (h : Int), (a ≤ u ∧ u < b) ∧ v = .tuple #[.int .i64 (u : Int), .int .i64 h] ∧ Θ = own s 44 1 (uA d) :: Γ := by
  refine Spec.of_body Tryd.func124 rfl Tryd.ntmps124 rfl ?_
  intro w0 Γ
  show S _ w0 [(0, s.v), (1, .int .i64 (a : Int)), (2, .int .i64 (b : Int))] (own s 44 1 (uA d) :: Γ) _
  obtain ⟨i, hi⟩ : ∃ i : Nat, (i : Int) = a + (b - a) / 4 * 1 := ⟨a + (b - a) / 4 * 1, by omega⟩
  obtain ⟨j, hj⟩ : ∃ j : Nat, (j : Int) = a + (b - a) / 4 * 2 := ⟨a + (b - a) / 4 * 2, by omega⟩
  obtain ⟨l, hl⟩ : ∃ l : Nat, (l : Int) = a + (b - a) / 4 * 3 := ⟨a + (b - a) / 4 * 3, by omega⟩
  refine S.seq fun K1 hK1 => ?_
  refine S.region rfl ?_
  refine S.op (S.q (q_assign rfl) rfl rfl ?_)
  refine S.op (S.q (q_assign rfl) rfl rfl ?_)
  first | with_reducible refine S.nilK ?_ | refine S.nil ?_
  refine hK1 _ _ ?_
  refine S.seq fun K2 hK2 => ?_
  refine S.region rfl ?_
  refine S.op (S.q (q_move rfl) rfl rfl ?_)
  refine S.op (S.q (q_move rfl) rfl rfl ?_)
  refine S.op (S.q (q_sub rfl rfl (inI64 (by omega) (by omega))) rfl rfl ?_)
  refine S.op (S.q (q_assign rfl) rfl rfl ?_)
  first | with_reducible refine S.nilK ?_ | refine S.nil ?_
  refine hK2 _ _ ?_
  refine S.seq fun K3 hK3 => ?_
  refine S.region rfl ?_
  refine S.op (S.alloc Tryd.z3 rfl ?_)
  intro b9
  first | with_reducible refine S.nilK ?_ | refine S.nil ?_
  refine hK3 _ _ ?_
  refine S.seq fun K4 hK4 => ?_
  refine S.region rfl ?_
  refine S.op (S.q (q_move rfl) rfl rfl ?_)
  refine S.op (S.q (q_move rfl) rfl rfl ?_)
  refine S.op (S.q (q_quo rfl rfl (⟨by omega, by omega⟩) (inI64 (by omega) (by omega))) rfl rfl ?_)
  refine S.op (S.q (q_mul rfl rfl (inI64 (by omega) (by omega))) rfl rfl ?_)
  refine S.op (S.q (q_add rfl rfl (inI64 (by omega) (by omega))) rfl rfl ?_)
  refine S.op (S.q (q_assign rfl) rfl rfl ?_)
  first | with_reducible refine S.nilK ?_ | refine S.nil ?_
  refine hK4 _ _ ?_
  refine S.seq fun K5 hK5 => ?_
  refine S.region rfl ?_
  refine S.op (S.q (q_move rfl) rfl rfl ?_)
  refine S.op (S.q (q_move rfl) rfl rfl ?_)
  refine S.op (S.q (q_quo rfl rfl (⟨by omega, by omega⟩) (inI64 (by omega) (by omega))) rfl rfl ?_)
  refine S.op (S.q (q_mul rfl rfl (inI64 (by omega) (by omega))) rfl rfl ?_)
  refine S.op (S.q (q_add rfl rfl (inI64 (by omega) (by omega))) rfl rfl ?_)
  refine S.op (S.q (q_assign rfl) rfl rfl ?_)
  first | with_reducible refine S.nilK ?_ | refine S.nil ?_
  refine hK5 _ _ ?_
  refine S.seq fun K6 hK6 => ?_
  refine S.region rfl ?_
  refine S.op (S.q (q_move rfl) rfl rfl ?_)
  refine S.op (S.q (q_move rfl) rfl rfl ?_)
  refine S.op (S.q (q_quo rfl rfl (⟨by omega, by omega⟩) (inI64 (by omega) (by omega))) rfl rfl ?_)
  refine S.op (S.q (q_mul rfl rfl (inI64 (by omega) (by omega))) rfl rfl ?_)
  refine S.op (S.q (q_add rfl rfl (inI64 (by omega) (by omega))) rfl rfl ?_)
  refine S.op (S.q (q_assign rfl) rfl rfl ?_)
  first | with_reducible refine S.nilK ?_ | refine S.nil ?_
  refine hK6 _ _ ?_
  refine S.seq fun K7 hK7 => ?_
  refine S.seq fun K8 hK8 => ?_
  refine S.region rfl ?_
  rw [← hi, ← hj, ← hl]
  refine S.op (S.q (q_move rfl) rfl rfl ?_)
  refine S.op (S.q (q_ge rfl rfl) rfl rfl ?_)
  first | with_reducible refine S.nilK ?_ | refine S.nil ?_
  refine hK8 _ _ ?_
  refine S.condD rfl (fun h1 => ?_) (fun h1 => ?_)
  · refine S.seq fun K9 hK9 => ?_
    refine S.seq fun K10 hK10 => ?_
    refine S.region rfl ?_
    refine S.op (S.q (q_move rfl) rfl rfl ?_)
    refine S.op (S.q (q_ge rfl rfl) rfl rfl ?_)
    first | with_reducible refine S.nilK ?_ | refine S.nil ?_
    refine hK10 _ _ ?_
    refine S.cut (fun ρ' Γ' => ∃ (i2 j2 l2 : Nat) (k3 : Int), (a ≤ i2 ∧ i2 < b) ∧ (a ≤ j2 ∧ j2 < b) ∧ (a ≤ l2 ∧ l2 < b) ∧ (0 ≤ k3 ∧ k3 ≤ 9) ∧ ρ' = [(0, s.v), (9, .pointer (some ⟨b9, 0, none⟩)), (10, .int .i64 (i2 : Int)), (11, .int .i64 (j2 : Int)), (12, .int .i64 (l2 : Int))] ∧ Γ' = own s 44 1 (uA d) :: blk b9 3 #[.int .i64 k3] :: Γ) ?_ ?_
    · refine S.condD rfl (fun h2 => ?_) (fun h2 => ?_)
      · refine S.seq fun K11 hK11 => ?_
        refine S.region rfl ?_
        refine S.op (S.q (q_move rfl) rfl rfl ?_)
        refine S.op (S.q (q_move rfl) rfl rfl ?_)
        refine S.op (S.call Tryd.en140 (vs := [_, _, _]) ⟨rfl, rfl, rfl, trivial⟩ (medianAdj_S s d i b9 0 0 (by omega) (by omega) hsz (by omega) (by omega) hsn) rfl ?_)
        rintro v Θ ⟨i2, k1, hi2, hk1, rfl, rfl⟩
        refine S.op (S.q (q_assign rfl) rfl rfl ?_)
        first | with_reducible refine S.nilK ?_ | refine S.nil ?_
        refine hK11 _ _ ?_
        refine S.seq fun K12 hK12 => ?_
        refine S.region rfl ?_
        refine S.op (S.q (q_move rfl) rfl rfl ?_)
        refine S.op (S.q (q_move rfl) rfl rfl ?_)
        refine S.op (S.call Tryd.en140 (vs := [_, _, _]) ⟨rfl, rfl, rfl, trivial⟩ (medianAdj_S s d j b9 k1 (0 + 3) (by omega) (by omega) hsz hk1 (by omega) hsn) rfl ?_)
        rintro v Θ ⟨j2, k2, hj2, hk2, rfl, rfl⟩
        refine S.op (S.q (q_assign rfl) rfl rfl ?_)
        first | with_reducible refine S.nilK ?_ | refine S.nil ?_
        refine hK12 _ _ ?_
        refine S.region rfl ?_
        refine S.op (S.q (q_move rfl) rfl rfl ?_)
        refine S.op (S.q (q_move rfl) rfl rfl ?_)
        refine S.op (S.call Tryd.en140 (vs := [_, _, _]) ⟨rfl, rfl, rfl, trivial⟩ (medianAdj_S s d l b9 k2 (0 + 3 + 3) (by omega) (by omega) hsz hk2 (by omega) hsn) rfl ?_)
        rintro v Θ ⟨l2, k3, hl2, hk3, rfl, rfl⟩
        refine S.op (S.q (q_assign rfl) rfl rfl ?_)
        first | with_reducible refine S.nilK ?_ | refine S.nil ?_
        with_reducible repeat (first | refine S.then_n ?_ | refine S.then_x ?_ | refine S.then_r ?_ | refine S.inBlock_n ?_ | refine S.inBlock_r ?_ | refine S.inBlock_x rfl ?_ | refine S.noGoto_r ?_ | refine S.noGoto_n ?_ | refine S.noGoto_x ?_)
        first | exact S.meet ⟨i2, j2, l2, k3, by omega, by omega, by omega, by omega, rfl, rfl⟩ ⟨rfl, rfl, rfl, rfl, rfl, trivial⟩ Sub.ent | exact S.meet ⟨i, j, l, 0, by omega, by omega, by omega, by omega, rfl, rfl⟩ ⟨rfl, rfl, rfl, rfl, rfl, trivial⟩ Sub.ent
      · refine S.skip ?_
        with_reducible repeat (first | refine S.then_n ?_ | refine S.then_x ?_ | refine S.then_r ?_ | refine S.inBlock_n ?_ | refine S.inBlock_r ?_ | refine S.inBlock_x rfl ?_ | refine S.noGoto_r ?_ | refine S.noGoto_n ?_ | refine S.noGoto_x ?_)
        with_reducible repeat (first | refine S.then_n ?_ | refine S.then_x ?_ | refine S.then_r ?_ | refine S.inBlock_n ?_ | refine S.inBlock_r ?_ | refine S.inBlock_x rfl ?_ | refine S.noGoto_r ?_ | refine S.noGoto_n ?_ | refine S.noGoto_x ?_)
        first | exact S.meet ⟨i2, j2, l2, k3, by omega, by omega, by omega, by omega, rfl, rfl⟩ ⟨rfl, rfl, rfl, rfl, rfl, trivial⟩ Sub.ent | exact S.meet ⟨i, j, l, 0, by omega, by omega, by omega, by omega, rfl, rfl⟩ ⟨rfl, rfl, rfl, rfl, rfl, trivial⟩ Sub.ent
    · rintro ρ' Γ' ⟨i2, j2, l2, k3, hi2, hj2, hl2, hk3, rfl, rfl⟩
      refine hK9 _ _ ?_
      refine S.region rfl ?_
      refine S.op (S.q (q_move rfl) rfl rfl ?_)
      refine S.op (S.q (q_move rfl) rfl rfl ?_)
      refine S.op (S.q (q_move rfl) rfl rfl ?_)
      refine S.op (S.q (q_move rfl) rfl rfl ?_)
      refine S.op (S.call Tryd.en141 (vs := [_, _, _, _, _]) ⟨rfl, rfl, rfl, rfl, rfl, trivial⟩ (median_S s d i2 j2 l2 b9 k3 9 (by omega) (by omega) (by omega) hk3 (by omega) hsn) rfl ?_)
      rintro v Θ ⟨u, k4, hu, hk4, rfl, rfl⟩
      refine S.op (S.q (q_assign rfl) rfl rfl ?_)
      first | with_reducible refine S.nilK ?_ | refine S.nil ?_
      refine hK7 _ _ ?_
      refine S.seq fun K13 hK13 => ?_
      refine S.region rfl ?_
      refine S.op (S.q (q_load Tryd.at3 rfl rfl) rfl rfl ?_)
      first | with_reducible refine S.nilK ?_ | refine S.nil ?_
      refine hK13 _ _ ?_
      refine S.block ?_
      refine S.seq fun K14 hK14 => ?_
      refine S.region rfl ?_
      refine S.op (S.q (q_eq rfl rfl) rfl rfl ?_)
      refine S.op (S.q (q_assign rfl) rfl rfl ?_)
      first | with_reducible refine S.nilK ?_ | refine S.nil ?_
      refine hK14 _ _ ?_
      refine S.condD rfl (fun h3 => ?_) (fun h3 => ?_)
      · refine S.seq fun K15 hK15 => ?_
        refine S.region rfl ?_
        refine S.op (S.q (q_move rfl) rfl rfl ?_)
        refine S.op (S.q (q_assign rfl) rfl rfl ?_)
        refine S.op (S.q (q_assign rfl) rfl rfl ?_)
        first | with_reducible refine S.nilK ?_ | refine S.nil ?_
        refine hK15 _ _ ?_
        refine S.ret ?_
        with_reducible repeat (first | refine S.then_n ?_ | refine S.then_x ?_ | refine S.then_r ?_ | refine S.inBlock_n ?_ | refine S.inBlock_r ?_ | refine S.inBlock_x rfl ?_ | refine S.noGoto_r ?_ | refine S.noGoto_n ?_ | refine S.noGoto_x ?_)
        exact S.fin (rs := [_, _]) (vs := [_, _]) Tryd.results124 (⟨rfl, rfl, trivial⟩)  (⟨u, 1, by omega, rfl, rfl⟩) Sub.ent
      · refine S.seq fun K16 hK16 => ?_
        refine S.region rfl ?_
        refine S.op (S.q (q_eq rfl rfl) rfl rfl ?_)
        refine S.op (S.q (q_assign rfl) rfl rfl ?_)
        first | with_reducible refine S.nilK ?_ | refine S.nil ?_
        refine hK16 _ _ ?_
        refine S.condD rfl (fun h4 => ?_) (fun h4 => ?_)
        · refine S.seq fun K17 hK17 => ?_
          refine S.region rfl ?_
          refine S.op (S.q (q_move rfl) rfl rfl ?_)
          refine S.op (S.q (q_assign rfl) rfl rfl ?_)
          refine S.op (S.q (q_assign rfl) rfl rfl ?_)
          first | with_reducible refine S.nilK ?_ | refine S.nil ?_
          refine hK17 _ _ ?_
          refine S.ret ?_
          with_reducible repeat (first | refine S.then_n ?_ | refine S.then_x ?_ | refine S.then_r ?_ | refine S.inBlock_n ?_ | refine S.inBlock_r ?_ | refine S.inBlock_x rfl ?_ | refine S.noGoto_r ?_ | refine S.noGoto_n ?_ | refine S.noGoto_x ?_)
          exact S.fin (rs := [_, _]) (vs := [_, _]) Tryd.results124 (⟨rfl, rfl, trivial⟩)  (⟨u, 2, by omega, rfl, rfl⟩) Sub.ent
        · refine S.seq fun K18 hK18 => ?_
          refine S.region rfl ?_
          refine S.op (S.q (q_move rfl) rfl rfl ?_)
          refine S.op (S.q (q_assign rfl) rfl rfl ?_)
          refine S.op (S.q (q_assign rfl) rfl rfl ?_)
          first | with_reducible refine S.nilK ?_ | refine S.nil ?_
          refine hK18 _ _ ?_
          refine S.ret ?_
          with_reducible repeat (first | refine S.then_n ?_ | refine S.then_x ?_ | refine S.then_r ?_ | refine S.inBlock_n ?_ | refine S.inBlock_r ?_ | refine S.inBlock_x rfl ?_ | refine S.noGoto_r ?_ | refine S.noGoto_n ?_ | refine S.noGoto_x ?_)
          exact S.fin (rs := [_, _]) (vs := [_, _]) Tryd.results124 (⟨rfl, rfl, trivial⟩)  (⟨u, 0, by omega, rfl, rfl⟩) Sub.ent
  · omega
/-! Whole numbers of 64 bits. -/
section
variable {P : Program} {n : Nat} {ρ : Env} {Γ : List Assn} {ty : TypeId} {pos : String} {af : Array Edge} {gd : Option (Nat × Bool)} {ds : Option Tmp}
theorem wrap64_rng (z : Int) : 0 ≤ IntKind.u64.wrap z ∧ IntKind.u64.wrap z ≤ 18446744073709551615 := by
  have e : IntKind.u64.wrap z = z % 18446744073709551616 := by
    simp only [IntKind.wrap, IntKind.bits, IntKind.signed, Bool.false_and, Bool.false_eq_true, if_false]
    rfl
  rw [e]
  have h1 := Int.emod_nonneg z (show (18446744073709551616 : Int) ≠ 0 by decide)
  have h2 := Int.emod_lt_of_pos z (show (0 : Int) < 18446744073709551616 by decide)
  omega
theorem q_shlE {t yt : TypeId} {x y : Operand} {k ky : IntKind} {p q : Int} (m : Nat) (hx : ev ρ x = some (.int k p)) (hy : ev ρ y = some (.int ky q)) (hq : q = ((m : Nat) : Int)) (hm : Nat.ble m k.bits = true) : Qv P n ρ Γ ⟨ds, .binOp .shl t x y yt, ty, pos, af, gd⟩ (.int k (k.wrap (p * 2 ^ m))) := fun a w ha _ => by
  subst hq
  have h0 : ¬ ((m : Int) < 0) := by omega
  have h1 : min m k.bits = m := Nat.min_eq_left (Nat.le_of_ble_eq_true hm)
  simp [execOp, ha.ev hx, ha.ev hy, eqGuard, binOp, Op.shift, h0, h1]
abbrev xorV (p q : Int) : Int := IntKind.u64.wrap ((BitVec.ofInt 64 p ^^^ BitVec.ofInt 64 q).toNat : Int)
theorem q_xorE {t yt : TypeId} {x y : Operand} {p q : Int} (hx : ev ρ x = some (.int .u64 p)) (hy : ev ρ y = some (.int .u64 q)) : Qv P n ρ Γ ⟨ds, .binOp .xor t x y yt, ty, pos, af, gd⟩ (.int .u64 (xorV p q)) := fun a w ha _ => by
  simp [execOp, ha.ev hx, ha.ev hy, eqGuard, binOp, Op.intBits, IntKind.bits]
  rfl
abbrev andV (p q : Int) : Int := IntKind.u64.wrap ((BitVec.ofInt 64 p &&& BitVec.ofInt 64 q).toNat : Int)
theorem q_andE {t yt : TypeId} {x y : Operand} {p q : Int} (hx : ev ρ x = some (.int .u64 p)) (hy : ev ρ y = some (.int .u64 q)) : Qv P n ρ Γ ⟨ds, .binOp .and t x y yt, ty, pos, af, gd⟩ (.int .u64 (andV p q)) := fun a w ha _ => by
  simp [execOp, ha.ev hx, ha.ev hy, eqGuard, binOp, Op.intBits, IntKind.bits]
  rfl
theorem toNat64 {q : Int} (hq : 0 ≤ q ∧ q ≤ 18446744073709551615) : (BitVec.ofInt 64 q).toNat = q.toNat := by
  have e : ((2 ^ 64 : Nat) : Int) = 18446744073709551616 := by decide
  rw [BitVec.toNat_ofInt, e, Int.emod_eq_of_lt hq.1 (by omega)]
theorem andV_le (p : Int) {q : Int} (hq : 0 ≤ q ∧ q ≤ 18446744073709551615) : 0 ≤ andV p q ∧ andV p q ≤ q := by
  have h1 := toNat64 hq
  have h2 : (BitVec.ofInt 64 p &&& BitVec.ofInt 64 q).toNat ≤ q.toNat := by
    rw [BitVec.toNat_and, ← h1]
    exact Nat.and_le_right
  have h3 : andV p q = ((BitVec.ofInt 64 p &&& BitVec.ofInt 64 q).toNat : Int) := wrap_in (inU64 (by omega) (by omega))
  rw [h3]
  omega
/-- The table of how many bits a byte's number takes. -/
def lenOk (bs : ByteArray) : Bool := (List.range 256).all fun i => match bs[i]? with
  | some b => b.toNat == bitsLen i
  | none => false
theorem q_lenAt {t : TypeId} {x y : Operand} {bs : ByteArray} {ky : IntKind} {z : Int} (i : Nat) (ht : P.underlying t = some .string) (hx : ev ρ x = some (.string bs)) (hb : lenOk bs = true) (hy : ev ρ y = some (.int ky z)) (hz : z = ((i : Nat) : Int)) (hi : i < 256) : Qv P n ρ Γ ⟨ds, .index t x y, ty, pos, af, gd⟩ (.int .u8 ((bitsLen i : Nat) : Int)) := fun a w ha _ => by
  subst hz
  have h := List.all_eq_true.1 hb i (List.mem_range.2 hi)
  cases e : bs[i]? with
  | none => rw [e] at h; cases h
  | some b =>
    rw [e] at h
    have h : b.toNat = bitsLen i := by simpa using h
    simp [execOp, ha.ev hx, ha.ev hy, Instr.index, asIntOf, run_underlying ht, e, h]
end
theorem bitsLen_256 {x : Nat} (h : 256 ≤ x) : bitsLen x = bitsLen (x / 256) + 8 := by
  have key : ∀ k, bitsLen x ≤ k ↔ bitsLen (x / 256) + 8 ≤ k := fun k => by
    rw [bitsLen_le_iff]
    by_cases hk : k < 8
    · have h1 : 2 ^ k ≤ 2 ^ 8 := Nat.pow_le_pow_right (by omega) (by omega)
      constructor
      · intro h2; omega
      · intro h2; omega
    · obtain ⟨m, rfl⟩ : ∃ m, k = m + 8 := ⟨k - 8, by omega⟩
      have h1 := bitsLen_le_iff (x / 256) m
      have h2 : x / 256 < 2 ^ m ↔ x < 2 ^ (m + 8) := by rw [Nat.div_lt_iff_lt_mul (by omega), Nat.pow_add]
      rw [← h2, ← h1]
      omega
  have h1 := (key _).1 (Nat.le_refl _)
  have h2 := (key _).2 (Nat.le_refl _)
  omega
theorem Len64_S (x : Nat) (hx : x < 65536) : Spec Tryd.prog 110 [.int .u64 (x : Int)] [] fun Γ v Θ => v = .int .i64 (bitsLen x : Nat) ∧ Θ = Γ := by
  refine Spec.of_body Tryd.func110 rfl Tryd.ntmps110 rfl ?_
  intro w0 Γ
  show S _ w0 [(0, .int .u64 (x : Int))] Γ _
  have hle : ∀ i, i < 256 → bitsLen i ≤ 8 := fun i hi => (bitsLen_le_iff i 8).2 hi
  refine S.seq fun K1 hK1 => ?_
  refine S.region rfl ?_
  refine S.op (S.q (q_assign rfl) rfl rfl ?_)
  first | with_reducible refine S.nilK ?_ | refine S.nil ?_
  refine hK1 _ _ ?_
  refine S.seq fun K2 hK2 => ?_
  refine S.seq fun K3 hK3 => ?_
  refine S.region rfl ?_
  refine S.op (S.q (q_move rfl) rfl rfl ?_)
  refine S.op (S.q (q_ge rfl rfl) rfl rfl ?_)
  first | with_reducible refine S.nilK ?_ | refine S.nil ?_
  refine hK3 _ _ ?_
  refine S.condD rfl (fun h1 => ?_) (fun h1 => ?_)
  · omega
  · refine S.skip ?_
    with_reducible repeat (first | refine S.then_n ?_ | refine S.then_x ?_ | refine S.then_r ?_ | refine S.inBlock_n ?_ | refine S.inBlock_r ?_ | refine S.inBlock_x rfl ?_ | refine S.noGoto_r ?_ | refine S.noGoto_n ?_ | refine S.noGoto_x ?_)
    refine hK2 _ _ ?_
    refine S.seq fun K4 hK4 => ?_
    refine S.seq fun K5 hK5 => ?_
    refine S.region rfl ?_
    refine S.op (S.q (q_move rfl) rfl rfl ?_)
    refine S.op (S.q (q_ge rfl rfl) rfl rfl ?_)
    first | with_reducible refine S.nilK ?_ | refine S.nil ?_
    refine hK5 _ _ ?_
    refine S.condD rfl (fun h2 => ?_) (fun h2 => ?_)
    · omega
    · refine S.skip ?_
      with_reducible repeat (first | refine S.then_n ?_ | refine S.then_x ?_ | refine S.then_r ?_ | refine S.inBlock_n ?_ | refine S.inBlock_r ?_ | refine S.inBlock_x rfl ?_ | refine S.noGoto_r ?_ | refine S.noGoto_n ?_ | refine S.noGoto_x ?_)
      refine hK4 _ _ ?_
      refine S.seq fun K6 hK6 => ?_
      refine S.seq fun K7 hK7 => ?_
      refine S.region rfl ?_
      refine S.op (S.q (q_move rfl) rfl rfl ?_)
      refine S.op (S.q (q_ge rfl rfl) rfl rfl ?_)
      first | with_reducible refine S.nilK ?_ | refine S.nil ?_
      refine hK7 _ _ ?_
      refine S.condD rfl (fun h3 => ?_) (fun h3 => ?_)
      · have e3 : ((x : Int) / 2 ^ 8) = ((x / 256 : Nat) : Int) := by omega
        have h25 := hle (x / 256) (by omega)
        have hfin : (0 : Int) + 8 + (bitsLen (x / 256) : Nat) = (bitsLen x : Nat) := by rw [bitsLen_256 (x := x) (by omega)]; omega
        refine S.seq fun K8 hK8 => ?_
        refine S.region rfl ?_
        refine S.op (S.q (q_move rfl) rfl rfl ?_)
        refine S.op (S.q (q_shr 8 rfl rfl rfl rfl) rfl rfl ?_)
        refine S.op (S.q (q_assign rfl) rfl rfl ?_)
        first | with_reducible refine S.nilK ?_ | refine S.nil ?_
        refine hK8 _ _ ?_
        refine S.region rfl ?_
        refine S.op (S.q (q_move rfl) rfl rfl ?_)
        refine S.op (S.q (q_add rfl rfl (inI64 (by omega) (by omega))) rfl rfl ?_)
        refine S.op (S.q (q_assign rfl) rfl rfl ?_)
        first | with_reducible refine S.nilK ?_ | refine S.nil ?_
        refine hK6 _ _ ?_
        refine S.seq fun K9 hK9 => ?_
        refine S.region rfl ?_
        refine S.op (S.q (q_move rfl) rfl rfl ?_)
        refine S.op (S.q (q_move rfl) rfl rfl ?_)
        refine S.op (S.q (q_conv Tryd.it5 (by rw [Tryd.underlying184]; rfl) rfl (inU8 (by omega) (by omega))) rfl rfl ?_)
        refine S.op (S.q (q_lenAt _ Tryd.underlying9 rfl (by kernel_rfl) rfl e3 (by omega)) rfl rfl ?_)
        refine S.op (S.q (q_conv Tryd.it3 (by rw [Tryd.underlying5]; rfl) rfl (inI64 (by omega) (by omega))) rfl rfl ?_)
        refine S.op (S.q (q_add rfl rfl (inI64 (by omega) (by omega))) rfl rfl ?_)
        refine S.op (S.q (q_assign rfl) rfl rfl ?_)
        first | with_reducible refine S.nilK ?_ | refine S.nil ?_
        refine hK9 _ _ ?_
        refine S.ret ?_
        with_reducible repeat (first | refine S.then_n ?_ | refine S.then_x ?_ | refine S.then_r ?_ | refine S.inBlock_n ?_ | refine S.inBlock_r ?_ | refine S.inBlock_x rfl ?_ | refine S.noGoto_r ?_ | refine S.noGoto_n ?_ | refine S.noGoto_x ?_)
        exact S.fin (rs := [_]) (vs := [_]) Tryd.results110 (⟨rfl, trivial⟩)  (⟨by simp only [resV]; rw [hfin], rfl⟩) Sub.ent
      · have e3 : (x : Int) = ((x : Nat) : Int) := rfl
        have h25 := hle x (by omega)
        have hfin : (0 : Int) + (bitsLen x : Nat) = (bitsLen x : Nat) := by omega
        refine S.skip ?_
        with_reducible repeat (first | refine S.then_n ?_ | refine S.then_x ?_ | refine S.then_r ?_ | refine S.inBlock_n ?_ | refine S.inBlock_r ?_ | refine S.inBlock_x rfl ?_ | refine S.noGoto_r ?_ | refine S.noGoto_n ?_ | refine S.noGoto_x ?_)
        refine hK6 _ _ ?_
        refine S.seq fun K10 hK10 => ?_
        refine S.region rfl ?_
        refine S.op (S.q (q_move rfl) rfl rfl ?_)
        refine S.op (S.q (q_move rfl) rfl rfl ?_)
        refine S.op (S.q (q_conv Tryd.it5 (by rw [Tryd.underlying184]; rfl) rfl (inU8 (by omega) (by omega))) rfl rfl ?_)
        refine S.op (S.q (q_lenAt _ Tryd.underlying9 rfl (by kernel_rfl) rfl e3 (by omega)) rfl rfl ?_)
        refine S.op (S.q (q_conv Tryd.it3 (by rw [Tryd.underlying5]; rfl) rfl (inI64 (by omega) (by omega))) rfl rfl ?_)
        refine S.op (S.q (q_add rfl rfl (inI64 (by omega) (by omega))) rfl rfl ?_)
        refine S.op (S.q (q_assign rfl) rfl rfl ?_)
        first | with_reducible refine S.nilK ?_ | refine S.nil ?_
        refine hK10 _ _ ?_
        refine S.ret ?_
        with_reducible repeat (first | refine S.then_n ?_ | refine S.then_x ?_ | refine S.then_r ?_ | refine S.inBlock_n ?_ | refine S.inBlock_r ?_ | refine S.inBlock_x rfl ?_ | refine S.noGoto_r ?_ | refine S.noGoto_n ?_ | refine S.noGoto_x ?_)
        exact S.fin (rs := [_]) (vs := [_]) Tryd.results110 (⟨rfl, trivial⟩)  (⟨by simp only [resV]; rw [hfin], rfl⟩) Sub.ent
theorem Len_S (x : Nat) (hx : x < 65536) : Spec Tryd.prog 92 [.int .u64 (x : Int)] [] fun Γ v Θ => v = .int .i64 (bitsLen x : Nat) ∧ Θ = Γ := by
  refine Spec.of_body Tryd.func92 rfl Tryd.ntmps92 rfl ?_
  intro w0 Γ
  show S _ w0 [(0, .int .u64 (x : Int))] Γ _
  refine S.seq fun K1 hK1 => ?_
  refine S.region rfl ?_
  refine S.op (S.q (q_assign rfl) rfl rfl ?_)
  first | with_reducible refine S.nilK ?_ | refine S.nil ?_
  refine hK1 _ _ ?_
  refine S.seq fun K2 hK2 => ?_
  refine S.condF rfl ?_
  refine S.skip ?_
  with_reducible repeat (first | refine S.then_n ?_ | refine S.then_x ?_ | refine S.then_r ?_ | refine S.inBlock_n ?_ | refine S.inBlock_r ?_ | refine S.inBlock_x rfl ?_ | refine S.noGoto_r ?_ | refine S.noGoto_n ?_ | refine S.noGoto_x ?_)
  refine hK2 _ _ ?_
  refine S.seq fun K3 hK3 => ?_
  refine S.region rfl ?_
  refine S.op (S.q (q_move rfl) rfl rfl ?_)
  refine S.op (S.call Tryd.en110 (vs := [_]) ⟨rfl, trivial⟩ (Len64_S x hx) rfl ?_)
  rintro v Θ ⟨rfl, rfl⟩
  refine S.op (S.q (q_assign rfl) rfl rfl ?_)
  first | with_reducible refine S.nilK ?_ | refine S.nil ?_
  refine hK3 _ _ ?_
  refine S.ret ?_
  with_reducible repeat (first | refine S.then_n ?_ | refine S.then_x ?_ | refine S.then_r ?_ | refine S.inBlock_n ?_ | refine S.inBlock_r ?_ | refine S.inBlock_x rfl ?_ | refine S.noGoto_r ?_ | refine S.noGoto_n ?_ | refine S.noGoto_x ?_)
  exact S.fin (rs := [_]) (vs := [_]) Tryd.results92 (⟨rfl, trivial⟩)  (⟨rfl, rfl⟩) Sub.ent
theorem nextPow_S (x : Nat) (hx0 : 0 < x) (hx : x < 65536) : Spec Tryd.prog 117 [.int .i64 (x : Int)] [] fun Γ v Θ => ∃ p : Int, (x < p ∧ p ≤ 2 * x) ∧ v = .int .u64 p ∧ Θ = Γ := by
  refine Spec.of_body Tryd.func117 rfl Tryd.ntmps117 rfl ?_
  intro w0 Γ
  show S _ w0 [(0, .int .i64 (x : Int))] Γ _
  have h1 := lt_two_pow_bitsLen x
  have h2 := two_pow_bitsLen_le hx0
  have hb : bitsLen x ≤ 16 := (bitsLen_le_iff x 16).2 (by omega)
  have e2 : ((1 : Int) * 2 ^ bitsLen x) = ((2 ^ bitsLen x : Nat) : Int) := by rw [Int.one_mul]; norm_cast
  have hw : IntKind.u64.wrap ((1 : Int) * 2 ^ bitsLen x) = ((2 ^ bitsLen x : Nat) : Int) := by rw [e2]; exact wrap_in (inU64 (by omega) (by omega))
  refine S.seq fun K1 hK1 => ?_
  refine S.region rfl ?_
  refine S.op (S.q (q_assign rfl) rfl rfl ?_)
  first | with_reducible refine S.nilK ?_ | refine S.nil ?_
  refine hK1 _ _ ?_
  refine S.seq fun K2 hK2 => ?_
  refine S.region rfl ?_
  refine S.op (S.q (q_move rfl) rfl rfl ?_)
  refine S.op (S.q (q_conv Tryd.it165 (by rw [Tryd.underlying3]; rfl) rfl (inU64 (by omega) (by omega))) rfl rfl ?_)
  refine S.op (S.call Tryd.en92 (vs := [_]) ⟨rfl, trivial⟩ (Len_S x hx) rfl ?_)
  rintro v Θ ⟨rfl, rfl⟩
  refine S.op (S.q (q_shlE (bitsLen x) rfl rfl rfl (Nat.ble_eq_true_of_le (Nat.le_trans hb (by decide)))) rfl rfl ?_)
  refine S.op (S.q (q_assign rfl) rfl rfl ?_)
  first | with_reducible refine S.nilK ?_ | refine S.nil ?_
  refine hK2 _ _ ?_
  refine S.ret ?_
  with_reducible repeat (first | refine S.then_n ?_ | refine S.then_x ?_ | refine S.then_r ?_ | refine S.inBlock_n ?_ | refine S.inBlock_r ?_ | refine S.inBlock_x rfl ?_ | refine S.noGoto_r ?_ | refine S.noGoto_n ?_ | refine S.noGoto_x ?_)
  exact S.fin (rs := [_]) (vs := [_]) Tryd.results117 (⟨rfl, trivial⟩)  (⟨_, ⟨by rw [hw]; omega, by rw [hw]; omega⟩, rfl, rfl⟩) Sub.ent
theorem xorNext_S (b : Nat) (r : Int) : Spec Tryd.prog 118 [.pointer (some ⟨b, 0, none⟩)] [blk b 189 #[.int .u64 r]] fun Γ v Θ => ∃ r', v = .int .u64 r' ∧ Θ = blk b 189 #[.int .u64 r'] :: Γ := by
  refine Spec.of_body Tryd.func118 rfl Tryd.ntmps118 rfl ?_
  intro w0 Γ
  show S _ w0 [(0, .pointer (some ⟨b, 0, none⟩))] (blk b 189 #[.int .u64 r] :: Γ) _
  refine S.seq fun K1 hK1 => ?_
  refine S.region rfl ?_
  refine S.op (S.q (q_assign rfl) rfl rfl ?_)
  first | with_reducible refine S.nilK ?_ | refine S.nil ?_
  refine hK1 _ _ ?_
  refine S.seq fun K2 hK2 => ?_
  refine S.draw ([blk b 189 #[.int .u64 r]]) [9] Tryd.mixed ?_
  refine S.dr_take 0 [1, 2, 7, 8, 9] rfl (by kernel_rfl) rfl rfl rfl (q_move rfl) Sub.ent ?_
  refine S.dr_take 1 [2, 7, 8, 9] rfl (by kernel_rfl) rfl rfl rfl (q_nilCheck rfl) Sub.ent ?_
  refine S.dr_take 2 [7, 8, 9] rfl (by kernel_rfl) rfl rfl rfl (q_load Tryd.at189 rfl rfl) Sub.ent ?_
  refine S.dr_take 3 [4, 5, 6, 7, 8, 9] rfl (by kernel_rfl) rfl rfl rfl (q_move rfl) Sub.ent ?_
  refine S.dr_take 4 [5, 6, 7, 8, 9] rfl (by kernel_rfl) rfl rfl rfl (q_nilCheck rfl) Sub.ent ?_
  refine S.dr_take 5 [6, 7, 8, 9] rfl (by kernel_rfl) rfl rfl rfl (q_load Tryd.at189 rfl rfl) Sub.ent ?_
  refine S.dr_take 6 [7, 8, 9] rfl (by kernel_rfl) rfl rfl rfl (q_shlE 13 rfl rfl rfl rfl) Sub.ent ?_
  refine S.dr_take 7 [8, 9] rfl (by kernel_rfl) rfl rfl rfl (q_xorE rfl rfl) Sub.ent ?_
  refine S.dr_take 8 [9] rfl (by kernel_rfl) rfl rfl rfl (q_nilCheck rfl) Sub.ent ?_
  refine S.dr_1 (i := 9) (by kernel_rfl) rfl rfl ?_
  generalize xorV r (IntKind.u64.wrap (r * 2 ^ 13)) = r1
  refine  (S.store (cs' := [_]) Tryd.at189 rfl rfl rfl rfl rfl ?_)
  refine S.dr_late ([]) [] rfl ?_
  first | with_reducible refine S.dr_doneK (by kernel_rfl) ?_ | refine S.dr_done (by kernel_rfl) ?_
  refine hK2 _ _ ?_
  refine S.seq fun K3 hK3 => ?_
  refine S.draw ([blk b 189 #[.int .u64 r1]]) [9] Tryd.mixed ?_
  refine S.dr_take 0 [1, 2, 7, 8, 9] rfl (by kernel_rfl) rfl rfl rfl (q_move rfl) Sub.ent ?_
  refine S.dr_take 1 [2, 7, 8, 9] rfl (by kernel_rfl) rfl rfl rfl (q_nilCheck rfl) Sub.ent ?_
  refine S.dr_take 2 [7, 8, 9] rfl (by kernel_rfl) rfl rfl rfl (q_load Tryd.at189 rfl rfl) Sub.ent ?_
  refine S.dr_take 3 [4, 5, 6, 7, 8, 9] rfl (by kernel_rfl) rfl rfl rfl (q_move rfl) Sub.ent ?_
  refine S.dr_take 4 [5, 6, 7, 8, 9] rfl (by kernel_rfl) rfl rfl rfl (q_nilCheck rfl) Sub.ent ?_
  refine S.dr_take 5 [6, 7, 8, 9] rfl (by kernel_rfl) rfl rfl rfl (q_load Tryd.at189 rfl rfl) Sub.ent ?_
  refine S.dr_take 6 [7, 8, 9] rfl (by kernel_rfl) rfl rfl rfl (q_shr 7 rfl rfl rfl rfl) Sub.ent ?_
  refine S.dr_take 7 [8, 9] rfl (by kernel_rfl) rfl rfl rfl (q_xorE rfl rfl) Sub.ent ?_
  refine S.dr_take 8 [9] rfl (by kernel_rfl) rfl rfl rfl (q_nilCheck rfl) Sub.ent ?_
  refine S.dr_1 (i := 9) (by kernel_rfl) rfl rfl ?_
  generalize xorV r1 (r1 / 2 ^ 7) = r2
  refine  (S.store (cs' := [_]) Tryd.at189 rfl rfl rfl rfl rfl ?_)
  refine S.dr_late ([]) [] rfl ?_
  first | with_reducible refine S.dr_doneK (by kernel_rfl) ?_ | refine S.dr_done (by kernel_rfl) ?_
  refine hK3 _ _ ?_
  refine S.seq fun K4 hK4 => ?_
  refine S.draw ([blk b 189 #[.int .u64 r2]]) [9] Tryd.mixed ?_
  refine S.dr_take 0 [1, 2, 7, 8, 9] rfl (by kernel_rfl) rfl rfl rfl (q_move rfl) Sub.ent ?_
  refine S.dr_take 1 [2, 7, 8, 9] rfl (by kernel_rfl) rfl rfl rfl (q_nilCheck rfl) Sub.ent ?_
  refine S.dr_take 2 [7, 8, 9] rfl (by kernel_rfl) rfl rfl rfl (q_load Tryd.at189 rfl rfl) Sub.ent ?_
  refine S.dr_take 3 [4, 5, 6, 7, 8, 9] rfl (by kernel_rfl) rfl rfl rfl (q_move rfl) Sub.ent ?_
  refine S.dr_take 4 [5, 6, 7, 8, 9] rfl (by kernel_rfl) rfl rfl rfl (q_nilCheck rfl) Sub.ent ?_
  refine S.dr_take 5 [6, 7, 8, 9] rfl (by kernel_rfl) rfl rfl rfl (q_load Tryd.at189 rfl rfl) Sub.ent ?_
  refine S.dr_take 6 [7, 8, 9] rfl (by kernel_rfl) rfl rfl rfl (q_shlE 17 rfl rfl rfl rfl) Sub.ent ?_
  refine S.dr_take 7 [8, 9] rfl (by kernel_rfl) rfl rfl rfl (q_xorE rfl rfl) Sub.ent ?_
  refine S.dr_take 8 [9] rfl (by kernel_rfl) rfl rfl rfl (q_nilCheck rfl) Sub.ent ?_
  refine S.dr_1 (i := 9) (by kernel_rfl) rfl rfl ?_
  generalize xorV r2 (IntKind.u64.wrap (r2 * 2 ^ 17)) = r3
  refine  (S.store (cs' := [_]) Tryd.at189 rfl rfl rfl rfl rfl ?_)
  refine S.dr_late ([]) [] rfl ?_
  first | with_reducible refine S.dr_doneK (by kernel_rfl) ?_ | refine S.dr_done (by kernel_rfl) ?_
  refine hK4 _ _ ?_
  refine S.seq fun K5 hK5 => ?_
  refine S.region rfl ?_
  refine S.op (S.q (q_move rfl) rfl rfl ?_)
  refine S.op (S.q (q_nilCheck rfl) rfl rfl ?_)
  refine S.op (S.q (q_load Tryd.at189 rfl rfl) rfl rfl ?_)
  refine S.op (S.q (q_assign rfl) rfl rfl ?_)
  first | with_reducible refine S.nilK ?_ | refine S.nil ?_
  refine hK5 _ _ ?_
  refine S.ret ?_
  with_reducible repeat (first | refine S.then_n ?_ | refine S.then_x ?_ | refine S.then_r ?_ | refine S.inBlock_n ?_ | refine S.inBlock_r ?_ | refine S.inBlock_x rfl ?_ | refine S.noGoto_r ?_ | refine S.noGoto_n ?_ | refine S.noGoto_x ?_)
  exact S.fin (rs := [_]) (vs := [_]) Tryd.results118 (⟨rfl, trivial⟩)  (⟨_, rfl, rfl⟩) Sub.ent
theorem break_S (s : SV) (d : Array Int) (a b : Nat) (hab : a + 12 < b) (hb : b ≤ d.size) (hsz : d.size ≤ 65535) (hsn : s.n = d.size) : Spec Tryd.prog 123 [s.v, .int .i64 (a : Int), .int .i64 (b : Int)] [own s 44 1 (uA d)] fun Γ _ Θ => ∃ e, PermIn a b d e ∧ Θ = own s 44 1 (uA e) :: Γ := by
  refine Spec.of_body Tryd.func123 rfl Tryd.ntmps123 rfl ?_
  intro w0 Γ
  show S _ w0 [(0, s.v), (1, .int .i64 (a : Int)), (2, .int .i64 (b : Int))] (own s 44 1 (uA d) :: Γ) _
  refine S.ownSome s (by omega) fun sb so hsa _ _ _ => ?_
  obtain ⟨l, hl⟩ : ∃ l : Nat, (l : Int) = (b : Int) - a := ⟨b - a, by omega⟩
  refine S.seq fun K1 hK1 => ?_
  refine S.region rfl ?_
  refine S.op (S.q (q_move rfl) rfl rfl ?_)
  refine S.op (S.q (q_move rfl) rfl rfl ?_)
  refine S.op (S.q (q_sub rfl rfl (inI64 (by omega) (by omega))) rfl rfl ?_)
  refine S.op (S.q (q_assign rfl) rfl rfl ?_)
  first | with_reducible refine S.nilK ?_ | refine S.nil ?_
  refine hK1 _ _ ?_
  refine S.seq fun K2 hK2 => ?_
  refine S.region rfl ?_
  refine S.op (S.q (q_move rfl) rfl rfl ?_)
  refine S.op (S.q (q_ge rfl rfl) rfl rfl ?_)
  first | with_reducible refine S.nilK ?_ | refine S.nil ?_
  refine hK2 _ _ ?_
  refine S.condD rfl (fun h1 => ?_) (fun h1 => ?_)
  · refine S.seq fun K3 hK3 => ?_
    refine S.region rfl ?_
    refine S.op (S.q (q_move rfl) rfl rfl ?_)
    rw [← hl]
    refine S.op (S.q (q_conv Tryd.it189 (by rw [Tryd.underlying3]; rfl) rfl (inU64 (by omega) (by omega))) rfl rfl ?_)
    refine S.op (S.alloc Tryd.z189 rfl ?_)
    intro b7
    refine S.op (S.store (cs' := [_]) Tryd.at189 rfl rfl rfl rfl rfl ?_)
    first | with_reducible refine S.nilK ?_ | refine S.nil ?_
    refine hK3 _ _ ?_
    refine S.seq fun K4 hK4 => ?_
    refine S.region rfl ?_
    refine S.op (S.q (q_move rfl) rfl rfl ?_)
    refine S.op (S.call Tryd.en117 (vs := [_]) ⟨rfl, trivial⟩ (nextPow_S l (by omega) (by omega)) rfl ?_)
    rintro v Θ ⟨p, hp, rfl, rfl⟩
    refine S.op (S.q (q_assign rfl) rfl rfl ?_)
    first | with_reducible refine S.nilK ?_ | refine S.nil ?_
    refine hK4 _ _ ?_
    refine S.seq fun K5 hK5 => ?_
    refine S.region rfl ?_
    refine S.op (S.q (q_move rfl) rfl rfl ?_)
    refine S.op (S.q (q_move rfl) rfl rfl ?_)
    refine S.op (S.q (q_quo rfl rfl (⟨by omega, by omega⟩) (inI64 (by omega) (by omega))) rfl rfl ?_)
    refine S.op (S.q (q_mul rfl rfl (inI64 (by omega) (by omega))) rfl rfl ?_)
    refine S.op (S.q (q_add rfl rfl (inI64 (by omega) (by omega))) rfl rfl ?_)
    refine S.op (S.q (q_sub rfl rfl (inI64 (by omega) (by omega))) rfl rfl ?_)
    refine S.op (S.q (q_assign rfl) rfl rfl ?_)
    first | with_reducible refine S.nilK ?_ | refine S.nil ?_
    refine hK5 _ _ ?_
    refine S.block ?_
    refine S.loop (fun q ρ' Γ' => ∃ (x : Nat) (zx : Int) (r : Int) (e : Array Int), q = a + l - x ∧ zx = x ∧ a ≤ x ∧ x ≤ a + l / 4 * 2 + 2 ∧ e.size = d.size ∧ PermIn a b d e ∧ ρ' = [(0, s.v), (1, .int .i64 (a : Int)), (6, .int .i64 (l : Int)), (7, .pointer (some ⟨b7, 0, none⟩)), (8, .int .u64 p), (9, .int .i64 zx)] ∧ Γ' = own s 44 1 (uA e) :: blk b7 189 #[.int .u64 r] :: Γ) (m := _) (ρ0 := _) (Γ0 := _) (⟨a + l / 4 * 2 - 1, (a : Int) + (l : Int) / 4 * 2 - 1, (l : Int), d, rfl, by omega, by omega, by omega, rfl, permIn_refl _ _ _, rfl, rfl⟩) (by repeat (first | exact trivial | refine ⟨rfl, ?_⟩)) Sub.ent ?_
    rintro q ρ' Γ' ⟨x, zx, r, e, hq, hzx, hax, hxl, hes, hpe, rfl, rfl⟩
    refine S.seq fun K6 hK6 => ?_
    refine S.seq fun K7 hK7 => ?_
    refine S.region rfl ?_
    refine S.op (S.q (q_move rfl) rfl rfl ?_)
    refine S.op (S.q (q_move rfl) rfl rfl ?_)
    refine S.op (S.q (q_move rfl) rfl rfl ?_)
    refine S.op (S.q (q_quo rfl rfl (⟨by omega, by omega⟩) (inI64 (by omega) (by omega))) rfl rfl ?_)
    refine S.op (S.q (q_mul rfl rfl (inI64 (by omega) (by omega))) rfl rfl ?_)
    refine S.op (S.q (q_add rfl rfl (inI64 (by omega) (by omega))) rfl rfl ?_)
    refine S.op (S.q (q_add rfl rfl (inI64 (by omega) (by omega))) rfl rfl ?_)
    refine S.op (S.q (q_le rfl rfl) rfl rfl ?_)
    first | with_reducible refine S.nilK ?_ | refine S.nil ?_
    refine hK7 _ _ ?_
    refine S.condD rfl (fun h2 => ?_) (fun h2 => ?_)
    · refine S.skip ?_
      with_reducible repeat (first | refine S.then_n ?_ | refine S.then_x ?_ | refine S.then_r ?_ | refine S.inBlock_n ?_ | refine S.inBlock_r ?_ | refine S.inBlock_x rfl ?_ | refine S.noGoto_r ?_ | refine S.noGoto_n ?_ | refine S.noGoto_x ?_)
      refine hK6 _ _ ?_
      refine S.seq fun K8 hK8 => ?_
      refine S.block ?_
      refine S.seq fun K9 hK9 => ?_
      refine S.region rfl ?_
      refine S.op (S.call Tryd.en118 (vs := [_]) ⟨rfl, trivial⟩ (xorNext_S b7 r) rfl ?_)
      rintro v Θ ⟨r2, rfl, rfl⟩
      refine S.op (S.q (q_move rfl) rfl rfl ?_)
      refine S.op (S.q (q_sub rfl rfl (inU64 (by omega) (by omega))) rfl rfl ?_)
      refine S.op (S.q (q_andE rfl rfl) rfl rfl ?_)
      obtain ⟨o, ho⟩ : ∃ o, o = andV r2 (p - 1) := ⟨_, rfl⟩
      have hor := andV_le r2 (q := p - 1) ⟨by omega, by omega⟩
      rw [← ho] at hor ⊢
      refine S.op (S.q (q_conv Tryd.it3 (by rw [Tryd.underlying165]; rfl) rfl (inI64 (by omega) (by omega))) rfl rfl ?_)
      refine S.op (S.q (q_assign rfl) rfl rfl ?_)
      first | with_reducible refine S.nilK ?_ | refine S.nil ?_
      refine hK9 _ _ ?_
      refine S.seq fun K10 hK10 => ?_
      refine S.seq fun K11 hK11 => ?_
      refine S.region rfl ?_
      refine S.op (S.q (q_move rfl) rfl rfl ?_)
      refine S.op (S.q (q_move rfl) rfl rfl ?_)
      refine S.op (S.q (q_ge rfl rfl) rfl rfl ?_)
      first | with_reducible refine S.nilK ?_ | refine S.nil ?_
      refine hK11 _ _ ?_
      refine S.cut (fun ρ' Γ' => ∃ (y : Nat) (zy : Int), zy = y ∧ y < l ∧ ρ' = [(0, s.v), (1, .int .i64 (a : Int)), (6, .int .i64 (l : Int)), (7, .pointer (some ⟨b7, 0, none⟩)), (8, .int .u64 p), (9, .int .i64 zx), (10, .int .i64 zy)] ∧ Γ' = own s 44 1 (uA e) :: blk b7 189 #[.int .u64 r2] :: Γ) ?_ ?_
      · refine S.condD rfl (fun h3 => ?_) (fun h3 => ?_)
        · refine S.region rfl ?_
          refine S.op (S.q (q_move rfl) rfl rfl ?_)
          refine S.op (S.q (q_move rfl) rfl rfl ?_)
          refine S.op (S.q (q_sub rfl rfl (inI64 (by omega) (by omega))) rfl rfl ?_)
          refine S.op (S.q (q_assign rfl) rfl rfl ?_)
          first | with_reducible refine S.nilK ?_ | refine S.nil ?_
          with_reducible repeat (first | refine S.then_n ?_ | refine S.then_x ?_ | refine S.then_r ?_ | refine S.inBlock_n ?_ | refine S.inBlock_r ?_ | refine S.inBlock_x rfl ?_ | refine S.noGoto_r ?_ | refine S.noGoto_n ?_ | refine S.noGoto_x ?_)
          first | exact S.meet ⟨(o - l).toNat, o - l, by omega, by omega, rfl, rfl⟩ ⟨rfl, rfl, rfl, rfl, rfl, rfl, rfl, trivial⟩ Sub.ent | exact S.meet ⟨o.toNat, o, by omega, by omega, rfl, rfl⟩ ⟨rfl, rfl, rfl, rfl, rfl, rfl, rfl, trivial⟩ Sub.ent
        · refine S.skip ?_
          with_reducible repeat (first | refine S.then_n ?_ | refine S.then_x ?_ | refine S.then_r ?_ | refine S.inBlock_n ?_ | refine S.inBlock_r ?_ | refine S.inBlock_x rfl ?_ | refine S.noGoto_r ?_ | refine S.noGoto_n ?_ | refine S.noGoto_x ?_)
          with_reducible repeat (first | refine S.then_n ?_ | refine S.then_x ?_ | refine S.then_r ?_ | refine S.inBlock_n ?_ | refine S.inBlock_r ?_ | refine S.inBlock_x rfl ?_ | refine S.noGoto_r ?_ | refine S.noGoto_n ?_ | refine S.noGoto_x ?_)
          first | exact S.meet ⟨(o - l).toNat, o - l, by omega, by omega, rfl, rfl⟩ ⟨rfl, rfl, rfl, rfl, rfl, rfl, rfl, trivial⟩ Sub.ent | exact S.meet ⟨o.toNat, o, by omega, by omega, rfl, rfl⟩ ⟨rfl, rfl, rfl, rfl, rfl, rfl, rfl, trivial⟩ Sub.ent
      · rintro ρ' Γ' ⟨y, zy, hzy, hyl, rfl, rfl⟩
        refine hK10 _ _ ?_
        refine S.draw ([own s 44 1 (uA e)]) [17] Tryd.mixed ?_
        refine S.dr_take 0 [16, 17, 18, 19] rfl (by kernel_rfl) rfl rfl rfl (q_move rfl) Sub.ent ?_
        refine S.dr_take 1 [16, 17, 18, 19] rfl (by kernel_rfl) rfl rfl rfl (q_move rfl) Sub.ent ?_
        refine S.dr_takeP 2 rfl (by kernel_rfl) rfl rfl rfl (q_move rfl) Sub.ent ?_
        refine S.dr_takeP 3 rfl (by kernel_rfl) rfl rfl rfl (q_move rfl) Sub.ent ?_
        refine S.dr_takeP 4 rfl (by kernel_rfl) rfl rfl rfl (q_move rfl) Sub.ent ?_
        refine S.dr_takeP 5 rfl (by kernel_rfl) rfl rfl rfl (q_add rfl rfl (inI64 (by omega) (by omega))) Sub.ent ?_
        refine S.dr_take 6 [10, 11, 16, 17, 18, 19] rfl (by kernel_rfl) rfl rfl rfl (q_move rfl) Sub.ent ?_
        refine S.dr_take 7 [9, 10, 11, 16, 17, 18, 19] rfl (by kernel_rfl) rfl rfl rfl (q_move rfl) Sub.ent ?_
        refine S.dr_take 8 [9, 10, 11, 16, 17, 18, 19] rfl (by kernel_rfl) rfl rfl rfl (q_move rfl) Sub.ent ?_
        refine S.dr_take 9 [10, 11, 16, 17, 18, 19] rfl (by kernel_rfl) rfl rfl rfl (q_add rfl rfl (inI64 (by omega) (by omega))) Sub.ent ?_
        refine S.dr_take 10 [11, 16, 17, 18, 19] rfl (by kernel_rfl) rfl rfl rfl (q_indexO (a + y) Tryd.el31 rfl hsa rfl (by omega) (by omega)) Sub.ent ?_
        refine S.dr_take 11 [16, 17, 18, 19] rfl (by kernel_rfl) rfl rfl rfl (q_loadOw (s) (a + y) Tryd.at44 rfl hsa (by first | rfl | exact Nat.add_assoc _ _ _ | omega) (uA_get (by omega))) Sub.ent ?_
        refine S.dr_take 12 [14, 15, 16, 17, 18, 19] rfl (by kernel_rfl) rfl rfl rfl (q_move rfl) Sub.ent ?_
        refine S.dr_take 13 [14, 15, 16, 17, 18, 19] rfl (by kernel_rfl) rfl rfl rfl (q_move rfl) Sub.ent ?_
        refine S.dr_take 14 [15, 16, 17, 18, 19] rfl (by kernel_rfl) rfl rfl rfl (q_indexO (x) Tryd.el31 rfl hsa rfl hzx (by omega)) Sub.ent ?_
        refine S.dr_take 15 [16, 17, 18, 19] rfl (by kernel_rfl) rfl rfl rfl (q_loadOw (s) (x) Tryd.at44 rfl hsa (by first | rfl | exact Nat.add_assoc _ _ _ | omega) (uA_get (by omega))) Sub.ent ?_
        refine S.dr_take 16 [17, 18, 19] rfl (by kernel_rfl) rfl rfl rfl (q_indexO (x) Tryd.el31 rfl hsa rfl hzx (by omega)) Sub.ent ?_
        refine S.dr_1 (i := 17) (by kernel_rfl) rfl rfl ?_
        refine  (S.storeOw (s) (x) Tryd.at44 rfl rfl rfl hsa (by first | rfl | exact Nat.add_assoc _ _ _ | omega) (by rw [uA_len]; omega) (uA_set _ _ _) ?_)
        refine S.dr_late ([]) [] rfl ?_
        refine S.dr_take 18 [] rfl (by kernel_rfl) rfl rfl rfl (q_indexO (a + y) Tryd.el31 rfl hsa rfl (by omega) (by omega)) Sub.ent ?_
        refine S.dr_1 (i := 19) (by kernel_rfl) rfl rfl ?_
        refine  (S.storeOw (s) (a + y) Tryd.at44 rfl rfl rfl hsa (by first | rfl | exact Nat.add_assoc _ _ _ | omega) (by rw [uA_len, Array.size_setIfInBounds]; omega) (show _ = uA (Go.Sort.swp e (x) (a + y)) from uA_set _ _ _) ?_)
        refine S.dr_k rfl Sub.ent ?_
        first | with_reducible refine S.dr_doneK (by kernel_rfl) ?_ | refine S.dr_done (by kernel_rfl) ?_
        with_reducible repeat (first | refine S.then_n ?_ | refine S.then_x ?_ | refine S.then_r ?_ | refine S.inBlock_n ?_ | refine S.inBlock_r ?_ | refine S.inBlock_x rfl ?_ | refine S.noGoto_r ?_ | refine S.noGoto_n ?_ | refine S.noGoto_x ?_)
        refine hK8 _ _ ?_
        refine S.region rfl ?_
        refine S.op (S.q (q_move rfl) rfl rfl ?_)
        refine S.op (S.q (q_add rfl rfl (inI64 (by omega) (by omega))) rfl rfl ?_)
        refine S.op (S.q (q_assign rfl) rfl rfl ?_)
        first | with_reducible refine S.nilK ?_ | refine S.nil ?_
        with_reducible repeat (first | refine S.then_n ?_ | refine S.then_x ?_ | refine S.then_r ?_ | refine S.inBlock_n ?_ | refine S.inBlock_r ?_ | refine S.inBlock_x rfl ?_ | refine S.noGoto_r ?_ | refine S.noGoto_n ?_ | refine S.noGoto_x ?_)
        exact S.next (q - 1) (⟨x + 1, zx + 1, r2, swp e x (a + y), by omega, by omega, by omega, by omega, by rw [swpZ, hes], PermIn.swpZ (a := a) (b := b) (d := d) (e := e) hpe (by omega) (by omega) (by omega) (by omega) hb, rfl, rfl⟩) (by omega) (by repeat (first | exact trivial | refine ⟨rfl, ?_⟩)) Sub.ent
    · refine S.exit ?_
      with_reducible repeat (first | refine S.then_n ?_ | refine S.then_x ?_ | refine S.then_r ?_ | refine S.inBlock_n ?_ | refine S.inBlock_r ?_ | refine S.inBlock_x rfl ?_ | refine S.noGoto_r ?_ | refine S.noGoto_n ?_ | refine S.noGoto_x ?_)
      with_reducible refine S.inBlock_s ?_
      with_reducible repeat (first | refine S.then_n ?_ | refine S.then_x ?_ | refine S.then_r ?_ | refine S.inBlock_n ?_ | refine S.inBlock_r ?_ | refine S.inBlock_x rfl ?_ | refine S.noGoto_r ?_ | refine S.noGoto_n ?_ | refine S.noGoto_x ?_)
      with_reducible repeat (first | refine S.then_n ?_ | refine S.then_x ?_ | refine S.then_r ?_ | refine S.inBlock_n ?_ | refine S.inBlock_r ?_ | refine S.inBlock_x rfl ?_ | refine S.noGoto_r ?_ | refine S.noGoto_n ?_ | refine S.noGoto_x ?_)
      exact S.finN (rs := []) (vs := []) Tryd.results123 (trivial)  (⟨e, hpe, rfl⟩) Sub.ent
  · omega
end Go.Proofs.YtmhdapbfpenjpaaDoor
