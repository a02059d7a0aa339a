/- Air: the document's example, ref01.Same, numbers in order, AirFull. -/
import Derived.Test.YthbckdjncmipeaaAirB
namespace Go.Proofs.Ythbckdjncmipeaa
open Go.RowKit
theorem Same_P (a b : SV) (la lb : List Int) (W : World) (ha : BytesAt W a.v la) (hb : BytesAt W b.v lb) (ra : Rng la) (rb : Rng lb) : PureS Try.prog 13 [a.v, b.v] W (.bool (decide (la = lb))) := by
  refine Spec.of_body Try.func13 rfl Try.ntmps13 rfl ?_
  intro w0 Γ
  show S _ w0 [(0, a.v), (1, b.v)] (old W :: Γ) _
  refine S.seq fun K1 hK1 => ?_
  refine S.region rfl ?_
  refine S.op (S.q (q_assign rfl) rfl rfl ?_)
  first | with_reducible refine S.nilK ?_ | refine S.nil ?_
  refine hK1 _ _ ?_
  refine S.seq fun K2 hK2 => ?_
  refine S.region rfl ?_
  refine S.op (S.q (q_move rfl) rfl rfl ?_)
  refine S.op (S.q (q_bytesStr (xs := la) Try.underlying29 Try.it5 Try.underlying9 rfl (fun w hs => (HasOld.head (Γ := Γ) (W := W)).slAt hs ha)) rfl rfl ?_)
  refine S.op (S.q (q_move rfl) rfl rfl ?_)
  refine S.op (S.q (q_bytesStr (xs := lb) Try.underlying29 Try.it5 Try.underlying9 rfl (fun w hs => (HasOld.head (Γ := Γ) (W := W)).slAt hs hb)) rfl rfl ?_)
  refine S.op (S.q (q_eqStr rfl rfl) rfl rfl ?_)
  refine S.op (S.q (q_assign rfl) rfl rfl ?_)
  first | with_reducible refine S.nilK ?_ | refine S.nil ?_
  refine hK2 _ _ ?_
  refine S.ret ?_
  with_reducible repeat (first | refine S.then_n ?_ | refine S.then_x ?_ | refine S.then_r ?_ | refine S.inBlock_n ?_ | refine S.inBlock_r ?_ | refine S.inBlock_x rfl ?_ | refine S.noGoto_r ?_ | refine S.noGoto_n ?_ | refine S.noGoto_x ?_)
  exact S.fin (rs := [_]) (vs := [_]) Try.results13 (⟨rfl, trivial⟩)  (⟨by simp only [resV]; rw [str_eq ra rb], rfl⟩) Sub.ent
theorem S.air0 {n : Nat} {w0 : World} {ρ : Env} {Γ : List Assn} {φ : Act → World → Prop} (k : S n w0 ρ (own SV.nil 70 3 (([] : List Flt).flatMap fltC) :: alls [] fltB :: Γ) φ) : S n w0 ρ Γ φ :=
  S.ent ((Ent.allsNil fltB Γ).trans (Ent.ownNil _ _)) k
/-- The flights' numbers go on from b. -/
def Nums (b : Int) (os : List Flt) : Prop := ∀ (i : Nat) (x : Flt), os[i]? = some x → x.id = b + (i : Int)
theorem Nums.nil (b : Int) : Nums b [] := fun i x h => by simp at h
theorem Nums.snoc {b : Int} {os : List Flt} (h : Nums b os) (x : Flt) (hx : x.id = b + (os.length : Int)) : Nums b (os ++ [x]) := fun i y hy => by
  by_cases hi : i < os.length
  · rw [List.getElem?_append_left hi] at hy; exact h i y hy
  · rw [List.getElem?_append_right (by omega)] at hy
    have h1 := (List.getElem?_eq_some_iff.1 hy).1
    simp at h1
    have : i = os.length := by omega
    subst this
    simp at hy
    subst hy
    exact hx
theorem Nums.asc {b : Int} {os : List Flt} (h : Nums b os) : os.Pairwise fun a b => a.id < b.id := by
  refine List.pairwise_iff_getElem.2 fun i j hi hj hij => ?_
  have h1 := h i _ (List.getElem?_eq_getElem hi)
  have h2 := h j _ (List.getElem?_eq_getElem hj)
  omega
theorem awake_S : Spec Try.prog 7 [] [] fun Γ v Θ => v = .bool true ∧ Θ = Γ := by
  refine Spec.of_body Try.func7 rfl Try.ntmps7 rfl ?_
  intro w0 Γ
  show S _ w0 [] Γ _
  refine S.seq fun K1 hK1 => ?_
  refine S.region rfl ?_
  refine S.op (S.q (q_assign rfl) rfl rfl ?_)
  first | with_reducible refine S.nilK ?_ | refine S.nil ?_
  refine hK1 _ _ ?_
  refine S.seq fun K2 hK2 => ?_
  refine S.region rfl ?_
  refine S.op (S.call Try.en8 (vs := [_]) ⟨rfl, trivial⟩ (New_S 9 (by omega)) rfl ?_)
  rintro v Θ ⟨t, rfl, rfl⟩
  refine S.op (S.q (q_move rfl) rfl rfl ?_)
  refine S.op (S.q (q_extract rfl rfl) rfl rfl ?_)
  refine S.op (S.q (q_extract rfl rfl) rfl rfl ?_)
  refine S.op (S.q (q_assign rfl) rfl rfl ?_)
  refine S.op (S.q (q_assign rfl) rfl rfl ?_)
  first | with_reducible refine S.nilK ?_ | refine S.nil ?_
  refine hK2 _ _ ?_
  refine S.seq fun K3 hK3 => ?_
  refine S.seq fun K4 hK4 => ?_
  refine S.regionG ?_
  refine S.g_op rfl (S.q (q_move rfl) rfl rfl ?_)
  refine S.g_op rfl (S.q (q_ne rfl rfl) rfl rfl ?_)
  refine S.g_op rfl (S.q (q_move rfl) rfl rfl ?_)
  refine S.g_yes rfl rfl rfl (rfl) (S.q (q_move rfl) rfl rfl ?_)
  refine S.g_yes rfl rfl rfl (rfl) (S.q (q_eqN Try.underlying24 rfl rfl) rfl rfl ?_)
  refine S.g_op rfl (S.q (q_pickF rfl (rfl) rfl) rfl rfl ?_)
  first | with_reducible refine S.g_nilK ?_ | refine S.g_nil ?_
  refine hK4 _ _ ?_
  refine S.condF rfl ?_
  refine S.skip ?_
  with_reducible repeat (first | refine S.then_n ?_ | refine S.then_x ?_ | refine S.then_r ?_ | refine S.inBlock_n ?_ | refine S.inBlock_r ?_ | refine S.inBlock_x rfl ?_ | refine S.noGoto_r ?_ | refine S.noGoto_n ?_ | refine S.noGoto_x ?_)
  refine hK3 _ _ ?_
  refine S.seq fun K5 hK5 => ?_
  refine S.region rfl ?_
  refine S.op (S.q (q_move rfl) rfl rfl ?_)
  refine S.op (S.q (q_build (pvs := [(_, _)]) [_, _] Try.z34 Try.p34 ⟨⟨rfl, rfl⟩, trivial⟩ rfl) rfl rfl ?_)
  refine S.air0 ?_
  refine S.op (S.call Try.en9 (vs := [_, _]) ⟨rfl, rfl, trivial⟩ (Fly0_S t 9 1 SV.nil [] 1 rfl (by omega) (by decide) (by omega) (by omega)) rfl ?_)
  rintro v Θ ⟨u1, lv1, rfl, hlv1, rfl⟩
  first | with_reducible refine S.nilK ?_ | refine S.nil ?_
  refine hK5 _ _ ?_
  refine S.seq fun K6 hK6 => ?_
  refine S.region rfl ?_
  refine S.op (S.q (q_move rfl) rfl rfl ?_)
  refine S.op (S.q (q_build (pvs := [(_, _)]) [_, _] Try.z34 Try.p34 ⟨⟨rfl, rfl⟩, trivial⟩ rfl) rfl rfl ?_)
  refine S.op (S.call Try.en9 (vs := [_, _]) ⟨rfl, rfl, trivial⟩ (Fly0_S t 9 (1 + 1) lv1 ([] ++ [(⟨1, 1, u1, []⟩ : Flt)]) 2 (by simpa using hlv1) (by omega) (by simp) (by omega) (by omega)) rfl ?_)
  rintro v Θ ⟨u2, lv2, rfl, hlv2, rfl⟩
  first | with_reducible refine S.nilK ?_ | refine S.nil ?_
  refine hK6 _ _ ?_
  refine S.seq fun K7 hK7 => ?_
  refine S.region rfl ?_
  refine S.op (S.q (q_move rfl) rfl rfl ?_)
  refine S.op (S.call Try.en10 (vs := [_, _]) ⟨rfl, rfl, trivial⟩ (Echo_S t 9 (1 + 1 + 1) lv2 (([] ++ [(⟨1, 1, u1, []⟩ : Flt)]) ++ [(⟨1 + 1, 2, u2, []⟩ : Flt)]) (by simpa using hlv2) (by simp) 0 ⟨1, 1, u1, []⟩ rfl 1 rfl (by simp) (by omega) (by simp) (by omega) (by omega)) rfl ?_)
  rintro v Θ ⟨u3, lv3, rfl, hlv3, rfl⟩
  refine S.op (S.q (q_move rfl) rfl rfl ?_)
  refine S.op (S.q (q_extract rfl rfl) rfl rfl ?_)
  refine S.op (S.q (q_extract rfl rfl) rfl rfl ?_)
  refine S.op (S.q (q_assign rfl) rfl rfl ?_)
  refine S.op (S.q (q_assign rfl) rfl rfl ?_)
  first | with_reducible refine S.nilK ?_ | refine S.nil ?_
  refine hK7 _ _ ?_
  refine S.seq fun K8 hK8 => ?_
  refine S.region rfl ?_
  refine S.op (S.q (q_move rfl) rfl rfl ?_)
  refine S.op (S.call Try.en12 (vs := [_, _]) ⟨rfl, rfl, trivial⟩ (Land_S t 9 (1 + 1 + 1 + 1) lv3 ((([] ++ [(⟨1, 1, u1, []⟩ : Flt)]) ++ [(⟨1 + 1, 2, u2, []⟩ : Flt)]) ++ [(⟨1 + 1 + 1, 1, u3, []⟩ : Flt)]) (by simpa using hlv3) (by simp) (by simp) 0 ⟨1, 1, u1, []⟩ rfl 1 rfl) rfl ?_)
  rintro v Θ ⟨lv4, rfl, hlv4, rfl⟩
  refine S.op (S.q (q_move rfl) rfl rfl ?_)
  refine S.op (S.q (q_extract rfl rfl) rfl rfl ?_)
  refine S.op (S.q (q_extract rfl rfl) rfl rfl ?_)
  refine S.op (S.alloc Try.z34 rfl ?_)
  intro b5
  refine S.op (S.storeS (cs' := [_, _]) Try.ag34 rfl rfl rfl rfl rfl rfl ?_)
  refine S.op (S.q (q_assign rfl) rfl rfl ?_)
  first | with_reducible refine S.nilK ?_ | refine S.nil ?_
  refine hK8 _ _ ?_
  refine S.seq fun K9 hK9 => ?_
  refine S.region rfl ?_
  refine S.op (S.q (q_move rfl) rfl rfl ?_)
  refine S.op (S.call Try.en11 (vs := [_]) ⟨rfl, trivial⟩ (Oldest_S t 9 (1 + 1 + 1 + 1) lv4 (((([] ++ [(⟨1, 1, u1, []⟩ : Flt)]) ++ [(⟨1 + 1, 2, u2, []⟩ : Flt)]) ++ [(⟨1 + 1 + 1, 1, u3, []⟩ : Flt)]).eraseIdx 0) hlv4 ⟨1 + 1, 2, u2, []⟩ rfl) rfl ?_)
  rintro v Θ ⟨rfl, rfl⟩
  refine S.op (S.q (q_move rfl) rfl rfl ?_)
  refine S.op (S.q (q_extract rfl rfl) rfl rfl ?_)
  refine S.op (S.q (q_extract rfl rfl) rfl rfl ?_)
  refine S.op (S.q (q_assign rfl) rfl rfl ?_)
  refine S.op (S.q (q_assign rfl) rfl rfl ?_)
  first | with_reducible refine S.nilK ?_ | refine S.nil ?_
  refine hK9 _ _ ?_
  refine S.seq fun K10 hK10 => ?_
  refine S.region rfl ?_
  refine S.op (S.q (q_move rfl) rfl rfl ?_)
  refine S.op (S.call Try.en22 (vs := [_, _]) ⟨rfl, rfl, trivial⟩ (At_S t 9 (1 + 1 + 1 + 1) lv4 (((([] ++ [(⟨1, 1, u1, []⟩ : Flt)]) ++ [(⟨1 + 1, 2, u2, []⟩ : Flt)]) ++ [(⟨1 + 1 + 1, 1, u3, []⟩ : Flt)]).eraseIdx 0) hlv4 1 ⟨1 + 1 + 1, 1, u3, []⟩ rfl) rfl ?_)
  rintro v Θ ⟨rfl, rfl⟩
  refine S.op (S.q (q_move rfl) rfl rfl ?_)
  refine S.op (S.q (q_extract rfl rfl) rfl rfl ?_)
  refine S.op (S.q (q_extract rfl rfl) rfl rfl ?_)
  refine S.op (S.q (q_assign rfl) rfl rfl ?_)
  refine S.op (S.q (q_assign rfl) rfl rfl ?_)
  first | with_reducible refine S.nilK ?_ | refine S.nil ?_
  refine hK10 _ _ ?_
  refine S.seq fun K11 hK11 => ?_
  refine S.regionG ?_
  refine S.g_op rfl (S.q (q_move rfl) rfl rfl ?_)
  refine S.g_op rfl (S.q (q_eq rfl rfl) rfl rfl ?_)
  refine S.g_op rfl (S.q (q_move rfl) rfl rfl ?_)
  refine S.g_yes rfl rfl rfl (rfl) (S.q (q_field Try.fo34_0 rfl) rfl rfl ?_)
  refine S.g_yes rfl rfl rfl (rfl) (S.q (q_load Try.at3 rfl rfl) rfl rfl ?_)
  refine S.g_yes rfl rfl rfl (rfl) (S.q (q_eq rfl rfl) rfl rfl ?_)
  refine S.g_op rfl (S.q (q_pickT rfl (rfl) rfl) rfl rfl ?_)
  refine S.g_op rfl (S.q (q_move rfl) rfl rfl ?_)
  refine S.g_yes rfl rfl rfl (rfl) (S.q (q_move rfl) rfl rfl ?_)
  refine S.g_yes rfl rfl rfl (rfl) (S.q (q_eq rfl rfl) rfl rfl ?_)
  refine S.g_op rfl (S.q (q_pickT rfl (rfl) rfl) rfl rfl ?_)
  refine S.g_op rfl (S.q (q_move rfl) rfl rfl ?_)
  refine S.g_yes rfl rfl rfl (rfl) (S.q (q_move rfl) rfl rfl ?_)
  refine S.g_yes rfl rfl rfl (rfl) (S.q (q_eq rfl rfl) rfl rfl ?_)
  refine S.g_op rfl (S.q (q_pickT rfl (rfl) rfl) rfl rfl ?_)
  refine S.g_op rfl (S.q (q_move rfl) rfl rfl ?_)
  refine S.g_yes rfl rfl rfl (rfl) (S.q (q_move rfl) rfl rfl ?_)
  refine S.g_yes rfl rfl rfl (rfl) (S.q (q_eq rfl rfl) rfl rfl ?_)
  refine S.g_op rfl (S.q (q_pickT rfl (rfl) rfl) rfl rfl ?_)
  refine S.g_op rfl (S.q (q_assign rfl) rfl rfl ?_)
  first | with_reducible refine S.g_nilK ?_ | refine S.g_nil ?_
  refine hK11 _ _ ?_
  refine S.ret ?_
  with_reducible repeat (first | refine S.then_n ?_ | refine S.then_x ?_ | refine S.then_r ?_ | refine S.inBlock_n ?_ | refine S.inBlock_r ?_ | refine S.inBlock_x rfl ?_ | refine S.noGoto_r ?_ | refine S.noGoto_n ?_ | refine S.noGoto_x ?_)
  exact S.fin (rs := [_]) (vs := [_]) Try.results7 (⟨rfl, trivial⟩)  (⟨rfl, rfl⟩) Sub.ent
set_option maxHeartbeats 400000 in
theorem AirFull_S (n mo : Int) (hn0 : 0 ≤ n ∧ n ≤ 255) (hm0 : 0 ≤ mo ∧ mo ≤ 255) (W : World) : LawS 4 [.int .u8 n, .int .u8 mo] W := by
  refine Spec.of_body Try.func4 rfl Try.ntmps4 rfl ?_
  intro w0 Γ
  show S _ w0 [(0, .int .u8 n), (1, .int .u8 mo)] (old W :: Γ) _
  have hk : 0 ≤ n % 60 ∧ n % 60 ≤ 59 := by omega
  have hm : 0 ≤ mo % 4 ∧ mo % 4 ≤ 3 := by omega
  refine S.seq fun K1 hK1 => ?_
  refine S.region rfl ?_
  refine S.op (S.q (q_assign rfl) rfl rfl ?_)
  first | with_reducible refine S.nilK ?_ | refine S.nil ?_
  refine hK1 _ _ ?_
  refine S.seq fun K2 hK2 => ?_
  refine S.seq fun K3 hK3 => ?_
  refine S.region rfl ?_
  refine S.op (S.call Try.en7 (vs := []) trivial (awake_S) rfl ?_)
  rintro v Θ ⟨rfl, rfl⟩
  refine S.op (S.q (q_not rfl) rfl rfl ?_)
  first | with_reducible refine S.nilK ?_ | refine S.nil ?_
  refine hK3 _ _ ?_
  refine S.condF rfl ?_
  refine S.skip ?_
  with_reducible repeat (first | refine S.then_n ?_ | refine S.then_x ?_ | refine S.then_r ?_ | refine S.inBlock_n ?_ | refine S.inBlock_r ?_ | refine S.inBlock_x rfl ?_ | refine S.noGoto_r ?_ | refine S.noGoto_n ?_ | refine S.noGoto_x ?_)
  refine hK2 _ _ ?_
  refine S.seq fun K4 hK4 => ?_
  refine S.region rfl ?_
  refine S.op (S.q (q_move rfl) rfl rfl ?_)
  refine S.op (S.q (q_rem rfl rfl (⟨by omega, by omega⟩)) rfl rfl ?_)
  refine S.op (S.q (q_conv Try.it3 (by rw [Try.underlying5]; rfl) rfl (inI64 (by omega) (by omega))) rfl rfl ?_)
  refine S.op (S.q (q_add rfl rfl (inI64 (by omega) (by omega))) rfl rfl ?_)
  refine S.op (S.q (q_assign rfl) rfl rfl ?_)
  first | with_reducible refine S.nilK ?_ | refine S.nil ?_
  refine hK4 _ _ ?_
  refine S.seq fun K5 hK5 => ?_
  refine S.region rfl ?_
  refine S.op (S.q (q_move rfl) rfl rfl ?_)
  refine S.op (S.call Try.en8 (vs := [_]) ⟨rfl, trivial⟩ (New_S (1 + n % 60) (by omega)) rfl ?_)
  rintro v Θ ⟨t, rfl, rfl⟩
  refine S.op (S.q (q_move rfl) rfl rfl ?_)
  refine S.op (S.q (q_extract rfl rfl) rfl rfl ?_)
  refine S.op (S.q (q_extract rfl rfl) rfl rfl ?_)
  refine S.op (S.q (q_assign rfl) rfl rfl ?_)
  refine S.op (S.q (q_assign rfl) rfl rfl ?_)
  first | with_reducible refine S.nilK ?_ | refine S.nil ?_
  refine hK5 _ _ ?_
  refine S.seq fun K6 hK6 => ?_
  refine S.seq fun K7 hK7 => ?_
  refine S.region rfl ?_
  refine S.op (S.q (q_move rfl) rfl rfl ?_)
  refine S.op (S.q (q_ne rfl rfl) rfl rfl ?_)
  first | with_reducible refine S.nilK ?_ | refine S.nil ?_
  refine hK7 _ _ ?_
  refine S.condD rfl (fun h2 => ?_) (fun h2 => ?_)
  · exact absurd rfl h2
  · refine S.skip ?_
    with_reducible repeat (first | refine S.then_n ?_ | refine S.then_x ?_ | refine S.then_r ?_ | refine S.inBlock_n ?_ | refine S.inBlock_r ?_ | refine S.inBlock_x rfl ?_ | refine S.noGoto_r ?_ | refine S.noGoto_n ?_ | refine S.noGoto_x ?_)
    refine hK6 _ _ ?_
    refine S.seq fun K8 hK8 => ?_
    refine S.seq fun K9 hK9 => ?_
    refine S.region rfl ?_
    refine S.air0 ?_
    refine S.op (S.q (q_move rfl) rfl rfl ?_)
    refine S.op (S.q (q_move rfl) rfl rfl ?_)
    first | with_reducible refine S.nilK ?_ | refine S.nil ?_
    refine hK9 _ _ ?_
    refine S.block ?_
    refine S.loop (fun m ρ' Γ' => ∃ (k : Nat) (q : Int) (lv : SV) (os : List Flt), (m : Int) + k = 1 + n % 60 ∧ q = 1 + k ∧ os.length = k ∧ lv.n = k ∧ Nums 1 os ∧ ρ' = [(1, .int .u8 mo), (5, .int .i64 (1 + n % 60)), (6, .pointer (some ⟨t, 0, none⟩)), (30, .int .i64 (1 + n % 60)), (31, .int .i64 k)] ∧ Γ' = blk t 67 (airC (1 + n % 60) q lv).toArray :: own lv 70 3 (os.flatMap fltC) :: alls os fltB :: old W :: Γ) (m := _) (ρ0 := _) (Γ0 := _) (⟨0, 1, SV.nil, [], Int.toNat_of_nonneg (a := 1 + n % 60) (by omega), rfl, rfl, rfl, Nums.nil _, rfl, rfl⟩) (by repeat (first | exact trivial | refine ⟨rfl, ?_⟩)) Sub.ent ?_
    rintro m ρ' Γ' ⟨k, q, lv, os, hk1, hq, hos, hlv, hsq, rfl, rfl⟩
    refine S.seq fun K10 hK10 => ?_
    refine S.region rfl ?_
    refine S.op (S.q (q_lt rfl rfl) rfl rfl ?_)
    first | with_reducible refine S.nilK ?_ | refine S.nil ?_
    refine hK10 _ _ ?_
    refine S.seq fun K11 hK11 => ?_
    refine S.condD rfl (fun h3 => ?_) (fun h3 => ?_)
    · refine S.skip ?_
      with_reducible repeat (first | refine S.then_n ?_ | refine S.then_x ?_ | refine S.then_r ?_ | refine S.inBlock_n ?_ | refine S.inBlock_r ?_ | refine S.inBlock_x rfl ?_ | refine S.noGoto_r ?_ | refine S.noGoto_n ?_ | refine S.noGoto_x ?_)
      refine hK11 _ _ ?_
      refine S.seq fun K12 hK12 => ?_
      refine S.block ?_
      refine S.seq fun K13 hK13 => ?_
      refine S.region rfl ?_
      refine S.op (S.q (q_move rfl) rfl rfl ?_)
      refine S.op (S.q (q_assign rfl) rfl rfl ?_)
      first | with_reducible refine S.nilK ?_ | refine S.nil ?_
      refine hK13 _ _ ?_
      refine S.seq fun K14 hK14 => ?_
      refine S.region rfl ?_
      refine S.op (S.q (q_move rfl) rfl rfl ?_)
      refine S.op (S.q (q_build (pvs := []) [_, _] Try.z34 Try.p34 trivial rfl) rfl rfl ?_)
      refine S.op (S.call Try.en9 (vs := [_, _]) ⟨rfl, rfl, trivial⟩ (Fly0_S t (1 + n % 60) q lv os 0 (by omega) (by omega) (by omega) (by omega) (by omega)) rfl ?_)
      rintro v Θ ⟨u, lv', rfl, hlv', rfl⟩
      refine S.op (S.q (q_move rfl) rfl rfl ?_)
      refine S.op (S.q (q_extract rfl rfl) rfl rfl ?_)
      refine S.op (S.q (q_extract rfl rfl) rfl rfl ?_)
      refine S.op (S.q (q_assign rfl) rfl rfl ?_)
      refine S.op (S.q (q_assign rfl) rfl rfl ?_)
      first | with_reducible refine S.nilK ?_ | refine S.nil ?_
      refine hK14 _ _ ?_
      refine S.seq fun K15 hK15 => ?_
      refine S.regionG ?_
      refine S.g_op rfl (S.q (q_move rfl) rfl rfl ?_)
      refine S.g_op rfl (S.q (q_ne rfl rfl) rfl rfl ?_)
      refine S.g_op rfl (S.q (q_move rfl) rfl rfl ?_)
      refine S.g_yes rfl rfl rfl (rfl) (S.q (q_move rfl) rfl rfl ?_)
      refine S.g_yes rfl rfl rfl (rfl) (S.q (q_move rfl) rfl rfl ?_)
      refine S.g_yes rfl rfl rfl (rfl) (S.q (q_add rfl rfl (inI64 (by omega) (by omega))) rfl rfl ?_)
      refine S.g_yes rfl rfl rfl (rfl) (S.q (q_conv Try.it30 (by rw [Try.underlying3]; rfl) rfl (inU64 (by omega) (by omega))) rfl rfl ?_)
      refine S.g_yes rfl rfl rfl (rfl) (S.q (q_ne rfl rfl) rfl rfl ?_)
      refine S.g_op rfl (S.q (q_pickF rfl (rfl) rfl) rfl rfl ?_)
      first | with_reducible refine S.g_nilK ?_ | refine S.g_nil ?_
      refine hK15 _ _ ?_
      refine S.condD rfl (fun h4 => ?_) (fun h4 => ?_)
      · exact absurd (show q = (k : Int) + 1 by omega) h4
      · refine S.skip ?_
        with_reducible repeat (first | refine S.then_n ?_ | refine S.then_x ?_ | refine S.then_r ?_ | refine S.inBlock_n ?_ | refine S.inBlock_r ?_ | refine S.inBlock_x rfl ?_ | refine S.noGoto_r ?_ | refine S.noGoto_n ?_ | refine S.noGoto_x ?_)
        with_reducible repeat (first | refine S.then_n ?_ | refine S.then_x ?_ | refine S.then_r ?_ | refine S.inBlock_n ?_ | refine S.inBlock_r ?_ | refine S.inBlock_x rfl ?_ | refine S.noGoto_r ?_ | refine S.noGoto_n ?_ | refine S.noGoto_x ?_)
        refine hK12 _ _ ?_
        refine S.region rfl ?_
        refine S.op (S.q (q_add rfl rfl (inI64 (by omega) (by omega))) rfl rfl ?_)
        refine S.op (S.q (q_move rfl) rfl rfl ?_)
        first | with_reducible refine S.nilK ?_ | refine S.nil ?_
        with_reducible repeat (first | refine S.then_n ?_ | refine S.then_x ?_ | refine S.then_r ?_ | refine S.inBlock_n ?_ | refine S.inBlock_r ?_ | refine S.inBlock_x rfl ?_ | refine S.noGoto_r ?_ | refine S.noGoto_n ?_ | refine S.noGoto_x ?_)
        exact S.next (m - 1) (⟨k + 1, q + 1, lv', os ++ [⟨q, 0, u, []⟩], by omega, by omega, by simp [hos], by omega, hsq.snoc _ (by simp only; omega), rfl, rfl⟩) (by omega) (by repeat (first | exact trivial | refine ⟨rfl, ?_⟩)) Sub.ent
    · have hk256 : (k : Int) = 1 + n % 60 := by omega
      obtain ⟨x, hx⟩ := getE (l := os) (i := 0) (by omega)
      have hxid : x.id = 1 := by have := hsq 0 x hx; omega
      refine S.exit ?_
      with_reducible repeat (first | refine S.then_n ?_ | refine S.then_x ?_ | refine S.then_r ?_ | refine S.inBlock_n ?_ | refine S.inBlock_r ?_ | refine S.inBlock_x rfl ?_ | refine S.noGoto_r ?_ | refine S.noGoto_n ?_ | refine S.noGoto_x ?_)
      with_reducible refine S.inBlock_s ?_
      with_reducible repeat (first | refine S.then_n ?_ | refine S.then_x ?_ | refine S.then_r ?_ | refine S.inBlock_n ?_ | refine S.inBlock_r ?_ | refine S.inBlock_x rfl ?_ | refine S.noGoto_r ?_ | refine S.noGoto_n ?_ | refine S.noGoto_x ?_)
      refine hK8 _ _ ?_
      refine S.seq fun K16 hK16 => ?_
      refine S.seq fun K17 hK17 => ?_
      refine S.region rfl ?_
      refine S.op (S.q (q_move rfl) rfl rfl ?_)
      refine S.op (S.q (q_rem rfl rfl (⟨by omega, by omega⟩)) rfl rfl ?_)
      refine S.op (S.q (q_add rfl rfl (inU8 (by omega) (by omega))) rfl rfl ?_)
      refine S.op (S.q (q_move rfl) rfl rfl ?_)
      first | with_reducible refine S.nilK ?_ | refine S.nil ?_
      refine hK17 _ _ ?_
      refine S.block ?_
      refine S.loop (fun m' ρ' Γ' => ∃ (j : Nat), (m' : Int) + j = 1 + mo % 4 ∧ ρ' = [(5, .int .i64 (1 + n % 60)), (6, .pointer (some ⟨t, 0, none⟩)), (52, .int .u8 (1 + mo % 4)), (53, .int .u8 j)] ∧ Γ' = blk t 67 (airC (1 + n % 60) q lv).toArray :: own lv 70 3 (os.flatMap fltC) :: alls os fltB :: old W :: Γ) (m := _) (ρ0 := _) (Γ0 := _) (⟨0, Int.toNat_of_nonneg (a := 1 + mo % 4) (by omega), rfl, rfl⟩) (by repeat (first | exact trivial | refine ⟨rfl, ?_⟩)) Sub.ent ?_
      rintro m' ρ' Γ' ⟨j, hj1, rfl, rfl⟩
      refine S.seq fun K18 hK18 => ?_
      refine S.region rfl ?_
      refine S.op (S.q (q_lt rfl rfl) rfl rfl ?_)
      first | with_reducible refine S.nilK ?_ | refine S.nil ?_
      refine hK18 _ _ ?_
      refine S.seq fun K19 hK19 => ?_
      refine S.condD rfl (fun h5 => ?_) (fun h5 => ?_)
      · refine S.skip ?_
        with_reducible repeat (first | refine S.then_n ?_ | refine S.then_x ?_ | refine S.then_r ?_ | refine S.inBlock_n ?_ | refine S.inBlock_r ?_ | refine S.inBlock_x rfl ?_ | refine S.noGoto_r ?_ | refine S.noGoto_n ?_ | refine S.noGoto_x ?_)
        refine hK19 _ _ ?_
        refine S.seq fun K20 hK20 => ?_
        refine S.block ?_
        refine S.seq fun K21 hK21 => ?_
        refine S.seq fun K22 hK22 => ?_
        refine S.region rfl ?_
        refine S.op (S.q (q_move rfl) rfl rfl ?_)
        refine S.op (S.q (q_build (pvs := []) [_, _] Try.z34 Try.p34 trivial rfl) rfl rfl ?_)
        refine S.op (S.call Try.en9 (vs := [_, _]) ⟨rfl, rfl, trivial⟩ (FlyFull_S t (1 + n % 60) q lv 0 SV.nil (by omega)) rfl ?_)
        rintro v Θ ⟨rfl, rfl⟩
        refine S.op (S.q (q_move rfl) rfl rfl ?_)
        refine S.op (S.q (q_extract rfl rfl) rfl rfl ?_)
        refine S.op (S.q (q_extract rfl rfl) rfl rfl ?_)
        refine S.op (S.q (q_assign rfl) rfl rfl ?_)
        refine S.op (S.q (q_assign rfl) rfl rfl ?_)
        first | with_reducible refine S.nilK ?_ | refine S.nil ?_
        refine hK22 _ _ ?_
        refine S.seq fun K23 hK23 => ?_
        refine S.regionG ?_
        refine S.g_op rfl (S.q (q_move rfl) rfl rfl ?_)
        refine S.g_op rfl (S.q (q_ne rfl rfl) rfl rfl ?_)
        refine S.g_op rfl (S.q (q_move rfl) rfl rfl ?_)
        refine S.g_yes rfl rfl rfl (rfl) (S.q (q_move rfl) rfl rfl ?_)
        refine S.g_yes rfl rfl rfl (rfl) (S.q (q_ne rfl rfl) rfl rfl ?_)
        refine S.g_op rfl (S.q (q_pickF rfl (rfl) rfl) rfl rfl ?_)
        first | with_reducible refine S.g_nilK ?_ | refine S.g_nil ?_
        refine hK23 _ _ ?_
        refine S.condF rfl ?_
        refine S.skip ?_
        with_reducible repeat (first | refine S.then_n ?_ | refine S.then_x ?_ | refine S.then_r ?_ | refine S.inBlock_n ?_ | refine S.inBlock_r ?_ | refine S.inBlock_x rfl ?_ | refine S.noGoto_r ?_ | refine S.noGoto_n ?_ | refine S.noGoto_x ?_)
        refine hK21 _ _ ?_
        refine S.seq fun K24 hK24 => ?_
        refine S.region rfl ?_
        refine S.op (S.q (q_move rfl) rfl rfl ?_)
        refine S.op (S.call Try.en10 (vs := [_, _]) ⟨rfl, rfl, trivial⟩ (EchoFull_S t (1 + n % 60) q lv os (by omega) (by omega) hsq.asc 0 x hx 1 hxid (by omega)) rfl ?_)
        rintro v Θ ⟨rfl, rfl⟩
        refine S.op (S.q (q_move rfl) rfl rfl ?_)
        refine S.op (S.q (q_extract rfl rfl) rfl rfl ?_)
        refine S.op (S.q (q_extract rfl rfl) rfl rfl ?_)
        refine S.op (S.q (q_assign rfl) rfl rfl ?_)
        refine S.op (S.q (q_assign rfl) rfl rfl ?_)
        first | with_reducible refine S.nilK ?_ | refine S.nil ?_
        refine hK24 _ _ ?_
        refine S.seq fun K25 hK25 => ?_
        refine S.regionG ?_
        refine S.g_op rfl (S.q (q_move rfl) rfl rfl ?_)
        refine S.g_op rfl (S.q (q_ne rfl rfl) rfl rfl ?_)
        refine S.g_op rfl (S.q (q_move rfl) rfl rfl ?_)
        refine S.g_yes rfl rfl rfl (rfl) (S.q (q_move rfl) rfl rfl ?_)
        refine S.g_yes rfl rfl rfl (rfl) (S.q (q_ne rfl rfl) rfl rfl ?_)
        refine S.g_op rfl (S.q (q_pickF rfl (rfl) rfl) rfl rfl ?_)
        first | with_reducible refine S.g_nilK ?_ | refine S.g_nil ?_
        refine hK25 _ _ ?_
        refine S.condF rfl ?_
        refine S.skip ?_
        with_reducible repeat (first | refine S.then_n ?_ | refine S.then_x ?_ | refine S.then_r ?_ | refine S.inBlock_n ?_ | refine S.inBlock_r ?_ | refine S.inBlock_x rfl ?_ | refine S.noGoto_r ?_ | refine S.noGoto_n ?_ | refine S.noGoto_x ?_)
        with_reducible repeat (first | refine S.then_n ?_ | refine S.then_x ?_ | refine S.then_r ?_ | refine S.inBlock_n ?_ | refine S.inBlock_r ?_ | refine S.inBlock_x rfl ?_ | refine S.noGoto_r ?_ | refine S.noGoto_n ?_ | refine S.noGoto_x ?_)
        refine hK20 _ _ ?_
        refine S.region rfl ?_
        refine S.op (S.q (q_add rfl rfl (inU8 (by omega) (by omega))) rfl rfl ?_)
        refine S.op (S.q (q_move rfl) rfl rfl ?_)
        first | with_reducible refine S.nilK ?_ | refine S.nil ?_
        with_reducible repeat (first | refine S.then_n ?_ | refine S.then_x ?_ | refine S.then_r ?_ | refine S.inBlock_n ?_ | refine S.inBlock_r ?_ | refine S.inBlock_x rfl ?_ | refine S.noGoto_r ?_ | refine S.noGoto_n ?_ | refine S.noGoto_x ?_)
        exact S.next (m' - 1) (⟨j + 1, by omega, rfl, rfl⟩) (by omega) (by repeat (first | exact trivial | refine ⟨rfl, ?_⟩)) Sub.ent
      · refine S.exit ?_
        with_reducible repeat (first | refine S.then_n ?_ | refine S.then_x ?_ | refine S.then_r ?_ | refine S.inBlock_n ?_ | refine S.inBlock_r ?_ | refine S.inBlock_x rfl ?_ | refine S.noGoto_r ?_ | refine S.noGoto_n ?_ | refine S.noGoto_x ?_)
        with_reducible refine S.inBlock_s ?_
        with_reducible repeat (first | refine S.then_n ?_ | refine S.then_x ?_ | refine S.then_r ?_ | refine S.inBlock_n ?_ | refine S.inBlock_r ?_ | refine S.inBlock_x rfl ?_ | refine S.noGoto_r ?_ | refine S.noGoto_n ?_ | refine S.noGoto_x ?_)
        refine hK16 _ _ ?_
        refine S.seq fun K26 hK26 => ?_
        refine S.seq fun K27 hK27 => ?_
        refine S.region rfl ?_
        refine S.op (S.q (q_move rfl) rfl rfl ?_)
        refine S.op (S.call Try.en15 (vs := [_, _]) ⟨rfl, rfl, trivial⟩ (Lose_S t (1 + n % 60) q lv os (by omega) (by omega) hsq.asc 0 x hx 1 hxid) rfl ?_)
        rintro v Θ ⟨lv2, rfl, hlv2, rfl⟩
        refine S.op (S.q (q_ne rfl rfl) rfl rfl ?_)
        first | with_reducible refine S.nilK ?_ | refine S.nil ?_
        refine hK27 _ _ ?_
        refine S.condD rfl (fun h8 => ?_) (fun h8 => ?_)
        · exact absurd rfl h8
        · refine S.skip ?_
          with_reducible repeat (first | refine S.then_n ?_ | refine S.then_x ?_ | refine S.then_r ?_ | refine S.inBlock_n ?_ | refine S.inBlock_r ?_ | refine S.inBlock_x rfl ?_ | refine S.noGoto_r ?_ | refine S.noGoto_n ?_ | refine S.noGoto_x ?_)
          refine hK26 _ _ ?_
          refine S.seq fun K28 hK28 => ?_
          refine S.region rfl ?_
          refine S.op (S.q (q_move rfl) rfl rfl ?_)
          refine S.op (S.q (q_build (pvs := []) [_, _] Try.z34 Try.p34 trivial rfl) rfl rfl ?_)
          have hel : (os.eraseIdx 0).length = k - 1 := by rw [List.length_eraseIdx, if_pos (by omega)]; omega
          refine S.op (S.call Try.en9 (vs := [_, _]) ⟨rfl, rfl, trivial⟩ (Fly0_S t (1 + n % 60) q lv2 (os.eraseIdx 0) 0 hlv2 (by omega) (by omega) (by omega) (by omega)) rfl ?_)
          rintro v Θ ⟨u2, lv3, rfl, hlv3, rfl⟩
          refine S.op (S.q (q_move rfl) rfl rfl ?_)
          refine S.op (S.q (q_extract rfl rfl) rfl rfl ?_)
          refine S.op (S.q (q_extract rfl rfl) rfl rfl ?_)
          refine S.op (S.q (q_assign rfl) rfl rfl ?_)
          refine S.op (S.q (q_assign rfl) rfl rfl ?_)
          first | with_reducible refine S.nilK ?_ | refine S.nil ?_
          refine hK28 _ _ ?_
          refine S.seq fun K29 hK29 => ?_
          refine S.regionG ?_
          refine S.g_op rfl (S.q (q_move rfl) rfl rfl ?_)
          refine S.g_op rfl (S.q (q_eq rfl rfl) rfl rfl ?_)
          refine S.g_op rfl (S.q (q_move rfl) rfl rfl ?_)
          refine S.g_yes rfl rfl rfl (rfl) (S.q (q_move rfl) rfl rfl ?_)
          refine S.g_yes rfl rfl rfl (rfl) (S.q (q_move rfl) rfl rfl ?_)
          refine S.g_yes rfl rfl rfl (rfl) (S.q (q_add rfl rfl (inI64 (by omega) (by omega))) rfl rfl ?_)
          refine S.g_yes rfl rfl rfl (rfl) (S.q (q_conv Try.it30 (by rw [Try.underlying3]; rfl) rfl (inU64 (by omega) (by omega))) rfl rfl ?_)
          refine S.g_yes rfl rfl rfl (rfl) (S.q (q_eq rfl rfl) rfl rfl ?_)
          refine S.g_op rfl (S.q (q_pickT rfl (rfl) rfl) rfl rfl ?_)
          refine S.g_op rfl (S.q (q_assign rfl) rfl rfl ?_)
          first | with_reducible refine S.g_nilK ?_ | refine S.g_nil ?_
          refine hK29 _ _ ?_
          refine S.ret ?_
          with_reducible repeat (first | refine S.then_n ?_ | refine S.then_x ?_ | refine S.then_r ?_ | refine S.inBlock_n ?_ | refine S.inBlock_r ?_ | refine S.inBlock_x rfl ?_ | refine S.noGoto_r ?_ | refine S.noGoto_n ?_ | refine S.noGoto_x ?_)
          exact S.fin (rs := [_]) (vs := [_]) Try.results4 (⟨rfl, trivial⟩)  (⟨by simp only [resV]; rw [decide_eq_true (show q = 1 + n % 60 + 1 by omega)], rfl⟩) Sub.ent
end Go.Proofs.Ythbckdjncmipeaa
