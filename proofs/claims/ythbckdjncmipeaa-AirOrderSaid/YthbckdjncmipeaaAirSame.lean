/- The law AirSame: an echo is what it is the echo of. -/
import Derived.Test.YthbckdjncmipeaaAirC
namespace Go.Proofs.Ythbckdjncmipeaa
open Go.RowKit
/-- What flies is what was told, in order. -/
def Fls (rs : List BR) (c : Nat) (os : List Flt) : Prop := ∀ (i : Nat) (x : Flt), os[i]? = some x → ∃ r, rs[i]? = some r ∧ x.data = r.l.take (min r.l.length c) ∧ x.dst = (i : Int)
theorem Fls.nil (rs : List BR) (c : Nat) : Fls rs c [] := fun i x h => by simp at h
theorem Fls.snoc {rs : List BR} {c : Nat} {os : List Flt} (h : Fls rs c os) {x : Flt} {r : BR} (hr : rs[os.length]? = some r) (hd : x.data = r.l.take (min r.l.length c)) (ht : x.dst = (os.length : Int)) : Fls rs c (os ++ [x]) := fun i y hy => by
  by_cases hi : i < os.length
  · rw [List.getElem?_append_left hi] at hy; exact h i y hy
  · rw [List.getElem?_append_right (by omega)] at hy
    have h1 := (List.getElem?_eq_some_iff.1 hy).1
    simp at h1
    have : i = os.length := by omega
    subst this
    simp at hy
    subst hy
    exact ⟨r, hr, hd, ht⟩
theorem flt_in {x : Flt} {Γ Δ : List Assn} [h : Pick (fltB x) Γ Δ] {w : World} (hs : Sat w Γ) : BytesAt w x.v.v x.data := obytes_at (hs.ent h.ent)
theorem getElem?_eraseIdx_last {os : List Flt} {e : Flt} {A : Nat} (hA : A < os.length) : ((os ++ [e]).eraseIdx A)[os.length - 1]? = some e := by
  rw [List.getElem?_eraseIdx, if_neg (by omega), show os.length - 1 + 1 = os.length by omega]
  simp
set_option maxHeartbeats 400000 in
theorem AirSame_S (s0 : SV) (rs : List BR) (wh : Int) (lo : Bool) (W : World) (hn0 : s0.n = rs.length) (h0 : SlAt W s0.v rs.length 1 (rs.flatMap fun r => [r.v.v])) (hr : ∀ r ∈ rs, BW W r.v r.l) (hw : 0 ≤ wh ∧ wh ≤ 255) : LawS 5 [s0.v, .int .u8 wh, .bool lo] W := by
  have hm0 := slAt_cap h0
  unfold maxLen at hm0
  refine Spec.of_body Try.func5 rfl Try.ntmps5 rfl ?_
  intro w0 Γ
  show S _ w0 [(0, s0.v), (1, .int .u8 wh), (2, .bool lo)] (old W :: Γ) _
  obtain ⟨N, hN⟩ : ∃ N, N = min rs.length 30 := ⟨_, rfl⟩
  refine S.seq fun K1 hK1 => ?_
  refine S.region rfl ?_
  refine S.op (S.q (q_assign rfl) rfl rfl ?_)
  first | with_reducible refine S.nilK ?_ | refine S.nil ?_
  refine hK1 _ _ ?_
  refine S.seq fun K2 hK2 => ?_
  refine S.seq fun K3 hK3 => ?_
  refine S.regionG ?_
  refine S.g_op rfl (S.call Try.en7 (vs := []) trivial (awake_S) rfl ?_)
  rintro v Θ ⟨rfl, rfl⟩
  refine S.g_op rfl (S.q (q_not rfl) rfl rfl ?_)
  refine S.g_op rfl (S.q (q_move rfl) rfl rfl ?_)
  refine S.g_yes rfl rfl rfl (rfl) (S.q (q_move rfl) rfl rfl ?_)
  refine S.g_yes rfl rfl rfl (rfl) (S.q (q_len Try.underlying22 rfl) rfl rfl ?_)
  refine S.g_yes rfl rfl rfl (rfl) (S.q (q_eq rfl rfl) rfl rfl ?_)
  refine S.g_op rfl (S.q (q_pickF rfl (rfl) rfl) rfl rfl ?_)
  first | with_reducible refine S.g_nilK ?_ | refine S.g_nil ?_
  refine hK3 _ _ ?_
  refine S.condD rfl (fun h1 => ?_) (fun h1 => ?_)
  · refine S.seq fun K4 hK4 => ?_
    refine S.region rfl ?_
    refine S.op (S.call Try.en7 (vs := []) trivial (awake_S) rfl ?_)
    rintro v Θ ⟨rfl, rfl⟩
    refine S.op (S.q (q_assign rfl) rfl rfl ?_)
    first | with_reducible refine S.nilK ?_ | refine S.nil ?_
    refine hK4 _ _ ?_
    refine S.ret ?_
    with_reducible repeat (first | refine S.then_n ?_ | refine S.then_x ?_ | refine S.then_r ?_ | refine S.inBlock_n ?_ | refine S.inBlock_r ?_ | refine S.inBlock_x rfl ?_ | refine S.noGoto_r ?_ | refine S.noGoto_n ?_ | refine S.noGoto_x ?_)
    exact S.fin (rs := [_]) (vs := [_]) Try.results5 (⟨rfl, trivial⟩)  (⟨rfl, rfl⟩) Sub.ent
  · refine S.skip ?_
    with_reducible repeat (first | refine S.then_n ?_ | refine S.then_x ?_ | refine S.then_r ?_ | refine S.inBlock_n ?_ | refine S.inBlock_r ?_ | refine S.inBlock_x rfl ?_ | refine S.noGoto_r ?_ | refine S.noGoto_n ?_ | refine S.noGoto_x ?_)
    refine hK2 _ _ ?_
    refine S.seq fun K5 hK5 => ?_
    refine S.region rfl ?_
    refine S.op (S.call Try.en8 (vs := [_]) ⟨rfl, trivial⟩ (New_S 100 (by omega)) rfl ?_)
    rintro v Θ ⟨t, rfl, rfl⟩
    refine S.op (S.q (q_move rfl) rfl rfl ?_)
    refine S.op (S.q (q_extract rfl rfl) rfl rfl ?_)
    refine S.op (S.q (q_extract rfl rfl) rfl rfl ?_)
    refine S.op (S.q (q_assign rfl) rfl rfl ?_)
    refine S.op (S.q (q_assign rfl) rfl rfl ?_)
    first | with_reducible refine S.nilK ?_ | refine S.nil ?_
    refine hK5 _ _ ?_
    refine S.seq fun K6 hK6 => ?_
    refine S.seq fun K7 hK7 => ?_
    refine S.region rfl ?_
    refine S.op (S.q (q_move rfl) rfl rfl ?_)
    refine S.op (S.q (q_ne rfl rfl) rfl rfl ?_)
    first | with_reducible refine S.nilK ?_ | refine S.nil ?_
    refine hK7 _ _ ?_
    refine S.condD rfl (fun h2 => ?_) (fun h2 => ?_)
    · exact absurd rfl h2
    · refine S.skip ?_
      with_reducible repeat (first | refine S.then_n ?_ | refine S.then_x ?_ | refine S.then_r ?_ | refine S.inBlock_n ?_ | refine S.inBlock_r ?_ | refine S.inBlock_x rfl ?_ | refine S.noGoto_r ?_ | refine S.noGoto_n ?_ | refine S.noGoto_x ?_)
      refine hK6 _ _ ?_
      refine S.seq fun K8 hK8 => ?_
      refine S.region rfl ?_
      refine S.op (S.q (q_move rfl) rfl rfl ?_)
      refine S.op (S.q (q_move rfl) rfl rfl ?_)
      refine S.op (S.q (q_len Try.underlying22 rfl) rfl rfl ?_)
      refine S.op (S.q (q_min ((N : Int)) rfl rfl (by omega)) rfl rfl ?_)
      refine S.op (S.q (q_sliceTo (N) Try.el22 rfl rfl rfl (by omega)) rfl rfl ?_)
      refine S.op (S.q (q_assign rfl) rfl rfl ?_)
      first | with_reducible refine S.nilK ?_ | refine S.nil ?_
      refine hK8 _ _ ?_
      refine S.seq fun K9 hK9 => ?_
      refine S.seq fun K10 hK10 => ?_
      refine S.region rfl ?_
      refine S.air0 ?_
      refine S.op (S.q (q_move rfl) rfl rfl ?_)
      refine S.op (S.q (q_len Try.underlying22 rfl) rfl rfl ?_)
      refine S.op (S.q (q_move rfl) rfl rfl ?_)
      first | with_reducible refine S.nilK ?_ | refine S.nil ?_
      refine hK10 _ _ ?_
      refine S.block ?_
      refine S.loop (fun m ρ' Γ' => ∃ (k : Nat) (q : Int) (lv : SV) (os : List Flt), m + k = N ∧ q = 1 + k ∧ os.length = k ∧ lv.n = k ∧ Nums 1 os ∧ Fls rs 40 os ∧ ρ' = [(0, .slice s0.a N s0.c), (1, .int .u8 wh), (2, .bool lo), (7, .pointer (some ⟨t, 0, none⟩)), (35, .slice s0.a N s0.c), (36, .int .i64 N), (37, .int .i64 k)] ∧ Γ' = blk t 67 (airC 100 q lv).toArray :: own lv 70 3 (os.flatMap fltC) :: alls os fltB :: old W :: Γ) (m := _) (ρ0 := _) (Γ0 := _) (⟨0, 1, SV.nil, [], rfl, rfl, rfl, rfl, Nums.nil _, Fls.nil _ _, rfl, rfl⟩) (by repeat (first | exact trivial | refine ⟨rfl, ?_⟩)) Sub.ent ?_
      rintro m ρ' Γ' ⟨k, q, lv, os, hk1, hq, hos, hlv, hsq, hfl, rfl, rfl⟩
      refine S.seq fun K11 hK11 => ?_
      refine S.region rfl ?_
      refine S.op (S.q (q_lt rfl rfl) rfl rfl ?_)
      first | with_reducible refine S.nilK ?_ | refine S.nil ?_
      refine hK11 _ _ ?_
      refine S.seq fun K12 hK12 => ?_
      refine S.condD rfl (fun h3 => ?_) (fun h3 => ?_)
      · obtain ⟨r, hrk⟩ := getE (l := rs) (i := k) (by omega)
        have hbr := hr r (List.mem_of_getElem? hrk)
        have hcr := slAt_cap hbr.at_
        have hlr := hbr.len
        unfold maxLen at hcr
        obtain ⟨b, off, hb, hcell⟩ := slAt_some h0 (by omega)
        refine S.skip ?_
        with_reducible repeat (first | refine S.then_n ?_ | refine S.then_x ?_ | refine S.then_r ?_ | refine S.inBlock_n ?_ | refine S.inBlock_r ?_ | refine S.inBlock_x rfl ?_ | refine S.noGoto_r ?_ | refine S.noGoto_n ?_ | refine S.noGoto_x ?_)
        refine hK12 _ _ ?_
        refine S.seq fun K13 hK13 => ?_
        refine S.block ?_
        refine S.seq fun K14 hK14 => ?_
        refine S.region rfl ?_
        refine S.op (S.q (q_move rfl) rfl rfl ?_)
        refine S.op (S.q (q_indexO (k) Try.el22 rfl hb rfl rfl (by omega)) rfl rfl ?_)
        refine S.op (S.q (q_loadW Try.at29 rfl (hcell _ _ (rows_get hrk))) rfl rfl ?_)
        refine S.op (S.q (q_assign rfl) rfl rfl ?_)
        refine S.op (S.q (q_assign rfl) rfl rfl ?_)
        first | with_reducible refine S.nilK ?_ | refine S.nil ?_
        refine hK14 _ _ ?_
        refine S.region rfl ?_
        refine S.op (S.q (q_move rfl) rfl rfl ?_)
        refine S.op (S.q (q_move rfl) rfl rfl ?_)
        refine S.op (S.buildSlice0 Try.underlying29 Try.inf5 rfl ?_)
        intro b44 hb44
        refine S.op (S.q (q_move rfl) rfl rfl ?_)
        refine S.op (S.q (q_move rfl) rfl rfl ?_)
        refine S.op (S.q (q_len Try.underlying29 rfl) rfl rfl ?_)
        refine S.op (S.q (q_min (((min r.l.length 40 : Nat) : Int)) rfl rfl (by omega)) rfl rfl ?_)
        refine S.op (S.q (q_sliceTo (min r.l.length 40) Try.el29 rfl rfl rfl (by omega)) rfl rfl ?_)
        refine S.op (S.appendOw (s := b44) (min r.l.length 40) (bcells (r.l.take (min r.l.length 40))) Try.underlying29 Try.inf5 rfl rfl rfl (fun w hs => take_at (R := old W) (fun Γ w h => hbr.old h) hs _ (Nat.min_le_left _ _)) (by first | rfl | exact allOne_bcells _) (⟨by omega, by omega⟩) rfl ?_)
        intro u hu
        rw [List.nil_append]
        refine S.op (S.q (q_build (pvs := [(_, _), (_, _)]) [_, _] Try.z34 Try.p34 ⟨⟨rfl, rfl⟩, ⟨rfl, rfl⟩, trivial⟩ rfl) rfl rfl ?_)
        refine S.op (S.call Try.en9 (vs := [_, _]) ⟨rfl, rfl, trivial⟩ (FlyD_S t 100 q lv os k u (r.l.take (min r.l.length 40)) (obytes u (r.l.take (min r.l.length 40))) (fun Γ w h => obytes_at h) (by simp only [List.length_take]; omega) (by omega) (by omega) (by omega) (by omega) (by omega)) rfl ?_)
        rintro v Θ ⟨u', lv', rfl, hlv', rfl⟩
        first | with_reducible refine S.nilK ?_ | refine S.nil ?_
        with_reducible repeat (first | refine S.then_n ?_ | refine S.then_x ?_ | refine S.then_r ?_ | refine S.inBlock_n ?_ | refine S.inBlock_r ?_ | refine S.inBlock_x rfl ?_ | refine S.noGoto_r ?_ | refine S.noGoto_n ?_ | refine S.noGoto_x ?_)
        refine hK13 _ _ ?_
        refine S.region rfl ?_
        refine S.op (S.q (q_add rfl rfl (inI64 (by omega) (by omega))) rfl rfl ?_)
        refine S.op (S.q (q_move rfl) rfl rfl ?_)
        first | with_reducible refine S.nilK ?_ | refine S.nil ?_
        with_reducible repeat (first | refine S.then_n ?_ | refine S.then_x ?_ | refine S.then_r ?_ | refine S.inBlock_n ?_ | refine S.inBlock_r ?_ | refine S.inBlock_x rfl ?_ | refine S.noGoto_r ?_ | refine S.noGoto_n ?_ | refine S.noGoto_x ?_)
        exact S.next (m - 1) (⟨k + 1, q + 1, lv', os ++ [⟨q, k, u', r.l.take (min r.l.length 40)⟩], by omega, by omega, by simp [hos], by omega, hsq.snoc _ (by simp only; omega), hfl.snoc (r := r) (by rw [hos]; exact hrk) rfl (by simp only; omega), rfl, rfl⟩) (by omega) (by repeat (first | exact trivial | refine ⟨rfl, ?_⟩)) Sub.ent
      · have hkN : k = N := by omega
        have hN0 : 0 < N := by omega
        refine S.exit ?_
        with_reducible repeat (first | refine S.then_n ?_ | refine S.then_x ?_ | refine S.then_r ?_ | refine S.inBlock_n ?_ | refine S.inBlock_r ?_ | refine S.inBlock_x rfl ?_ | refine S.noGoto_r ?_ | refine S.noGoto_n ?_ | refine S.noGoto_x ?_)
        with_reducible refine S.inBlock_s ?_
        with_reducible repeat (first | refine S.then_n ?_ | refine S.then_x ?_ | refine S.then_r ?_ | refine S.inBlock_n ?_ | refine S.inBlock_r ?_ | refine S.inBlock_x rfl ?_ | refine S.noGoto_r ?_ | refine S.noGoto_n ?_ | refine S.noGoto_x ?_)
        refine hK9 _ _ ?_
        refine S.seq fun K15 hK15 => ?_
        refine S.region rfl ?_
        refine S.op (S.q (q_move rfl) rfl rfl ?_)
        refine S.op (S.q (q_conv Try.it3 (by rw [Try.underlying5]; rfl) rfl (inI64 (by omega) (by omega))) rfl rfl ?_)
        refine S.op (S.q (q_move rfl) rfl rfl ?_)
        refine S.op (S.q (q_len Try.underlying22 rfl) rfl rfl ?_)
        have hN1 : (0 : Int) < N := by omega
        refine S.op (S.q (q_rem rfl rfl (⟨by omega, by omega⟩)) rfl rfl ?_)
        refine S.op (S.q (q_assign rfl) rfl rfl ?_)
        first | with_reducible refine S.nilK ?_ | refine S.nil ?_
        refine hK15 _ _ ?_
        refine S.seq fun K16 hK16 => ?_
        refine S.region rfl ?_
        have hmod : 0 ≤ wh % (N : Int) ∧ wh % (N : Int) < N := ⟨Int.emod_nonneg _ (by omega), Int.emod_lt_of_pos _ (by omega)⟩
        obtain ⟨A, hA⟩ : ∃ A : Nat, wh % (N : Int) = (A : Int) := ⟨(wh % (N : Int)).toNat, by omega⟩
        rw [hA] at hmod
        rw [hA]
        obtain ⟨x, hx⟩ := getE (l := os) (i := A) (by omega)
        have hid : x.id = (A : Int) + 1 := by have := hsq A x hx; omega
        obtain ⟨r, hrk, hdat, hdst⟩ := hfl A x hx
        have hbr := hr r (List.mem_of_getElem? hrk)
        have hcr := slAt_cap hbr.at_
        have hlr := hbr.len
        unfold maxLen at hcr
        obtain ⟨b, off, hb, hcell⟩ := slAt_some h0 (by omega)
        refine S.op (S.q (q_move rfl) rfl rfl ?_)
        refine S.op (S.q (q_move rfl) rfl rfl ?_)
        refine S.op (S.q (q_add rfl rfl (inI64 (by omega) (by omega))) rfl rfl ?_)
        refine S.op (S.q (q_conv Try.it30 (by rw [Try.underlying3]; rfl) rfl (inU64 (by omega) (by omega))) rfl rfl ?_)
        refine S.op (S.call Try.en10 (vs := [_, _]) ⟨rfl, rfl, trivial⟩ (Echo_S t 100 q lv os (by omega) hsq.asc A x hx ((A : Int) + 1) hid (by rw [hdat, List.length_take]; omega) (by omega) (by omega) (by omega) (by omega)) rfl ?_)
        rintro v Θ ⟨u, lv', rfl, hlv', rfl⟩
        have hsq' : Nums 1 (os ++ [(⟨q, x.dst, u, x.data⟩ : Flt)]) := hsq.snoc _ (by simp only; omega)
        have hx' : (os ++ [(⟨q, x.dst, u, x.data⟩ : Flt)])[A]? = some x := by rw [List.getElem?_append_left (by omega)]; exact hx
        refine S.op (S.q (q_move rfl) rfl rfl ?_)
        refine S.op (S.q (q_extract rfl rfl) rfl rfl ?_)
        refine S.op (S.q (q_extract rfl rfl) rfl rfl ?_)
        refine S.op (S.q (q_assign rfl) rfl rfl ?_)
        refine S.op (S.q (q_assign rfl) rfl rfl ?_)
        first | with_reducible refine S.nilK ?_ | refine S.nil ?_
        refine hK16 _ _ ?_
        refine S.seq fun K17 hK17 => ?_
        refine S.seq fun K18 hK18 => ?_
        refine S.region rfl ?_
        refine S.op (S.q (q_move rfl) rfl rfl ?_)
        refine S.op (S.q (q_ne rfl rfl) rfl rfl ?_)
        first | with_reducible refine S.nilK ?_ | refine S.nil ?_
        refine hK18 _ _ ?_
        refine S.condD rfl (fun h4 => ?_) (fun h4 => ?_)
        · exact absurd rfl h4
        · refine S.skip ?_
          with_reducible repeat (first | refine S.then_n ?_ | refine S.then_x ?_ | refine S.then_r ?_ | refine S.inBlock_n ?_ | refine S.inBlock_r ?_ | refine S.inBlock_x rfl ?_ | refine S.noGoto_r ?_ | refine S.noGoto_n ?_ | refine S.noGoto_x ?_)
          refine hK17 _ _ ?_
          refine S.seq fun K19 hK19 => ?_
          refine S.seq fun K20 hK20 => ?_
          refine S.region rfl ?_
          refine S.op (S.q (q_move rfl) rfl rfl ?_)
          first | with_reducible refine S.nilK ?_ | refine S.nil ?_
          refine hK20 _ _ ?_
          refine S.cond rfl (fun h5 => ?_) (fun h5 => ?_)
          · refine S.region rfl ?_
            refine S.op (S.q (q_move rfl) rfl rfl ?_)
            refine S.op (S.q (q_move rfl) rfl rfl ?_)
            refine S.op (S.q (q_add rfl rfl (inI64 (by omega) (by omega))) rfl rfl ?_)
            refine S.op (S.q (q_conv Try.it30 (by rw [Try.underlying3]; rfl) rfl (inU64 (by omega) (by omega))) rfl rfl ?_)
            refine S.op (S.call Try.en15 (vs := [_, _]) ⟨rfl, rfl, trivial⟩ (Lose_S t 100 (q + 1) lv' (os ++ [(⟨q, x.dst, u, x.data⟩ : Flt)]) (by simpa using hlv') (by simp; omega) hsq'.asc A x hx' ((A : Int) + 1) hid) rfl ?_)
            rintro v Θ ⟨lv2, rfl, hlv2, rfl⟩
            have hx2 := getElem?_eraseIdx_last (os := os) (e := (⟨q, x.dst, u, x.data⟩ : Flt)) (A := A) (by omega)
            have ha2 : ((os ++ [(⟨q, x.dst, u, x.data⟩ : Flt)]).eraseIdx A).Pairwise fun a b => a.id < b.id := hsq'.asc.sublist (List.eraseIdx_sublist _ _)
            have hl2 : ((os ++ [(⟨q, x.dst, u, x.data⟩ : Flt)]).eraseIdx A).length ≤ 2048 := by rw [List.length_eraseIdx]; simp only [List.length_append, List.length_cons, List.length_nil]; split <;> omega
            generalize (os ++ [(⟨q, x.dst, u, x.data⟩ : Flt)]).eraseIdx A = os2 at *
            generalize os.length - 1 = i2 at *
            first | with_reducible refine S.nilK ?_ | refine S.nil ?_
            refine hK19 _ _ ?_
            refine S.seq fun K21 hK21 => ?_
            refine S.region rfl ?_
            refine S.op (S.q (q_move rfl) rfl rfl ?_)
            refine S.op (S.q (q_move rfl) rfl rfl ?_)
            refine S.op (S.call Try.en12 (vs := [_, _]) ⟨rfl, rfl, trivial⟩ (Land_S t 100 (q + 1) lv2 os2 hlv2 hl2 ha2 i2 (⟨q, x.dst, u, x.data⟩ : Flt) hx2 q rfl) rfl ?_)
            rintro v Θ ⟨lv3, rfl, hlv3, rfl⟩
            refine S.op (S.q (q_move rfl) rfl rfl ?_)
            refine S.op (S.q (q_extract rfl rfl) rfl rfl ?_)
            refine S.op (S.q (q_extract rfl rfl) rfl rfl ?_)
            refine S.op (S.alloc Try.z34 rfl ?_)
            intro b14
            refine S.op (S.storeS (cs' := [_, _]) Try.ag34 rfl rfl rfl rfl rfl rfl ?_)
            refine S.op (S.q (q_assign rfl) rfl rfl ?_)
            first | with_reducible refine S.nilK ?_ | refine S.nil ?_
            refine hK21 _ _ ?_
            refine S.seq fun K22 hK22 => ?_
            refine S.draw ([blk b14 34 #[.int .i64 x.dst, u.v], fltB (⟨q, x.dst, u, x.data⟩ : Flt), old W]) [] Try.mixed ?_
            refine S.dr_take 0 [] rfl (by kernel_rfl) rfl rfl rfl (q_move rfl) Sub.ent ?_
            refine S.dr_take 1 [] rfl (by kernel_rfl) rfl rfl rfl (q_eq rfl rfl) Sub.ent ?_
            refine S.dr_take 2 [] rfl (by kernel_rfl) rfl rfl rfl (q_move rfl) Sub.ent ?_
            refine S.dr_takeY 3 [] rfl (by kernel_rfl) rfl rfl rfl (rfl) rfl rfl (q_field Try.fo34_0 rfl) Sub.ent ?_
            refine S.dr_takeY 4 [] rfl (by kernel_rfl) rfl rfl rfl (rfl) rfl rfl (q_load Try.at3 rfl rfl) Sub.ent ?_
            refine S.dr_takeY 5 [] rfl (by kernel_rfl) rfl rfl rfl (rfl) rfl rfl (q_move rfl) Sub.ent ?_
            refine S.dr_takeY 6 [] rfl (by kernel_rfl) rfl rfl rfl (rfl) rfl rfl (q_eq rfl rfl) Sub.ent ?_
            refine S.dr_take 7 [] rfl (by kernel_rfl) rfl rfl rfl (q_pickT rfl (rfl) rfl) Sub.ent ?_
            refine S.dr_take 8 [] rfl (by kernel_rfl) rfl rfl rfl (q_move rfl) Sub.ent ?_
            refine S.dr_takeY 9 [] rfl (by kernel_rfl) rfl rfl rfl ((decide_eq_true hdst)) rfl rfl (q_field Try.fo34_1 rfl) Sub.ent ?_
            refine S.dr_takeY 10 [] rfl (by kernel_rfl) rfl rfl rfl ((decide_eq_true hdst)) rfl rfl (q_load Try.at29 rfl rfl) Sub.ent ?_
            refine S.dr_takeY 11 [] rfl (by kernel_rfl) rfl rfl rfl ((decide_eq_true hdst)) rfl rfl (q_move rfl) Sub.ent ?_
            refine S.dr_takeY 12 [] rfl (by kernel_rfl) rfl rfl rfl ((decide_eq_true hdst)) rfl rfl (q_move rfl) Sub.ent ?_
            refine S.dr_takeY 13 [] rfl (by kernel_rfl) rfl rfl rfl ((decide_eq_true hdst)) rfl rfl (q_indexO (A) Try.el22 rfl hb rfl rfl (by omega)) Sub.ent ?_
            refine S.dr_takeY 14 [] rfl (by kernel_rfl) rfl rfl rfl ((decide_eq_true hdst)) rfl rfl (q_loadW Try.at29 rfl (hcell _ _ (rows_get hrk))) Sub.ent ?_
            refine S.dr_takeY 15 [] rfl (by kernel_rfl) rfl rfl rfl ((decide_eq_true hdst)) rfl rfl (q_move rfl) Sub.ent ?_
            refine S.dr_takeY 16 [] rfl (by kernel_rfl) rfl rfl rfl ((decide_eq_true hdst)) rfl rfl (q_move rfl) Sub.ent ?_
            refine S.dr_takeY 17 [] rfl (by kernel_rfl) rfl rfl rfl ((decide_eq_true hdst)) rfl rfl (q_indexO (A) Try.el22 rfl hb rfl rfl (by omega)) Sub.ent ?_
            refine S.dr_takeY 18 [] rfl (by kernel_rfl) rfl rfl rfl ((decide_eq_true hdst)) rfl rfl (q_loadW Try.at29 rfl (hcell _ _ (rows_get hrk))) Sub.ent ?_
            refine S.dr_takeY 19 [] rfl (by kernel_rfl) rfl rfl rfl ((decide_eq_true hdst)) rfl rfl (q_len Try.underlying29 rfl) Sub.ent ?_
            refine S.dr_takeY 20 [] rfl (by kernel_rfl) rfl rfl rfl ((decide_eq_true hdst)) rfl rfl (q_min (((min r.l.length 40 : Nat) : Int)) rfl rfl (by omega)) Sub.ent ?_
            refine S.dr_takeY 21 [] rfl (by kernel_rfl) rfl rfl rfl ((decide_eq_true hdst)) rfl rfl (q_sliceTo (min r.l.length 40) Try.el29 rfl rfl rfl (by omega)) Sub.ent ?_
            refine S.dr_1Y (i := 22) (by kernel_rfl) rfl rfl rfl rfl ((decide_eq_true hdst)) ?_
            refine  (S.callP Try.en13 (vs := [_, _]) ⟨rfl, rfl, trivial⟩ (fun w hs => Same_P u ⟨r.v.a, min r.l.length 40, r.v.c⟩ x.data (r.l.take (min r.l.length 40)) w (flt_in (x := (⟨q, x.dst, u, x.data⟩ : Flt)) hs) (HasOld.slAt inferInstance hs (hbr.take _ (by omega)).at_) (by rw [hdat]; exact (hbr.take _ (by omega)).rng) (hbr.take _ (by omega)).rng) rfl ?_)
            refine S.dr_k rfl Sub.ent ?_
            refine S.dr_take 23 [] rfl (by kernel_rfl) rfl rfl rfl (q_pickT rfl ((decide_eq_true hdst)) rfl) Sub.ent ?_
            refine S.dr_take 24 [] rfl (by kernel_rfl) rfl rfl rfl (q_assign rfl) Sub.ent ?_
            first | with_reducible refine S.dr_doneK (by kernel_rfl) ?_ | refine S.dr_done (by kernel_rfl) ?_
            refine hK22 _ _ ?_
            refine S.ret ?_
            with_reducible repeat (first | refine S.then_n ?_ | refine S.then_x ?_ | refine S.then_r ?_ | refine S.inBlock_n ?_ | refine S.inBlock_r ?_ | refine S.inBlock_x rfl ?_ | refine S.noGoto_r ?_ | refine S.noGoto_n ?_ | refine S.noGoto_x ?_)
            exact S.fin (rs := [_]) (vs := [_]) Try.results5 (⟨rfl, trivial⟩)  (⟨by simp [resV, hdat], rfl⟩) Sub.ent
          · obtain ⟨lv2, rfl⟩ : ∃ lv2, lv2 = lv' := ⟨_, rfl⟩
            have hx2 : (os ++ [(⟨q, x.dst, u, x.data⟩ : Flt)])[os.length]? = some (⟨q, x.dst, u, x.data⟩ : Flt) := by simp
            have ha2 := hsq'.asc
            have hl2 : (os ++ [(⟨q, x.dst, u, x.data⟩ : Flt)]).length ≤ 2048 := by simp; omega
            have hlv2 : lv2.n = (os ++ [(⟨q, x.dst, u, x.data⟩ : Flt)]).length := by simpa using hlv'
            clear hsq' hx'
            generalize os ++ [(⟨q, x.dst, u, x.data⟩ : Flt)] = os2 at *
            obtain ⟨i2, hi2⟩ : ∃ i2, i2 = os.length := ⟨_, rfl⟩
            rw [← hi2] at hx2
            refine S.skip ?_
            with_reducible repeat (first | refine S.then_n ?_ | refine S.then_x ?_ | refine S.then_r ?_ | refine S.inBlock_n ?_ | refine S.inBlock_r ?_ | refine S.inBlock_x rfl ?_ | refine S.noGoto_r ?_ | refine S.noGoto_n ?_ | refine S.noGoto_x ?_)
            refine hK19 _ _ ?_
            refine S.seq fun K23 hK23 => ?_
            refine S.region rfl ?_
            refine S.op (S.q (q_move rfl) rfl rfl ?_)
            refine S.op (S.q (q_move rfl) rfl rfl ?_)
            refine S.op (S.call Try.en12 (vs := [_, _]) ⟨rfl, rfl, trivial⟩ (Land_S t 100 (q + 1) lv2 os2 hlv2 hl2 ha2 i2 (⟨q, x.dst, u, x.data⟩ : Flt) hx2 q rfl) rfl ?_)
            rintro v Θ ⟨lv3, rfl, hlv3, rfl⟩
            refine S.op (S.q (q_move rfl) rfl rfl ?_)
            refine S.op (S.q (q_extract rfl rfl) rfl rfl ?_)
            refine S.op (S.q (q_extract rfl rfl) rfl rfl ?_)
            refine S.op (S.alloc Try.z34 rfl ?_)
            intro b14
            refine S.op (S.storeS (cs' := [_, _]) Try.ag34 rfl rfl rfl rfl rfl rfl ?_)
            refine S.op (S.q (q_assign rfl) rfl rfl ?_)
            first | with_reducible refine S.nilK ?_ | refine S.nil ?_
            refine hK23 _ _ ?_
            refine S.seq fun K24 hK24 => ?_
            refine S.draw ([blk b14 34 #[.int .i64 x.dst, u.v], fltB (⟨q, x.dst, u, x.data⟩ : Flt), old W]) [] Try.mixed ?_
            refine S.dr_take 0 [] rfl (by kernel_rfl) rfl rfl rfl (q_move rfl) Sub.ent ?_
            refine S.dr_take 1 [] rfl (by kernel_rfl) rfl rfl rfl (q_eq rfl rfl) Sub.ent ?_
            refine S.dr_take 2 [] rfl (by kernel_rfl) rfl rfl rfl (q_move rfl) Sub.ent ?_
            refine S.dr_takeY 3 [] rfl (by kernel_rfl) rfl rfl rfl (rfl) rfl rfl (q_field Try.fo34_0 rfl) Sub.ent ?_
            refine S.dr_takeY 4 [] rfl (by kernel_rfl) rfl rfl rfl (rfl) rfl rfl (q_load Try.at3 rfl rfl) Sub.ent ?_
            refine S.dr_takeY 5 [] rfl (by kernel_rfl) rfl rfl rfl (rfl) rfl rfl (q_move rfl) Sub.ent ?_
            refine S.dr_takeY 6 [] rfl (by kernel_rfl) rfl rfl rfl (rfl) rfl rfl (q_eq rfl rfl) Sub.ent ?_
            refine S.dr_take 7 [] rfl (by kernel_rfl) rfl rfl rfl (q_pickT rfl (rfl) rfl) Sub.ent ?_
            refine S.dr_take 8 [] rfl (by kernel_rfl) rfl rfl rfl (q_move rfl) Sub.ent ?_
            refine S.dr_takeY 9 [] rfl (by kernel_rfl) rfl rfl rfl ((decide_eq_true hdst)) rfl rfl (q_field Try.fo34_1 rfl) Sub.ent ?_
            refine S.dr_takeY 10 [] rfl (by kernel_rfl) rfl rfl rfl ((decide_eq_true hdst)) rfl rfl (q_load Try.at29 rfl rfl) Sub.ent ?_
            refine S.dr_takeY 11 [] rfl (by kernel_rfl) rfl rfl rfl ((decide_eq_true hdst)) rfl rfl (q_move rfl) Sub.ent ?_
            refine S.dr_takeY 12 [] rfl (by kernel_rfl) rfl rfl rfl ((decide_eq_true hdst)) rfl rfl (q_move rfl) Sub.ent ?_
            refine S.dr_takeY 13 [] rfl (by kernel_rfl) rfl rfl rfl ((decide_eq_true hdst)) rfl rfl (q_indexO (A) Try.el22 rfl hb rfl rfl (by omega)) Sub.ent ?_
            refine S.dr_takeY 14 [] rfl (by kernel_rfl) rfl rfl rfl ((decide_eq_true hdst)) rfl rfl (q_loadW Try.at29 rfl (hcell _ _ (rows_get hrk))) Sub.ent ?_
            refine S.dr_takeY 15 [] rfl (by kernel_rfl) rfl rfl rfl ((decide_eq_true hdst)) rfl rfl (q_move rfl) Sub.ent ?_
            refine S.dr_takeY 16 [] rfl (by kernel_rfl) rfl rfl rfl ((decide_eq_true hdst)) rfl rfl (q_move rfl) Sub.ent ?_
            refine S.dr_takeY 17 [] rfl (by kernel_rfl) rfl rfl rfl ((decide_eq_true hdst)) rfl rfl (q_indexO (A) Try.el22 rfl hb rfl rfl (by omega)) Sub.ent ?_
            refine S.dr_takeY 18 [] rfl (by kernel_rfl) rfl rfl rfl ((decide_eq_true hdst)) rfl rfl (q_loadW Try.at29 rfl (hcell _ _ (rows_get hrk))) Sub.ent ?_
            refine S.dr_takeY 19 [] rfl (by kernel_rfl) rfl rfl rfl ((decide_eq_true hdst)) rfl rfl (q_len Try.underlying29 rfl) Sub.ent ?_
            refine S.dr_takeY 20 [] rfl (by kernel_rfl) rfl rfl rfl ((decide_eq_true hdst)) rfl rfl (q_min (((min r.l.length 40 : Nat) : Int)) rfl rfl (by omega)) Sub.ent ?_
            refine S.dr_takeY 21 [] rfl (by kernel_rfl) rfl rfl rfl ((decide_eq_true hdst)) rfl rfl (q_sliceTo (min r.l.length 40) Try.el29 rfl rfl rfl (by omega)) Sub.ent ?_
            refine S.dr_1Y (i := 22) (by kernel_rfl) rfl rfl rfl rfl ((decide_eq_true hdst)) ?_
            refine  (S.callP Try.en13 (vs := [_, _]) ⟨rfl, rfl, trivial⟩ (fun w hs => Same_P u ⟨r.v.a, min r.l.length 40, r.v.c⟩ x.data (r.l.take (min r.l.length 40)) w (flt_in (x := (⟨q, x.dst, u, x.data⟩ : Flt)) hs) (HasOld.slAt inferInstance hs (hbr.take _ (by omega)).at_) (by rw [hdat]; exact (hbr.take _ (by omega)).rng) (hbr.take _ (by omega)).rng) rfl ?_)
            refine S.dr_k rfl Sub.ent ?_
            refine S.dr_take 23 [] rfl (by kernel_rfl) rfl rfl rfl (q_pickT rfl ((decide_eq_true hdst)) rfl) Sub.ent ?_
            refine S.dr_take 24 [] rfl (by kernel_rfl) rfl rfl rfl (q_assign rfl) Sub.ent ?_
            first | with_reducible refine S.dr_doneK (by kernel_rfl) ?_ | refine S.dr_done (by kernel_rfl) ?_
            refine hK24 _ _ ?_
            refine S.ret ?_
            with_reducible repeat (first | refine S.then_n ?_ | refine S.then_x ?_ | refine S.then_r ?_ | refine S.inBlock_n ?_ | refine S.inBlock_r ?_ | refine S.inBlock_x rfl ?_ | refine S.noGoto_r ?_ | refine S.noGoto_n ?_ | refine S.noGoto_x ?_)
            exact S.fin (rs := [_]) (vs := [_]) Try.results5 (⟨rfl, trivial⟩)  (⟨by simp [resV, hdat], rfl⟩) Sub.ent
open Go.ChangeShapes Go.WideShapes Go.ChangeAt
theorem AirSame_law {H : Type} (enc : TypeId × Value → H) : LawWalk enc 5 Try.f5 := by
  intro W base args ds before hval hA _ _
  rw [Try.params5] at hA hval
  obtain ⟨v0, vs0, d0, ds0, p0, q0, hargs, rfl, rfl, h0, r0⟩ := trodAll_cons hA
  obtain ⟨v1, vs1, d1, ds1, p1, q1, rfl, rfl, rfl, h1, r1⟩ := trodAll_cons r0
  obtain ⟨v2, vs2, d2, ds2, p2, q2, rfl, rfl, rfl, h2, r2⟩ := trodAll_cons r1
  obtain ⟨rfl, rfl, rfl⟩ := trodAll_nil r2
  obtain rfl : args = #[v0, v1, v2] := by cases args; simp_all
  obtain ⟨s0, rs, e0, hn, hs, hb⟩ := rd_rows (arg_slice 4 Try.underlying22 (by kernel_rfl) (hval 0 22 v0 rfl rfl) h0)
  simp only [List.cons.injEq, and_true] at e0
  subst e0
  obtain ⟨a1, rfl, w1⟩ := arg_int Try.underlying5 (hval 1 5 v1 rfl rfl) h1
  obtain ⟨a2, rfl⟩ := arg_bool Try.underlying4 (hval 2 4 v2 rfl rfl)
  exact law_run (AirSame_S s0 rs a1 a2 W hn hs hb (u8_rng w1))
set_option maxRecDepth 100000 in
theorem AirSame_lifted (os : Os) (started : os.Started) (H : Type) (enc : TypeId × Value → H) :
    ReturnsInHanded {} Try.checked os 5 .any (Rows.airSameSpec.pre6 enc Try.prog Try.f5 Rows.airSameRow.domain false) (Rows.airSameSpec.post enc Try.prog Try.f5 false true false false) :=
  lift_true started Try.func5 (by kernel_rfl)
    (ChangeSpec.witness6 (enc := enc) (C := Try.checked) false ⟨#[], #[.slice none 0 0, .int .u8 0, .bool false], []⟩ 8 (by kernel_rfl) (by kernel_rfl) (by kernel_rfl) (by kernel_rfl))
    rfl rfl (by kernel_rfl) (fun ds h => by match ds, h with | [a0, a1, a2], _ => rfl) (AirSame_law enc)
theorem AirSame_over : Rows.airSameRow.holds Try.pinned (OpenSpec.ofChange Rows.airSameSpec) :=
  OpenClaim.holds_of_wide 5 Try.f5 rfl rfl rfl rfl rfl rfl rfl ⟨rfl, rfl, rfl, rfl, rfl⟩ rfl rfl rfl rfl rfl (by kernel_rfl) Try.func5 (by kernel_rfl)
    (of_decide_eq_true (by kernel_rfl)) (by unfold Func.isWrapper; rw [if_neg (of_decide_eq_false (by kernel_rfl))]; exact ⟨rfl, rfl⟩)
    (fun os started H enc _ => AirSame_lifted os started H enc)
theorem AirSame_holds : Rows.AirSameSaid := AirSame_over
#print axioms AirSame_holds
end Go.Proofs.Ythbckdjncmipeaa
