/- The law CapTicks returns true at any stretches; every input is spoken of. -/
import Derived.Test.YtdafbepmilidnaaLaws
import Derived.Test.YtdafbepmilidnaaTicks
import Derived.Test.YtdafbepmilidnaaOpen
namespace Go.Proofs.Ytdafbepmilidnaa
open Go.ChangeShapes Go.WideShapes Go.ChangeAt Go.RowKit
theorem Try.info24 : (Try.prog.info? 24).map (fun i => (i.zero, i.size, i.bytes)) = some (some (.agg #[.int .u32 0, .int .u32 0]), 2, 8) := by kernel_rfl
/-- Pairs of bytes that lie in memory. -/
def PairsAt8 (w : World) (b off len : Nat) (l : List (Int × Int)) : Prop :=
  l.length = len ∧ ∀ i, i < len → w.cell? ⟨b, off + i * 2, none⟩ = some (.int .u8 (l.getD i (0, 0)).1) ∧ w.cell? ⟨b, off + i * 2 + 1, none⟩ = some (.int .u8 (l.getD i (0, 0)).2)
theorem PairsAt8.below {w w' : World} {b off len : Nat} {l : List (Int × Int)} (h : PairsAt8 w b off len l) (hb : b < w.heap.size) (hw : Below w.heap.size w w') : PairsAt8 w' b off len l :=
  ⟨h.1, fun i hi => by
    obtain ⟨h1, h2⟩ := h.2 i hi
    exact ⟨(hw.cell (p := ⟨b, off + i * 2, none⟩) hb).trans h1, (hw.cell (p := ⟨b, off + i * 2 + 1, none⟩) hb).trans h2⟩⟩
set_option maxHeartbeats 1000000 in
theorem CapTicks_none (n c : Nat) (w : World) (ao : Option Addr) (hn : n = 0) :
    Calls Try.prog 4 #[.slice ao n c] w fun e w' => e = .returned (.bool true) ∧ Below w.heap.size w w' := by
  subst hn
  go_enter Try.func4, Try.ntmps4
  go_wp2_with fail
  refine (awake_any _).mono ?_; rintro e w1 ⟨rfl, hb⟩; have HB := Lib.hid hb; clear hb
  go_wp2_with fail
  refine (awake_any _).mono ?_; rintro e w2 ⟨rfl, hb⟩; have HC := Lib.hid hb; clear hb
  go_wp2_with fail
  go_ret
  exact ⟨rfl, HB.out.trans (HC.out.mono HB.out.size)⟩
set_option maxRecDepth 100000 in
set_option maxHeartbeats 1000000 in
theorem CapTicks_some (b off len cap : Nat) (l : List (Int × Int)) (w : World) (h0 : 0 < len) (hcap : len ≤ cap) (hm : cap ≤ maxLen) (hb : b < w.heap.size) (hl : PairsAt8 w b off len l) (ht : Bytes2 l) (k : Nat) (hk : k = min len 20) (L : List (Int × Int)) (hL : L = l.take k) :
    Calls Try.prog 4 #[.slice (some ⟨b, off, none⟩) len cap] w fun e w' => e = .returned (.bool true) ∧ Below w.heap.size w w' := by
  obtain ⟨i0, hi, hz0, hz1, hz2⟩ := info_parts Try.info24
  have hq : ((len : Int) == 0) = false := by simp; omega
  have HL : Hid (PairsAt8 w b off k L) := by
    refine ⟨by rw [hL, List.length_take, hl.1]; omega, fun i hi => ?_⟩
    have e : L.getD i (0, 0) = l.getD i (0, 0) := by rw [hL]; simp [List.getD, hi]
    rw [e]
    exact hl.2 i (by omega)
  have HT : Hid (Bytes2 L) := fun x hx => ht x (by rw [hL] at hx; exact List.mem_of_mem_take hx)
  unfold maxLen at hm
  have hk1 : k ≤ 20 := by omega
  have hk0 : 0 < k := by omega
  have hkc : k ≤ cap := by omega
  have HK := Lib.hid hk
  clear hl ht hL l hk
  go_enter Try.func4, Try.ntmps4
  go_wp2_with fail
  refine (awake_any _).mono ?_; rintro e w1 ⟨rfl, hb1⟩; have HB := Lib.hid hb1; clear hb1
  have hmin : (if (20 : Int) < (len : Int) then (20 : Int) else (len : Int)) = (k : Int) := by have := HK.out; split <;> omega
  go_wp2_with fail
  have hB := HB.out
  have HP1 := Lib.hid (HL.out.below hb hB)
  have hs1 := hB.size
  clear HB hmin HK
  go_loopw [3, 26] (fun v i wr => ∃ j : Nat, j ≤ k ∧ i = .int .i64 j ∧ wr.ownsRow w1.heap.size 24 2 v j (pcells (L.take j)) ∧ Below w1.heap.size w1 wr) (fun _ i _ => k - (intOf i).toNat)
  case atStart => exact ⟨0, Nat.zero_le _, rfl, World.ownsRow_nil _ _ _ _, Below.refl _ _⟩
  case round =>
    obtain ⟨j, hj, rfl, hown, hbel⟩ := hrel
    have HO := Lib.hid hown
    have hsz := hbel.size
    by_cases hlt : j < k
    · obtain ⟨g1, g2⟩ := (HP1.out.below (by omega) hbel).2 j hlt
      have hxb := HT.out (L.getD j (0, 0)) (by have := HL.out.1; simp [List.getD, show j < L.length by omega])
      have hs := take_succ_getD L j (by rw [HL.out.1]; exact hlt)
      obtain ⟨d0, d1, d2, d3⟩ := hxb
      have HS : Hid (pcells (L.take (j + 1)) = pcells (L.take j) ++ pcells [((L.getD j (0, 0)).1, (L.getD j (0, 0)).2)]) := by rw [hs]; exact pcells_append _ _
      clear hs hown
      generalize (L.getD j (0, 0)).1 = x0 at *
      generalize (L.getD j (0, 0)).2 = x1 at *
      go_wp2_with (at_builtin; go_must (
        refine wpList_append_src rfl _ _ 22 rfl w1.heap.size 24 i0 _ 2 8 Try.underlying22 hi hz0 hz1 hz2 rfl (by decide) _ j (pcells (L.take j)) ((HO.out.alloc _).alloc _) rfl _ 1 (pcells [(x0, x1)]) rfl (SlAt.block (e := 24) (fr := (0, 0)) #[.int .u32 x0, .int .u32 x1] _ rfl (hx_new (by simp)) rfl (by decide)) (pcells_one _) (by unfold maxLen; omega) (by omega) (by simp; omega) ?_
        intro va w2 own2 grow2 _))
      have bel2 : Below w1.heap.size w1 w2 := Below.grown ((hbel.alloc hsz _).alloc (by simp; omega) _) grow2 (by simp; omega) (fun q hq => (HO.out.lt q hq).1)
      have OW := Lib.hid own2
      clear own2 grow2
      go_roundw
      case rel => exact ⟨j + 1, by omega, by go_num, by rw [HS.out]; exact OW.out, bel2⟩
      case measure => simp [intOf]; omega
    · obtain rfl : j = k := by omega
      have htake : L.take j = L := List.take_of_length_le (by rw [HL.out.1]; exact Nat.le_refl _)
      rw [htake] at hown
      have HOW := Lib.hid hown
      have HOL := Lib.hid hbel
      clear HO hown hbel htake
      obtain ⟨wo, hwo⟩ : ∃ wo : World, wo = wr := ⟨_, rfl⟩
      subst hwo
      go_wp2_with fail
      have hcl := cnt_le L
      have HCL := Lib.hid hcl
      clear hcl
      go_loopw [6, 41] (fun n t wr => ∃ q : Nat, q ≤ 256 ∧ t = .int .i64 q ∧ n = .int .i64 (cnt L q) ∧ Below wo.heap.size wo wr) (fun _ t _ => 256 - (intOf t).toNat)
      case atStart => exact ⟨0, by omega, rfl, rfl, Below.refl _ _⟩
      case round =>
        obtain ⟨q, hq256, rfl, rfl, hbel⟩ := hrel
        have hcq := HCL.out q
        obtain ⟨wp, hwp⟩ : ∃ wp : World, wp = wr := ⟨_, rfl⟩
        subst hwp
        have hszo := HOL.out.size
        have hszp := hbel.size
        have HP2 := Lib.hid (HP1.out.below (by omega) (HOL.out.trans (hbel.mono hszo)))
        have HBP := Lib.hid hbel
        clear hbel
        by_cases hlt : q < 256
        · go_wp2_with fail
          go_loopw [8, 46] (fun c i wr => ∃ m : Nat, m ≤ j ∧ i = .int .i64 m ∧ c = .bool (inAll (L.take m) q) ∧ Below wp.heap.size wp wr) (fun _ i _ => j - (intOf i).toNat)
          case atStart => exact ⟨0, by omega, rfl, rfl, Below.refl _ _⟩
          case round =>
            obtain ⟨m, hm2, rfl, rfl, hbi⟩ := hrel
            have hszi := hbi.size
            by_cases hmlt : m < j
            · obtain ⟨g1, g2⟩ := (HP2.out.below (by omega) hbi).2 m hmlt
              have hxb := HT.out (L.getD m (0, 0)) (by have := HL.out.1; simp [List.getD, show m < L.length by omega])
              have hs := take_succ_getD L m (by rw [HL.out.1]; exact hmlt)
              obtain ⟨d0, d1, d2, d3⟩ := hxb
              have HS : Hid (inAll (L.take (m + 1)) q = (inAll (L.take m) q && (decide ((L.getD m (0, 0)).1 ≤ (q : Int)) && decide ((q : Int) ≤ (L.getD m (0, 0)).2)))) := by rw [hs]; exact inAll_snoc _ _ _
              clear hs
              generalize (L.getD m (0, 0)).1 = x0 at *
              generalize (L.getD m (0, 0)).2 = x1 at *
              generalize inAll (L.take m) q = c at *
              have HBI := Lib.hid hbi
              clear hbi
              cases c
              · go_wp2_with fail
                go_roundw
                case rel => exact ⟨m + 1, by omega, by go_num, by rw [HS.out]; rfl, by first | exact HBI.out.alloc hszi _ | exact below_drewN (HBI.out.alloc hszi _) _⟩
                case measure => simp [intOf]; omega
              · by_cases e1 : x0 ≤ (q : Int)
                · by_cases e2 : (q : Int) ≤ x1
                  · go_wp2_with fail
                    go_roundw
                    case rel => exact ⟨m + 1, by omega, by go_num, by rw [HS.out]; simp [e1, e2], by first | exact HBI.out.alloc hszi _ | exact below_drewN (HBI.out.alloc hszi _) _⟩
                    case measure => simp [intOf]; omega
                  · go_wp2_with fail
                    go_roundw
                    case rel => exact ⟨m + 1, by omega, by go_num, by rw [HS.out]; simp [e2], by first | exact HBI.out.alloc hszi _ | exact below_drewN (HBI.out.alloc hszi _) _⟩
                    case measure => simp [intOf]; omega
                · go_wp2_with fail
                  go_roundw
                  case rel => exact ⟨m + 1, by omega, by go_num, by rw [HS.out]; simp [e1], by first | exact HBI.out.alloc hszi _ | exact below_drewN (HBI.out.alloc hszi _) _⟩
                  case measure => simp [intOf]; omega
            · have hmj : L.take m = L := List.take_of_length_le (by rw [HL.out.1]; omega)
              rw [hmj]
              have HS := cnt_succ L q
              have HBI := Lib.hid hbi
              clear hmj hbi
              generalize inAll L q = c at *
              have HSS := Lib.hid HS
              clear HS
              cases c
              · go_wp2_with fail
                go_roundw
                case rel => exact ⟨q + 1, by omega, by go_num, by rw [HSS.out]; exact val_int (by simp), HBP.out.trans (HBI.out.mono hszp)⟩
                case measure => simp [intOf]; omega
              · go_wp2_with fail
                go_roundw
                case rel => exact ⟨q + 1, by omega, by go_num, by rw [HSS.out]; exact val_int (by simp), HBP.out.trans (HBI.out.mono hszp)⟩
                case measure => simp [intOf]; omega
        · obtain rfl : q = 256 := by omega
          have hne : L ≠ [] := by intro h; have := HL.out.1; rw [h] at this; simp at this; omega
          have hov := ticks_eq L hne HT.out
          have HV : Hid (SlAt wp u3 j 2 (pcells L)) := by
            obtain ⟨h0, ao, c, h1, h2, h3, h4, h5⟩ := SlAt.ofOwn HOW.out
            exact (SlAt.ofOwn HOW.out).of (by omega) HBP.out.block
          have HO2 := Lib.hid (fun w h => hov ▸ Overlap_val u3 j L w h HT.out.inTick)
          clear hov
          generalize cnt L 256 = n at *
          go_wp2_with fail
          refine (HO2.out _ HV.out).mono ?_
          rintro e w4 ⟨rfl, hb4⟩
          have HB4 := Lib.hid hb4
          clear hb4
          go_wp2_with fail
          go_ret
          exact ⟨rfl, hB.trans ((HOL.out.trans ((HBP.out.mono hszo).trans (HB4.out.mono (by omega)))).mono hs1)⟩
theorem CapTicks_law {H : Type} (enc : TypeId × Value → H) : LawWalk enc 4 Try.f4 := by
  intro W base args ds before hval hA _ _
  rw [Try.params4] at hA hval
  obtain ⟨v0, vs0, d0, ds0, p0, q0, hargs, rfl, rfl, h0, r0⟩ := trodAll_cons hA
  obtain ⟨rfl, rfl, rfl⟩ := trodAll_nil r0
  obtain rfl : args = #[v0] := by cases args; simp_all
  obtain ⟨a0, n0, c0, hv0⟩ := okWide_slice Try.underlying28 (hval 0 28 v0 rfl rfl)
  rcases open_pairs Try.underlying28 Try.underlying29 Try.underlying5 (by kernel_rfl) (by kernel_rfl) h0 (by rw [hv0]; rfl) with rfl | ⟨ao, len, cap, l, rfl, hlc, hcm, hll, hwf, hcell⟩
  · exact CapTicks_none 0 0 W none rfl
  · by_cases hz : len = 0
    · exact CapTicks_none len cap W ao hz
    · obtain ⟨b, off, rfl, hb, hc⟩ := hcell (by omega)
      exact CapTicks_some b off len cap l W (by omega) hlc hcm hb ⟨hll, hc⟩ (fun x hx => by obtain ⟨g0, g1⟩ := hwf x hx; have e0 := bounds_u8 g0; have e1 := bounds_u8 g1; omega) _ rfl _ rfl
set_option maxRecDepth 100000 in
theorem CapTicks_lifted (os : Os) (started : os.Started) (H : Type) (enc : TypeId × Value → H) :
    ReturnsInHanded {} Try.checked os 4 .any (Rows.capTicksSpec.pre6 enc Try.prog Try.f4 Rows.capTicksRow.domain false) (Rows.capTicksSpec.post enc Try.prog Try.f4 false true false false) :=
  lift_true started Try.func4 (by kernel_rfl)
    (ChangeSpec.witness6 (enc := enc) (C := Try.checked) false ⟨#[], #[.slice none 0 0], []⟩ 8 (by kernel_rfl) (by kernel_rfl) (by kernel_rfl) (by kernel_rfl))
    rfl rfl (by kernel_rfl) (fun ds h => by match ds, h with | [a0], _ => rfl) (CapTicks_law enc)
theorem CapTicks_over : Rows.capTicksRow.holds Try.pinned (OpenSpec.ofChange Rows.capTicksSpec) :=
  OpenClaim.holds_of_wide 4 Try.f4 rfl rfl rfl rfl rfl rfl rfl ⟨rfl, rfl, rfl, rfl, rfl⟩ rfl rfl rfl rfl rfl (by kernel_rfl) Try.func4 (by kernel_rfl)
    (of_decide_eq_true (by kernel_rfl)) (by unfold Func.isWrapper; rw [if_neg (of_decide_eq_false (by kernel_rfl))]; exact ⟨rfl, rfl⟩)
    (fun os started H enc _ => CapTicks_lifted os started H enc)
theorem CapTicks_holds : Rows.CapTicksSaid := CapTicks_over
#print axioms CapTicks_holds
end Go.Proofs.Ytdafbepmilidnaa
