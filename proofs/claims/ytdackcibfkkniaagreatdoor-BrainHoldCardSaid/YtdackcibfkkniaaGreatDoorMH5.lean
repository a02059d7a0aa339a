/- Texts put together. -/
import Derived.Test.YtdackcibfkkniaaGreatDoorMH4
set_option synthInstance.maxSize 9999
set_option synthInstance.maxHeartbeats 400000
set_option maxRecDepth 20000
namespace Go.Proofs.YtdackcibfkkniaaGreatDoor
open Go.RowKit
namespace BN
theorem Ent.blkOwnB (b : Nat) (e sz m : Nat) (cs : List Value) (hl : cs.length = m * sz) (hm : m ≤ maxLen) (Γ : List Assn) : Ent (blk b e cs.toArray :: Γ) (own ⟨some ⟨b, 0, none⟩, m, m⟩ e sz cs :: Γ) := Ent.mono1 Γ fun h p => by
 refine ⟨hl, .inr ⟨b, 0, cs.toArray, rfl, p, Nat.le_refl _, hm, by simp [hl], ?_⟩⟩
 simp only [List.drop_zero]
 exact List.take_of_length_le (by omega)
theorem otC_len : ∀ o, (otC o).length = 13 := fun _ => rfl
section
variable {nd : Nd} {x : Nt}
theorem act_load (h : x.kind = 3) : actR nd x = { nd with wrong := nd.wrong || (nGet x.job nd.rk).isSome, rk := nPut x.job { place := x.rank } nd.rk, out := nd.out ++ [({ kind := 4, job := x.job }, [])] } := by rw [actR, if_pos h]
theorem act_go0 (h : x.kind = 5) (hg : nGet x.job nd.rk = none) : actR nd x = { nd with wrong := true } := by rw [actR, if_neg (by omega), if_pos h, hg]
theorem act_go {r : Rk} (h : x.kind = 5) (hg : nGet x.job nd.rk = some r) : actR nd x = { nd with wrong := nd.wrong || decide (runOf nd.rk ≠ 0), rk := nPut x.job { r with run := true, gen := x.gen, frm := 0, til := 0 } nd.rk } := by rw [actR, if_neg (by omega), if_pos h, hg]
theorem act_stop0 (h : x.kind = 6) (hr : ¬ runOf nd.rk ≠ 0) : actR nd x = { nd with out := nd.out ++ [({ kind := 7, gen := x.gen }, [])] } := by rw [actR, if_neg (by omega), if_neg (by omega), if_pos h, if_neg hr]
theorem act_stop {r : Rk} (h : x.kind = 6) (hr : runOf nd.rk ≠ 0) (hg : nGet (runOf nd.rk) nd.rk = some r) : actR nd x = { nd with rk := nPut (runOf nd.rk) { r with run := false } nd.rk, out := nd.out ++ [({ kind := 7, gen := x.gen, job := runOf nd.rk, frm := r.frm, til := r.til }, [])] } := by rw [actR, if_neg (by omega), if_neg (by omega), if_pos h, if_pos hr, hg]
theorem act_save0 (h : x.kind = 8) (hg : nGet x.job nd.rk = none) : actR nd x = { nd with wrong := true } := by rw [actR, if_neg (by omega), if_neg (by omega), if_neg (by omega), if_pos h, hg]
theorem act_save {r : Rk} (h : x.kind = 8) (hg : nGet x.job nd.rk = some r) : actR nd x = { nd with wrong := nd.wrong || r.run, out := nd.out ++ [({ kind := 9, job := x.job, ver := x.ver, rank := r.place }, [(r.place : Int), ((x.credit % 256 : Nat) : Int)])] } := by rw [actR, if_neg (by omega), if_neg (by omega), if_neg (by omega), if_pos h, hg]
theorem act_drop (h : x.kind = 10) : actR nd x = { nd with rk := nDel x.job nd.rk, out := nd.out ++ [({ kind := 11, job := x.job }, [])] } := by rw [actR, if_neg (by omega), if_neg (by omega), if_neg (by omega), if_neg (by omega), if_pos h]
theorem act_other (h3 : x.kind ≠ 3) (h5 : x.kind ≠ 5) (h6 : x.kind ≠ 6) (h8 : x.kind ≠ 8) (h10 : x.kind ≠ 10) : actR nd x = nd := by rw [actR, if_neg h3, if_neg h5, if_neg h6, if_neg h8, if_neg h10]
end
theorem wrap8 (n : Nat) : IntKind.u8.wrap (n : Int) = ((n % 256 : Nat) : Int) := by
 simp only [IntKind.wrap, IntKind.bits, IntKind.signed, Bool.false_and, Bool.false_eq_true, if_false]
 show (n : Int) % 256 = ((n % 256 : Nat) : Int)
 omega
theorem Ent.otApp (ov : SV) (os : List Ot) (o : Ot) (Γ : List Assn) : Ent (own ov 72 13 (os.flatMap otC ++ otC o) :: alls os otB :: otB o :: Γ) (own ov 72 13 ((os ++ [o]).flatMap otC) :: alls (os ++ [o]) otB :: Γ) := by
 rw [← flat_snoc otC os o]
 exact ((Ent.swap _ _ _).trans (Ent.allsSnoc otB os o Γ)).cons _
theorem Ent.otNil (ov : SV) (os : List Ot) (x : Nt) (Γ : List Assn) : Ent (own ov 72 13 (os.flatMap otC ++ otC ⟨x, SV.nil, []⟩) :: alls os otB :: Γ) (own ov 72 13 ((os ++ [(⟨x, SV.nil, []⟩ : Ot)]).flatMap otC) :: alls (os ++ [(⟨x, SV.nil, []⟩ : Ot)]) otB :: Γ) :=
 (((show Ent Γ (otB ⟨x, SV.nil, []⟩ :: Γ) from Ent.ownNil 5 1).cons _).cons _).trans (Ent.otApp ov os ⟨x, SV.nil, []⟩ Γ)
theorem NF.say {nd : Nd} {iv ov ov' : SV} {rs rs' : List Ro} {os : List Ot} (h : NF nd iv ov rs os) (o : Ot) (ho : ov'.n = ov.n + 1) {rk : Rs} (hr : rs'.map roR = rk) (wr : Bool) : NF { nd with rk := rk, out := nd.out ++ [otR o], wrong := wr } iv ov' rs' (os ++ [o]) := ⟨hr, by rw [List.map_append, h.os]; rfl, h.i, by show ov'.n = (nd.out ++ [otR o]).length; rw [List.length_append, List.length_singleton, ho, h.o]⟩
set_option maxHeartbeats 8000000 in
theorem act_S (p : Nat) (nd : Nd) (x : Nt) (ham : amB nd.rk = true) (hol : nd.out.length ≤ 1000000000000) : Spec Tryz.prog 97 [pt p, .agg (niC x).toArray] [NI p nd] fun Γ _ Θ => Θ = NI p (actR nd x) :: Γ := by
 refine Zbd Tryz.func97 rfl Tryz.ntmps97 fun w0 Γ => Zsh ?_
 refine S.niOpen p nd fun rb iv ov rs os hN => ?_
 have hon := hN.o
 have hrk := hN.rk
 refine ZY 2 ?_
 refine Zp (S.box (cs := [_, _, _, _, _, _, _, _, _, _, _, _, _]) rfl rfl rfl ?_)
 intro b3
 refine ZY 2 ?_
 rcases hgr : nGet x.job nd.rk with _ | r
 ·have hlk : alGet (x.job : Int) (rs.map roE) = none := rs_none (by rw [hrk]; exact hgr)
  have hnew := fun r p => rs_new (rs := rs) (id := x.job) (by rw [hrk]; exact hgr) r p
  refine Zd0 (Zra 0 8) ?_
  refine ZY 6 ?_
  refine Zw ef (q_lookup1 (.pointer none) Tryz.underlying104 Tryz.underlying31 Tryz.zv112.h rfl rfl rfl (by rw [hlk]; rfl)) ?_
  refine Zy ?_
  refine ZD ?_
  refine ZY 8 ?_
  refine ZY 3 ?_
  refine Zj ef (fun h1 => ?_) (fun h1 => ?_)
  ·have hk : x.kind = 3 := by omega
   have hact := act_load (nd := nd) hk
   rw [hgr] at hact
   refine ZY 8 ?_
   refine Zbb 24 ef (fun hg4_5 => ?_) (fun hg4_5 => ?_)
   ·refine ZY 8 ?_
    refine Zd ([blk b3 72 (niC x).toArray, blk p 107 #[.bool nd.up, .map (some rb), iv.v, ov.v, .bool (nd.wrong || (nGet x.job nd.rk).isSome)]]) [10] (Zra 0 9) ?_
    refine S.blkAs p #[.bool nd.up, .map (some rb), iv.v, ov.v, .bool (nd.wrong || (nGet x.job nd.rk).isSome)] (by rw [hgr]; simp [hg4_5]) ?_
    refine ZY 8 ?_
    refine Zw ef (q_build (pvs := [(_, _)]) [_, _, _, _, _] Tryz.z111.h Tryz.p111.h ⟨⟨rfl, rfl⟩, trivial⟩ rfl) ?_
    refine Z1 (i := 9) ef ef ?_
    refine (S.box (cs := [_, _, _, _, _]) rfl rfl rfl ?_)
    intro b39
    refine Zk [] ?_
    refine Z1 (i := 10) ef ef ?_
    refine (S.mapUpdate Tryz.underlying104 Tryz.underlying31 rfl rfl rfl rfl ?_)
    refine ZL ([]) [] ?_
    refine ZD ?_
    refine Zd ([blk b3 72 (niC x).toArray, blk p 107 #[.bool nd.up, .map (some rb), iv.v, ov.v, .bool (nd.wrong || (nGet x.job nd.rk).isSome)]]) [12] (Zra 0 8) ?_
    refine ZY 7 ?_
    refine Zw ef (q_build (pvs := [(_, _), (_, _)]) [_, _, _, _, _, _, _, _, _, _, _, _, _] Tryz.z72.h Tryz.p72.h ⟨⟨rfl, rfl⟩, ⟨rfl, rfl⟩, trivial⟩ rfl) ?_
    refine Z1 (i := 8) ef ef ?_
    refine (S.buildSlice (pvs := [(_, _)]) [_, _, _, _, _, _, _, _, _, _, _, _, _] Tryz.underlying105 Tryz.inf72.h rfl rfl ⟨⟨rfl, rfl⟩, trivial⟩ rfl rfl ?_)
    intro b48
    refine Zk [] ?_
    refine Z1 (i := 9) ef ef ?_
    refine (S.appendOw (s := ov) (1) (otC ⟨{ kind := 4, job := x.job }, SV.nil, []⟩) Tryz.underlying105 Tryz.inf72.h rfl rfl rfl (blk_slAt (b := b48) rfl (by unfold maxLen; omega)) (by first | rfl | exact allOne_bcells _) (⟨by omega, by omega⟩) rfl ?_)
    intro ov2 hov2
    refine Zk [10, 11] ?_
    refine ZY 2 ?_
    refine Z1 (i := 12) ef ef ?_
    refine (S.store (cs' := [_, _, _, _, _]) Eo.h rfl rfl rfl rfl rfl ?_)
    refine ZL ([]) [] ?_
    refine ZD ?_
    refine S.conv2 (own ov2 72 13 (os.flatMap otC ++ otC ⟨{ kind := 4, job := x.job }, SV.nil, []⟩)) (alls os otB) (Ent.otNil ov2 os { kind := 4, job := x.job } _) ?_
    obtain ⟨m1, m2, _⟩ := hnew { place := x.rank } b39
    rw [m1]
    refine S.conv2 (blk b39 111 (rkC { place := x.rank }).toArray) (alls rs roB) (Ent.allsSnoc roB rs ((x.job, { place := x.rank }, b39) : Ro) _) ?_
    refine S.niClose p { nd with rk := nPut x.job { place := x.rank } nd.rk, out := nd.out ++ [otR ⟨{ kind := 4, job := x.job }, SV.nil, []⟩], wrong := nd.wrong || (nGet x.job nd.rk).isSome } rb iv ov2 (rs ++ [(x.job, { place := x.rank }, b39)]) (os ++ [⟨{ kind := 4, job := x.job }, SV.nil, []⟩]) (hN.say ⟨{ kind := 4, job := x.job }, SV.nil, []⟩ hov2 (by rw [← m2, hrk]) _) ?_
    refine S.conv (NI p { nd with rk := nPut x.job { place := x.rank } nd.rk, out := nd.out ++ [otR ⟨{ kind := 4, job := x.job }, SV.nil, []⟩], wrong := nd.wrong || (nGet x.job nd.rk).isSome }) (show Ent _ (NI p (actR nd x) :: _) by rw [hact, hgr]; exact Ent.refl _) ?_
    exact Zfn ef Zq (rfl)
   ·refine ZY 8 ?_
    refine Zd ([blk b3 72 (niC x).toArray, blk p 107 #[.bool nd.up, .map (some rb), iv.v, ov.v, .bool (nd.wrong || (nGet x.job nd.rk).isSome)]]) [10] (Zra 0 9) ?_
    refine S.blkAs p #[.bool nd.up, .map (some rb), iv.v, ov.v, .bool (nd.wrong || (nGet x.job nd.rk).isSome)] (by rw [hgr]; simp [hg4_5]) ?_
    refine ZY 8 ?_
    refine Zw ef (q_build (pvs := [(_, _)]) [_, _, _, _, _] Tryz.z111.h Tryz.p111.h ⟨⟨rfl, rfl⟩, trivial⟩ rfl) ?_
    refine Z1 (i := 9) ef ef ?_
    refine (S.box (cs := [_, _, _, _, _]) rfl rfl rfl ?_)
    intro b39
    refine Zk [] ?_
    refine Z1 (i := 10) ef ef ?_
    refine (S.mapUpdate Tryz.underlying104 Tryz.underlying31 rfl rfl rfl rfl ?_)
    refine ZL ([]) [] ?_
    refine ZD ?_
    refine Zd ([blk b3 72 (niC x).toArray, blk p 107 #[.bool nd.up, .map (some rb), iv.v, ov.v, .bool (nd.wrong || (nGet x.job nd.rk).isSome)]]) [12] (Zra 0 8) ?_
    refine ZY 7 ?_
    refine Zw ef (q_build (pvs := [(_, _), (_, _)]) [_, _, _, _, _, _, _, _, _, _, _, _, _] Tryz.z72.h Tryz.p72.h ⟨⟨rfl, rfl⟩, ⟨rfl, rfl⟩, trivial⟩ rfl) ?_
    refine Z1 (i := 8) ef ef ?_
    refine (S.buildSlice (pvs := [(_, _)]) [_, _, _, _, _, _, _, _, _, _, _, _, _] Tryz.underlying105 Tryz.inf72.h rfl rfl ⟨⟨rfl, rfl⟩, trivial⟩ rfl rfl ?_)
    intro b48
    refine Zk [] ?_
    refine Z1 (i := 9) ef ef ?_
    refine (S.appendOw (s := ov) (1) (otC ⟨{ kind := 4, job := x.job }, SV.nil, []⟩) Tryz.underlying105 Tryz.inf72.h rfl rfl rfl (blk_slAt (b := b48) rfl (by unfold maxLen; omega)) (by first | rfl | exact allOne_bcells _) (⟨by omega, by omega⟩) rfl ?_)
    intro ov2 hov2
    refine Zk [10, 11] ?_
    refine ZY 2 ?_
    refine Z1 (i := 12) ef ef ?_
    refine (S.store (cs' := [_, _, _, _, _]) Eo.h rfl rfl rfl rfl rfl ?_)
    refine ZL ([]) [] ?_
    refine ZD ?_
    refine S.conv2 (own ov2 72 13 (os.flatMap otC ++ otC ⟨{ kind := 4, job := x.job }, SV.nil, []⟩)) (alls os otB) (Ent.otNil ov2 os { kind := 4, job := x.job } _) ?_
    obtain ⟨m1, m2, _⟩ := hnew { place := x.rank } b39
    rw [m1]
    refine S.conv2 (blk b39 111 (rkC { place := x.rank }).toArray) (alls rs roB) (Ent.allsSnoc roB rs ((x.job, { place := x.rank }, b39) : Ro) _) ?_
    refine S.niClose p { nd with rk := nPut x.job { place := x.rank } nd.rk, out := nd.out ++ [otR ⟨{ kind := 4, job := x.job }, SV.nil, []⟩], wrong := nd.wrong || (nGet x.job nd.rk).isSome } rb iv ov2 (rs ++ [(x.job, { place := x.rank }, b39)]) (os ++ [⟨{ kind := 4, job := x.job }, SV.nil, []⟩]) (hN.say ⟨{ kind := 4, job := x.job }, SV.nil, []⟩ hov2 (by rw [← m2, hrk]) _) ?_
    refine S.conv (NI p { nd with rk := nPut x.job { place := x.rank } nd.rk, out := nd.out ++ [otR ⟨{ kind := 4, job := x.job }, SV.nil, []⟩], wrong := nd.wrong || (nGet x.job nd.rk).isSome }) (show Ent _ (NI p (actR nd x) :: _) by rw [hact, hgr]; exact Ent.refl _) ?_
    exact Zfn ef Zq (rfl)
  ·have hk3 : x.kind ≠ 3 := by omega
   refine ZY 5 ?_
   refine Zj ef (fun h2 => ?_) (fun h2 => ?_)
   ·have hact := act_go0 (nd := nd) (show x.kind = 5 by omega) hgr
    refine ZY 8 ?_
    refine Zbb 59 ef (fun hg8_5 => ?_) (fun hg8_5 => ?_)
    ·refine ZY 8 ?_
     refine ZY 8 ?_
     refine Zy ?_
     refine ZF ef ?_
     refine Zy ?_
     refine S.blkAs p #[.bool nd.up, .map (some rb), iv.v, ov.v, .bool true] rfl ?_
     refine S.niClose p { nd with wrong := true } rb iv ov rs os ⟨hN.rk, hN.os, hN.i, hN.o⟩ ?_
     rw [← hact]
     exact Zfn ef Zq (rfl)
    ·refine ZY 8 ?_
     refine ZY 8 ?_
     refine Zy ?_
     refine ZF ef ?_
     refine Zy ?_
     refine S.blkAs p #[.bool nd.up, .map (some rb), iv.v, ov.v, .bool true] rfl ?_
     refine S.niClose p { nd with wrong := true } rb iv ov rs os ⟨hN.rk, hN.os, hN.i, hN.o⟩ ?_
     rw [← hact]
     exact Zfn ef Zq (rfl)
   ·have hk5 : x.kind ≠ 5 := by omega
    refine ZY 5 ?_
    refine Zj ef (fun h4 => ?_) (fun h4 => ?_)
    ·have hk : x.kind = 6 := by omega
     refine ZY 4 ?_
     refine Zv (q_build (pvs := [(_, _), (_, _)]) [_, _, _, _, _, _, _, _, _, _, _, _, _] Tryz.z72.h Tryz.p72.h ⟨⟨rfl, rfl⟩, ⟨rfl, rfl⟩, trivial⟩ rfl) ?_
     refine Zp (S.alloc Tryz.z72.h rfl ?_)
     intro b5
     refine Zp (Zs ef ef (cs' := [_, _, _, _, _, _, _, _, _, _, _, _, _]) ef ?_)
     refine ZY 5 ?_
     refine Zp (Zcp Ze (runX_S (p := p) (rb := rb) hN ham) ?_)
     obtain ⟨j0, hj0⟩ : ∃ j0, j0 = runOf nd.rk := ⟨_, rfl⟩
     rw [← hj0]
     refine ZY 7 ?_
     refine Zj ef (fun h5 => ?_) (fun h5 => ?_)
     ·have hne : runOf nd.rk ≠ 0 := by omega
      obtain ⟨r2, hr2⟩ := runOf_get hne
      have hact := act_stop (x := x) hk hne hr2
      rw [← hj0] at hr2 hact
      obtain ⟨i2, q2, c1, c2, c3, c4, _⟩ := rs_some (rs := rs) (id := j0) (r := r2) (by rw [hrk]; exact hr2)
      refine ZY 7 ?_
      refine Zv (q_lookup1 (pt q2) Tryz.underlying104 Tryz.underlying31 Tryz.zv112.h rfl rfl rfl (by rw [c2]; rfl)) ?_
      refine ZY 4 ?_
      refine S.conv (alls rs roB) (Ent.roAt c1 _) ?_
      refine ZY 5 ?_
      refine Zd ([blk q2 111 (rkC { r2 with run := false }).toArray]) [] (Zra 0 10) ?_
      refine ZY 8 ?_
      refine ZY 2 ?_
      refine Z1 (i := 10) ef ef ?_
      refine (S.store (cs' := [_, _, _, _, _, _, _, _, _, _, _, _, _]) Eo.h rfl rfl rfl rfl rfl ?_)
      refine Zk [11] ?_
      refine Zy ?_
      refine Z1 (i := 12) ef ef ?_
      refine (S.store (cs' := [_, _, _, _, _, _, _, _, _, _, _, _, _]) Eo.h rfl rfl rfl rfl rfl ?_)
      refine Zk [13] ?_
      refine Zy ?_
      refine Z1 (i := 14) ef ef ?_
      refine (S.store (cs' := [_, _, _, _, _, _, _, _, _, _, _, _, _]) Eo.h rfl rfl rfl rfl rfl ?_)
      refine Zk [] ?_
      refine ZD ?_
      refine S.conv3 (roB ((j0, { r2 with run := false }, q2) : Ro)) (alls (rs.take i2) roB) (alls (rs.drop (i2 + 1)) roB) (Ent.allsBack roB (x' := (j0, { r2 with run := false }, q2)) c1 _) ?_
      refine S.conv (mapL rb .u32 (rs.map roE)) (show Ent _ (mapL rb .u32 ((rs.set i2 (j0, { r2 with run := false }, q2)).map roE) :: _) by rw [c4]; exact Ent.refl _) ?_
      refine S.blkAs b5 (niC { kind := 7, gen := x.gen, job := j0, frm := r2.frm, til := r2.til }).toArray rfl ?_
      obtain ⟨rs9, hrs9⟩ : ∃ rs9, rs9 = rs.set i2 (j0, { r2 with run := false }, q2) := ⟨_, rfl⟩
      obtain ⟨x9, hx9⟩ : ∃ x9 : Nt, x9 = { kind := 7, gen := x.gen, job := j0, frm := r2.frm, til := r2.til } := ⟨_, rfl⟩
      obtain ⟨rk9, hrk9⟩ : ∃ rk9, rk9 = nPut j0 { r2 with run := false } nd.rk := ⟨_, rfl⟩
      have hrr : rs9.map roR = rk9 := by rw [hrs9, hrk9, ← c3, hrk]
      rw [← hrk9, ← hx9] at hact
      rw [← hrs9, ← hx9]
      refine Zd ([blk b5 72 (niC x9).toArray, blk p 107 #[.bool nd.up, .map (some rb), iv.v, ov.v, .bool nd.wrong]]) [10] (Zra 0 6) ?_
      refine ZY 6 ?_
      refine Z1 (i := 6) ef ef ?_
      refine (S.buildSlice (pvs := [(_, _)]) [_, _, _, _, _, _, _, _, _, _, _, _, _] Tryz.underlying105 Tryz.inf72.h rfl rfl ⟨⟨rfl, rfl⟩, trivial⟩ rfl rfl ?_)
      intro b122
      refine Zk [] ?_
      refine Z1 (i := 7) ef ef ?_
      refine (S.appendOw (s := ov) (1) (otC ⟨x9, SV.nil, []⟩) Tryz.underlying105 Tryz.inf72.h rfl rfl rfl (blk_slAt (b := b122) rfl (by unfold maxLen; omega)) (by first | rfl | exact allOne_bcells _) (⟨by omega, by omega⟩) rfl ?_)
      intro ov2 hov2
      refine Zk [8, 9] ?_
      refine ZY 2 ?_
      refine Z1 (i := 10) ef ef ?_
      refine (S.store (cs' := [_, _, _, _, _]) Eo.h rfl rfl rfl rfl rfl ?_)
      refine ZL ([]) [] ?_
      refine ZD ?_
      refine S.conv2 (own ov2 72 13 (os.flatMap otC ++ otC ⟨x9, SV.nil, []⟩)) (alls os otB) (Ent.otNil ov2 os x9 _) ?_
      refine S.niClose p { nd with rk := rk9, out := nd.out ++ [otR ⟨x9, SV.nil, []⟩], wrong := nd.wrong } rb iv ov2 rs9 (os ++ [⟨x9, SV.nil, []⟩]) (hN.say ⟨x9, SV.nil, []⟩ hov2 hrr _) ?_
      refine S.conv (NI p { nd with rk := rk9, out := nd.out ++ [otR ⟨x9, SV.nil, []⟩], wrong := nd.wrong }) (show Ent _ (NI p (actR nd x) :: _) by rw [hact]; exact Ent.refl _) ?_
      exact Zfn ef Zq (rfl)
     ·refine Zy ?_
      have hact := act_stop0 (nd := nd) hk (show ¬ runOf nd.rk ≠ 0 by omega)
      refine S.blkAs b5 (niC { kind := 7, gen := x.gen }).toArray rfl ?_
      obtain ⟨rs9, hrs9⟩ : ∃ rs9, rs9 = rs := ⟨_, rfl⟩
      obtain ⟨x9, hx9⟩ : ∃ x9 : Nt, x9 = { kind := 7, gen := x.gen } := ⟨_, rfl⟩
      obtain ⟨rk9, hrk9⟩ : ∃ rk9, rk9 = nd.rk := ⟨_, rfl⟩
      have hrr : rs9.map roR = rk9 := by rw [hrs9, hrk9, hrk]
      have hact : actR nd x = { nd with rk := rk9, out := nd.out ++ [(x9, [])] } := by rw [hact, hx9, hrk9]
      rw [← hx9]
      refine S.conv2 (mapL rb .u32 (rs.map roE)) (alls rs roB) (show Ent _ (mapL rb .u32 (rs9.map roE) :: alls rs9 roB :: _) by rw [hrs9]; exact Ent.refl _) ?_
      refine Zd ([blk b5 72 (niC x9).toArray, blk p 107 #[.bool nd.up, .map (some rb), iv.v, ov.v, .bool nd.wrong]]) [10] (Zra 0 6) ?_
      refine ZY 6 ?_
      refine Z1 (i := 6) ef ef ?_
      refine (S.buildSlice (pvs := [(_, _)]) [_, _, _, _, _, _, _, _, _, _, _, _, _] Tryz.underlying105 Tryz.inf72.h rfl rfl ⟨⟨rfl, rfl⟩, trivial⟩ rfl rfl ?_)
      intro b122
      refine Zk [] ?_
      refine Z1 (i := 7) ef ef ?_
      refine (S.appendOw (s := ov) (1) (otC ⟨x9, SV.nil, []⟩) Tryz.underlying105 Tryz.inf72.h rfl rfl rfl (blk_slAt (b := b122) rfl (by unfold maxLen; omega)) (by first | rfl | exact allOne_bcells _) (⟨by omega, by omega⟩) rfl ?_)
      intro ov2 hov2
      refine Zk [8, 9] ?_
      refine ZY 2 ?_
      refine Z1 (i := 10) ef ef ?_
      refine (S.store (cs' := [_, _, _, _, _]) Eo.h rfl rfl rfl rfl rfl ?_)
      refine ZL ([]) [] ?_
      refine ZD ?_
      refine S.conv2 (own ov2 72 13 (os.flatMap otC ++ otC ⟨x9, SV.nil, []⟩)) (alls os otB) (Ent.otNil ov2 os x9 _) ?_
      refine S.niClose p { nd with rk := rk9, out := nd.out ++ [otR ⟨x9, SV.nil, []⟩], wrong := nd.wrong } rb iv ov2 rs9 (os ++ [⟨x9, SV.nil, []⟩]) (hN.say ⟨x9, SV.nil, []⟩ hov2 hrr _) ?_
      refine S.conv (NI p { nd with rk := rk9, out := nd.out ++ [otR ⟨x9, SV.nil, []⟩], wrong := nd.wrong }) (show Ent _ (NI p (actR nd x) :: _) by rw [hact]; exact Ent.refl _) ?_
      exact Zfn ef Zq (rfl)
    ·have hk6 : x.kind ≠ 6 := by omega
     refine ZY 5 ?_
     refine Zj ef (fun h6 => ?_) (fun h6 => ?_)
     ·have hact := act_save0 (nd := nd) (show x.kind = 8 by omega) hgr
      refine ZY 8 ?_
      refine Zbb 133 ef (fun hg20_5 => ?_) (fun hg20_5 => ?_)
      ·refine ZY 8 ?_
       refine ZY 8 ?_
       refine ZY 2 ?_
       refine ZF ef ?_
       refine Zy ?_
       refine S.blkAs p #[.bool nd.up, .map (some rb), iv.v, ov.v, .bool true] rfl ?_
       refine S.niClose p { nd with wrong := true } rb iv ov rs os ⟨hN.rk, hN.os, hN.i, hN.o⟩ ?_
       rw [← hact]
       exact Zfn ef Zq (rfl)
      ·refine ZY 8 ?_
       refine ZY 8 ?_
       refine ZY 2 ?_
       refine ZF ef ?_
       refine Zy ?_
       refine S.blkAs p #[.bool nd.up, .map (some rb), iv.v, ov.v, .bool true] rfl ?_
       refine S.niClose p { nd with wrong := true } rb iv ov rs os ⟨hN.rk, hN.os, hN.i, hN.o⟩ ?_
       rw [← hact]
       exact Zfn ef Zq (rfl)
     ·have hk8 : x.kind ≠ 8 := by omega
      refine ZY 5 ?_
      refine Zj ef (fun h8 => ?_) (fun h8 => ?_)
      ·have hact := act_drop (nd := nd) (show x.kind = 10 by omega)
       refine Zy ?_
       refine Zd ([blk b3 72 (niC x).toArray, blk p 107 #[.bool nd.up, .map (some rb), iv.v, ov.v, .bool nd.wrong]]) [6] (Zra 0 6) ?_
       refine ZY 6 ?_
       refine Z1 (i := 6) ef ef ?_
       refine (S.mapDelete Tryz.underlying104 Tryz.underlying31 rfl rfl rfl ?_)
       refine ZL ([]) [] ?_
       refine ZD ?_
       refine Zd ([blk b3 72 (niC x).toArray, blk p 107 #[.bool nd.up, .map (some rb), iv.v, ov.v, .bool nd.wrong]]) [12] (Zra 0 8) ?_
       refine ZY 7 ?_
       refine Zw ef (q_build (pvs := [(_, _), (_, _)]) [_, _, _, _, _, _, _, _, _, _, _, _, _] Tryz.z72.h Tryz.p72.h ⟨⟨rfl, rfl⟩, ⟨rfl, rfl⟩, trivial⟩ rfl) ?_
       refine Z1 (i := 8) ef ef ?_
       refine (S.buildSlice (pvs := [(_, _)]) [_, _, _, _, _, _, _, _, _, _, _, _, _] Tryz.underlying105 Tryz.inf72.h rfl rfl ⟨⟨rfl, rfl⟩, trivial⟩ rfl rfl ?_)
       intro b189
       refine Zk [] ?_
       refine Z1 (i := 9) ef ef ?_
       refine (S.appendOw (s := ov) (1) (otC ⟨{ kind := 11, job := x.job }, SV.nil, []⟩) Tryz.underlying105 Tryz.inf72.h rfl rfl rfl (blk_slAt (b := b189) rfl (by unfold maxLen; omega)) (by first | rfl | exact allOne_bcells _) (⟨by omega, by omega⟩) rfl ?_)
       intro ov2 hov2
       refine Zk [10, 11] ?_
       refine ZY 2 ?_
       refine Z1 (i := 12) ef ef ?_
       refine (S.store (cs' := [_, _, _, _, _]) Eo.h rfl rfl rfl rfl rfl ?_)
       refine ZL ([]) [] ?_
       refine ZD ?_
       refine S.conv2 (own ov2 72 13 (os.flatMap otC ++ otC ⟨{ kind := 11, job := x.job }, SV.nil, []⟩)) (alls os otB) (Ent.otNil ov2 os { kind := 11, job := x.job } _) ?_
       obtain ⟨_, _, m3, m4⟩ := hnew { place := 0 } 0
       rw [m3]
       refine S.niClose p { nd with rk := nDel x.job nd.rk, out := nd.out ++ [otR ⟨{ kind := 11, job := x.job }, SV.nil, []⟩], wrong := nd.wrong } rb iv ov2 rs (os ++ [⟨{ kind := 11, job := x.job }, SV.nil, []⟩]) (hN.say ⟨{ kind := 11, job := x.job }, SV.nil, []⟩ hov2 (by rw [← hrk, m4]) _) ?_
       refine S.conv (NI p { nd with rk := nDel x.job nd.rk, out := nd.out ++ [otR ⟨{ kind := 11, job := x.job }, SV.nil, []⟩], wrong := nd.wrong }) (show Ent _ (NI p (actR nd x) :: _) by rw [hact]; exact Ent.refl _) ?_
       exact Zfn ef Zq (rfl)
      ·refine Zy ?_
       refine S.niClose p nd rb iv ov rs os hN ?_
       refine S.conv (NI p nd) (show Ent _ (NI p (actR nd x) :: _) by rw [act_other hk3 hk5 hk6 hk8 (by omega)]; exact Ent.refl _) ?_
       exact Zfn ef Zq (rfl)
 ·obtain ⟨i, q, k1, hlk, k3, k4, k5, k6, k7, k8⟩ := rs_some (rs := rs) (id := x.job) (r := r) (by rw [hrk]; exact hgr)
  refine Zd0 (Zra 0 8) ?_
  refine ZY 6 ?_
  refine Zw ef (q_lookup1 (pt q) Tryz.underlying104 Tryz.underlying31 Tryz.zv112.h rfl rfl rfl (by rw [hlk]; rfl)) ?_
  refine Zy ?_
  refine ZD ?_
  refine ZY 8 ?_
  refine ZY 3 ?_
  refine Zj ef (fun h1 => ?_) (fun h1 => ?_)
  ·have hk : x.kind = 3 := by omega
   have hact := act_load (nd := nd) hk
   rw [hgr] at hact
   refine ZY 8 ?_
   refine Zbb 24 ef (fun hg4_5 => ?_) (fun hg4_5 => ?_)
   ·refine ZY 8 ?_
    refine Zd ([blk b3 72 (niC x).toArray, blk p 107 #[.bool nd.up, .map (some rb), iv.v, ov.v, .bool (nd.wrong || (nGet x.job nd.rk).isSome)]]) [10] (Zra 0 9) ?_
    refine S.blkAs p #[.bool nd.up, .map (some rb), iv.v, ov.v, .bool (nd.wrong || (nGet x.job nd.rk).isSome)] (by rw [hgr]; simp [hg4_5]) ?_
    refine ZY 8 ?_
    refine Zw ef (q_build (pvs := [(_, _)]) [_, _, _, _, _] Tryz.z111.h Tryz.p111.h ⟨⟨rfl, rfl⟩, trivial⟩ rfl) ?_
    refine Z1 (i := 9) ef ef ?_
    refine (S.box (cs := [_, _, _, _, _]) rfl rfl rfl ?_)
    intro b39
    refine Zk [] ?_
    refine Z1 (i := 10) ef ef ?_
    refine (S.mapUpdate Tryz.underlying104 Tryz.underlying31 rfl rfl rfl rfl ?_)
    refine ZL ([]) [] ?_
    refine ZD ?_
    refine Zd ([blk b3 72 (niC x).toArray, blk p 107 #[.bool nd.up, .map (some rb), iv.v, ov.v, .bool (nd.wrong || (nGet x.job nd.rk).isSome)]]) [12] (Zra 0 8) ?_
    refine ZY 7 ?_
    refine Zw ef (q_build (pvs := [(_, _), (_, _)]) [_, _, _, _, _, _, _, _, _, _, _, _, _] Tryz.z72.h Tryz.p72.h ⟨⟨rfl, rfl⟩, ⟨rfl, rfl⟩, trivial⟩ rfl) ?_
    refine Z1 (i := 8) ef ef ?_
    refine (S.buildSlice (pvs := [(_, _)]) [_, _, _, _, _, _, _, _, _, _, _, _, _] Tryz.underlying105 Tryz.inf72.h rfl rfl ⟨⟨rfl, rfl⟩, trivial⟩ rfl rfl ?_)
    intro b48
    refine Zk [] ?_
    refine Z1 (i := 9) ef ef ?_
    refine (S.appendOw (s := ov) (1) (otC ⟨{ kind := 4, job := x.job }, SV.nil, []⟩) Tryz.underlying105 Tryz.inf72.h rfl rfl rfl (blk_slAt (b := b48) rfl (by unfold maxLen; omega)) (by first | rfl | exact allOne_bcells _) (⟨by omega, by omega⟩) rfl ?_)
    intro ov2 hov2
    refine Zk [10, 11] ?_
    refine ZY 2 ?_
    refine Z1 (i := 12) ef ef ?_
    refine (S.store (cs' := [_, _, _, _, _]) Eo.h rfl rfl rfl rfl rfl ?_)
    refine ZL ([]) [] ?_
    refine ZD ?_
    refine S.conv2 (own ov2 72 13 (os.flatMap otC ++ otC ⟨{ kind := 4, job := x.job }, SV.nil, []⟩)) (alls os otB) (Ent.otNil ov2 os { kind := 4, job := x.job } _) ?_
    rw [k5 { place := x.rank } b39]
    refine S.conv2 (blk b39 111 (rkC { place := x.rank }).toArray) (alls rs roB) (Ent.allsSet roB (x' := ((x.job, { place := x.rank }, b39) : Ro)) k1 _) ?_
    refine S.niClose p { nd with rk := nPut x.job { place := x.rank } nd.rk, out := nd.out ++ [otR ⟨{ kind := 4, job := x.job }, SV.nil, []⟩], wrong := nd.wrong || (nGet x.job nd.rk).isSome } rb iv ov2 (rs.set i (x.job, { place := x.rank }, b39)) (os ++ [⟨{ kind := 4, job := x.job }, SV.nil, []⟩]) (hN.say ⟨{ kind := 4, job := x.job }, SV.nil, []⟩ hov2 (by rw [← k6, hrk]) _) ?_
    refine S.conv (NI p { nd with rk := nPut x.job { place := x.rank } nd.rk, out := nd.out ++ [otR ⟨{ kind := 4, job := x.job }, SV.nil, []⟩], wrong := nd.wrong || (nGet x.job nd.rk).isSome }) (show Ent _ (NI p (actR nd x) :: _) by rw [hact, hgr]; exact Ent.refl _) ?_
    exact Zfn ef Zq (rfl)
   ·refine ZY 8 ?_
    refine Zd ([blk b3 72 (niC x).toArray, blk p 107 #[.bool nd.up, .map (some rb), iv.v, ov.v, .bool (nd.wrong || (nGet x.job nd.rk).isSome)]]) [10] (Zra 0 9) ?_
    refine S.blkAs p #[.bool nd.up, .map (some rb), iv.v, ov.v, .bool (nd.wrong || (nGet x.job nd.rk).isSome)] (by rw [hgr]; simp [hg4_5]) ?_
    refine ZY 8 ?_
    refine Zw ef (q_build (pvs := [(_, _)]) [_, _, _, _, _] Tryz.z111.h Tryz.p111.h ⟨⟨rfl, rfl⟩, trivial⟩ rfl) ?_
    refine Z1 (i := 9) ef ef ?_
    refine (S.box (cs := [_, _, _, _, _]) rfl rfl rfl ?_)
    intro b39
    refine Zk [] ?_
    refine Z1 (i := 10) ef ef ?_
    refine (S.mapUpdate Tryz.underlying104 Tryz.underlying31 rfl rfl rfl rfl ?_)
    refine ZL ([]) [] ?_
    refine ZD ?_
    refine Zd ([blk b3 72 (niC x).toArray, blk p 107 #[.bool nd.up, .map (some rb), iv.v, ov.v, .bool (nd.wrong || (nGet x.job nd.rk).isSome)]]) [12] (Zra 0 8) ?_
    refine ZY 7 ?_
    refine Zw ef (q_build (pvs := [(_, _), (_, _)]) [_, _, _, _, _, _, _, _, _, _, _, _, _] Tryz.z72.h Tryz.p72.h ⟨⟨rfl, rfl⟩, ⟨rfl, rfl⟩, trivial⟩ rfl) ?_
    refine Z1 (i := 8) ef ef ?_
    refine (S.buildSlice (pvs := [(_, _)]) [_, _, _, _, _, _, _, _, _, _, _, _, _] Tryz.underlying105 Tryz.inf72.h rfl rfl ⟨⟨rfl, rfl⟩, trivial⟩ rfl rfl ?_)
    intro b48
    refine Zk [] ?_
    refine Z1 (i := 9) ef ef ?_
    refine (S.appendOw (s := ov) (1) (otC ⟨{ kind := 4, job := x.job }, SV.nil, []⟩) Tryz.underlying105 Tryz.inf72.h rfl rfl rfl (blk_slAt (b := b48) rfl (by unfold maxLen; omega)) (by first | rfl | exact allOne_bcells _) (⟨by omega, by omega⟩) rfl ?_)
    intro ov2 hov2
    refine Zk [10, 11] ?_
    refine ZY 2 ?_
    refine Z1 (i := 12) ef ef ?_
    refine (S.store (cs' := [_, _, _, _, _]) Eo.h rfl rfl rfl rfl rfl ?_)
    refine ZL ([]) [] ?_
    refine ZD ?_
    refine S.conv2 (own ov2 72 13 (os.flatMap otC ++ otC ⟨{ kind := 4, job := x.job }, SV.nil, []⟩)) (alls os otB) (Ent.otNil ov2 os { kind := 4, job := x.job } _) ?_
    rw [k5 { place := x.rank } b39]
    refine S.conv2 (blk b39 111 (rkC { place := x.rank }).toArray) (alls rs roB) (Ent.allsSet roB (x' := ((x.job, { place := x.rank }, b39) : Ro)) k1 _) ?_
    refine S.niClose p { nd with rk := nPut x.job { place := x.rank } nd.rk, out := nd.out ++ [otR ⟨{ kind := 4, job := x.job }, SV.nil, []⟩], wrong := nd.wrong || (nGet x.job nd.rk).isSome } rb iv ov2 (rs.set i (x.job, { place := x.rank }, b39)) (os ++ [⟨{ kind := 4, job := x.job }, SV.nil, []⟩]) (hN.say ⟨{ kind := 4, job := x.job }, SV.nil, []⟩ hov2 (by rw [← k6, hrk]) _) ?_
    refine S.conv (NI p { nd with rk := nPut x.job { place := x.rank } nd.rk, out := nd.out ++ [otR ⟨{ kind := 4, job := x.job }, SV.nil, []⟩], wrong := nd.wrong || (nGet x.job nd.rk).isSome }) (show Ent _ (NI p (actR nd x) :: _) by rw [hact, hgr]; exact Ent.refl _) ?_
    exact Zfn ef Zq (rfl)
  ·have hk3 : x.kind ≠ 3 := by omega
   refine ZY 5 ?_
   refine Zj ef (fun h2 => ?_) (fun h2 => ?_)
   ·have hact := act_go (nd := nd) (show x.kind = 5 by omega) hgr
    refine ZY 8 ?_
    refine Zbb 59 ef (fun hg8_5 => ?_) (fun hg8_5 => ?_)
    ·refine ZY 8 ?_
     refine ZY 6 ?_
     refine S.conv (alls rs roB) (Ent.roAt k1 _) ?_
     refine ZY 3 ?_
     refine ZT ef ?_
     refine Zd ([blk b3 72 (niC x).toArray]) [] (Zra 0 8) ?_
     refine ZY 8 ?_
     refine Z1 (i := 8) ef ef ?_
     refine (S.store (cs' := [_, _, _, _, _]) Eo.h rfl rfl rfl rfl rfl ?_)
     refine Zk [9, 10] ?_
     refine ZY 2 ?_
     refine Z1 (i := 11) ef ef ?_
     refine (S.store (cs' := [_, _, _, _, _]) Eo.h rfl rfl rfl rfl rfl ?_)
     refine Zk [12, 13] ?_
     refine ZY 2 ?_
     refine Z1 (i := 14) ef ef ?_
     refine (S.store (cs' := [_, _, _, _, _]) Eo.h rfl rfl rfl rfl rfl ?_)
     refine Zk [15, 16] ?_
     refine ZY 2 ?_
     refine Z1 (i := 17) ef ef ?_
     refine (S.store (cs' := [_, _, _, _, _]) Eo.h rfl rfl rfl rfl rfl ?_)
     refine Zk [] ?_
     refine ZD ?_
     refine S.blkAs p #[.bool nd.up, .map (some rb), iv.v, ov.v, .bool (nd.wrong || decide (runOf nd.rk ≠ 0))] (by simp [hg8_5]) ?_
     refine S.conv3 (roB ((x.job, { r with run := true, gen := x.gen, frm := 0, til := 0 }, q) : Ro)) (alls (rs.take i) roB) (alls (rs.drop (i + 1)) roB) (Ent.allsBack roB (x' := (x.job, { r with run := true, gen := x.gen, frm := 0, til := 0 }, q)) k1 _) ?_
     refine S.conv (mapL rb .u32 (rs.map roE)) (show Ent _ (mapL rb .u32 ((rs.set i (x.job, { r with run := true, gen := x.gen, frm := 0, til := 0 }, q)).map roE) :: _) by rw [k4]; exact Ent.refl _) ?_
     refine S.niClose p { nd with wrong := nd.wrong || decide (runOf nd.rk ≠ 0), rk := nPut x.job { r with run := true, gen := x.gen, frm := 0, til := 0 } nd.rk } rb iv ov (rs.set i (x.job, { r with run := true, gen := x.gen, frm := 0, til := 0 }, q)) os ⟨by rw [← k3, hrk], hN.os, hN.i, hN.o⟩ ?_
     rw [← hact]
     exact Zfn ef Zq (rfl)
    ·refine ZY 5 ?_
     refine Zg ef ef ef (Zcp Ze (runX_S (p := p) (rb := rb) hN ham) ?_)
     refine ZY 8 ?_
     refine S.conv (alls rs roB) (Ent.roAt k1 _) ?_
     refine ZY 3 ?_
     refine ZT ef ?_
     refine Zd ([blk b3 72 (niC x).toArray]) [] (Zra 0 8) ?_
     refine ZY 8 ?_
     refine Z1 (i := 8) ef ef ?_
     refine (S.store (cs' := [_, _, _, _, _]) Eo.h rfl rfl rfl rfl rfl ?_)
     refine Zk [9, 10] ?_
     refine ZY 2 ?_
     refine Z1 (i := 11) ef ef ?_
     refine (S.store (cs' := [_, _, _, _, _]) Eo.h rfl rfl rfl rfl rfl ?_)
     refine Zk [12, 13] ?_
     refine ZY 2 ?_
     refine Z1 (i := 14) ef ef ?_
     refine (S.store (cs' := [_, _, _, _, _]) Eo.h rfl rfl rfl rfl rfl ?_)
     refine Zk [15, 16] ?_
     refine ZY 2 ?_
     refine Z1 (i := 17) ef ef ?_
     refine (S.store (cs' := [_, _, _, _, _]) Eo.h rfl rfl rfl rfl rfl ?_)
     refine Zk [] ?_
     refine ZD ?_
     refine S.blkAs p #[.bool nd.up, .map (some rb), iv.v, ov.v, .bool (nd.wrong || decide (runOf nd.rk ≠ 0))] (by simp [hg8_5]) ?_
     refine S.conv3 (roB ((x.job, { r with run := true, gen := x.gen, frm := 0, til := 0 }, q) : Ro)) (alls (rs.take i) roB) (alls (rs.drop (i + 1)) roB) (Ent.allsBack roB (x' := (x.job, { r with run := true, gen := x.gen, frm := 0, til := 0 }, q)) k1 _) ?_
     refine S.conv (mapL rb .u32 (rs.map roE)) (show Ent _ (mapL rb .u32 ((rs.set i (x.job, { r with run := true, gen := x.gen, frm := 0, til := 0 }, q)).map roE) :: _) by rw [k4]; exact Ent.refl _) ?_
     refine S.niClose p { nd with wrong := nd.wrong || decide (runOf nd.rk ≠ 0), rk := nPut x.job { r with run := true, gen := x.gen, frm := 0, til := 0 } nd.rk } rb iv ov (rs.set i (x.job, { r with run := true, gen := x.gen, frm := 0, til := 0 }, q)) os ⟨by rw [← k3, hrk], hN.os, hN.i, hN.o⟩ ?_
     rw [← hact]
     exact Zfn ef Zq (rfl)
   ·have hk5 : x.kind ≠ 5 := by omega
    refine ZY 5 ?_
    refine Zj ef (fun h4 => ?_) (fun h4 => ?_)
    ·have hk : x.kind = 6 := by omega
     refine ZY 4 ?_
     refine Zv (q_build (pvs := [(_, _), (_, _)]) [_, _, _, _, _, _, _, _, _, _, _, _, _] Tryz.z72.h Tryz.p72.h ⟨⟨rfl, rfl⟩, ⟨rfl, rfl⟩, trivial⟩ rfl) ?_
     refine Zp (S.alloc Tryz.z72.h rfl ?_)
     intro b5
     refine Zp (Zs ef ef (cs' := [_, _, _, _, _, _, _, _, _, _, _, _, _]) ef ?_)
     refine ZY 5 ?_
     refine Zp (Zcp Ze (runX_S (p := p) (rb := rb) hN ham) ?_)
     obtain ⟨j0, hj0⟩ : ∃ j0, j0 = runOf nd.rk := ⟨_, rfl⟩
     rw [← hj0]
     refine ZY 7 ?_
     refine Zj ef (fun h5 => ?_) (fun h5 => ?_)
     ·have hne : runOf nd.rk ≠ 0 := by omega
      obtain ⟨r2, hr2⟩ := runOf_get hne
      have hact := act_stop (x := x) hk hne hr2
      rw [← hj0] at hr2 hact
      obtain ⟨i2, q2, c1, c2, c3, c4, _⟩ := rs_some (rs := rs) (id := j0) (r := r2) (by rw [hrk]; exact hr2)
      refine ZY 7 ?_
      refine Zv (q_lookup1 (pt q2) Tryz.underlying104 Tryz.underlying31 Tryz.zv112.h rfl rfl rfl (by rw [c2]; rfl)) ?_
      refine ZY 4 ?_
      refine S.conv (alls rs roB) (Ent.roAt c1 _) ?_
      refine ZY 5 ?_
      refine Zd ([blk q2 111 (rkC { r2 with run := false }).toArray]) [] (Zra 0 10) ?_
      refine ZY 8 ?_
      refine ZY 2 ?_
      refine Z1 (i := 10) ef ef ?_
      refine (S.store (cs' := [_, _, _, _, _, _, _, _, _, _, _, _, _]) Eo.h rfl rfl rfl rfl rfl ?_)
      refine Zk [11] ?_
      refine Zy ?_
      refine Z1 (i := 12) ef ef ?_
      refine (S.store (cs' := [_, _, _, _, _, _, _, _, _, _, _, _, _]) Eo.h rfl rfl rfl rfl rfl ?_)
      refine Zk [13] ?_
      refine Zy ?_
      refine Z1 (i := 14) ef ef ?_
      refine (S.store (cs' := [_, _, _, _, _, _, _, _, _, _, _, _, _]) Eo.h rfl rfl rfl rfl rfl ?_)
      refine Zk [] ?_
      refine ZD ?_
      refine S.conv3 (roB ((j0, { r2 with run := false }, q2) : Ro)) (alls (rs.take i2) roB) (alls (rs.drop (i2 + 1)) roB) (Ent.allsBack roB (x' := (j0, { r2 with run := false }, q2)) c1 _) ?_
      refine S.conv (mapL rb .u32 (rs.map roE)) (show Ent _ (mapL rb .u32 ((rs.set i2 (j0, { r2 with run := false }, q2)).map roE) :: _) by rw [c4]; exact Ent.refl _) ?_
      refine S.blkAs b5 (niC { kind := 7, gen := x.gen, job := j0, frm := r2.frm, til := r2.til }).toArray rfl ?_
      obtain ⟨rs9, hrs9⟩ : ∃ rs9, rs9 = rs.set i2 (j0, { r2 with run := false }, q2) := ⟨_, rfl⟩
      obtain ⟨x9, hx9⟩ : ∃ x9 : Nt, x9 = { kind := 7, gen := x.gen, job := j0, frm := r2.frm, til := r2.til } := ⟨_, rfl⟩
      obtain ⟨rk9, hrk9⟩ : ∃ rk9, rk9 = nPut j0 { r2 with run := false } nd.rk := ⟨_, rfl⟩
      have hrr : rs9.map roR = rk9 := by rw [hrs9, hrk9, ← c3, hrk]
      rw [← hrk9, ← hx9] at hact
      rw [← hrs9, ← hx9]
      refine Zd ([blk b5 72 (niC x9).toArray, blk p 107 #[.bool nd.up, .map (some rb), iv.v, ov.v, .bool nd.wrong]]) [10] (Zra 0 6) ?_
      refine ZY 6 ?_
      refine Z1 (i := 6) ef ef ?_
      refine (S.buildSlice (pvs := [(_, _)]) [_, _, _, _, _, _, _, _, _, _, _, _, _] Tryz.underlying105 Tryz.inf72.h rfl rfl ⟨⟨rfl, rfl⟩, trivial⟩ rfl rfl ?_)
      intro b122
      refine Zk [] ?_
      refine Z1 (i := 7) ef ef ?_
      refine (S.appendOw (s := ov) (1) (otC ⟨x9, SV.nil, []⟩) Tryz.underlying105 Tryz.inf72.h rfl rfl rfl (blk_slAt (b := b122) rfl (by unfold maxLen; omega)) (by first | rfl | exact allOne_bcells _) (⟨by omega, by omega⟩) rfl ?_)
      intro ov2 hov2
      refine Zk [8, 9] ?_
      refine ZY 2 ?_
      refine Z1 (i := 10) ef ef ?_
      refine (S.store (cs' := [_, _, _, _, _]) Eo.h rfl rfl rfl rfl rfl ?_)
      refine ZL ([]) [] ?_
      refine ZD ?_
      refine S.conv2 (own ov2 72 13 (os.flatMap otC ++ otC ⟨x9, SV.nil, []⟩)) (alls os otB) (Ent.otNil ov2 os x9 _) ?_
      refine S.niClose p { nd with rk := rk9, out := nd.out ++ [otR ⟨x9, SV.nil, []⟩], wrong := nd.wrong } rb iv ov2 rs9 (os ++ [⟨x9, SV.nil, []⟩]) (hN.say ⟨x9, SV.nil, []⟩ hov2 hrr _) ?_
      refine S.conv (NI p { nd with rk := rk9, out := nd.out ++ [otR ⟨x9, SV.nil, []⟩], wrong := nd.wrong }) (show Ent _ (NI p (actR nd x) :: _) by rw [hact]; exact Ent.refl _) ?_
      exact Zfn ef Zq (rfl)
     ·refine Zy ?_
      have hact := act_stop0 (nd := nd) hk (show ¬ runOf nd.rk ≠ 0 by omega)
      refine S.blkAs b5 (niC { kind := 7, gen := x.gen }).toArray rfl ?_
      obtain ⟨rs9, hrs9⟩ : ∃ rs9, rs9 = rs := ⟨_, rfl⟩
      obtain ⟨x9, hx9⟩ : ∃ x9 : Nt, x9 = { kind := 7, gen := x.gen } := ⟨_, rfl⟩
      obtain ⟨rk9, hrk9⟩ : ∃ rk9, rk9 = nd.rk := ⟨_, rfl⟩
      have hrr : rs9.map roR = rk9 := by rw [hrs9, hrk9, hrk]
      have hact : actR nd x = { nd with rk := rk9, out := nd.out ++ [(x9, [])] } := by rw [hact, hx9, hrk9]
      rw [← hx9]
      refine S.conv2 (mapL rb .u32 (rs.map roE)) (alls rs roB) (show Ent _ (mapL rb .u32 (rs9.map roE) :: alls rs9 roB :: _) by rw [hrs9]; exact Ent.refl _) ?_
      refine Zd ([blk b5 72 (niC x9).toArray, blk p 107 #[.bool nd.up, .map (some rb), iv.v, ov.v, .bool nd.wrong]]) [10] (Zra 0 6) ?_
      refine ZY 6 ?_
      refine Z1 (i := 6) ef ef ?_
      refine (S.buildSlice (pvs := [(_, _)]) [_, _, _, _, _, _, _, _, _, _, _, _, _] Tryz.underlying105 Tryz.inf72.h rfl rfl ⟨⟨rfl, rfl⟩, trivial⟩ rfl rfl ?_)
      intro b122
      refine Zk [] ?_
      refine Z1 (i := 7) ef ef ?_
      refine (S.appendOw (s := ov) (1) (otC ⟨x9, SV.nil, []⟩) Tryz.underlying105 Tryz.inf72.h rfl rfl rfl (blk_slAt (b := b122) rfl (by unfold maxLen; omega)) (by first | rfl | exact allOne_bcells _) (⟨by omega, by omega⟩) rfl ?_)
      intro ov2 hov2
      refine Zk [8, 9] ?_
      refine ZY 2 ?_
      refine Z1 (i := 10) ef ef ?_
      refine (S.store (cs' := [_, _, _, _, _]) Eo.h rfl rfl rfl rfl rfl ?_)
      refine ZL ([]) [] ?_
      refine ZD ?_
      refine S.conv2 (own ov2 72 13 (os.flatMap otC ++ otC ⟨x9, SV.nil, []⟩)) (alls os otB) (Ent.otNil ov2 os x9 _) ?_
      refine S.niClose p { nd with rk := rk9, out := nd.out ++ [otR ⟨x9, SV.nil, []⟩], wrong := nd.wrong } rb iv ov2 rs9 (os ++ [⟨x9, SV.nil, []⟩]) (hN.say ⟨x9, SV.nil, []⟩ hov2 hrr _) ?_
      refine S.conv (NI p { nd with rk := rk9, out := nd.out ++ [otR ⟨x9, SV.nil, []⟩], wrong := nd.wrong }) (show Ent _ (NI p (actR nd x) :: _) by rw [hact]; exact Ent.refl _) ?_
      exact Zfn ef Zq (rfl)
    ·have hk6 : x.kind ≠ 6 := by omega
     refine ZY 5 ?_
     refine Zj ef (fun h6 => ?_) (fun h6 => ?_)
     ·have hact := act_save (nd := nd) (show x.kind = 8 by omega) hgr
      refine S.conv (alls rs roB) (Ent.roAt k1 _) ?_
      refine ZY 8 ?_
      refine Zbb 133 ef (fun hg20_5 => ?_) (fun hg20_5 => ?_)
      ·refine ZY 8 ?_
       refine ZY 7 ?_
       refine S.blkAs p #[.bool nd.up, .map (some rb), iv.v, ov.v, .bool (nd.wrong || r.run)] (by simp [hg20_5]) ?_
       refine ZY 3 ?_
       refine ZT ef ?_
       refine Zd ([blk b3 72 (niC x).toArray, blk q 111 (rkC r).toArray, blk p 107 #[.bool nd.up, .map (some rb), iv.v, ov.v, .bool (nd.wrong || r.run)]]) [26] (Zra 0 20) ?_
       refine ZY 8 ?_
       refine ZY 8 ?_
       refine ZY 3 ?_
       refine Zw ef (q_convW Tryz.it5.h (by rw [Tryz.underlying3]; rfl) rfl) ?_
       refine Z1 (i := 20) ef ef ?_
       refine (S.buildSlice (pvs := [(_, _), (_, _)]) [_, _] Tryz.underlying22 Tryz.inf5.h rfl rfl ⟨⟨rfl, rfl⟩, ⟨rfl, rfl⟩, trivial⟩ rfl rfl ?_)
       intro b167
       refine Zk [21] ?_
       refine Zw ef (q_build (pvs := [(_, _), (_, _), (_, _), (_, _), (_, _)]) [_, _, _, _, _, _, _, _, _, _, _, _, _] Tryz.z72.h Tryz.p72.h ⟨⟨rfl, rfl⟩, ⟨rfl, rfl⟩, ⟨rfl, rfl⟩, ⟨rfl, rfl⟩, ⟨rfl, rfl⟩, trivial⟩ rfl) ?_
       refine Z1 (i := 22) ef ef ?_
       refine (S.buildSlice (pvs := [(_, _)]) [_, _, _, _, _, _, _, _, _, _, _, _, _] Tryz.underlying105 Tryz.inf72.h rfl rfl ⟨⟨rfl, rfl⟩, trivial⟩ rfl rfl ?_)
       intro b169
       refine Zk [] ?_
       refine Z1 (i := 23) ef ef ?_
       refine (S.appendOw (s := ov) (1) (otC ⟨{ kind := 9, job := x.job, ver := x.ver, rank := r.place }, ⟨some ⟨b167, 0, none⟩, 2, 2⟩, [(r.place : Int), ((x.credit % 256 : Nat) : Int)]⟩) Tryz.underlying105 Tryz.inf72.h rfl rfl rfl (blk_slAt (b := b169) rfl (by unfold maxLen; omega)) (by first | rfl | exact allOne_bcells _) (⟨by omega, by omega⟩) rfl ?_)
       intro ov2 hov2
       refine Zk [24, 25] ?_
       refine ZY 2 ?_
       refine Z1 (i := 26) ef ef ?_
       refine (S.store (cs' := [_, _, _, _, _]) Eo.h rfl rfl rfl rfl rfl ?_)
       refine ZL ([]) [] ?_
       refine ZD ?_
       rw [wrap8]
       refine S.conv (blk b167 5 #[.int .u8 (r.place : Int), .int .u8 ((x.credit % 256 : Nat) : Int)]) (Ent.blkOwnB b167 5 1 2 [.int .u8 (r.place : Int), .int .u8 ((x.credit % 256 : Nat) : Int)] rfl (by unfold maxLen; omega) _) ?_
       refine S.conv3 (own ov2 72 13 (os.flatMap otC ++ otC ⟨{ kind := 9, job := x.job, ver := x.ver, rank := r.place }, ⟨some ⟨b167, 0, none⟩, 2, 2⟩, [(r.place : Int), ((x.credit % 256 : Nat) : Int)]⟩)) (alls os otB) (own ⟨some ⟨b167, 0, none⟩, 2, 2⟩ 5 1 [.int .u8 (r.place : Int), .int .u8 ((x.credit % 256 : Nat) : Int)]) (Ent.otApp ov2 os ⟨{ kind := 9, job := x.job, ver := x.ver, rank := r.place }, ⟨some ⟨b167, 0, none⟩, 2, 2⟩, [(r.place : Int), ((x.credit % 256 : Nat) : Int)]⟩ _) ?_
       refine S.conv3 (roB ((x.job, r, q) : Ro)) (alls (rs.take i) roB) (alls (rs.drop (i + 1)) roB) (Ent.allsBack' roB k1 _) ?_
       refine S.niClose p { nd with rk := nd.rk, out := nd.out ++ [otR ⟨{ kind := 9, job := x.job, ver := x.ver, rank := r.place }, ⟨some ⟨b167, 0, none⟩, 2, 2⟩, [(r.place : Int), ((x.credit % 256 : Nat) : Int)]⟩], wrong := nd.wrong || r.run } rb iv ov2 rs (os ++ [⟨{ kind := 9, job := x.job, ver := x.ver, rank := r.place }, ⟨some ⟨b167, 0, none⟩, 2, 2⟩, [(r.place : Int), ((x.credit % 256 : Nat) : Int)]⟩]) (hN.say _ hov2 hrk _) ?_
       refine S.conv (NI p { nd with rk := nd.rk, out := nd.out ++ [otR ⟨{ kind := 9, job := x.job, ver := x.ver, rank := r.place }, ⟨some ⟨b167, 0, none⟩, 2, 2⟩, [(r.place : Int), ((x.credit % 256 : Nat) : Int)]⟩], wrong := nd.wrong || r.run }) (show Ent _ (NI p (actR nd x) :: _) by rw [hact]; exact Ent.refl _) ?_
       exact Zfn ef Zq (rfl)
      ·refine ZY 8 ?_
       refine ZY 7 ?_
       refine S.blkAs p #[.bool nd.up, .map (some rb), iv.v, ov.v, .bool (nd.wrong || r.run)] (by simp [hg20_5]) ?_
       refine ZY 3 ?_
       refine ZT ef ?_
       refine Zd ([blk b3 72 (niC x).toArray, blk q 111 (rkC r).toArray, blk p 107 #[.bool nd.up, .map (some rb), iv.v, ov.v, .bool (nd.wrong || r.run)]]) [26] (Zra 0 20) ?_
       refine ZY 8 ?_
       refine ZY 8 ?_
       refine ZY 3 ?_
       refine Zw ef (q_convW Tryz.it5.h (by rw [Tryz.underlying3]; rfl) rfl) ?_
       refine Z1 (i := 20) ef ef ?_
       refine (S.buildSlice (pvs := [(_, _), (_, _)]) [_, _] Tryz.underlying22 Tryz.inf5.h rfl rfl ⟨⟨rfl, rfl⟩, ⟨rfl, rfl⟩, trivial⟩ rfl rfl ?_)
       intro b167
       refine Zk [21] ?_
       refine Zw ef (q_build (pvs := [(_, _), (_, _), (_, _), (_, _), (_, _)]) [_, _, _, _, _, _, _, _, _, _, _, _, _] Tryz.z72.h Tryz.p72.h ⟨⟨rfl, rfl⟩, ⟨rfl, rfl⟩, ⟨rfl, rfl⟩, ⟨rfl, rfl⟩, ⟨rfl, rfl⟩, trivial⟩ rfl) ?_
       refine Z1 (i := 22) ef ef ?_
       refine (S.buildSlice (pvs := [(_, _)]) [_, _, _, _, _, _, _, _, _, _, _, _, _] Tryz.underlying105 Tryz.inf72.h rfl rfl ⟨⟨rfl, rfl⟩, trivial⟩ rfl rfl ?_)
       intro b169
       refine Zk [] ?_
       refine Z1 (i := 23) ef ef ?_
       refine (S.appendOw (s := ov) (1) (otC ⟨{ kind := 9, job := x.job, ver := x.ver, rank := r.place }, ⟨some ⟨b167, 0, none⟩, 2, 2⟩, [(r.place : Int), ((x.credit % 256 : Nat) : Int)]⟩) Tryz.underlying105 Tryz.inf72.h rfl rfl rfl (blk_slAt (b := b169) rfl (by unfold maxLen; omega)) (by first | rfl | exact allOne_bcells _) (⟨by omega, by omega⟩) rfl ?_)
       intro ov2 hov2
       refine Zk [24, 25] ?_
       refine ZY 2 ?_
       refine Z1 (i := 26) ef ef ?_
       refine (S.store (cs' := [_, _, _, _, _]) Eo.h rfl rfl rfl rfl rfl ?_)
       refine ZL ([]) [] ?_
       refine ZD ?_
       rw [wrap8]
       refine S.conv (blk b167 5 #[.int .u8 (r.place : Int), .int .u8 ((x.credit % 256 : Nat) : Int)]) (Ent.blkOwnB b167 5 1 2 [.int .u8 (r.place : Int), .int .u8 ((x.credit % 256 : Nat) : Int)] rfl (by unfold maxLen; omega) _) ?_
       refine S.conv3 (own ov2 72 13 (os.flatMap otC ++ otC ⟨{ kind := 9, job := x.job, ver := x.ver, rank := r.place }, ⟨some ⟨b167, 0, none⟩, 2, 2⟩, [(r.place : Int), ((x.credit % 256 : Nat) : Int)]⟩)) (alls os otB) (own ⟨some ⟨b167, 0, none⟩, 2, 2⟩ 5 1 [.int .u8 (r.place : Int), .int .u8 ((x.credit % 256 : Nat) : Int)]) (Ent.otApp ov2 os ⟨{ kind := 9, job := x.job, ver := x.ver, rank := r.place }, ⟨some ⟨b167, 0, none⟩, 2, 2⟩, [(r.place : Int), ((x.credit % 256 : Nat) : Int)]⟩ _) ?_
       refine S.conv3 (roB ((x.job, r, q) : Ro)) (alls (rs.take i) roB) (alls (rs.drop (i + 1)) roB) (Ent.allsBack' roB k1 _) ?_
       refine S.niClose p { nd with rk := nd.rk, out := nd.out ++ [otR ⟨{ kind := 9, job := x.job, ver := x.ver, rank := r.place }, ⟨some ⟨b167, 0, none⟩, 2, 2⟩, [(r.place : Int), ((x.credit % 256 : Nat) : Int)]⟩], wrong := nd.wrong || r.run } rb iv ov2 rs (os ++ [⟨{ kind := 9, job := x.job, ver := x.ver, rank := r.place }, ⟨some ⟨b167, 0, none⟩, 2, 2⟩, [(r.place : Int), ((x.credit % 256 : Nat) : Int)]⟩]) (hN.say _ hov2 hrk _) ?_
       refine S.conv (NI p { nd with rk := nd.rk, out := nd.out ++ [otR ⟨{ kind := 9, job := x.job, ver := x.ver, rank := r.place }, ⟨some ⟨b167, 0, none⟩, 2, 2⟩, [(r.place : Int), ((x.credit % 256 : Nat) : Int)]⟩], wrong := nd.wrong || r.run }) (show Ent _ (NI p (actR nd x) :: _) by rw [hact]; exact Ent.refl _) ?_
       exact Zfn ef Zq (rfl)
     ·have hk8 : x.kind ≠ 8 := by omega
      refine ZY 5 ?_
      refine Zj ef (fun h8 => ?_) (fun h8 => ?_)
      ·have hact := act_drop (nd := nd) (show x.kind = 10 by omega)
       refine Zy ?_
       refine Zd ([blk b3 72 (niC x).toArray, blk p 107 #[.bool nd.up, .map (some rb), iv.v, ov.v, .bool nd.wrong]]) [6] (Zra 0 6) ?_
       refine ZY 6 ?_
       refine Z1 (i := 6) ef ef ?_
       refine (S.mapDelete Tryz.underlying104 Tryz.underlying31 rfl rfl rfl ?_)
       refine ZL ([]) [] ?_
       refine ZD ?_
       refine Zd ([blk b3 72 (niC x).toArray, blk p 107 #[.bool nd.up, .map (some rb), iv.v, ov.v, .bool nd.wrong]]) [12] (Zra 0 8) ?_
       refine ZY 7 ?_
       refine Zw ef (q_build (pvs := [(_, _), (_, _)]) [_, _, _, _, _, _, _, _, _, _, _, _, _] Tryz.z72.h Tryz.p72.h ⟨⟨rfl, rfl⟩, ⟨rfl, rfl⟩, trivial⟩ rfl) ?_
       refine Z1 (i := 8) ef ef ?_
       refine (S.buildSlice (pvs := [(_, _)]) [_, _, _, _, _, _, _, _, _, _, _, _, _] Tryz.underlying105 Tryz.inf72.h rfl rfl ⟨⟨rfl, rfl⟩, trivial⟩ rfl rfl ?_)
       intro b189
       refine Zk [] ?_
       refine Z1 (i := 9) ef ef ?_
       refine (S.appendOw (s := ov) (1) (otC ⟨{ kind := 11, job := x.job }, SV.nil, []⟩) Tryz.underlying105 Tryz.inf72.h rfl rfl rfl (blk_slAt (b := b189) rfl (by unfold maxLen; omega)) (by first | rfl | exact allOne_bcells _) (⟨by omega, by omega⟩) rfl ?_)
       intro ov2 hov2
       refine Zk [10, 11] ?_
       refine ZY 2 ?_
       refine Z1 (i := 12) ef ef ?_
       refine (S.store (cs' := [_, _, _, _, _]) Eo.h rfl rfl rfl rfl rfl ?_)
       refine ZL ([]) [] ?_
       refine ZD ?_
       refine S.conv2 (own ov2 72 13 (os.flatMap otC ++ otC ⟨{ kind := 11, job := x.job }, SV.nil, []⟩)) (alls os otB) (Ent.otNil ov2 os { kind := 11, job := x.job } _) ?_
       refine S.conv (alls rs roB) (show Ent _ (alls (rs.eraseIdx i) roB :: _) from ((Ent.roAt k1 _).trans ((Ent.drop _ _).trans (Ent.allsAppend roB _ _ _))).trans (by rw [List.eraseIdx_eq_take_drop_succ]; exact Ent.refl _)) ?_
       rw [k7]
       refine S.niClose p { nd with rk := nDel x.job nd.rk, out := nd.out ++ [otR ⟨{ kind := 11, job := x.job }, SV.nil, []⟩], wrong := nd.wrong } rb iv ov2 (rs.eraseIdx i) (os ++ [⟨{ kind := 11, job := x.job }, SV.nil, []⟩]) (hN.say ⟨{ kind := 11, job := x.job }, SV.nil, []⟩ hov2 (by rw [← hrk, k8]) _) ?_
       refine S.conv (NI p { nd with rk := nDel x.job nd.rk, out := nd.out ++ [otR ⟨{ kind := 11, job := x.job }, SV.nil, []⟩], wrong := nd.wrong }) (show Ent _ (NI p (actR nd x) :: _) by rw [hact]; exact Ent.refl _) ?_
       exact Zfn ef Zq (rfl)
      ·refine Zy ?_
       refine S.niClose p nd rb iv ov rs os hN ?_
       refine S.conv (NI p nd) (show Ent _ (NI p (actR nd x) :: _) by rw [act_other hk3 hk5 hk6 hk8 (by omega)]; exact Ent.refl _) ?_
       exact Zfn ef Zq (rfl)
end BN
end Go.Proofs.YtdackcibfkkniaaGreatDoor
namespace Go.Proofs.YtdackcibfkkniaaGreatDoor
open Go.RowKit
namespace BN
def dwnUp (m : Mx) : Nat → Mx
 | 0 => m
 | i + 1 => (Go.Proofs.YtdackcibfkkniaaGreatDoor.upR (dwnUp m i) i false).2
theorem dwnUp_ok {m : Mx} (h : MxOk m) : ∀ i, i ≤ m.N → MxOk (dwnUp m i) ∧ (dwnUp m i).R = m.R ∧ (dwnUp m i).N = m.N ∧ (dwnUp m i).js = m.js ∧ ∀ q, (dwnUp m i).up.getLsbD q = true → i ≤ q ∧ m.up.getLsbD q = true
 | 0, _ => ⟨h, rfl, rfl, rfl, fun q hq => ⟨Nat.zero_le _, hq⟩⟩
 | i + 1, hi => by
  obtain ⟨h1, h2, h3, h4, h5⟩ := dwnUp_ok h i (by omega)
  have hn : nodeB (dwnUp m i) (i : Int) = true := nodeB_iff.2 ⟨by omega, by rw [h3]; omega⟩
  have hu : dwnUp m (i + 1) = (dwnUp m i).setUp i false := by simp [dwnUp, Go.Proofs.YtdackcibfkkniaaGreatDoor.upR, hn]
  rw [hu]
  refine ⟨h1.setUp (by rw [h3]; omega) false, h2, h3, h4, fun q hq => ?_⟩
  simp only [Mx.setUp] at hq
  rw [if_neg (by decide), BitVec.getLsbD_and, Bool.and_eq_true, BitVec.getLsbD_not, Bool.and_eq_true, BitVec.getLsbD_twoPow] at hq
  obtain ⟨q1, q2, q3⟩ := hq
  obtain ⟨q4, q5⟩ := h5 q q1
  refine ⟨?_, q5⟩
  have : i ≠ q := fun e => by subst e; simp at q3; simp at q2; omega
  omega
theorem dwnUp_all {R N : Nat} (h : MxOk (mx0 R N)) : dwnUp (mx0 R N) N = { mx0 R N with up := 0#16 } := by
 obtain ⟨h1, h2, h3, h4, h5⟩ := dwnUp_ok h N (Nat.le_refl _)
 have hup : (dwnUp (mx0 R N) N).up = 0#16 := BitVec.eq_of_getLsbD_eq fun q _ => by
  cases hq : (dwnUp (mx0 R N) N).up.getLsbD q with
  | false => simp
  | true =>
   have := h1.up q hq
   rw [h3] at this
   have := (h5 q hq).1
   have : q < N := by assumption
   omega
 cases hm : dwnUp (mx0 R N) N with
 | mk a b c d =>
  rw [hm] at h2 h3 h4 hup
  simp only at h2 h3 h4 hup
  rw [h2, h3, h4, hup]
theorem imgs0 (Γ : List Assn) : Ent Γ (imgs SV.nil [] :: Γ) := by
 have h : Ent Γ (own SV.nil 60 4 (([] : List Ig).flatMap igC) :: alls ([] : List Ig) igB :: Γ) := (Ent.allsNil igB Γ).trans (Ent.ownNil 60 4)
 exact h.trans ((Ent.pack [_, _] Γ).trans (Ent.mono1 Γ fun _ s => ⟨[], rfl, s⟩))
theorem newR_ok {N R Q G hold : Nat} (h : MxOk (mx0 R N)) (q1 : 1 ≤ Q) (q2 : Q ≤ 1000) (g1 : 1 ≤ G) (g2 : G ≤ 1000) : BrOk (newR N R Q G hold) := by
 have hd := dwnUp_all h
 have := (dwnUp_ok h N (Nat.le_refl _)).1
 rw [hd] at this
 exact ⟨rfl, rfl, this, List.Pairwise.nil, fun x hx => (by cases hx), Nat.zero_le _, q1, q2, g1, g2, Nat.zero_le _, Nat.zero_le _, Nat.zero_le _, fun d hd => (by cases hd)⟩
theorem BNew_S (N R Q G hold : Nat) (hR1 : 1 ≤ R) (hR8 : R ≤ 8) (hN1 : 1 ≤ N) (hN16 : N ≤ 16) (hQ1 : 1 ≤ Q) (hQ2 : Q ≤ 1000) (hG1 : 1 ≤ G) (hG2 : G ≤ 1000) :
  Spec Tryz.prog 11 [.agg #[.int .i64 (N : Int), .int .i64 (R : Int), .int .i64 (Q : Int), .int .i64 (G : Int)], .int .u32 (hold : Int)] [] fun Γ v Θ => ∃ b ps, v = .tuple #[pt b, .int .i64 0] ∧ Θ = BP b (newR N R Q G hold) ps :: Γ := by
 have hm0 := mx0_ok hR1 hR8 hN1 hN16
 refine Zbd Tryz.func11 rfl Tryz.ntmps11 fun w0 Γ => Zsh ?_
 refine ZY 2 ?_
 refine Zp (S.box (cs := [_, _, _, _]) rfl rfl rfl ?_)
 intro b2
 refine ZY 8 ?_
 refine Zy ?_
 refine Zp (Zc1 Ze (Go.Proofs.YtdackcibfkkniaaGreatDoor.New_S R N hR1 hR8 hN1 hN16) ?_)
 rintro v Θ ⟨mb, rfl, rfl⟩
 refine ZY 8 ?_
 refine ZY 8 ?_
 refine Zy ?_
 refine Zu 24 false ef ((decide_eq_false (by omega))) ?_
 refine ZY 5 ?_
 refine Zu 29 false ef ((decide_eq_false (by omega))) ?_
 refine ZY 5 ?_
 refine Zu 34 false ef ((decide_eq_false (by omega))) ?_
 refine ZY 5 ?_
 refine Zj ef (fun h1 => ?_) (fun h1 => ?_)
 ·exact absurd h1 (by omega)
 ·refine ZY 8 ?_
  refine Zy ?_
  refine Zl (fun q ρ' Γ' => ∃ (i : Nat) (mm : Mx), q = N - i ∧ i ≤ N ∧ mm = dwnUp (mx0 R N) i ∧ ρ' = [(1, .int .u32 (hold : Int)), (2, pt b2), (6, pt mb), (40, .int .i64 (N : Int)), (41, .int .i64 (i : Int))] ∧ Γ' = blk b2 25 #[.int .i64 (N : Int), .int .i64 (R : Int), .int .i64 (Q : Int), .int .i64 (G : Int)] :: MI mb mm :: Γ) (m := _) (⟨0, mx0 R N, rfl, by omega, rfl, rfl, rfl⟩) ?_
  rintro q ρ' Γ' ⟨i, mm, hq, hi, hmm, rfl, rfl⟩
  refine ZY 5 ?_
  refine Zj ef (fun h2 => ?_) (fun h2 => ?_)
  ·refine ZY 8 ?_
   refine ZY 3 ?_
   refine Zp (Zcp Ze (Go.Proofs.YtdackcibfkkniaaGreatDoor.Up_S mb mm i false) ?_)
   refine ZY 2 ?_
   refine Zv (Za ef ef) ?_
   refine ZY 2 ?_
   exact ZX (q - 1) (⟨i + 1, (Go.Proofs.YtdackcibfkkniaaGreatDoor.upR mm i false).2, by omega, by omega, by rw [hmm]; rfl, rfl, rfl⟩) (by omega)
  ·obtain rfl : i = N := by omega
   rw [dwnUp_all hm0] at hmm
   refine ZY 5 ?_
   refine Zp (S.makeMap .i64 rfl ?_)
   intro b50
   refine Zp (S.makeMap .u32 rfl ?_)
   intro b51
   refine Zy ?_
   refine Zv (q_build (pvs := [(_, _), (_, _), (_, _), (_, _), (_, _), (_, _)]) [_, _, _, _, _, _, _, _, _, _, _, _, _, _, _, _, _, _] Tryz.z84.h Tryz.p84.h ⟨⟨rfl, rfl⟩, ⟨rfl, rfl⟩, ⟨rfl, rfl⟩, ⟨rfl, rfl⟩, ⟨rfl, rfl⟩, ⟨rfl, rfl⟩, trivial⟩ rfl) ?_
   refine Zp (S.box (cs := [_, _, _, _, _, _, _, _, _, _, _, _, _, _, _, _, _, _]) rfl rfl rfl ?_)
   intro b54
   refine ZY 4 ?_
   refine S.conv (mapL b50 .i64 []) (show Ent _ (mapL b50 .i64 (setE []) :: _) from Ent.refl _) ?_
   refine S.ent (Ent.allsNil (jI fun _ => 0) _) ?_
   refine S.ent (show Ent _ (own SV.nil 97 14 (([] : List Od).flatMap odC) :: _) from Ent.ownNil 97 14) ?_
   refine S.ent (show Ent _ (own SV.nil 31 1 (idsV []) :: _) from Ent.ownNil 31 1) ?_
   refine S.ent (show Ent _ (own SV.nil 31 1 (idsV []) :: _) from Ent.ownNil 31 1) ?_
   refine S.ent (imgs0 _) ?_
   refine S.ent (Ent.optNil _) ?_
   refine S.conv (MI mb mm) (show Ent _ (MI mb (newR i R Q G hold).m :: _) by rw [hmm]; exact Ent.refl _) ?_
   refine S.sub (blk b54 84 #[.int .i64 (i : Int), .int .i64 (R : Int), .int .i64 (Q : Int), .int .i64 (G : Int), .int .u32 (hold : Int), .int .u32 0, .map (some b50), .map (some b51), pt mb, .slice none 0 0, .slice none 0 0, .slice none 0 0, .int .u32 0, .int .i64 (-1), .slice none 0 0, .int .u32 0, .map none, .bool false] :: mapL b50 .i64 (setE []) :: mapL b51 .u32 [] :: alls [] (jI fun _ => 0) :: MI mb (newR i R Q G hold).m :: own SV.nil 97 14 (([] : List Od).flatMap odC) :: imgs SV.nil [] :: own SV.nil 31 1 (idsV []) :: own SV.nil 31 1 (idsV []) :: optS none none :: Γ) ?_
   refine S.ent (show Ent _ (BP b54 (newR i R Q G hold) (fun _ => 0) :: Γ) from Ent.bp (b := b54) (st := newR i R Q G hold) (ps := fun _ => 0) (ub := b50) (jb := b51) (mb := mb) (ov := SV.nil) (iv := SV.nil) (dv := SV.nil) (mv := SV.nil) (sb := none) (l := []) ⟨newR_ok hm0 hQ1 hQ2 hG1 hG2, List.Perm.refl _, rfl, rfl, rfl, rfl, rfl⟩ Γ) ?_
   exact Zf ef Zq (⟨b54, fun _ => 0, rfl, rfl⟩)
end BN
end Go.Proofs.YtdackcibfkkniaaGreatDoor
namespace Go.Proofs.YtdackcibfkkniaaGreatDoor
open Go.RowKit
namespace BN
def imgK (st : Br) (i : Im) : Bool := match getJ st.js i.job with
 | none => false
 | some x => match x.sav with
  | none => false
  | some s => decide (s.ver = i.ver)
theorem imagesR_eq (st : Br) : imagesR st = (st.images.filter (imgK st), { st with images := [] }) := rfl
theorem imgK_none {st : Br} {i : Im} (h : getJ st.js i.job = none) : imgK st i = false := by rw [imgK, h]
theorem imgK_nil {st : Br} {i : Im} {x : Bj} (h : getJ st.js i.job = some x) (h2 : x.sav = none) : imgK st i = false := by rw [imgK, h]; dsimp only; rw [h2]
theorem imgK_some {st : Br} {i : Im} {x : Bj} {s : Sv} (h : getJ st.js i.job = some x) (h2 : x.sav = some s) : imgK st i = decide (s.ver = i.ver) := by rw [imgK, h]; dsimp only; rw [h2]
theorem filter_snoc {α : Type} {p : α → Bool} {l : List α} {i : Nat} {x : α} (hx : l[i]? = some x) (b : Bool) (h : p x = b) : (l.take (i + 1)).filter p = (l.take i).filter p ++ if b then [x] else [] := by
 rw [List.take_add_one, hx, List.filter_append]
 cases b <;> simp [h]
abbrev bNI (b : Nat) (st : Br) (ps : Nat → Nat) (ub jb mb : Nat) (ov iv dv mv : SV) (sb : Option Nat) (l : List (Int × Value)) (Γ : List Assn) : List Assn :=
 blk b 84 (bC st ub jb mb ov iv dv mv sb).toArray :: mapL ub .i64 (setE st.up) :: mapL jb .u32 l :: alls st.js (jI ps) :: MI mb st.m :: own ov 97 14 (st.orders.flatMap odC) :: own dv 31 1 (idsV st.done) :: own mv 31 1 (idsV st.members) :: optS sb st.stops :: Γ
set_option maxHeartbeats 1000000 in
theorem Images_S (b : Nat) (st : Br) (ps : Nat → Nat) (hil : st.images.length ≤ 900000) : Spec Tryz.prog 31 [pt b] [BP b st ps] fun Γ v Θ => ∃ u : SV, v = u.v ∧ u.n = (imagesR st).1.length ∧ Θ = imgs u (imagesR st).1 :: BP b (imagesR st).2 ps :: Γ := by
 rw [imagesR_eq]
 refine Spec.bpOk fun hok => ?_
 refine Zbd Tryz.func31 rfl Tryz.ntmps31 fun w0 Γ => Zsh ?_
 refine S.bpOpen b st ps fun ub jb mb ov iv dv mv sb l hF => ?_
 refine S.imgsOpen iv st.images fun os hos => ?_
 have hol : os.length = st.images.length := by rw [← hos, List.length_map]
 have hin : iv.n = os.length := by rw [hol]; exact hF.im
 refine S.ownLen iv fun hl1 hl2 hl3 => ?_
 have hmx : maxLen ≤ 9223372036854775807 := by unfold maxLen; omega
 refine ZY 8 ?_
 refine ZY 2 ?_
 refine ZF ef ?_
 refine ZY 8 ?_
 refine S.ent (show Ent _ (own SV.nil 60 4 (([] : List Ig).flatMap igC) :: _) from Ent.ownNil 60 4) ?_
 refine S.ent (Ent.allsNil igB _) ?_
 refine ZY 8 ?_
 refine Zl (fun fz ρ' Γ' => ∃ (e : Nat) (rs us : List Ig) (u : SV), fz = os.length - e ∧ e ≤ os.length ∧ rs = os.drop e ∧ us.map (·.2) = (st.images.take e).filter (imgK st) ∧ us.length ≤ e ∧ u.n = us.length ∧ ρ' = [(0, pt b), (3, u.v), (12, iv.v), (13, .int .i64 (iv.n : Int)), (14, .int .i64 (e : Int))] ∧ Γ' = own iv 60 4 (os.flatMap igC) :: alls rs igB :: own u 60 4 (us.flatMap igC) :: alls us igB :: bNI b st ps ub jb mb ov iv dv mv sb l Γ) (m := _) (⟨0, os, [], SV.nil, rfl, by omega, rfl, rfl, by simp, rfl, rfl, rfl⟩) ?_
 rintro fz ρ' Γ' ⟨e, rs, us, u, hq, he, hrs, hus, hul, hun, rfl, rfl⟩
 refine ZY 5 ?_
 refine Zj ef (fun h2 => ?_) (fun h2 => ?_)
 ·refine S.ownSome iv (by omega) fun ib io hia _ _ _ => ?_
  obtain ⟨o, ho⟩ := getE (show e < os.length by omega)
  have hod : os.drop e = o :: os.drop (e + 1) := by
   have hkl := List.getElem?_eq_some_iff.1 ho
   rw [List.drop_eq_getElem_cons hkl.1, hkl.2]
  have hoi : st.images[e]? = some o.2 := by rw [← hos, List.getElem?_map, ho]; rfl
  rw [hod] at hrs
  subst hrs
  refine S.conv (alls (o :: os.drop (e + 1)) igB) (Ent.allsUncons igB o (os.drop (e + 1)) _) ?_
  refine ZY 5 ?_
  refine Zv (Zx (e) ef (hia) ef (by omega)) ?_
  refine Zv (q_loadOwS (iv) (e * 4) [_, _, _, _] Eo.h rfl hia (by first | rfl | exact Nat.add_assoc _ _ _ | omega) rfl (flat_seg (enc := igC) (sz := 4) (fun _ => rfl) ho)) ?_
  refine Zp (S.alloc Tryz.z60.h rfl ?_)
  intro b5
  refine Zp (Zs ef ef (cs' := [_, _, _, _]) ef ?_)
  refine ZY 2 ?_
  rcases hgj : getJ st.js o.2.job with _ | x
  ·have hlk : alGet (o.2.job : Int) l = none := by rw [jE_get hok.srt hF.perm, hgj]; rfl
   have hus2 : us.map (·.2) = (st.images.take (e + 1)).filter (imgK st) := by rw [filter_snoc hoi false (imgK_none hgj), hus]; simp
   refine Zd0 (Zra 0 8) ?_
   refine ZY 6 ?_
   refine Zw ef (q_lookup1 (.pointer none) Tryz.underlying82 Tryz.underlying31 Tryz.zv86.h rfl rfl rfl (by rw [hlk]; rfl)) ?_
   refine Zy ?_
   refine ZD ?_
   refine Zy ?_
   refine Zd ([blk b5 60 (igC o).toArray]) [] [0, 1, 2] ?_
   refine ZY 3 ?_
   refine Zr (Zra 3 19) ?_
   refine ZY 8 ?_
   refine ZY 8 ?_
   refine ZY 3 ?_
   refine ZD ?_
   refine ZY 3 ?_
   refine Zv (Za ef ef) ?_
   refine ZY 2 ?_
   first | exact ZX (fz - 1) ⟨e + 1, os.drop (e + 1), us ++ [o], u2, by omega, by omega, rfl, hus2, by rw [List.length_append, List.length_singleton]; omega, by rw [List.length_append, List.length_singleton]; omega, rfl, rfl⟩ (by omega) | exact ZX (fz - 1) ⟨e + 1, os.drop (e + 1), us, u, by omega, by omega, rfl, hus2, by omega, hun, rfl, rfl⟩ (by omega)
  ·obtain ⟨hxm, hxi⟩ := getJ_some hgj
   have hlk : alGet (o.2.job : Int) l = some (pt (ps x.id)) := by rw [jE_get hok.srt hF.perm, hgj]; rfl
   obtain ⟨i, hi, _, _⟩ := getJ_at hok.srt hgj
   refine Zd0 (Zra 0 8) ?_
   refine ZY 6 ?_
   refine Zw ef (q_lookup1 (pt (ps x.id)) Tryz.underlying82 Tryz.underlying31 Tryz.zv86.h rfl rfl rfl (by rw [hlk]; rfl)) ?_
   refine Zy ?_
   refine ZD ?_
   refine Zy ?_
   refine S.conv (alls st.js (jI ps)) (Ent.allsAt (jI ps) hi _) ?_
   refine S.jiOpen (ps x.id) x fun av lb db rb qb ha hlb hdb hrb hqb => ?_
   rcases hs : x.sav with _ | s
   ·have hk := imgK_nil hgj hs
    have hus2 : us.map (·.2) = (st.images.take (e + 1)).filter (imgK st) := by rw [filter_snoc hoi false hk, hus]; simp
    obtain rfl : qb = none := by rw [hs] at hqb; cases qb with | none => rfl | some q => cases hqb
    refine Zd ([blk b5 60 (igC o).toArray, blk (ps x.id) 90 (bjC x av lb db rb none).toArray]) [] [0, 1, 2] ?_
    refine ZY 3 ?_
    refine Zr (Zra 3 7) ?_
    refine ZY 7 ?_
    refine Zr (Zra 10 12) ?_
    refine ZY 8 ?_
    refine ZY 4 ?_
    refine ZD ?_
    refine ZY 3 ?_
    refine S.conv (savB none x.id none) (show Ent _ (savB none x.id x.sav :: _) by rw [hs]; exact Ent.refl _) ?_
    refine S.jiClose (ps x.id) x av lb db rb none ha hlb hdb hrb (by rw [hs]; rfl) ?_
    refine S.conv3 (JI (ps x.id) x) (alls (st.js.take i) (jI ps)) (alls (st.js.drop (i + 1)) (jI ps)) (Ent.allsBack' (jI ps) hi _) ?_
    refine Zv (Za ef ef) ?_
    refine ZY 2 ?_
    first | exact ZX (fz - 1) ⟨e + 1, os.drop (e + 1), us ++ [o], u2, by omega, by omega, rfl, hus2, by rw [List.length_append, List.length_singleton]; omega, by rw [List.length_append, List.length_singleton]; omega, rfl, rfl⟩ (by omega) | exact ZX (fz - 1) ⟨e + 1, os.drop (e + 1), us, u, by omega, by omega, rfl, hus2, by omega, hun, rfl, rfl⟩ (by omega)
   ·have hk := imgK_some hgj hs
    obtain ⟨q, rfl⟩ : ∃ q, qb = some q := by rw [hs] at hqb; cases qb with | none => cases hqb | some q => exact ⟨q, rfl⟩
    refine S.savOpen q x.id s fun hb sv => ?_
    refine Zd ([blk b5 60 (igC o).toArray, blk (ps x.id) 90 (bjC x av lb db rb (some q)).toArray, blk q 131 #[.int .u32 (x.id : Int), .int .u32 (s.ver : Int), .int .i64 (s.credit : Int), sv.v, .map (some hb), .bool s.told]]) [] [0, 1, 2] ?_
    refine ZY 3 ?_
    refine Zr (Zra 3 7) ?_
    refine ZY 7 ?_
    refine Zr (Zra 10 12) ?_
    refine ZY 8 ?_
    refine ZY 4 ?_
    refine ZD ?_
    refine Zj ef (fun h3 => ?_) (fun h3 => ?_)
    ·have hus2 : (us ++ [o]).map (·.2) = (st.images.take (e + 1)).filter (imgK st) := by rw [filter_snoc hoi true (by rw [hk]; exact decide_eq_true (by omega)), List.map_append, hus]; rfl
     refine ZY 3 ?_
     refine Zp (S.buildSlice (pvs := [(_, _)]) [_, _, _, _] Tryz.underlying51 Tryz.inf60.h rfl rfl ⟨⟨rfl, rfl⟩, trivial⟩ rfl rfl ?_)
     intro b49
     refine Zp (S.appendOw (s := u) (1) (igC o) Tryz.underlying51 Tryz.inf60.h rfl rfl rfl (blk_slAt (b := b49) rfl (by unfold maxLen; omega)) (by first | rfl | exact allOne_bcells _) (⟨by omega, by omega⟩) rfl ?_)
     intro u2 hu2
     rw [flat_snoc igC us o]
     refine S.conv2 (igB o) (alls us igB) (Ent.allsSnoc igB us o _) ?_
     refine ZY 3 ?_
     refine S.savShut q hb sv x.id s ?_
     refine S.conv (savB (some q) x.id (some s)) (show Ent _ (savB (some q) x.id x.sav :: _) by rw [hs]; exact Ent.refl _) ?_
     refine S.jiClose (ps x.id) x av lb db rb (some q) ha hlb hdb hrb (by rw [hs]; rfl) ?_
     refine S.conv3 (JI (ps x.id) x) (alls (st.js.take i) (jI ps)) (alls (st.js.drop (i + 1)) (jI ps)) (Ent.allsBack' (jI ps) hi _) ?_
     refine Zv (Za ef ef) ?_
     refine ZY 2 ?_
     first | exact ZX (fz - 1) ⟨e + 1, os.drop (e + 1), us ++ [o], u2, by omega, by omega, rfl, hus2, by rw [List.length_append, List.length_singleton]; omega, by rw [List.length_append, List.length_singleton]; omega, rfl, rfl⟩ (by omega) | exact ZX (fz - 1) ⟨e + 1, os.drop (e + 1), us, u, by omega, by omega, rfl, hus2, by omega, hun, rfl, rfl⟩ (by omega)
    ·have hus2 : us.map (·.2) = (st.images.take (e + 1)).filter (imgK st) := by rw [filter_snoc hoi false (by rw [hk]; exact decide_eq_false (by omega)), hus]; simp
     refine ZY 2 ?_
     refine S.savShut q hb sv x.id s ?_
     refine S.conv (savB (some q) x.id (some s)) (show Ent _ (savB (some q) x.id x.sav :: _) by rw [hs]; exact Ent.refl _) ?_
     refine S.jiClose (ps x.id) x av lb db rb (some q) ha hlb hdb hrb (by rw [hs]; rfl) ?_
     refine S.conv3 (JI (ps x.id) x) (alls (st.js.take i) (jI ps)) (alls (st.js.drop (i + 1)) (jI ps)) (Ent.allsBack' (jI ps) hi _) ?_
     refine Zv (Za ef ef) ?_
     refine ZY 2 ?_
     first | exact ZX (fz - 1) ⟨e + 1, os.drop (e + 1), us ++ [o], u2, by omega, by omega, rfl, hus2, by rw [List.length_append, List.length_singleton]; omega, by rw [List.length_append, List.length_singleton]; omega, rfl, rfl⟩ (by omega) | exact ZX (fz - 1) ⟨e + 1, os.drop (e + 1), us, u, by omega, by omega, rfl, hus2, by omega, hun, rfl, rfl⟩ (by omega)
 ·have hen : e = os.length := by omega
  rw [show st.images.take e = st.images by rw [hen, hol, List.take_length]] at hus
  refine ZY 8 ?_
  refine ZY 6 ?_
  refine S.conv2 (own u 60 4 (us.flatMap igC)) (alls us igB) (Ent.toImgs u us _) ?_
  refine S.ent (imgs0 _) ?_
  refine S.sub (bX b { st with images := [] } ps ub jb mb ov SV.nil dv mv sb l (imgs u (us.map (fun x : Ig => x.2)) :: Γ)) ?_
  refine S.bpClose b { st with images := [] } ps ub jb mb ov SV.nil dv mv sb l ⟨hok.iset [], hF.perm, hF.on, rfl, hF.dn, hF.mn, hF.sn⟩ ?_
  exact Zf ef Zq (⟨u, rfl, by rw [← hus, List.length_map]; exact hun, by rw [← hus]⟩)
theorem hearR_bad {st : Br} {n : Int} {t : Nt} {blob : List Int} (h : nodeR st n true ≠ 0) : hearR st n t blob = (nodeR st n true, st) := by rw [hearR, if_pos h]
theorem hearR_stop {st : Br} {n : Nat} {t : Nt} {blob : List Int} (h : ¬ nodeR st n true ≠ 0) (h7 : t.kind = 7) : hearR st n t blob = (0, heardR st n t) := by rw [hearR, if_neg h, if_pos h7]; rfl
theorem hearR_none {st : Br} {n : Nat} {t : Nt} {blob : List Int} (h : ¬ nodeR st n true ≠ 0) (h7 : t.kind ≠ 7) (hg : getJ st.js t.job = none) : hearR st n t blob = (0, st) := by rw [hearR, if_neg h, if_neg h7, hg]
theorem hearR_away {st : Br} {n : Nat} {t : Nt} {blob : List Int} (h : ¬ nodeR st n true ≠ 0) (h7 : t.kind ≠ 7) {x : Bj} (hg : getJ st.js t.job = some x) (hn : n ∉ x.at_) : hearR st n t blob = (0, st) := by
 rw [hearR, if_neg h, if_neg h7, hg]; exact if_neg hn
theorem hearR_at {st : Br} {n : Nat} {t : Nt} {blob : List Int} (h : ¬ nodeR st n true ≠ 0) (h7 : t.kind ≠ 7) {x : Bj} (hg : getJ st.js t.job = some x) (hn : n ∈ x.at_) : hearR st n t blob = (0, hearJ st x n t blob) := by
 rw [hearR, if_neg h, if_neg h7, hg]; exact if_pos hn
abbrev lodX (x : Bj) (d : List Nat) (n : Nat) : Bj := { x with loaded := some (sAdd d n), state := if (sAdd d n).length = x.at_.length then 2 else 1 }
theorem JOk.lodX {N : Nat} {x : Bj} (h : JOk N x) {d : List Nat} {n : Nat} (hd : (sAdd d n).Nodup) : JOk N (lodX x d n) := ⟨h.id1, h.id2, h.tier, h.k1, h.kn, h.w, h.cr, h.wk, h.rise, h.at_, h.drop, fun e he => (by cases he; exact hd), h.ran, fun _ => rfl, h.svl⟩
theorem sAdd_nodup {s : List Nat} (h : s.Nodup) (x : Nat) : (sAdd s x).Nodup := by
 unfold sAdd
 split
 ·exact h
 ·rename_i hx
  rw [List.nodup_append]
  exact ⟨h, by simp, fun a ha b hb e => hx (by rw [List.mem_singleton] at hb; rw [← hb, ← e]; exact ha)⟩
section
variable {st : Br} {x : Bj} {n : Nat} {t : Nt} {blob : List Int}
theorem hearJ_ld {d : List Nat} (h4 : t.kind = 4) (hs : x.state = 1) (hd : x.loaded = some d) : hearJ st x n t blob = st.set (lodX x d n) := by
 unfold hearJ; rw [if_pos h4, if_pos hs, hd]; rfl
theorem hearJ_ld0 (h4 : t.kind = 4) (hs : x.state ≠ 1) : hearJ st x n t blob = st := by
 unfold hearJ; rw [if_pos h4, if_neg hs]
theorem hearJ_sv (h9 : t.kind = 9) : hearJ st x n t blob = savedR st x n t blob := by
 unfold hearJ; rw [if_neg (by omega), if_pos h9]
theorem hearJ_dr {d : List Nat} (h : t.kind = 11) (hd : x.drops = some d) : hearJ st x n t blob = goneR st (delX x d n) := by
 unfold hearJ; rw [if_neg (by omega), if_neg (by omega), if_pos h, hd]
theorem hearJ_dr0 (h : t.kind = 11) (hd : x.drops = none) : hearJ st x n t blob = st := by
 unfold hearJ; rw [if_neg (by omega), if_neg (by omega), if_pos h, hd]
theorem hearJ_no (h4 : t.kind ≠ 4) (h9 : t.kind ≠ 9) (h : t.kind ≠ 11) : hearJ st x n t blob = st := by
 unfold hearJ; rw [if_neg h4, if_neg h9, if_neg h]
end
set_option maxHeartbeats 1000000 in
theorem Hear_S (b : Nat) (st : Br) (ps : Nat → Nat) (n : Int) (t : Nt) (R : Assn) (bv : SV) (blob : List Int) (hbn : bv.n = blob.length) (hbl : blob.length ≤ 1000000) (hR : RdS R bv bv.n 1 (bcells blob)) (hz : t.frm ≤ 4294967295 ∧ t.til ≤ 4294967295) (hr8 : t.rank ≤ 255) (hl : st.orders.length ≤ 880000) (hil : st.images.length ≤ 900000) :
  Spec Tryz.prog 30 [pt b, .int .i64 n, .agg (ntC t bv).toArray] [BP b st ps, R] fun Γ v Θ => v = .int .i64 (hearR st n t blob).1 ∧ Θ = BP b (hearR st n t blob).2 ps :: R :: Γ := by
 refine Spec.bpOk fun hok => ?_
 refine Zbd Tryz.func30 rfl Tryz.ntmps30 fun w0 Γ => Zsh ?_
 refine ZY 2 ?_
 refine Zp (S.box (cs := [_, _, _, _, _, _, _, _, _, _, _, _, _]) rfl rfl rfl ?_)
 intro b5
 refine ZY 7 ?_
 refine Zp (Zcp Ze (node_S b st ps n true) ?_)
 refine ZY 7 ?_
 refine Zj ef (fun h1 => ?_) (fun h1 => ?_)
 ·have hu := hearR_bad (t := t) (blob := blob) h1
  refine ZY 6 ?_
  exact Zf ef Zq (⟨by rw [hu]; rfl, by rw [hu]⟩)
 ·have hr := node_in (Classical.byContradiction h1)
  obtain ⟨k, rfl⟩ : ∃ k : Nat, n = k := ⟨n.toNat, by omega⟩
  refine ZY 8 ?_
  refine Zj ef (fun h2 => ?_) (fun h2 => ?_)
  ·have hu := hearR_stop (t := t) (blob := blob) h1 (by omega)
   refine ZY 5 ?_
   refine Zp (Zc1 Ze (heard_S b st ps k t bv hz hl) ?_)
   rintro v Θ rfl
   refine ZY 6 ?_
   exact Zf ef Zq (⟨by rw [hu]; rfl, by rw [hu]⟩)
  ·have h7 : t.kind ≠ 7 := fun e => h2 (by rw [e]; rfl)
   refine ZY 2 ?_
   rcases hgj : getJ st.js t.job with _ | x
   ·have hu := hearR_none (blob := blob) h1 h7 hgj
    refine S.bpOpen b st ps fun ub jb mb ov iv dv mv sb l hF => ?_
    have hlk : alGet (t.job : Int) l = none := by rw [jE_get hok.srt hF.perm, hgj]; rfl
    refine Zd0 (Zra 0 8) ?_
    refine ZY 6 ?_
    refine Zw ef (q_lookup1 (.pointer none) Tryz.underlying82 Tryz.underlying31 Tryz.zv86.h rfl rfl rfl (by rw [hlk]; rfl)) ?_
    refine Zy ?_
    refine ZD ?_
    refine ZY 8 ?_
    refine ZY 8 ?_
    refine ZY 5 ?_
    refine S.bpClose b st ps ub jb mb ov iv dv mv sb l hF ?_
    exact Zf ef Zq (⟨by rw [hu]; rfl, by rw [hu]⟩)
   ·obtain ⟨_, hxi⟩ := getJ_some hgj
    have hx : getJ st.js x.id = some x := by rw [hxi]; exact hgj
    have hjx := hok.at_ hx
    have hN := hok.N16
    have hal := hjx.len
    refine S.bjOpen b st ps x hx fun ub jb mb ov iv dv mv sb l i av lb db rb qb hF hi hset hrm hJ => ?_
    have hlk : alGet (t.job : Int) l = some (pt (ps x.id)) := by rw [jE_get hok.srt hF.perm, hgj]; rfl
    refine Zd0 (Zra 0 8) ?_
    refine ZY 6 ?_
    refine Zw ef (q_lookup1 (pt (ps x.id)) Tryz.underlying82 Tryz.underlying31 Tryz.zv86.h rfl rfl rfl (by rw [hlk]; rfl)) ?_
    refine Zy ?_
    refine ZD ?_
    refine ZY 8 ?_
    refine ZY 3 ?_
    refine Zg ef ef ef (Zcp Ze (Contains_S (own av 3 1 (nds x.at_)) av x.at_ k hJ.an RdS.own) ?_)
    refine ZY 3 ?_
    refine Zi ef (fun h3 => ?_) (fun h3 => ?_)
    ·have hu := hearR_away (blob := blob) h1 h7 hgj (show k ∉ x.at_ by simpa using h3)
     refine ZY 5 ?_
     refine S.bjClose b st ps ub jb mb ov iv dv mv sb l i x av lb db rb qb hi rfl (hset x rfl) (hF.set hjx) hJ ?_
     rw [set_self hok hx]
     exact Zf ef Zq (⟨by rw [hu]; rfl, by rw [hu]⟩)
    ·have hin : k ∈ x.at_ := by simpa using h3
     have hu := hearR_at (blob := blob) h1 h7 hgj hin
     refine ZY 8 ?_
     refine ZY 5 ?_
     refine Zj ef (fun h4 => ?_) (fun h4 => ?_)
     ·have h4n : t.kind = 4 := by omega
      refine ZY 8 ?_
      refine Zy ?_
      refine Zj ef (fun h5 => ?_) (fun h5 => ?_)
      ·have h1s : x.state = 1 := by omega
       obtain ⟨d, hd⟩ : ∃ d, x.loaded = some d := Option.isSome_iff_exists.1 (hjx.ld h1s)
       obtain ⟨q, rfl⟩ : ∃ q, lb = some q := by have := hJ.l; rw [hd] at this; cases lb with | none => cases this | some q => exact ⟨q, rfl⟩
       refine S.conv (optS (some q) x.loaded) (Ent.opt1 hd _) ?_
       have hc := hearJ_ld (st := st) (n := k) (blob := blob) h4n h1s hd
       have hdn := hjx.lod d hd
       obtain ⟨x1, hx1⟩ : ∃ x1 : Bj, x1 = lodX x d k := ⟨_, rfl⟩
       have hj1 : JOk st.nodes x1 := by rw [hx1]; exact hjx.lodX (sAdd_nodup hdn k)
       have hid : x1.id = x.id := by rw [hx1]
       refine ZY 7 ?_
       refine Zp (Zc1 Ze (add_S q d k) ?_)
       rintro v Θ rfl
       refine ZY 2 ?_
       refine Zd0 (Zra 0 11) ?_
       refine ZY 8 ?_
       refine ZY 3 ?_
       refine ZD ?_
       refine Zj ef (fun h6 => ?_) (fun h6 => ?_)
       ·refine ZY 7 ?_
        have hlen : (sAdd d k).length = x.at_.length := by have := setE_len (sAdd d k); have := hJ.an; omega
        refine S.blkAs (ps x.id) (bjC x1 av (some q) db rb qb).toArray (by rw [hx1]; simp only [lodX, if_pos hlen]; rfl) ?_
        refine S.conv (mapL q .i64 (setE (sAdd d k))) (Ent.opt2 (show x1.loaded = some (sAdd d k) by rw [hx1]) _) ?_
        refine S.sub (jX (ps x.id) x1 av (some q) db rb qb (bR b st ps ub jb mb ov iv dv mv sb l i (R :: Γ))) (e := by subst hx1; infer_instance) ?_
        refine S.bjClose b st ps ub jb mb ov iv dv mv sb l i x1 av (some q) db rb qb hi hid (hset x1 hid) (hF.set hj1) ⟨by rw [hx1]; exact hJ.an, by rw [hx1]; rfl, by rw [hx1]; exact hJ.d, by rw [hx1]; exact hJ.r, by rw [hx1]; exact hJ.s⟩ ?_
        rw [hx1, ← hc]
        refine ZY 5 ?_
        exact Zf ef Zq (⟨by rw [hu]; rfl, by rw [hu]⟩)
       ·refine Zy ?_
        have hlen : ¬ (sAdd d k).length = x.at_.length := by have := setE_len (sAdd d k); have := hJ.an; omega
        refine S.blkAs (ps x.id) (bjC x1 av (some q) db rb qb).toArray (by rw [hx1]; simp only [if_neg hlen, bjC]; rw [h1s]) ?_
        refine S.conv (mapL q .i64 (setE (sAdd d k))) (Ent.opt2 (show x1.loaded = some (sAdd d k) by rw [hx1]) _) ?_
        refine S.sub (jX (ps x.id) x1 av (some q) db rb qb (bR b st ps ub jb mb ov iv dv mv sb l i (R :: Γ))) (e := by subst hx1; infer_instance) ?_
        refine S.bjClose b st ps ub jb mb ov iv dv mv sb l i x1 av (some q) db rb qb hi hid (hset x1 hid) (hF.set hj1) ⟨by rw [hx1]; exact hJ.an, by rw [hx1]; rfl, by rw [hx1]; exact hJ.d, by rw [hx1]; exact hJ.r, by rw [hx1]; exact hJ.s⟩ ?_
        rw [hx1, ← hc]
        refine ZY 5 ?_
        exact Zf ef Zq (⟨by rw [hu]; rfl, by rw [hu]⟩)
      ·refine Zy ?_
       have hc := hearJ_ld0 (st := st) (n := k) (blob := blob) h4n (show x.state ≠ 1 by omega)
       refine S.bjClose b st ps ub jb mb ov iv dv mv sb l i x av lb db rb qb hi rfl (hset x rfl) (hF.set hjx) hJ ?_
       rw [set_self hok hx]
       refine S.conv (BP b st ps) (show Ent _ (BP b (hearJ st x k t blob) ps :: _) by rw [hc]; exact Ent.refl _) ?_
       refine ZY 5 ?_
       exact Zf ef Zq (⟨by rw [hu]; rfl, by rw [hu]⟩)
     ·have h4n : t.kind ≠ 4 := by omega
      refine ZY 5 ?_
      refine Zj ef (fun h7 => ?_) (fun h7 => ?_)
      ·have hc := hearJ_sv (st := st) (x := x) (n := k) (blob := blob) (show t.kind = 9 by omega)
       refine S.bjClose b st ps ub jb mb ov iv dv mv sb l i x av lb db rb qb hi rfl (hset x rfl) (hF.set hjx) hJ ?_
       rw [set_self hok hx]
       refine ZY 5 ?_
       refine Zp (Zc1 Ze (saved_S b st ps x k t R bv blob hx hin hbn hbl hR hil hr8) ?_)
       rintro v Θ rfl
       refine Zy ?_
       rw [← hc]
       refine ZY 5 ?_
       exact Zf ef Zq (⟨by rw [hu]; rfl, by rw [hu]⟩)
      ·refine ZY 5 ?_
       refine Zj ef (fun h8 => ?_) (fun h8 => ?_)
       ·have h11 : t.kind = 11 := by omega
        refine ZY 6 ?_
        refine Zv (q_neMN Tryz.underlying81 rfl rfl) ?_
        refine Zy ?_
        refine Zi ef (fun h9 => ?_) (fun h9 => ?_)
        ·obtain ⟨q, rfl⟩ : ∃ q, db = some q := by cases db with | none => cases h9 | some q => exact ⟨q, rfl⟩
         obtain ⟨d, hd⟩ : ∃ d, x.drops = some d := by have := hJ.d; cases e9 : x.drops with | none => rw [e9] at this; cases this | some d => exact ⟨d, rfl⟩
         have hc := hearJ_dr (st := st) (n := k) (blob := blob) h11 hd
         have hdn := hjx.drop d hd
         refine S.conv (optS (some q) x.drops) (Ent.opt1 hd _) ?_
         obtain ⟨x1, hx1⟩ : ∃ x1 : Bj, x1 = delX x d k := ⟨_, rfl⟩
         have hj1 : JOk st.nodes x1 := by rw [hx1]; exact hjx.delX hdn k
         have hid : x1.id = x.id := by rw [hx1]
         refine ZY 7 ?_
         refine Zp (S.mapDelete Tryz.underlying81 Tryz.underlying3 rfl rfl rfl ?_)
         rw [setE_del k hdn]
         refine ZY 4 ?_
         refine S.conv (mapL q .i64 (setE (sDel d k))) (Ent.opt2 (show x1.drops = some (sDel d k) by rw [hx1]) _) ?_
         refine S.blkAs (ps x.id) (bjC x1 av lb (some q) rb qb).toArray (by rw [hx1]) ?_
         refine S.sub (blk b5 72 (ntC t bv).toArray :: jX (ps x.id) x1 av lb (some q) rb qb (bR b st ps ub jb mb ov iv dv mv sb l i (R :: Γ))) (e := by subst hx1; infer_instance) ?_
         refine S.bjClose b st ps ub jb mb ov iv dv mv sb l i x1 av lb (some q) rb qb hi hid (hset x1 hid) (hF.set hj1) ⟨by rw [hx1]; exact hJ.an, by rw [hx1]; exact hJ.l, by rw [hx1]; rfl, by rw [hx1]; exact hJ.r, by rw [hx1]; exact hJ.s⟩ ?_
         refine Zp (Zc1 Ze ((hid ▸ gone_S b (st.set x1) ps x1 (get_set st (by rw [hid]; exact hx)) : Spec Tryz.prog 53 [pt b, pt (ps x.id)] [BP b (st.set x1) ps] fun Γ _ Θ => Θ = BP b (goneR (st.set x1) x1) ps :: Γ)) ?_)
         rintro v Θ rfl
         rw [gone_set st (x := x1) (y := x1) rfl]
         refine Zy ?_
         rw [hx1, ← hc]
         refine ZY 5 ?_
         exact Zf ef Zq (⟨by rw [hu]; rfl, by rw [hu]⟩)
        ·refine Zy ?_
         have hd : x.drops = none := by have := hJ.d; cases e9 : x.drops with | none => rfl | some d => rw [e9] at this; rw [this] at h9; cases h9
         have hc := hearJ_dr0 (st := st) (n := k) (blob := blob) h11 hd
         refine S.bjClose b st ps ub jb mb ov iv dv mv sb l i x av lb db rb qb hi rfl (hset x rfl) (hF.set hjx) hJ ?_
         rw [set_self hok hx]
         refine S.conv (BP b st ps) (show Ent _ (BP b (hearJ st x k t blob) ps :: _) by rw [hc]; exact Ent.refl _) ?_
         refine ZY 5 ?_
         exact Zf ef Zq (⟨by rw [hu]; rfl, by rw [hu]⟩)
       ·refine Zy ?_
        have hc := hearJ_no (st := st) (x := x) (n := k) (blob := blob) h4n (show t.kind ≠ 9 by omega) (show t.kind ≠ 11 by omega)
        refine S.bjClose b st ps ub jb mb ov iv dv mv sb l i x av lb db rb qb hi rfl (hset x rfl) (hF.set hjx) hJ ?_
        rw [set_self hok hx]
        refine S.conv (BP b st ps) (show Ent _ (BP b (hearJ st x k t blob) ps :: _) by rw [hc]; exact Ent.refl _) ?_
        refine ZY 5 ?_
        exact Zf ef Zq (⟨by rw [hu]; rfl, by rw [hu]⟩)
end BN
end Go.Proofs.YtdackcibfkkniaaGreatDoor
namespace Go.Proofs.YtdackcibfkkniaaGreatDoor
open Go.RowKit
namespace BN
section
variable {n : Nat} {md : Bool} {w0 : WM md} {ρ : Env} {Γ Δ : List Assn} {φ : Act → World → Prop}
theorem S.lstOpen (v : SV) (k : Nat) [q : Pick (lstM v k) Γ Δ] (f : ∀ l : List Nat, l.length ≤ k → v.n = l.length → S n w0 ρ (own v 31 1 (idsV l) :: Δ) φ) : S n w0 ρ Γ φ := by
 intro a w ha hs hx
 obtain ⟨h0, l0, h1, h2, d, l1, l2, ⟨l, q1, q2, q3⟩, s⟩ := hs.ent q.ent
 exact f l q1 q2 a w ha ⟨h0, l0, h1, h2, d, l1, l2, q3, s⟩ hx
theorem Ent.lst (v : SV) {l : List Nat} {k : Nat} (h : l.length ≤ k) (hv : v.n = l.length) (Γ : List Assn) : Ent (own v 31 1 (idsV l) :: Γ) (lstM v k :: Γ) := Ent.mono1 Γ fun _ s => ⟨l, h, hv, s⟩
theorem Ent.lstLe (v : SV) {k k' : Nat} (h : k ≤ k') (Γ : List Assn) : Ent (lstM v k :: Γ) (lstM v k' :: Γ) := Ent.mono1 Γ fun _ ⟨l, a, b, c⟩ => ⟨l, Nat.le_trans a h, b, c⟩
theorem S.warOpen (b : Nat) [q : Pick (warM b) Γ Δ] (f : ∀ l : List (Int × Value), S n w0 ρ (mapL b .u32 l :: Δ) φ) : S n w0 ρ Γ φ := by
 intro a w ha hs hx
 obtain ⟨h0, l0, h1, h2, d, l1, l2, ⟨l, q1⟩, s⟩ := hs.ent q.ent
 exact f l a w ha ⟨h0, l0, h1, h2, d, l1, l2, q1, s⟩ hx
theorem Ent.war (b : Nat) (l : List (Int × Value)) (Γ : List Assn) : Ent (mapL b .u32 l :: Γ) (warM b :: Γ) := Ent.mono1 Γ fun _ s => ⟨l, s⟩
end
theorem setT_get (l : List Nat) (x : Nat) : alGet (x : Int) (setT l) = if x ∈ l then some (.bool true) else none := by
 induction l with
 | nil => rfl
 | cons y l ih =>
  simp only [List.map_cons, alGet]
  by_cases h : x = y
  ·rw [if_pos (by omega), if_pos (by rw [h]; exact List.mem_cons_self ..)]
  ·rw [if_neg (by omega)]
   refine ih.trans ?_
   by_cases h2 : x ∈ l
   ·rw [if_pos h2, if_pos (List.mem_cons_of_mem _ h2)]
   ·rw [if_neg h2, if_neg (fun h3 => by rcases List.mem_cons.1 h3 with h3 | h3; exact h h3; exact h2 h3)]
theorem setT_put (l : List Nat) (x : Nat) : alPut (x : Int) (.bool true) (setT l) = setT (sAdd l x) := by
 have key : ∀ l : List Nat, alPut (x : Int) (.bool true) (setT l) = if x ∈ l then setT l else setT (l ++ [x]) := by
  intro l
  induction l with
  | nil => rfl
  | cons y l ih =>
   simp only [List.map_cons, alPut]
   by_cases h : x = y
   ·rw [if_pos (by omega), if_pos (by rw [h]; exact List.mem_cons_self ..), h]
   ·rw [if_neg (by omega), ih]
    by_cases h2 : x ∈ l
    ·rw [if_pos h2, if_pos (List.mem_cons_of_mem _ h2)]
    ·rw [if_neg h2, if_neg (fun h3 => by rcases List.mem_cons.1 h3 with h3 | h3; exact h h3; exact h2 h3)]
     rfl
 rw [key, sAdd]
 split <;> rfl
theorem setWrong_set {l : List Nd} {x : Nd} (h : l[0]? = some x) : setWrong l = l.set 0 { x with wrong := true } := by
 cases l with
 | nil => cases h
 | cons y l => cases h; rfl
theorem ordR_out {l : List Nd} {o : Od} (h : l[o.1]? = none) : ordR l o = setWrong l := by rw [ordR, h]
theorem ordR_down {l : List Nd} {o : Od} {x : Nd} (h : l[o.1]? = some x) (hu : x.up = false) : ordR l o = setWrong l := by rw [ordR, h]; dsimp only; rw [hu]; rfl
theorem ordR_up {l : List Nd} {o : Od} {x : Nd} (h : l[o.1]? = some x) (hu : x.up = true) : ordR l o = l.set o.1 { x with inn := x.inn ++ [o.2] } := by rw [ordR, h]; dsimp only; rw [hu]; rfl
theorem ordsR_snoc (l : List Nd) (os : List Od) (o : Od) : ordsR l (os ++ [o]) = ordR (ordsR l os) o := by rw [ordsR, List.foldl_append]; rfl
theorem setWrong_len (l : List Nd) : (setWrong l).length = l.length := by cases l <;> rfl
theorem ordR_len (l : List Nd) (o : Od) : (ordR l o).length = l.length := by
 unfold ordR
 split
 ·exact setWrong_len l
 ·split
  ·exact List.length_set ..
  ·exact setWrong_len l
theorem ordsR_len (l : List Nd) (os : List Od) : (ordsR l os).length = l.length := by
 induction os generalizing l with
 | nil => rfl
 | cons o os ih => exact (ih (ordR l o)).trans (ordR_len l o)
def qLe (l : List Nd) (k : Nat) : Prop := ∀ n ∈ l, n.inn.length ≤ k ∧ n.out.length ≤ k
theorem qLe.mono {l : List Nd} {k k' : Nat} (h : qLe l k) (hk : k ≤ k') : qLe l k' := fun n hn => ⟨Nat.le_trans (h n hn).1 hk, Nat.le_trans (h n hn).2 hk⟩
theorem qLe.set {l : List Nd} {k : Nat} (h : qLe l k) {i : Nat} {x : Nd} (hx : x.inn.length ≤ k ∧ x.out.length ≤ k) : qLe (l.set i x) k := fun n hn => by
 rcases List.mem_or_eq_of_mem_set hn with h1 | h1
 ·exact h n h1
 ·rw [h1]; exact hx
theorem qLe.wrong {l : List Nd} {k : Nat} (h : qLe l k) : qLe (setWrong l) k := by
 cases l with
 | nil => exact h
 | cons x l =>
   intro n hn
   rcases List.mem_cons.1 hn with rfl | hn
   ·exact h x (List.mem_cons_self ..)
   ·exact h n (List.mem_cons_of_mem _ hn)
theorem qLe.ord {l : List Nd} {k : Nat} (h : qLe l k) (o : Od) : qLe (ordR l o) (k + 1) := by
 unfold ordR
 split
 ·exact (h.mono (by omega)).wrong
 ·rename_i x hx
  have h1 := h x (List.mem_of_getElem? hx)
  split
  ·refine (h.mono (by omega)).set ⟨?_, by show x.out.length ≤ _; omega⟩
   show (x.inn ++ [o.2]).length ≤ _
   rw [List.length_append, List.length_singleton]
   omega
  ·exact (h.mono (by omega)).wrong
theorem qLe.ords {l : List Nd} {k : Nat} (h : qLe l k) (os : List Od) : qLe (ordsR l os) (k + os.length) := by
 induction os generalizing l k with
 | nil => exact h
 | cons o os ih =>
  have := ih (h.ord o)
  rw [List.length_cons]
  exact this.mono (by omega)
theorem ns_at {ns : List No} {l : List Nd} (h : ns.map (·.2) = l) {i : Nat} {x : Nd} (hx : l[i]? = some x) : ∃ q, ns[i]? = some (q, x) := by
 rw [← h, List.getElem?_map] at hx
 obtain ⟨o, ho, e⟩ := Option.map_eq_some_iff.1 hx
 exact ⟨o.1, by rw [ho, ← e]⟩
theorem ns_set {ns : List No} {i q : Nat} {x : Nd} (h : ns[i]? = some (q, x)) (y : Nd) : (ns.set i (q, y)).map noV = ns.map noV ∧ (ns.set i (q, y)).map (·.2) = (ns.map (·.2)).set i y := by
 refine ⟨?_, by rw [List.map_set]⟩
 refine List.ext_getElem? fun k => ?_
 rw [List.getElem?_map, List.getElem?_map, List.getElem?_set]
 split
 ·rename_i e
  subst e
  rw [h, if_pos (List.getElem?_eq_some_iff.1 h).1]
  rfl
 ·rfl
theorem igC_oneL (l : List Ig) : allOne (l.flatMap igC) = true := List.all_eq_true.2 fun u hu => by
 obtain ⟨x, _, h⟩ := List.mem_flatMap.1 hu
 simp only [igC, List.mem_cons, List.not_mem_nil, or_false] at h
 rcases h with rfl | rfl | rfl | rfl <;> rfl
end BN
end Go.Proofs.YtdackcibfkkniaaGreatDoor
namespace Go.Proofs.YtdackcibfkkniaaGreatDoor
open Go.RowKit
namespace BN
theorem doneR_snoc (p : List Nd × List Nat) (l : List Nat) (id : Nat) : (l ++ [id]).foldl doneR p = doneR (l.foldl doneR p) id := by rw [List.foldl_append]; rfl
theorem doneR_len (p : List Nd × List Nat) (id : Nat) : (doneR p id).1.length = p.1.length := by
 unfold doneR
 dsimp only
 split
 ·exact setWrong_len _
 ·rfl
theorem donesR_len (l : List Nat) : ∀ (p : List Nd × List Nat), (l.foldl doneR p).1.length = p.1.length := by
 induction l with
 | nil => exact fun _ => rfl
 | cons id l ih => exact fun p => (ih _).trans (doneR_len p id)
theorem imgs_sub (st : Br) : (imagesR st).1.length ≤ st.images.length := List.length_filter_le _ _
structure TkOk (s : Sm) : Prop where
 len : s.nd.length = s.cn
 n1 : 1 ≤ s.cn
 q : qLe s.nd s.fu
 im : s.images.length ≤ s.fu
 fu : s.fu ≤ 100000000000
 o : s.b.orders.length ≤ 900000
 i : s.b.images.length ≤ 900000
 d : s.b.done.length ≤ 900000
set_option maxHeartbeats 8000000 in
theorem take_S (p : Nat) (s : Sm) (hk : TkOk s) : Spec Tryz.prog 56 [pt p] [SP p s] fun Γ _ Θ => Θ = SP p (takeR s) :: Γ := by
 have hfu := hk.fu
 have hko := hk.o
 have hki := hk.i
 have hkd := hk.d
 have hn1 := hk.n1
 have hkim := hk.im
 refine Zbd Tryz.func56 rfl Tryz.ntmps56 fun w0 Γ => Zsh ?_
 refine S.spOpen p s fun b ps nv ns rb jb gb db wb iv dv wv hF => ?_
 have hnn := hF.nn
 have hlen := hk.len
 refine S.ownLen nv fun hv1 hv2 hv3 => ?_
 rw [List.length_map] at hv1
 refine ZY 7 ?_
 refine Zp (Zc1 Ze (Take_S b s.b ps) ?_)
 rintro v Θ ⟨tv, rfl, htn, rfl⟩
 refine S.ownLen tv fun ht1 ht2 ht3 => ?_
 have hmx : maxLen ≤ 9223372036854775807 := by unfold maxLen; omega
 refine ZY 4 ?_
 refine Zl (fun fz ρ' Γ' => ∃ (e : Nat) (nds : List Nd) (ns : List No) (dv wv : SV), fz = s.b.orders.length - e ∧ e ≤ s.b.orders.length ∧ nds = ordsR s.nd (s.b.orders.take e) ∧ ns.map (·.2) = nds ∧ nv.n = nds.length ∧ ρ' = [(0, pt p), (10, tv.v), (11, .int .i64 (tv.n : Int)), (12, .int .i64 (e : Int))] ∧   Γ' = own tv 97 14 (s.b.orders.flatMap odC) :: blk p 55 (smC s b nv rb jb gb db wb iv dv wv).toArray :: BP b { s.b with orders := [] } ps :: own nv 103 1 (ns.map noV) :: alls ns noB :: ranM rb s.ran :: mapL jb .u32 (s.jobs.map joE) :: mapL gb .u32 (setT s.gone) :: mapL db .u32 (setT s.done) :: imgs iv s.images :: warM wb :: lstM dv (s.fu + e) :: lstM wv (s.fu + e) :: Γ) (m := _) (⟨0, s.nd, ns, dv, wv, rfl, by omega, rfl, hF.nd, hF.nn, rfl, rfl⟩) ?_
 rintro fz ρ' Γ' ⟨e, nds, ns, dv, wv, hfz, he, hnds, hns, hnvn, rfl, rfl⟩
 have hndl : nds.length = s.cn := by rw [hnds, ordsR_len, hlen]
 have hq : qLe nds (s.fu + 900000) := by rw [hnds]; exact (hk.q.ords (s.b.orders.take e)).mono (by rw [List.length_take]; omega)
 refine ZY 5 ?_
 refine Zj ef (fun h1 => ?_) (fun h1 => ?_)
 ·refine S.ownSome tv (by omega) fun tb tof hta _ _ _ => ?_
  obtain ⟨o, ho⟩ := getE (show e < s.b.orders.length by omega)
  have hst : ordsR s.nd (s.b.orders.take (e + 1)) = ordR nds o := by rw [List.take_add_one, ho, hnds]; exact ordsR_snoc _ _ _
  refine S.ownSome nv (by omega) fun nb nof hna _ _ _ => ?_
  obtain ⟨x0, hx0⟩ := getE (show 0 < nds.length by omega)
  obtain ⟨q0, hq0⟩ := ns_at hns hx0
  have hsw : setWrong nds = nds.set 0 { x0 with wrong := true } := setWrong_set hx0
  obtain ⟨m1, m2⟩ := ns_set hq0 { x0 with wrong := true }
  rw [hns] at m2
  refine ZY 5 ?_
  refine Zv (Zx (e) ef (hta) ef (by omega)) ?_
  refine Zv (q_loadOwS (tv) (e * 14) [_, _, _, _, _, _, _, _, _, _, _, _, _, _] Eo.h rfl hta (by first | rfl | exact Nat.add_assoc _ _ _ | omega) rfl (flat_seg (enc := odC) (sz := 14) (fun _ => rfl) ho)) ?_
  refine Zp (S.alloc Tryz.z97.h rfl ?_)
  intro b3
  refine Zp (Zs ef ef (cs' := [_, _, _, _, _, _, _, _, _, _, _, _, _, _]) ef ?_)
  refine ZY 3 ?_
  rcases hxo : nds[o.1]? with _ | x
  ·have hor := ordR_out hxo
   have hge : nds.length ≤ o.1 := List.getElem?_eq_none_iff.1 hxo
   refine Zd ([blk b3 97 (odC o).toArray, blk p 55 (smC s b nv rb jb gb db wb iv dv wv).toArray]) [] (Zra 0 4) ?_
   refine ZY 4 ?_
   refine Zu 19 false ef ((decide_eq_false (by omega))) ?_
   refine Zr (Zra 4 10) ?_
   refine ZY 8 ?_
   refine ZY 2 ?_
   refine Zu 29 true ef ((decide_eq_true (by omega))) ?_
   refine Zr (Zra 14 13) ?_
   refine ZY 8 ?_
   refine ZY 5 ?_
   refine ZD ?_
   refine ZY 7 ?_
   refine Zv (Zx (0) ef (hna) ef (by omega)) ?_
   refine Zv (Zo (nv) (0) ef (hna) (by rw [List.getElem?_map, hq0]; rfl)) ?_
   refine S.conv (alls ns noB) (Ent.allsAt noB hq0 _) ?_
   refine S.niOpen q0 x0 fun nrb niv nov rs os hN => ?_
   refine ZY 6 ?_
   refine S.niClose q0 { x0 with wrong := true } nrb niv nov rs os ⟨hN.rk, hN.os, hN.i, hN.o⟩ ?_
   refine S.conv3 (noB ((q0, { x0 with wrong := true }) : No)) (alls (ns.take 0) noB) (alls (ns.drop (0 + 1)) noB) (Ent.allsBack noB (x' := ((q0, { x0 with wrong := true }) : No)) hq0 _) ?_
   rw [← m1]
   refine S.conv (lstM wv (s.fu + e)) (Ent.lstLe wv (k' := s.fu + (e + 1)) (by omega) _) ?_
   refine S.conv (lstM dv (s.fu + e)) (Ent.lstLe dv (k' := s.fu + (e + 1)) (by omega) _) ?_
   refine Zv (Za ef ef) ?_
   refine ZY 2 ?_
   first | exact ZX (fz - 1) ⟨e + 1, nds.set o.1 { x with inn := x.inn ++ [o.2] }, ns.set o.1 (q, { x with inn := x.inn ++ [o.2] }), dz, wv2, by omega, by omega, by rw [hst, hor], c2, by rw [List.length_set]; exact hnvn, rfl, rfl⟩ (by omega) | exact ZX (fz - 1) ⟨e + 1, nds.set o.1 { x with inn := x.inn ++ [o.2] }, ns.set o.1 (q, { x with inn := x.inn ++ [o.2] }), dz, wv, by omega, by omega, by rw [hst, hor], c2, by rw [List.length_set]; exact hnvn, rfl, rfl⟩ (by omega) | exact ZX (fz - 1) ⟨e + 1, nds.set 0 { x0 with wrong := true }, ns.set 0 (q0, { x0 with wrong := true }), dv, wv, by omega, by omega, by rw [hst, hor, hsw], m2, by rw [List.length_set]; exact hnvn, rfl, rfl⟩ (by omega)
  ·have hlt : o.1 < nds.length := (List.getElem?_eq_some_iff.1 hxo).1
   obtain ⟨q, hqo⟩ := ns_at hns hxo
   obtain ⟨hxi, hxu⟩ := hq x (List.mem_of_getElem? hxo)
   refine S.conv (alls ns noB) (Ent.allsAt noB hqo _) ?_
   refine S.niOpen q x fun nrb niv nov rs os hN => ?_
   have hNi := hN.i
   refine Zd ([blk b3 97 (odC o).toArray, blk p 55 (smC s b nv rb jb gb db wb iv dv wv).toArray, own nv 103 1 (ns.map noV), blk q 107 #[.bool x.up, .map (some nrb), niv.v, nov.v, .bool x.wrong]]) [] (Zra 0 4) ?_
   refine ZY 4 ?_
   refine Zu 19 false ef ((decide_eq_false (by omega))) ?_
   refine Zr (Zra 4 10) ?_
   refine ZY 8 ?_
   refine ZY 2 ?_
   refine Zu 29 false ef ((decide_eq_false (by omega))) ?_
   refine Zr (Zra 14 13) ?_
   refine ZY 6 ?_
   refine Zwg ef ef ef ef (Zx (o.1) ef (hna) ef (by omega)) ?_
   refine Zwg ef ef ef ef (Zo (nv) (o.1) ef (hna) (by rw [List.getElem?_map, hqo]; rfl)) ?_
   refine ZY 5 ?_
   refine ZD ?_
   refine Zi ef (fun h2 => ?_) (fun h2 => ?_)
   ·have hor := ordR_down hxo (by simpa using h2)
    refine S.niClose q x nrb niv nov rs os hN ?_
    refine S.conv3 (noB ((q, x) : No)) (alls (ns.take o.1) noB) (alls (ns.drop (o.1 + 1)) noB) (Ent.allsBack' noB hqo _) ?_
    refine ZY 6 ?_
    refine Zv (Zx (0) ef (hna) ef (by omega)) ?_
    refine Zv (Zo (nv) (0) ef (hna) (by rw [List.getElem?_map, hq0]; rfl)) ?_
    refine S.conv (alls ns noB) (Ent.allsAt noB hq0 _) ?_
    refine S.niOpen q0 x0 fun nrb niv nov rs os hN => ?_
    refine ZY 6 ?_
    first | (refine S.niClose q0 { x0 with wrong := true } nrb niv nov rs os ⟨hN.rk, hN.os, hN.i, hN.o⟩ ?_; refine S.conv3 (noB ((q0, { x0 with wrong := true }) : No)) (alls (ns.take 0) noB) (alls (ns.drop (0 + 1)) noB) (Ent.allsBack noB (x' := ((q0, { x0 with wrong := true }) : No)) hq0 _) ?_; rw [← m1]) | skip
    first | refine S.conv (lstM wv (s.fu + e)) (Ent.lstLe wv (k' := s.fu + (e + 1)) (by omega) _) ?_ | skip
    first | refine S.conv (lstM dv (s.fu + e)) (Ent.lstLe dv (k' := s.fu + (e + 1)) (by omega) _) ?_ | skip
    refine Zv (Za ef ef) ?_
    refine ZY 2 ?_
    first | exact ZX (fz - 1) ⟨e + 1, nds.set o.1 { x with inn := x.inn ++ [o.2] }, ns.set o.1 (q, { x with inn := x.inn ++ [o.2] }), dz, wv2, by omega, by omega, by rw [hst, hor], c2, by rw [List.length_set]; exact hnvn, rfl, rfl⟩ (by omega) | exact ZX (fz - 1) ⟨e + 1, nds.set o.1 { x with inn := x.inn ++ [o.2] }, ns.set o.1 (q, { x with inn := x.inn ++ [o.2] }), dz, wv, by omega, by omega, by rw [hst, hor], c2, by rw [List.length_set]; exact hnvn, rfl, rfl⟩ (by omega) | exact ZX (fz - 1) ⟨e + 1, nds.set 0 { x0 with wrong := true }, ns.set 0 (q0, { x0 with wrong := true }), dv, wv, by omega, by omega, by rw [hst, hor, hsw], m2, by rw [List.length_set]; exact hnvn, rfl, rfl⟩ (by omega)
   ·have hor := ordR_up hxo (by simpa using h2)
    obtain ⟨c1, c2⟩ := ns_set hqo { x with inn := x.inn ++ [o.2] }
    rw [hns] at c2
    refine ZY 2 ?_
    refine Zd ([blk b3 97 (odC o).toArray, blk p 55 (smC s b nv rb jb gb db wb iv dv wv).toArray, own nv 103 1 (ns.map noV), blk q 107 #[.bool x.up, .map (some nrb), niv.v, nov.v, .bool x.wrong]]) [25] (Zra 0 21) ?_
    refine ZY 6 ?_
    refine Zw ef (Zx (o.1) ef (hna) ef (by omega)) ?_
    refine Zw ef (Zo (nv) (o.1) ef (hna) (by rw [List.getElem?_map, hqo]; rfl)) ?_
    refine ZY 6 ?_
    refine Zw ef (Zx (o.1) ef (hna) ef (by omega)) ?_
    refine Zw ef (Zo (nv) (o.1) ef (hna) (by rw [List.getElem?_map, hqo]; rfl)) ?_
    refine ZY 5 ?_
    refine Z1 (i := 21) ef ef ?_
    refine (S.buildSlice (pvs := [(_, _)]) [_, _, _, _, _, _, _, _, _, _, _, _, _] Tryz.underlying105 Tryz.inf72.h rfl rfl ⟨⟨rfl, rfl⟩, trivial⟩ rfl rfl ?_)
    intro b72
    refine Zk [] ?_
    refine Z1 (i := 22) ef ef ?_
    refine (S.appendOw (s := niv) (1) (niC o.2) Tryz.underlying105 Tryz.inf72.h rfl rfl rfl (blk_slAt (b := b72) rfl (by unfold maxLen; omega)) (by first | rfl | exact allOne_bcells _) (⟨by omega, by omega⟩) rfl ?_)
    intro niv2 hniv2
    refine Zk [23, 24] ?_
    refine ZY 2 ?_
    refine Z1 (i := 25) ef ef ?_
    refine (S.store (cs' := [_, _, _, _, _]) Eo.h rfl rfl rfl rfl rfl ?_)
    refine ZL ([]) [] ?_
    refine ZD ?_
    refine ZY 3 ?_
    rw [flat_snoc niC x.inn o.2]
    refine S.niClose q { x with inn := x.inn ++ [o.2] } nrb niv2 nov rs os ⟨hN.rk, hN.os, by show niv2.n = (x.inn ++ [o.2]).length; rw [List.length_append, List.length_singleton]; omega, hN.o⟩ ?_
    refine S.conv3 (noB ((q, { x with inn := x.inn ++ [o.2] }) : No)) (alls (ns.take o.1) noB) (alls (ns.drop (o.1 + 1)) noB) (Ent.allsBack noB (x' := ((q, { x with inn := x.inn ++ [o.2] }) : No)) hqo _) ?_
    rw [← c1]
    refine ZY 5 ?_
    refine Zj ef (fun h3 => ?_) (fun h3 => ?_)
    ·refine S.lstOpen dv (s.fu + e) fun dl hdl hdn => ?_
     refine Zd ([blk b3 97 (odC o).toArray, blk p 55 (smC s b nv rb jb gb db wb iv dv wv).toArray]) [12] (Zra 0 8) ?_
     refine ZY 8 ?_
     refine Z1 (i := 8) ef ef ?_
     refine (S.buildSlice (pvs := [(_, _)]) [_] Tryz.underlying53 Tryz.inf31.h rfl rfl ⟨⟨rfl, rfl⟩, trivial⟩ rfl rfl ?_)
     intro b88
     refine Zk [] ?_
     refine Z1 (i := 9) ef ef ?_
     refine (S.appendOw (s := dv) (1) (idsV [o.2.job]) Tryz.underlying53 Tryz.inf31.h rfl rfl rfl (blk_slAt (b := b88) rfl (by unfold maxLen; omega)) (by first | rfl | exact allOne_bcells _) (⟨by omega, by omega⟩) rfl ?_)
     intro dz hdz
     refine Zk [10, 11] ?_
     refine ZY 2 ?_
     refine Z1 (i := 12) ef ef ?_
     refine (S.store (cs' := [_, _, _, _, _, _, _, _, _, _, _, _, _, _, _, _]) Eo.h rfl rfl rfl rfl rfl ?_)
     refine ZL ([]) [] ?_
     refine ZD ?_
     rw [show idsV dl ++ idsV [o.2.job] = idsV (dl ++ [o.2.job]) from List.map_append.symm]
     refine S.conv (own dz 31 1 (idsV (dl ++ [o.2.job]))) (Ent.lst dz (k := s.fu + (e + 1)) (by rw [List.length_append, List.length_singleton]; omega) (by rw [List.length_append, List.length_singleton]; omega) _) ?_
     refine ZY 7 ?_
     refine Zj ef (fun h4 => ?_) (fun h4 => ?_)
     ·refine S.warOpen wb fun wl => ?_
      refine Zy ?_
      refine Zd ([blk b3 97 (odC o).toArray, blk p 55 (smC s b nv rb jb gb db wb iv dz wv).toArray]) [10] (Zra 0 10) ?_
      refine ZY 8 ?_
      refine ZY 2 ?_
      refine Z1 (i := 10) ef ef ?_
      refine (S.mapUpdate Tryz.underlying52 Tryz.underlying31 rfl rfl rfl rfl ?_)
      refine ZL ([]) [] ?_
      refine ZD ?_
      refine Zd ([blk b3 97 (odC o).toArray, blk p 55 (smC s b nv rb jb gb db wb iv dz wv).toArray]) [12] (Zra 0 8) ?_
      refine S.conv (mapL wb .u32 (alPut (o.2.job : Int) (.int .u32 (o.2.tick : Int)) wl)) (Ent.war wb _ _) ?_
      refine S.lstOpen wv (s.fu + e) fun dl hdl hdn => ?_
      refine ZY 8 ?_
      refine Z1 (i := 8) ef ef ?_
      refine (S.buildSlice (pvs := [(_, _)]) [_] Tryz.underlying53 Tryz.inf31.h rfl rfl ⟨⟨rfl, rfl⟩, trivial⟩ rfl rfl ?_)
      intro b114
      refine Zk [] ?_
      refine Z1 (i := 9) ef ef ?_
      refine (S.appendOw (s := wv) (1) (idsV [o.2.job]) Tryz.underlying53 Tryz.inf31.h rfl rfl rfl (blk_slAt (b := b114) rfl (by unfold maxLen; omega)) (by first | rfl | exact allOne_bcells _) (⟨by omega, by omega⟩) rfl ?_)
      intro wv2 hwv2
      refine Zk [10, 11] ?_
      refine ZY 2 ?_
      refine Z1 (i := 12) ef ef ?_
      refine (S.store (cs' := [_, _, _, _, _, _, _, _, _, _, _, _, _, _, _, _]) Eo.h rfl rfl rfl rfl rfl ?_)
      refine ZL ([]) [] ?_
      refine ZD ?_
      rw [show idsV dl ++ idsV [o.2.job] = idsV (dl ++ [o.2.job]) from List.map_append.symm]
      refine S.conv (own wv2 31 1 (idsV (dl ++ [o.2.job]))) (Ent.lst wv2 (k := s.fu + (e + 1)) (by rw [List.length_append, List.length_singleton]; omega) (by rw [List.length_append, List.length_singleton]; omega) _) ?_
      refine Zy ?_
      first | (refine S.niClose q0 { x0 with wrong := true } nrb niv nov rs os ⟨hN.rk, hN.os, hN.i, hN.o⟩ ?_; refine S.conv3 (noB ((q0, { x0 with wrong := true }) : No)) (alls (ns.take 0) noB) (alls (ns.drop (0 + 1)) noB) (Ent.allsBack noB (x' := ((q0, { x0 with wrong := true }) : No)) hq0 _) ?_; rw [← m1]) | skip
      first | refine S.conv (lstM wv (s.fu + e)) (Ent.lstLe wv (k' := s.fu + (e + 1)) (by omega) _) ?_ | skip
      first | refine S.conv (lstM dv (s.fu + e)) (Ent.lstLe dv (k' := s.fu + (e + 1)) (by omega) _) ?_ | skip
      refine Zv (Za ef ef) ?_
      refine ZY 2 ?_
      first | exact ZX (fz - 1) ⟨e + 1, nds.set o.1 { x with inn := x.inn ++ [o.2] }, ns.set o.1 (q, { x with inn := x.inn ++ [o.2] }), dz, wv2, by omega, by omega, by rw [hst, hor], c2, by rw [List.length_set]; exact hnvn, rfl, rfl⟩ (by omega) | exact ZX (fz - 1) ⟨e + 1, nds.set o.1 { x with inn := x.inn ++ [o.2] }, ns.set o.1 (q, { x with inn := x.inn ++ [o.2] }), dz, wv, by omega, by omega, by rw [hst, hor], c2, by rw [List.length_set]; exact hnvn, rfl, rfl⟩ (by omega) | exact ZX (fz - 1) ⟨e + 1, nds.set 0 { x0 with wrong := true }, ns.set 0 (q0, { x0 with wrong := true }), dv, wv, by omega, by omega, by rw [hst, hor, hsw], m2, by rw [List.length_set]; exact hnvn, rfl, rfl⟩ (by omega)
     ·refine ZY 2 ?_
      first | (refine S.niClose q0 { x0 with wrong := true } nrb niv nov rs os ⟨hN.rk, hN.os, hN.i, hN.o⟩ ?_; refine S.conv3 (noB ((q0, { x0 with wrong := true }) : No)) (alls (ns.take 0) noB) (alls (ns.drop (0 + 1)) noB) (Ent.allsBack noB (x' := ((q0, { x0 with wrong := true }) : No)) hq0 _) ?_; rw [← m1]) | skip
      first | refine S.conv (lstM wv (s.fu + e)) (Ent.lstLe wv (k' := s.fu + (e + 1)) (by omega) _) ?_ | skip
      first | refine S.conv (lstM dv (s.fu + e)) (Ent.lstLe dv (k' := s.fu + (e + 1)) (by omega) _) ?_ | skip
      refine Zv (Za ef ef) ?_
      refine ZY 2 ?_
      first | exact ZX (fz - 1) ⟨e + 1, nds.set o.1 { x with inn := x.inn ++ [o.2] }, ns.set o.1 (q, { x with inn := x.inn ++ [o.2] }), dz, wv2, by omega, by omega, by rw [hst, hor], c2, by rw [List.length_set]; exact hnvn, rfl, rfl⟩ (by omega) | exact ZX (fz - 1) ⟨e + 1, nds.set o.1 { x with inn := x.inn ++ [o.2] }, ns.set o.1 (q, { x with inn := x.inn ++ [o.2] }), dz, wv, by omega, by omega, by rw [hst, hor], c2, by rw [List.length_set]; exact hnvn, rfl, rfl⟩ (by omega) | exact ZX (fz - 1) ⟨e + 1, nds.set 0 { x0 with wrong := true }, ns.set 0 (q0, { x0 with wrong := true }), dv, wv, by omega, by omega, by rw [hst, hor, hsw], m2, by rw [List.length_set]; exact hnvn, rfl, rfl⟩ (by omega)
    ·refine Zy ?_
     refine S.conv (lstM dv (s.fu + e)) (Ent.lstLe dv (k' := s.fu + (e + 1)) (by omega) _) ?_
     obtain ⟨dz, hdz⟩ : ∃ dz, dz = dv := ⟨_, rfl⟩
     rw [← hdz]
     refine ZY 7 ?_
     refine Zj ef (fun h4 => ?_) (fun h4 => ?_)
     ·refine S.warOpen wb fun wl => ?_
      refine Zy ?_
      refine Zd ([blk b3 97 (odC o).toArray, blk p 55 (smC s b nv rb jb gb db wb iv dz wv).toArray]) [10] (Zra 0 10) ?_
      refine ZY 8 ?_
      refine ZY 2 ?_
      refine Z1 (i := 10) ef ef ?_
      refine (S.mapUpdate Tryz.underlying52 Tryz.underlying31 rfl rfl rfl rfl ?_)
      refine ZL ([]) [] ?_
      refine ZD ?_
      refine Zd ([blk b3 97 (odC o).toArray, blk p 55 (smC s b nv rb jb gb db wb iv dz wv).toArray]) [12] (Zra 0 8) ?_
      refine S.conv (mapL wb .u32 (alPut (o.2.job : Int) (.int .u32 (o.2.tick : Int)) wl)) (Ent.war wb _ _) ?_
      refine S.lstOpen wv (s.fu + e) fun dl hdl hdn => ?_
      refine ZY 8 ?_
      refine Z1 (i := 8) ef ef ?_
      refine (S.buildSlice (pvs := [(_, _)]) [_] Tryz.underlying53 Tryz.inf31.h rfl rfl ⟨⟨rfl, rfl⟩, trivial⟩ rfl rfl ?_)
      intro b114
      refine Zk [] ?_
      refine Z1 (i := 9) ef ef ?_
      refine (S.appendOw (s := wv) (1) (idsV [o.2.job]) Tryz.underlying53 Tryz.inf31.h rfl rfl rfl (blk_slAt (b := b114) rfl (by unfold maxLen; omega)) (by first | rfl | exact allOne_bcells _) (⟨by omega, by omega⟩) rfl ?_)
      intro wv2 hwv2
      refine Zk [10, 11] ?_
      refine ZY 2 ?_
      refine Z1 (i := 12) ef ef ?_
      refine (S.store (cs' := [_, _, _, _, _, _, _, _, _, _, _, _, _, _, _, _]) Eo.h rfl rfl rfl rfl rfl ?_)
      refine ZL ([]) [] ?_
      refine ZD ?_
      rw [show idsV dl ++ idsV [o.2.job] = idsV (dl ++ [o.2.job]) from List.map_append.symm]
      refine S.conv (own wv2 31 1 (idsV (dl ++ [o.2.job]))) (Ent.lst wv2 (k := s.fu + (e + 1)) (by rw [List.length_append, List.length_singleton]; omega) (by rw [List.length_append, List.length_singleton]; omega) _) ?_
      refine Zy ?_
      first | (refine S.niClose q0 { x0 with wrong := true } nrb niv nov rs os ⟨hN.rk, hN.os, hN.i, hN.o⟩ ?_; refine S.conv3 (noB ((q0, { x0 with wrong := true }) : No)) (alls (ns.take 0) noB) (alls (ns.drop (0 + 1)) noB) (Ent.allsBack noB (x' := ((q0, { x0 with wrong := true }) : No)) hq0 _) ?_; rw [← m1]) | skip
      first | refine S.conv (lstM wv (s.fu + e)) (Ent.lstLe wv (k' := s.fu + (e + 1)) (by omega) _) ?_ | skip
      first | refine S.conv (lstM dv (s.fu + e)) (Ent.lstLe dv (k' := s.fu + (e + 1)) (by omega) _) ?_ | skip
      refine Zv (Za ef ef) ?_
      refine ZY 2 ?_
      first | exact ZX (fz - 1) ⟨e + 1, nds.set o.1 { x with inn := x.inn ++ [o.2] }, ns.set o.1 (q, { x with inn := x.inn ++ [o.2] }), dz, wv2, by omega, by omega, by rw [hst, hor], c2, by rw [List.length_set]; exact hnvn, rfl, rfl⟩ (by omega) | exact ZX (fz - 1) ⟨e + 1, nds.set o.1 { x with inn := x.inn ++ [o.2] }, ns.set o.1 (q, { x with inn := x.inn ++ [o.2] }), dz, wv, by omega, by omega, by rw [hst, hor], c2, by rw [List.length_set]; exact hnvn, rfl, rfl⟩ (by omega) | exact ZX (fz - 1) ⟨e + 1, nds.set 0 { x0 with wrong := true }, ns.set 0 (q0, { x0 with wrong := true }), dv, wv, by omega, by omega, by rw [hst, hor, hsw], m2, by rw [List.length_set]; exact hnvn, rfl, rfl⟩ (by omega)
     ·refine ZY 2 ?_
      first | (refine S.niClose q0 { x0 with wrong := true } nrb niv nov rs os ⟨hN.rk, hN.os, hN.i, hN.o⟩ ?_; refine S.conv3 (noB ((q0, { x0 with wrong := true }) : No)) (alls (ns.take 0) noB) (alls (ns.drop (0 + 1)) noB) (Ent.allsBack noB (x' := ((q0, { x0 with wrong := true }) : No)) hq0 _) ?_; rw [← m1]) | skip
      first | refine S.conv (lstM wv (s.fu + e)) (Ent.lstLe wv (k' := s.fu + (e + 1)) (by omega) _) ?_ | skip
      first | refine S.conv (lstM dv (s.fu + e)) (Ent.lstLe dv (k' := s.fu + (e + 1)) (by omega) _) ?_ | skip
      refine Zv (Za ef ef) ?_
      refine ZY 2 ?_
      first | exact ZX (fz - 1) ⟨e + 1, nds.set o.1 { x with inn := x.inn ++ [o.2] }, ns.set o.1 (q, { x with inn := x.inn ++ [o.2] }), dz, wv2, by omega, by omega, by rw [hst, hor], c2, by rw [List.length_set]; exact hnvn, rfl, rfl⟩ (by omega) | exact ZX (fz - 1) ⟨e + 1, nds.set o.1 { x with inn := x.inn ++ [o.2] }, ns.set o.1 (q, { x with inn := x.inn ++ [o.2] }), dz, wv, by omega, by omega, by rw [hst, hor], c2, by rw [List.length_set]; exact hnvn, rfl, rfl⟩ (by omega) | exact ZX (fz - 1) ⟨e + 1, nds.set 0 { x0 with wrong := true }, ns.set 0 (q0, { x0 with wrong := true }), dv, wv, by omega, by omega, by rw [hst, hor, hsw], m2, by rw [List.length_set]; exact hnvn, rfl, rfl⟩ (by omega)
 ·rw [show s.b.orders.take e = s.b.orders by rw [show e = s.b.orders.length by omega, List.take_length]] at hnds
  have hee : e = s.b.orders.length := by omega
  subst hee
  have hig : (imagesR { s.b with orders := [] }).1 = (imagesR s.b).1 := rfl
  have his := imgs_sub s.b
  refine S.imgsOpen iv s.images fun io hio => ?_
  have hiol : io.length = s.images.length := by rw [← hio, List.length_map]
  have him := hF.im
  refine ZY 2 ?_
  refine Zd ([blk p 55 (smC s b nv rb jb gb db wb iv dv wv).toArray]) [13] (Zra 0 9) ?_
  refine ZY 8 ?_
  refine Zy ?_
  refine Z1 (i := 9) ef ef ?_
  refine  (Zc1 Ze (Images_S b { s.b with orders := [] } ps hki) ?_)
  rintro v Θ ⟨u, rfl, hun, rfl⟩
  rw [hig] at hun ⊢
  refine S.imgsOpen u (imagesR s.b).1 fun us hus => ?_
  refine Zk [] ?_
  refine Z1 (i := 10) ef ef ?_
  refine (S.appendOw (s := iv) (u.n) (us.flatMap igC) Tryz.underlying51 Tryz.inf60.h rfl rfl rfl (fun w hs => HasOw.slAt inferInstance hs) (igC_oneL us) (⟨by omega, by omega⟩) rfl ?_)
  intro iv2 hiv2
  rw [show io.flatMap igC ++ us.flatMap igC = (io ++ us).flatMap igC from List.flatMap_append.symm]
  refine Zk [11, 12] ?_
  refine ZY 2 ?_
  refine Z1 (i := 13) ef ef ?_
  refine (S.store (cs' := [_, _, _, _, _, _, _, _, _, _, _, _, _, _, _, _]) Eo.h rfl rfl rfl rfl rfl ?_)
  refine ZL ([]) [] ?_
  refine ZD ?_
  refine ZY 2 ?_
  refine S.conv2 (alls io igB) (alls us igB) (Ent.allsAppend igB io us _) ?_
  refine S.conv2 (own iv2 60 4 ((io ++ us).flatMap igC)) (alls (io ++ us) igB) (Ent.toImgs iv2 (io ++ us) _) ?_
  rw [List.map_append, hio, hus]
  refine ZY 4 ?_
  refine Zp (Zc1 Ze (Done_S b (imagesR { s.b with orders := [] }).2 ps) ?_)
  rintro v Θ ⟨tv2, rfl, ht2n, rfl⟩
  rw [show (imagesR { s.b with orders := [] }).2.done = s.b.done from rfl] at ht2n ⊢
  rw [show ({ (imagesR { s.b with orders := [] }).2 with done := [] } : Br) = { s.b with orders := [], images := [], done := [] } from rfl]
  refine S.ownLen tv2 fun ht4 ht5 ht6 => ?_
  refine ZY 4 ?_
  refine Zl (fun fz ρ' Γ' => ∃ (e : Nat) (nds2 : List Nd) (dl : List Nat) (ns : List No), fz = s.b.done.length - e ∧ e ≤ s.b.done.length ∧ (nds2, dl) = (s.b.done.take e).foldl doneR (nds, s.done) ∧ ns.map (·.2) = nds2 ∧ nv.n = nds2.length ∧ ρ' = [(0, pt p), (136, tv2.v), (137, .int .i64 (tv2.n : Int)), (138, .int .i64 (e : Int))] ∧   Γ' = own tv2 31 1 (idsV s.b.done) :: blk p 55 (smC s b nv rb jb gb db wb iv2 dv wv).toArray :: BP b { s.b with orders := [], images := [], done := [] } ps :: own nv 103 1 (ns.map noV) :: alls ns noB :: ranM rb s.ran :: mapL jb .u32 (s.jobs.map joE) :: mapL gb .u32 (setT s.gone) :: mapL db .u32 (setT dl) :: imgs iv2 (s.images ++ (imagesR s.b).1) :: warM wb :: lstM dv (s.fu + s.b.orders.length) :: lstM wv (s.fu + s.b.orders.length) :: Γ) (m := _) (⟨0, nds, s.done, ns, rfl, by omega, rfl, hns, hnvn, rfl, rfl⟩) ?_
  rintro fz ρ' Γ' ⟨e, nds2, dl, ns, hfz, he, hnds2, hns, hnvn, rfl, rfl⟩
  have hndl2 : nds2.length = s.cn := by
   have := donesR_len (s.b.done.take e) (nds, s.done)
   rw [← hnds2] at this
   exact this.trans hndl
  refine ZY 5 ?_
  refine Zj ef (fun h5 => ?_) (fun h5 => ?_)
  ·refine S.ownSome tv2 (by omega) fun tb tof hta _ _ _ => ?_
   obtain ⟨id, hid⟩ := getE (show e < s.b.done.length by omega)
   refine S.ownSome nv (by omega) fun nb nof hna _ _ _ => ?_
   obtain ⟨x0, hx0⟩ := getE (show 0 < nds2.length by omega)
   obtain ⟨q0, hq0⟩ := ns_at hns hx0
   have hsw : setWrong nds2 = nds2.set 0 { x0 with wrong := true } := setWrong_set hx0
   obtain ⟨m1, m2⟩ := ns_set hq0 { x0 with wrong := true }
   rw [hns] at m2
   have hst : (s.b.done.take (e + 1)).foldl doneR (nds, s.done) = doneR (nds2, dl) id := by rw [List.take_add_one, hid, hnds2]; exact doneR_snoc _ _ _
   refine ZY 5 ?_
   refine Zv (Zx (e) ef (hta) ef (by omega)) ?_
   refine Zv (Zo (tv2) (e) ef (hta) (idsV_get hid)) ?_
   refine ZY 8 ?_
   refine ZY 2 ?_
   refine Zv (q_lookup1 (.bool (decide (id ∈ dl))) Tryz.underlying50 Tryz.underlying31 Tryz.zv4.h rfl rfl rfl (by rw [setT_get]; by_cases hm : id ∈ dl; (rw [if_pos hm, decide_eq_true hm]; rfl); (rw [if_neg hm, decide_eq_false hm]; rfl))) ?_
   refine Zy ?_
   refine Zj ef (fun h6 => ?_) (fun h6 => ?_)
   ·have hdo : doneR (nds2, dl) id = (nds2.set 0 { x0 with wrong := true }, sAdd dl id) := by rw [doneR]; dsimp only; rw [if_pos h6, hsw]
    refine ZY 5 ?_
    refine Zv (Zx (0) ef (hna) ef (by omega)) ?_
    refine Zv (Zo (nv) (0) ef (hna) (by rw [List.getElem?_map, hq0]; rfl)) ?_
    refine S.conv (alls ns noB) (Ent.allsAt noB hq0 _) ?_
    refine S.niOpen q0 x0 fun nrb niv nov rs os hN => ?_
    refine ZY 4 ?_
    refine S.niClose q0 { x0 with wrong := true } nrb niv nov rs os ⟨hN.rk, hN.os, hN.i, hN.o⟩ ?_
    refine S.conv3 (noB ((q0, { x0 with wrong := true }) : No)) (alls (ns.take 0) noB) (alls (ns.drop (0 + 1)) noB) (Ent.allsBack noB (x' := ((q0, { x0 with wrong := true }) : No)) hq0 _) ?_
    rw [← m1]
    refine ZY 6 ?_
    refine Zp (S.mapUpdate Tryz.underlying50 Tryz.underlying31 rfl rfl rfl rfl ?_)
    rw [setT_put]
    refine ZY 2 ?_
    refine Zv (Za ef ef) ?_
    refine ZY 2 ?_
    first | exact ZX (fz - 1) ⟨e + 1, nds2.set 0 { x0 with wrong := true }, sAdd dl id, ns.set 0 (q0, { x0 with wrong := true }), by omega, by omega, by rw [hst, hdo], m2, by rw [List.length_set]; exact hnvn, rfl, rfl⟩ (by omega) | exact ZX (fz - 1) ⟨e + 1, nds2, sAdd dl id, ns, by omega, by omega, by rw [hst, hdo], hns, hnvn, rfl, rfl⟩ (by omega)
   ·have hdo : doneR (nds2, dl) id = (nds2, sAdd dl id) := by rw [doneR]; dsimp only; rw [if_neg h6]
    refine ZY 7 ?_
    refine Zp (S.mapUpdate Tryz.underlying50 Tryz.underlying31 rfl rfl rfl rfl ?_)
    rw [setT_put]
    refine ZY 2 ?_
    refine Zv (Za ef ef) ?_
    refine ZY 2 ?_
    first | exact ZX (fz - 1) ⟨e + 1, nds2.set 0 { x0 with wrong := true }, sAdd dl id, ns.set 0 (q0, { x0 with wrong := true }), by omega, by omega, by rw [hst, hdo], m2, by rw [List.length_set]; exact hnvn, rfl, rfl⟩ (by omega) | exact ZX (fz - 1) ⟨e + 1, nds2, sAdd dl id, ns, by omega, by omega, by rw [hst, hdo], hns, hnvn, rfl, rfl⟩ (by omega)
  ·rw [show s.b.done.take e = s.b.done by rw [show e = s.b.done.length by omega, List.take_length]] at hnds2
   obtain ⟨s2, hs2⟩ : ∃ s2 : Sm, s2 = { s with b := { s.b with orders := [], images := [], done := [] }, nd := nds2, done := dl, images := s.images ++ (imagesR s.b).1, fu := s.fu + s.b.orders.length + s.b.images.length + s.b.done.length } := ⟨_, rfl⟩
   have hT : takeR s = s2 := by
    have e1 : takeR s = { s with b := { s.b with orders := [], images := [], done := [] }, nd := (s.b.done.foldl doneR (ordsR s.nd s.b.orders, s.done)).1, done := (s.b.done.foldl doneR (ordsR s.nd s.b.orders, s.done)).2, images := s.images ++ (imagesR s.b).1, fu := s.fu + s.b.orders.length + s.b.images.length + s.b.done.length } := rfl
    rw [e1, ← hnds, ← hnds2, hs2]
   refine Zy ?_
   refine S.conv (lstM dv (s.fu + s.b.orders.length)) (Ent.lstLe dv (k' := s2.fu) (by rw [hs2]; show _ ≤ s.fu + s.b.orders.length + s.b.images.length + s.b.done.length; omega) _) ?_
   refine S.conv (lstM wv (s.fu + s.b.orders.length)) (Ent.lstLe wv (k' := s2.fu) (by rw [hs2]; show _ ≤ s.fu + s.b.orders.length + s.b.images.length + s.b.done.length; omega) _) ?_
   refine S.sub (smX p s2 b ps nv ns rb jb gb db wb iv2 dv wv Γ) (e := by subst hs2; infer_instance) ?_
   refine S.spClose p s2 b ps nv ns rb jb gb db wb iv2 dv wv ⟨by rw [hs2]; exact hns, by rw [hs2]; exact hnvn, by rw [hs2]; show iv2.n = (s.images ++ (imagesR s.b).1).length; rw [List.length_append]; omega⟩ ?_
   exact Zfn ef Zq (by rw [hT])
end BN
end Go.Proofs.YtdackcibfkkniaaGreatDoor
namespace Go.Proofs.YtdackcibfkkniaaGreatDoor
open Go.RowKit
namespace BN
theorem mul64_S (x y : Nat) (hx : x * y < 18446744073709551616) (h1 : x < 18446744073709551616) (h2 : y < 18446744073709551616) : Spec Tryz.prog 144 [.int .u64 (x : Int), .int .u64 (y : Int)] [] fun Γ v Θ => v = .tuple #[.int .u64 0, .int .u64 ((x * y : Nat) : Int)] ∧ Θ = Γ := by
 intro Γ w hs
 refine (Go.Proofs.Any.bits_Mul64 Tryz.lays264 x y h1 h2 w).mono ?_
 rintro e w' ⟨rfl, rfl⟩
 refine ⟨_, Γ, rfl, ⟨?_, rfl⟩, hs, Ext.refl _⟩
 rw [Nat.div_eq_of_lt hx, Nat.mod_eq_of_lt hx]
 rfl
theorem mul_S (a b : Nat) (ha : a ≤ 1000000) (hb : b ≤ 1000) : Spec Tryz.prog 111 [.int .i64 (a : Int), .int .i64 (b : Int)] [] fun Γ v Θ => v = .int .i64 (a * b : Nat) ∧ Θ = Γ := by
 have hab : a * b ≤ 1000000000 := Nat.mul_le_mul ha hb
 refine Zbd Tryz.func111 rfl Tryz.ntmps111 fun w0 Γ => Zsh ?_
 obtain ⟨m, hm⟩ : ∃ m, m = a * b := ⟨_, rfl⟩
 have h64 := mul64_S a b (by omega) (by omega) (by omega)
 rw [← hm] at h64 hab ⊢
 refine ZY 7 ?_
 refine Zp (Zcp Ze (in_S a (by omega)) ?_)
 refine Zv (q_conv Tryz.it225.h (by rw [Tryz.underlying3]; rfl) rfl (inU64 (by omega) (by omega))) ?_
 refine Zy ?_
 refine Zp (Zcp Ze (in_S b (by omega)) ?_)
 refine Zv (q_conv Tryz.it225.h (by rw [Tryz.underlying3]; rfl) rfl (inU64 (by omega) (by omega))) ?_
 refine Zp (Zcp Ze (h64) ?_)
 refine ZY 8 ?_
 refine ZY 8 ?_
 refine Zj ef (fun h1 => ?_) (fun h1 => ?_)
 ·exact absurd h1 (by omega)
 ·refine ZY 4 ?_
  refine Zv (q_conv Tryz.it3.h (by rw [Tryz.underlying225]; rfl) rfl (inI64 (by omega) (by omega))) ?_
  refine ZY 3 ?_
  exact Zf ef Zq (⟨rfl, rfl⟩)
theorem length_S (b : Nat) (st : Br) (ps : Nat → Nat) (x : Bj) (hx : getJ st.js x.id = some x) : Spec Tryz.prog 76 [pt b, pt (ps x.id)] [BP b st ps] fun Γ v Θ => v = .int .i64 (lenR st x : Nat) ∧ Θ = BP b st ps :: Γ := by
 refine Spec.bpOk fun hok => ?_
 have hjx := hok.at_ hx
 have hR8 : st.rows ≤ 8 := by have := hok.mok.R8; rw [hok.R] at this; exact this
 have hcr := hjx.cr
 have hw := hjx.w
 refine Zbd Tryz.func76 rfl Tryz.ntmps76 fun w0 Γ => Zsh ?_
 refine S.bjOpen b st ps x hx fun ub jb mb ov iv dv mv sb l i av lb db rb qb hF hi hset hrm hJ => ?_
 refine ZY 5 ?_
 refine Zd ([blk (ps x.id) 90 (bjC x av lb db rb qb).toArray, blk b 84 (bC st ub jb mb ov iv dv mv sb).toArray]) [] [0, 1, 2, 3, 4, 5, 6, 7, 8, 9, 11, 12, 13, 14, 15] ?_
 refine ZY 8 ?_
 refine ZY 7 ?_
 refine Z1 (i := 10) ef ef ?_
 refine  (Zcp Ze (left_S x.w x.credit (by omega) hcr) ?_)
 refine Zk [] ?_
 refine Z1 (i := 16) ef ef ?_
 refine  (Zcp Ze (mul_S (x.w - x.credit) st.rows (by omega) (by omega)) ?_)
 refine Zk [17] ?_
 refine Zy ?_
 refine ZD ?_
 refine Zy ?_
 refine S.bjClose b st ps ub jb mb ov iv dv mv sb l i x av lb db rb qb hi rfl (hset x rfl) (hF.set hjx) hJ ?_
 rw [set_self hok hx]
 exact Zf ef Zq (⟨rfl, rfl⟩)
theorem fsnoc {α : Type} {p : α → Bool} {l : List α} {i : Nat} {x : α} (hx : l[i]? = some x) (b : Bool) (h : p x = b) : (l.take (i + 1)).filter p = (l.take i).filter p ++ if b then [x] else [] := by
 rw [List.take_add_one, hx, List.filter_append]
 cases b <;> simp [h]
def rdyB (st : Br) (id : Nat) : Bool := match getJ st.js id with
 | none => false
 | some x => decide (x.state = 2) && x.drops.isNone && decide (x.work < x.w)
theorem readyR_eq (st : Br) (l : List Nat) : readyR st l = l.filter (rdyB st) := rfl
theorem rdy_none {st : Br} {id : Nat} (h : getJ st.js id = none) : rdyB st id = false := by rw [rdyB, h]
theorem rdy_some {st : Br} {id : Nat} {x : Bj} (h : getJ st.js id = some x) : rdyB st id = (decide (x.state = 2) && x.drops.isNone && decide (x.work < x.w)) := by rw [rdyB, h]
theorem isNone_of {α β : Type} {a : Option α} {b : Option β} (h : a.isSome = b.isSome) : a.isNone = b.isNone := by cases a <;> cases b <;> first | rfl | cases h
set_option maxHeartbeats 1000000 in
theorem ready_S (b : Nat) (st : Br) (ps : Nat → Nat) (s : SV) (xs : List Nat) (hsn : s.n = xs.length) (hxl : xs.length ≤ 1000000) : Spec Tryz.prog 89 [pt b, s.v] [BP b st ps, own s 31 1 (idsV xs)] fun Γ v Θ => ∃ u : SV, v = u.v ∧ u.n = (readyR st xs).length ∧ Θ = own u 31 1 (idsV (readyR st xs)) :: BP b st ps :: own s 31 1 (idsV xs) :: Γ := by
 rw [readyR_eq]
 refine Spec.bpOk fun hok => ?_
 refine Zbd Tryz.func89 rfl Tryz.ntmps89 fun w0 Γ => Zsh ?_
 refine S.ownLen s fun hl1 hl2 hl3 => ?_
 have hmx : maxLen ≤ 9223372036854775807 := by unfold maxLen; omega
 refine ZY 8 ?_
 refine ZY 3 ?_
 refine S.ent (show Ent _ (own SV.nil 31 1 (idsV []) :: _) from Ent.ownNil 31 1) ?_
 refine ZY 5 ?_
 refine Zl (fun q ρ' Γ' => ∃ (e : Nat) (us : List Nat) (u : SV), q = xs.length - e ∧ e ≤ xs.length ∧ us = (xs.take e).filter (rdyB st) ∧ us.length ≤ e ∧ u.n = us.length ∧ ρ' = [(0, pt b), (5, u.v), (9, s.v), (10, .int .i64 (s.n : Int)), (11, .int .i64 (e : Int))] ∧ Γ' = own u 31 1 (idsV us) :: BP b st ps :: own s 31 1 (idsV xs) :: Γ) (m := _) (⟨0, [], SV.nil, rfl, by omega, rfl, by simp, rfl, rfl, rfl⟩) ?_
 rintro q ρ' Γ' ⟨e, us, u, hq, he, hus, hul, hun, rfl, rfl⟩
 refine ZY 5 ?_
 refine Zj ef (fun h1 => ?_) (fun h1 => ?_)
 ·refine S.ownSome s (by omega) fun ib io hia _ _ _ => ?_
  obtain ⟨id, hid⟩ := getE (show e < xs.length by omega)
  refine ZY 5 ?_
  refine Zv (Zx (e) ef (hia) ef (by omega)) ?_
  refine Zv (Zo (s) (e) ef (hia) (idsV_get hid)) ?_
  refine ZY 3 ?_
  rcases hgj : getJ st.js id with _ | x
  ·have hus2 : us = (xs.take (e + 1)).filter (rdyB st) := by rw [fsnoc hid false (rdy_none hgj), hus]; simp
   refine S.bpOpen b st ps fun ub jb mb ov iv dv mv sb l hF => ?_
   have hlk : alGet (id : Int) l = none := by rw [jE_get hok.srt hF.perm, hgj]; rfl
   refine ZY 6 ?_
   refine Zv (q_lookup1 (.pointer none) Tryz.underlying82 Tryz.underlying31 Tryz.zv86.h rfl rfl rfl (by rw [hlk]; rfl)) ?_
   refine ZY 3 ?_
   refine Zd ([]) [] [0, 1, 2] ?_
   refine ZY 3 ?_
   refine Zr (Zra 3 26) ?_
   refine ZY 8 ?_
   refine ZY 8 ?_
   refine ZY 8 ?_
   refine ZY 2 ?_
   refine ZD ?_
   refine ZY 3 ?_
   refine S.bpClose b st ps ub jb mb ov iv dv mv sb l hF ?_
   refine Zv (Za ef ef) ?_
   refine ZY 2 ?_
   first | exact ZX (q - 1) ⟨e + 1, us ++ [_], u2, by omega, by omega, hus2, by rw [List.length_append, List.length_singleton]; omega, by rw [List.length_append, List.length_singleton]; omega, rfl, rfl⟩ (by omega) | exact ZX (q - 1) ⟨e + 1, us, u, by omega, by omega, hus2, by omega, hun, rfl, rfl⟩ (by omega)
  ·obtain ⟨_, hxi⟩ := getJ_some hgj
   subst hxi
   have hjx := hok.at_ hgj
   have hrdy := rdy_some hgj
   refine S.bjOpen b st ps x hgj fun ub jb mb ov iv dv mv sb l i av lb db rb qb hF hi hset hrm hJ => ?_
   have hlk : alGet (x.id : Int) l = some (pt (ps x.id)) := by rw [jE_get hok.srt hF.perm, hgj]; rfl
   have hdn := isNone_of hJ.d
   refine ZY 6 ?_
   refine Zv (q_lookup1 (pt (ps x.id)) Tryz.underlying82 Tryz.underlying31 Tryz.zv86.h rfl rfl rfl (by rw [hlk]; rfl)) ?_
   refine ZY 3 ?_
   refine Zd ([blk (ps x.id) 90 (bjC x av lb db rb qb).toArray]) [] [0, 1, 2] ?_
   refine ZY 3 ?_
   refine Zr (Zra 3 8) ?_
   refine ZY 8 ?_
   refine Zb 31 ef (fun hg6_10 => ?_) (fun hg6_10 => ?_)
   ·refine Zr (Zra 11 7) ?_
    refine ZY 4 ?_
    refine Zwg ef ef ef ef (q_eqMN Tryz.underlying81 rfl rfl) ?_
    refine ZY 2 ?_
    refine Zbb 38 ef (fun hg6_17 => ?_) (fun hg6_17 => ?_)
    ·refine Zr (Zra 18 11) ?_
     refine ZY 8 ?_
     refine ZY 3 ?_
     refine ZD ?_
     refine Zj ef (fun h2 => ?_) (fun h2 => ?_)
     ·have hus2 : us ++ [x.id] = (xs.take (e + 1)).filter (rdyB st) := by rw [fsnoc hid true (by rw [hrdy, ← hdn, hg6_17, decide_eq_true (show x.state = 2 by omega), decide_eq_true (show x.work < x.w by omega)]; rfl), hus]; rfl
      refine ZY 3 ?_
      refine Zp (S.buildSlice (pvs := [(_, _)]) [_] Tryz.underlying53 Tryz.inf31.h rfl rfl ⟨⟨rfl, rfl⟩, trivial⟩ rfl rfl ?_)
      intro b52
      refine Zp (S.appendOw (s := u) (1) (idsV [x.id]) Tryz.underlying53 Tryz.inf31.h rfl rfl rfl (blk_slAt (b := b52) rfl (by unfold maxLen; omega)) (by first | rfl | exact allOne_bcells _) (⟨by omega, by omega⟩) rfl ?_)
      intro u2 hu2
      rw [show idsV us ++ idsV [x.id] = idsV (us ++ [x.id]) from List.map_append.symm]
      refine ZY 3 ?_
      refine S.bjClose b st ps ub jb mb ov iv dv mv sb l i x av lb db rb qb hi rfl (hset x rfl) (hF.set hjx) hJ ?_
      rw [set_self hok hgj]
      refine Zv (Za ef ef) ?_
      refine ZY 2 ?_
      first | exact ZX (q - 1) ⟨e + 1, us ++ [_], u2, by omega, by omega, hus2, by rw [List.length_append, List.length_singleton]; omega, by rw [List.length_append, List.length_singleton]; omega, rfl, rfl⟩ (by omega) | exact ZX (q - 1) ⟨e + 1, us, u, by omega, by omega, hus2, by omega, hun, rfl, rfl⟩ (by omega)
     ·have hus2 : us = (xs.take (e + 1)).filter (rdyB st) := by first | exact hus2 | (rw [fsnoc hid false (by rw [hrdy, decide_eq_false (show ¬ x.work < x.w by omega), Bool.and_false]), hus]; simp)
      refine ZY 2 ?_
      refine S.bjClose b st ps ub jb mb ov iv dv mv sb l i x av lb db rb qb hi rfl (hset x rfl) (hF.set hjx) hJ ?_
      rw [set_self hok hgj]
      refine Zv (Za ef ef) ?_
      refine ZY 2 ?_
      first | exact ZX (q - 1) ⟨e + 1, us ++ [_], u2, by omega, by omega, hus2, by rw [List.length_append, List.length_singleton]; omega, by rw [List.length_append, List.length_singleton]; omega, rfl, rfl⟩ (by omega) | exact ZX (q - 1) ⟨e + 1, us, u, by omega, by omega, hus2, by omega, hun, rfl, rfl⟩ (by omega)
    ·have hus2 : us = (xs.take (e + 1)).filter (rdyB st) := by rw [fsnoc hid false (by rw [hrdy, ← hdn, hg6_17, Bool.and_false]; rfl), hus]; simp
     refine Zr (Zra 18 11) ?_
     refine ZY 8 ?_
     refine ZY 3 ?_
     refine ZD ?_
     refine ZY 3 ?_
     refine S.bjClose b st ps ub jb mb ov iv dv mv sb l i x av lb db rb qb hi rfl (hset x rfl) (hF.set hjx) hJ ?_
     rw [set_self hok hgj]
     refine Zv (Za ef ef) ?_
     refine ZY 2 ?_
     first | exact ZX (q - 1) ⟨e + 1, us ++ [_], u2, by omega, by omega, hus2, by rw [List.length_append, List.length_singleton]; omega, by rw [List.length_append, List.length_singleton]; omega, rfl, rfl⟩ (by omega) | exact ZX (q - 1) ⟨e + 1, us, u, by omega, by omega, hus2, by omega, hun, rfl, rfl⟩ (by omega)
   ·have hus2 : us = (xs.take (e + 1)).filter (rdyB st) := by rw [fsnoc hid false (by rw [hrdy, decide_eq_false (show ¬ x.state = 2 by omega)]; rfl), hus]; simp
    refine Zr (Zra 11 18) ?_
    refine ZY 8 ?_
    refine ZY 8 ?_
    refine ZY 2 ?_
    refine ZD ?_
    refine ZY 3 ?_
    refine S.bjClose b st ps ub jb mb ov iv dv mv sb l i x av lb db rb qb hi rfl (hset x rfl) (hF.set hjx) hJ ?_
    rw [set_self hok hgj]
    refine Zv (Za ef ef) ?_
    refine ZY 2 ?_
    first | exact ZX (q - 1) ⟨e + 1, us ++ [_], u2, by omega, by omega, hus2, by rw [List.length_append, List.length_singleton]; omega, by rw [List.length_append, List.length_singleton]; omega, rfl, rfl⟩ (by omega) | exact ZX (q - 1) ⟨e + 1, us, u, by omega, by omega, hus2, by omega, hun, rfl, rfl⟩ (by omega)
 ·rw [show xs.take e = xs by rw [show e = xs.length by omega, List.take_length]] at hus
  refine ZY 7 ?_
  exact Zf ef Zq (⟨u, rfl, by rw [← hus]; exact hun, by rw [← hus]⟩)
def liveB (st : Br) (id : Nat) : Bool := match getJ st.js id with
 | none => false
 | some x => x.drops.isNone
theorem idleB_eq (st : Br) : idleB st = !st.members.any (liveB st) := rfl
abbrev jP (b : Nat) (st : Br) (ps : Nat → Nat) (ub jb mb : Nat) (ov iv dv mv : SV) (sb : Option Nat) (l : List (Int × Value)) (t1 : Nat) (Γ : List Assn) : List Assn :=
 blk t1 27 #[pt b] :: blk b 84 (bC st ub jb mb ov iv dv mv sb).toArray :: mapL jb .u32 l :: alls st.js (jI ps) :: Γ
section
variable {b : Nat} {st : Br} {ps : Nat → Nat} {ub jb mb : Nat} {ov iv dv mv : SV} {sb : Option Nat} {l : List (Int × Value)}
theorem idle1_S (hF : BF st ps ov iv dv mv sb l) (t1 : Nat) (id : Nat) : Spec Tryz.prog 72 [.int .u32 (id : Int), pt t1] (jP b st ps ub jb mb ov iv dv mv sb l t1 []) fun Γ v Θ => v = .bool (liveB st id) ∧ Θ = jP b st ps ub jb mb ov iv dv mv sb l t1 Γ := by
 have hok := hF.ok
 refine Zbd Tryz.func72 rfl Tryz.ntmps72 fun w0 Γ => Zsh ?_
 refine ZY 5 ?_
 rcases hgj : getJ st.js id with _ | x
 ·have hlv : liveB st id = false := by rw [liveB, hgj]
  have hlk : alGet (id : Int) l = none := by rw [jE_get hok.srt hF.perm, hgj]; rfl
  refine ZY 6 ?_
  refine Zv (q_lookup1 (.pointer none) Tryz.underlying82 Tryz.underlying31 Tryz.zv86.h rfl rfl rfl (by rw [hlk]; rfl)) ?_
  refine ZY 8 ?_
  refine ZY 8 ?_
  exact Zf ef Zq (⟨by rw [hlv]; rfl, rfl⟩)
 ·obtain ⟨_, hxi⟩ := getJ_some hgj
  subst hxi
  have hlv : liveB st x.id = x.drops.isNone := by rw [liveB, hgj]
  have hlk : alGet (x.id : Int) l = some (pt (ps x.id)) := by rw [jE_get hok.srt hF.perm, hgj]; rfl
  obtain ⟨i, hi, _, _⟩ := getJ_at hok.srt hgj
  refine S.conv (alls st.js (jI ps)) (Ent.allsAt (jI ps) hi _) ?_
  refine S.jiOpen (ps x.id) x fun av lb db rb qb ha hlb hdb hrb hqb => ?_
  have hdn := isNone_of hdb
  refine ZY 6 ?_
  refine Zv (q_lookup1 (pt (ps x.id)) Tryz.underlying82 Tryz.underlying31 Tryz.zv86.h rfl rfl rfl (by rw [hlk]; rfl)) ?_
  refine ZY 7 ?_
  refine Zvg ef ef ef (q_lookup1 (pt (ps x.id)) Tryz.underlying82 Tryz.underlying31 Tryz.zv86.h rfl rfl rfl (by rw [hlk]; rfl)) ?_
  refine ZY 3 ?_
  refine Zvg ef ef ef (q_eqMN Tryz.underlying81 rfl rfl) ?_
  refine ZY 4 ?_
  refine S.jiClose (ps x.id) x av lb db rb qb ha hlb hdb hrb hqb ?_
  refine S.conv3 (JI (ps x.id) x) (alls (st.js.take i) (jI ps)) (alls (st.js.drop (i + 1)) (jI ps)) (Ent.allsBack' (jI ps) hi _) ?_
  exact Zf ef Zq (⟨by rw [hlv, ← hdn]; rfl, rfl⟩)
theorem idx32_S (hF : BF st ps ov iv dv mv sb l) (t1 : Nat) (s : SV) (xs : List Nat) (hsn : s.n = xs.length) : Spec Tryz.prog 107 [s.v, .func (.func 72) #[] #[pt t1]] (own s 31 1 (idsV xs) :: jP b st ps ub jb mb ov iv dv mv sb l t1 []) fun Γ v Θ =>
  (∃ z : Int, v = .int .i64 z ∧ (0 ≤ z ↔ xs.any (liveB st) = true)) ∧ Θ = own s 31 1 (idsV xs) :: jP b st ps ub jb mb ov iv dv mv sb l t1 Γ := by
 refine Zbd Tryz.func107 rfl Tryz.ntmps107 fun w0 Γ => Zsh ?_
 refine S.ownLen s fun hl1 hl2 hl3 => ?_
 have hmx : maxLen ≤ 9223372036854775807 := by unfold maxLen; omega
 refine ZY 8 ?_
 refine ZY 4 ?_
 refine Zl (fun q ρ' Γ' => ∃ e : Nat, q = xs.length - e ∧ e ≤ xs.length ∧ (xs.take e).any (liveB st) = false ∧ ρ' = [(0, s.v), (1, .func (.func 72) #[] #[pt t1]), (7, .int .i64 (s.n : Int)), (8, .int .i64 (e : Int))] ∧ Γ' = own s 31 1 (idsV xs) :: jP b st ps ub jb mb ov iv dv mv sb l t1 Γ) (m := _) (⟨0, rfl, by omega, rfl, rfl, rfl⟩) ?_
 rintro q ρ' Γ' ⟨e, hq, he, hno, rfl, rfl⟩
 refine ZY 5 ?_
 refine Zj ef (fun h1 => ?_) (fun h1 => ?_)
 ·refine S.ownSome s (by omega) fun ib io hia _ _ _ => ?_
  obtain ⟨id, hid⟩ := getE (show e < xs.length by omega)
  have htk : xs.take (e + 1) = xs.take e ++ [id] := by rw [List.take_add_one, hid]; rfl
  refine ZY 8 ?_
  refine ZY 5 ?_
  refine Zv (Zx (e) ef (hia) ef (by omega)) ?_
  refine Zv (Zo (s) (e) ef (hia) (idsV_get hid)) ?_
  refine Zp (S.callC (fs := []) (cs := [pt t1]) (vs := [_]) Eo.h rfl ⟨rfl, trivial⟩ (idle1_S (b := b) (ub := ub) (jb := jb) (mb := mb) hF t1 id) rfl ?_)
  rintro v Θ ⟨rfl, rfl⟩
  refine Zy ?_
  refine Zi ef (fun h2 => ?_) (fun h2 => ?_)
  ·refine ZY 6 ?_
   exact Zf ef Zq (⟨⟨(e : Int), rfl, fun _ => List.any_eq_true.2 ⟨id, List.mem_of_getElem? hid, h2⟩, fun _ => by omega⟩, rfl⟩)
  ·have hno2 : (xs.take (e + 1)).any (liveB st) = false := by rw [htk, List.any_append, hno]; simp [h2]
   refine ZY 2 ?_
   refine Zv (Za ef ef) ?_
   refine ZY 2 ?_
   exact ZX (q - 1) (⟨e + 1, by omega, by omega, hno2, rfl, rfl⟩) (by omega)
 ·rw [show e = xs.length by omega, List.take_length] at hno
  refine ZY 6 ?_
  exact Zf ef Zq (⟨⟨-1, rfl, fun h => absurd h (by decide), fun h => by rw [hno] at h; cases h⟩, rfl⟩)
theorem cont32_S (hF : BF st ps ov iv dv mv sb l) (t1 : Nat) (s : SV) (xs : List Nat) (hsn : s.n = xs.length) : Spec Tryz.prog 71 [s.v, .func (.func 72) #[] #[pt t1]] (own s 31 1 (idsV xs) :: jP b st ps ub jb mb ov iv dv mv sb l t1 []) fun Γ v Θ =>
  v = .bool (xs.any (liveB st)) ∧ Θ = own s 31 1 (idsV xs) :: jP b st ps ub jb mb ov iv dv mv sb l t1 Γ := by
 refine Zbd Tryz.func71 rfl Tryz.ntmps71 fun w0 Γ => Zsh ?_
 refine ZY 8 ?_
 refine Zp (Zc1 Ze (idx32_S (b := b) (ub := ub) (jb := jb) (mb := mb) hF t1 s xs hsn) ?_)
 rintro v Θ ⟨⟨z, rfl, hz⟩, rfl⟩
 refine ZY 4 ?_
 exact Zf ef Zq (⟨by show Value.bool (decide (0 ≤ z)) = _; congr 1; rw [Bool.eq_iff_iff, decide_eq_true_iff]; exact hz, rfl⟩)
end
theorem idle_S (b : Nat) (st : Br) (ps : Nat → Nat) : Spec Tryz.prog 40 [pt b] [BP b st ps] fun Γ v Θ => v = .bool (idleB st) ∧ Θ = BP b st ps :: Γ := by
 refine Zbd Tryz.func40 rfl Tryz.ntmps40 fun w0 Γ => Zsh ?_
 refine S.bpOpen b st ps fun ub jb mb ov iv dv mv sb l hF => ?_
 refine ZY 2 ?_
 refine Zp (S.box (cs := [_]) rfl rfl rfl ?_)
 intro b1
 refine ZY 8 ?_
 refine Zy ?_
 refine Zp (Zcp Ze (cont32_S (b := b) (ub := ub) (jb := jb) (mb := mb) hF b1 mv st.members hF.mn) ?_)
 refine ZY 4 ?_
 refine S.bpClose b st ps ub jb mb ov iv dv mv sb l hF ?_
 exact Zf ef Zq (⟨by rw [idleB_eq]; rfl, rfl⟩)
theorem pre1_S (b : Nat) (st : Br) (ps : Nat → Nat) (x : Bj) (hx : getJ st.js x.id = some x) : Spec Tryz.prog 81 [pt (ps x.id)] [BP b st ps] fun Γ v Θ => v = .bool (x.warned || x.drops.isSome) ∧ Θ = BP b st ps :: Γ := by
 refine Spec.bpOk fun hok => ?_
 have hjx := hok.at_ hx
 refine Zbd Tryz.func81 rfl Tryz.ntmps81 fun w0 Γ => Zsh ?_
 refine S.bjOpen b st ps x hx fun ub jb mb ov iv dv mv sb l i av lb db rb qb hF hi hset hrm hJ => ?_
 have hJd := hJ.d
 refine ZY 8 ?_
 refine ZY 3 ?_
 refine Zbb 7 ef (fun hg1_4 => ?_) (fun hg1_4 => ?_)
 ·refine ZY 8 ?_
  refine Zy ?_
  refine S.bjClose b st ps ub jb mb ov iv dv mv sb l i x av lb db rb qb hi rfl (hset x rfl) (hF.set hjx) hJ ?_
  rw [set_self hok hx]
  exact Zf ef Zq (⟨by simp [hg1_4, ← hJd, resV], rfl⟩)
 ·refine ZY 4 ?_
  refine Zvg ef ef ef (q_neMN Tryz.underlying81 rfl rfl) ?_
  refine ZY 4 ?_
  refine S.bjClose b st ps ub jb mb ov iv dv mv sb l i x av lb db rb qb hi rfl (hset x rfl) (hF.set hjx) hJ ?_
  rw [set_self hok hx]
  exact Zf ef Zq (⟨by simp [hg1_4, ← hJd, resV], rfl⟩)
abbrev lvB (x : Bj) : Bool := x.warned || x.drops.isSome
theorem idxJ_S (b : Nat) (st : Br) (ps : Nat → Nat) (s : SV) (hsn : s.n = st.js.length) : Spec Tryz.prog 118 [s.v, .func (.func 81) #[] #[]] [own s 86 1 (pts ps st.js), BP b st ps] fun Γ v Θ =>
  (∃ z : Int, v = .int .i64 z ∧ (0 ≤ z ↔ st.js.any lvB = true)) ∧ Θ = own s 86 1 (pts ps st.js) :: BP b st ps :: Γ := by
 refine Zbd Tryz.func118 rfl Tryz.ntmps118 fun w0 Γ => Zsh ?_
 refine S.ownLen s fun hl1 hl2 hl3 => ?_
 have hmx : maxLen ≤ 9223372036854775807 := by unfold maxLen; omega
 refine S.bpOk b st ps fun hok => ?_
 refine ZY 8 ?_
 refine ZY 4 ?_
 refine Zl (fun q ρ' Γ' => ∃ e : Nat, q = st.js.length - e ∧ e ≤ st.js.length ∧ (st.js.take e).any lvB = false ∧ ρ' = [(0, s.v), (1, .func (.func 81) #[] #[]), (7, .int .i64 (s.n : Int)), (8, .int .i64 (e : Int))] ∧ Γ' = own s 86 1 (pts ps st.js) :: BP b st ps :: Γ) (m := _) (⟨0, rfl, by omega, rfl, rfl, rfl⟩) ?_
 rintro q ρ' Γ' ⟨e, hq, he, hno, rfl, rfl⟩
 refine ZY 5 ?_
 refine Zj ef (fun h1 => ?_) (fun h1 => ?_)
 ·refine S.ownSome s (by omega) fun ib io hia _ _ _ => ?_
  obtain ⟨x, hx⟩ := getE (show e < st.js.length by omega)
  have htk : st.js.take (e + 1) = st.js.take e ++ [x] := by rw [List.take_add_one, hx]; rfl
  refine ZY 8 ?_
  refine ZY 5 ?_
  refine Zv (Zx (e) ef (hia) ef (by omega)) ?_
  refine Zv (Zo (s) (e) ef (hia) (by rw [List.getElem?_map, hx]; rfl)) ?_
  refine Zp (S.callC (fs := []) (cs := []) (vs := [_]) Eo.h rfl ⟨rfl, trivial⟩ (pre1_S b st ps x (getJ_mem hok.srt (List.mem_of_getElem? hx))) rfl ?_)
  rintro v Θ ⟨rfl, rfl⟩
  refine Zy ?_
  refine Zi ef (fun h2 => ?_) (fun h2 => ?_)
  ·refine ZY 6 ?_
   exact Zf ef Zq (⟨⟨(e : Int), rfl, fun _ => List.any_eq_true.2 ⟨x, List.mem_of_getElem? hx, h2⟩, fun _ => by omega⟩, rfl⟩)
  ·have hno2 : (st.js.take (e + 1)).any lvB = false := by rw [htk, List.any_append, hno]; simp only [List.any_cons, List.any_nil, Bool.or_false, Bool.false_or]; exact h2
   refine ZY 2 ?_
   refine Zv (Za ef ef) ?_
   refine ZY 2 ?_
   exact ZX (q - 1) (⟨e + 1, by omega, by omega, hno2, rfl, rfl⟩) (by omega)
 ·rw [show e = st.js.length by omega, List.take_length] at hno
  refine ZY 6 ?_
  exact Zf ef Zq (⟨⟨-1, rfl, fun h => absurd h (by decide), fun h => by rw [hno] at h; cases h⟩, rfl⟩)
theorem contJ_S (b : Nat) (st : Br) (ps : Nat → Nat) (s : SV) (hsn : s.n = st.js.length) : Spec Tryz.prog 80 [s.v, .func (.func 81) #[] #[]] [own s 86 1 (pts ps st.js), BP b st ps] fun Γ v Θ =>
  v = .bool (st.js.any lvB) ∧ Θ = own s 86 1 (pts ps st.js) :: BP b st ps :: Γ := by
 refine Zbd Tryz.func80 rfl Tryz.ntmps80 fun w0 Γ => Zsh ?_
 refine ZY 8 ?_
 refine Zp (Zc1 Ze (idxJ_S b st ps s hsn) ?_)
 rintro v Θ ⟨⟨z, rfl, hz⟩, rfl⟩
 refine ZY 4 ?_
 exact Zf ef Zq (⟨by show Value.bool (decide (0 ≤ z)) = _; congr 1; rw [Bool.eq_iff_iff, decide_eq_true_iff]; exact hz, rfl⟩)
end BN
end Go.Proofs.YtdackcibfkkniaaGreatDoor
namespace Go.Proofs.YtdackcibfkkniaaGreatDoor
open Go.RowKit
namespace BN
abbrev itOf (x : Bj) : PR.It := ⟨x.id, x.tier, 0⟩
abbrev quB (x : Bj) : Bool := decide (x.state = 0) && x.drops.isNone
def wUp (l : List Bj) : PR.HSt := l.foldl (fun h x => (PR.pushR (itOf x) h).2) (some [])
theorem waitQ_eq (st : Br) : waitQ st = PR.stL (wUp (st.js.filter quB)) := rfl
theorem wUp_snoc (l : List Bj) (x : Bj) : wUp (l ++ [x]) = (PR.pushR (itOf x) (wUp l)).2 := by rw [wUp, List.foldl_append]; rfl
theorem wUp_mem (l : List Bj) (hl : JsOk l) : ∃ q, wUp l = some q ∧ q.Perm (l.map itOf) := by
 have key : ∀ (l m : List Bj) (q : List PR.It), JsOk (m ++ l) → q.Perm (m.map itOf) → ∃ q', l.foldl (fun h x => (PR.pushR (itOf x) h).2) (some q) = some q' ∧ q'.Perm ((m ++ l).map itOf) := by
  intro l
  induction l with
  | nil => exact fun m q _ hq => ⟨q, rfl, by rw [List.append_nil]; exact hq⟩
  | cons x l ih =>
   intro m q hs hq
   have hnot : PR.hasL (x.id : Int) q = false := by
    unfold PR.hasL
    rw [List.any_eq_false]
    intro y hy
    obtain ⟨z, hz, e⟩ := List.mem_map.1 (hq.mem_iff.1 hy)
    have := (List.pairwise_append.1 hs).2.2 z hz x (List.mem_cons_self ..)
    subst e
    simp only [decide_eq_true_eq]
    omega
   have hpush : (PR.pushR (itOf x) (some q)).2 = some (PR.ins (itOf x) q) := by simp only [PR.pushR, hnot]; rfl
   have h2 : (PR.ins (itOf x) q).Perm ((m ++ [x]).map itOf) := by
    refine (PR.ins_perm _ _).trans ?_
    rw [List.map_append]
    exact (hq.cons _).trans (List.perm_append_singleton _ _).symm
   have := ih (m ++ [x]) _ (by rw [List.append_assoc]; exact hs) h2
   rw [List.append_assoc] at this
   rw [List.foldl_cons, hpush]
   exact this
 exact key l [] [] hl (List.Perm.refl _)
theorem waitQ_perm {st : Br} (h : JsOk st.js) : (waitQ st).Perm ((st.js.filter quB).map itOf) := by
 obtain ⟨q, h1, h2⟩ := wUp_mem (st.js.filter quB) (h.filter _)
 rw [waitQ_eq, h1]
 exact h2
theorem mem_waitR {st : Br} (h : JsOk st.js) {id : Nat} (hi : id ∈ waitR st) : ∃ x, getJ st.js id = some x ∧ quB x = true := by
 obtain ⟨y, hy, e⟩ := List.mem_map.1 hi
 obtain ⟨x, hx, e2⟩ := List.mem_map.1 ((waitQ_perm h).mem_iff.1 hy)
 obtain ⟨h1, h2⟩ := List.mem_filter.1 hx
 subst e2
 simp only [Int.toNat_natCast] at e
 subst e
 exact ⟨x, getJ_mem h h1, h2⟩
theorem waitR_len {st : Br} (h : JsOk st.js) : (waitR st).length ≤ st.js.length := by
 rw [waitR, List.length_map, (waitQ_perm h).length_eq, List.length_map]
 exact List.length_filter_le _ _
theorem waitR_nodup {st : Br} (h : JsOk st.js) : (waitR st).Nodup := by
 have h1 : (waitR st).Perm ((st.js.filter quB).map (·.id)) := by
  have := (waitQ_perm h).map fun x : PR.It => x.id.toNat
  rw [List.map_map] at this
  exact this
 refine h1.nodup_iff.2 (List.pairwise_map.2 ((h.filter _).imp fun h => ?_))
 omega
abbrev wps (ps : Nat → Nat) (l : List Nat) : List Value := l.map fun id => pt (ps id)
theorem lenR_wUp {l : List Bj} (h : JsOk l) : PR.lenR (wUp l) = l.length := by
 obtain ⟨q, h1, h2⟩ := wUp_mem l h
 rw [h1]
 show q.length = _
 rw [h2.length_eq, List.length_map]
set_option maxHeartbeats 1000000 in
theorem waiting_S (b : Nat) (st : Br) (ps : Nat → Nat) : Spec Tryz.prog 75 [pt b] [BP b st ps] fun Γ v Θ => ∃ u : SV, v = u.v ∧ u.n = (waitR st).length ∧ Θ = own u 86 1 (wps ps (waitR st)) :: BP b st ps :: Γ := by
 refine Spec.bpOk fun hok => ?_
 have hfew := hok.few
 refine Zbd Tryz.func75 rfl Tryz.ntmps75 fun w0 Γ => Zsh ?_
 refine ZY 6 ?_
 refine Zp (Zc1 Ze (PR.HNew_S) ?_)
 rintro v Θ ⟨pa, rfl, rfl⟩
 refine ZY 6 ?_
 refine Zp (Zc1 Ze (all_S b st ps) ?_)
 rintro v Θ ⟨jv, rfl, hjv, rfl⟩
 refine S.ownLen jv fun hl1 hl2 hl3 => ?_
 have hmx : maxLen ≤ 9223372036854775807 := by unfold maxLen; omega
 refine ZY 4 ?_
 refine Zl (fun fz ρ' Γ' => ∃ (e : Nat) (h : PR.HSt), fz = st.js.length - e ∧ e ≤ st.js.length ∧ h = wUp ((st.js.take e).filter quB) ∧ ρ' = [(0, pt b), (3, .pointer pa), (11, jv.v), (12, .int .i64 (jv.n : Int)), (13, .int .i64 (e : Int))] ∧ Γ' = own jv 86 1 (pts ps st.js) :: PR.HI pa h :: BP b st ps :: Γ) (m := _) (⟨0, some [], rfl, by omega, rfl, rfl, rfl⟩) ?_
 rintro fz ρ' Γ' ⟨e, h, hfz, he, hh, rfl, rfl⟩
 refine ZY 5 ?_
 refine Zj ef (fun h1 => ?_) (fun h1 => ?_)
 ·refine S.ownSome jv (by omega) fun sb so hsa _ _ _ => ?_
  obtain ⟨x, hx⟩ := getE (show e < st.js.length by omega)
  have hgx : getJ st.js x.id = some x := getJ_mem hok.srt (List.mem_of_getElem? hx)
  have hjx := hok.at_ hgx
  have hsn := fun v (hv : quB x = v) => fsnoc (p := quB) hx v hv
  refine S.bjOpen b st ps x hgx fun ub jb mb ov iv dv mv sb l i av lb db rb qb hF hi hset hrm hJ => ?_
  have hdn := isNone_of hJ.d
  refine ZY 5 ?_
  refine Zv (Zx (e) ef (hsa) ef (by omega)) ?_
  refine Zv (Zo (jv) (e) ef (hsa) (by rw [List.getElem?_map, hx]; rfl)) ?_
  refine ZY 8 ?_
  refine ZY 3 ?_
  refine Zb 23 ef (fun hg5_6 => ?_) (fun hg5_6 => ?_)
  ·refine ZY 4 ?_
   refine Zvg ef ef ef (q_eqMN Tryz.underlying81 rfl rfl) ?_
   refine ZY 2 ?_
   refine Zi ef (fun h2 => ?_) (fun h2 => ?_)
   ·have hh2 : (PR.pushR (itOf x) h).2 = wUp ((st.js.take (e + 1)).filter quB) := by rw [hsn true (by rw [quB, decide_eq_true (show x.state = 0 by omega), ← hdn, h2]; rfl)]; simp only [if_true]; rw [wUp_snoc, hh]
    have hlh : PR.lenR h ≤ 999 := by
     rw [hh, lenR_wUp ((hok.srt.sublist (List.take_sublist _ _)).filter _)]
     have := List.length_filter_le quB (st.js.take e)
     rw [List.length_take] at this
     omega
    refine Zd ([blk (ps x.id) 90 (bjC x av lb db rb qb).toArray]) [] (Zra 0 12) ?_
    refine ZY 8 ?_
    refine ZY 3 ?_
    refine Zw ef (q_build (pvs := [(_, _), (_, _)]) [_, _, _] Tryz.z183.h Tryz.p183.h ⟨⟨rfl, rfl⟩, ⟨rfl, rfl⟩, trivial⟩ rfl) ?_
    refine Z1 (i := 12) ef ef ?_
    refine  (Zcp Ze (PR.HPush_S pa h (itOf x) hlh) ?_)
    refine Zk [] ?_
    refine ZD ?_
    refine Zy ?_
    refine S.bjClose b st ps ub jb mb ov iv dv mv sb l i x av lb db rb qb hi rfl (hset x rfl) (hF.set hjx) hJ ?_
    rw [set_self hok hgx]
    refine Zv (Za ef ef) ?_
    refine ZY 2 ?_
    first | exact ZX (fz - 1) ⟨e + 1, _, by omega, by omega, hh2, rfl, rfl⟩ (by omega) | exact ZX (fz - 1) ⟨e + 1, (PR.pushR (itOf x) h).2, by omega, by omega, hh2, rfl, rfl⟩ (by omega) | exact ZX (fz - 1) ⟨e + 1, h, by omega, by omega, hh2, rfl, rfl⟩ (by omega)
   ·have hh2 : h = wUp ((st.js.take (e + 1)).filter quB) := by first | exact hh2 | (rw [hsn false (by rw [quB, ← hdn, h2, Bool.and_false])]; simpa using hh)
    refine ZY 2 ?_
    refine S.bjClose b st ps ub jb mb ov iv dv mv sb l i x av lb db rb qb hi rfl (hset x rfl) (hF.set hjx) hJ ?_
    rw [set_self hok hgx]
    refine Zv (Za ef ef) ?_
    refine ZY 2 ?_
    first | exact ZX (fz - 1) ⟨e + 1, _, by omega, by omega, hh2, rfl, rfl⟩ (by omega) | exact ZX (fz - 1) ⟨e + 1, (PR.pushR (itOf x) h).2, by omega, by omega, hh2, rfl, rfl⟩ (by omega) | exact ZX (fz - 1) ⟨e + 1, h, by omega, by omega, hh2, rfl, rfl⟩ (by omega)
  ·have hh2 : h = wUp ((st.js.take (e + 1)).filter quB) := by rw [hsn false (by rw [quB, decide_eq_false (show ¬ x.state = 0 by omega)]; rfl)]; simpa using hh
   refine ZY 8 ?_
   refine ZY 2 ?_
   refine S.bjClose b st ps ub jb mb ov iv dv mv sb l i x av lb db rb qb hi rfl (hset x rfl) (hF.set hjx) hJ ?_
   rw [set_self hok hgx]
   refine Zv (Za ef ef) ?_
   refine ZY 2 ?_
   first | exact ZX (fz - 1) ⟨e + 1, _, by omega, by omega, hh2, rfl, rfl⟩ (by omega) | exact ZX (fz - 1) ⟨e + 1, (PR.pushR (itOf x) h).2, by omega, by omega, hh2, rfl, rfl⟩ (by omega) | exact ZX (fz - 1) ⟨e + 1, h, by omega, by omega, hh2, rfl, rfl⟩ (by omega)
 ·rw [show st.js.take e = st.js by rw [show e = st.js.length by omega, List.take_length]] at hh
  have hq : waitQ st = PR.stL h := by rw [hh]; rfl
  have hqp := waitQ_perm hok.srt
  have hql := waitR_len hok.srt
  have hwl : (waitR st).length = (waitQ st).length := List.length_map ..
  refine ZY 3 ?_
  refine S.ent (show Ent _ (own SV.nil 86 1 (wps ps []) :: _) from Ent.ownNil 86 1) ?_
  refine ZY 6 ?_
  refine Zp (Zc1 Ze (PR.List_S pa h (by rw [hh, lenR_wUp (hok.srt.filter _)]; exact Nat.le_trans (List.length_filter_le _ _) hfew)) ?_)
  rintro v Θ ⟨u, rfl, rfl⟩
  rw [← hq]
  refine S.ownLen u fun hu1 hu2 hu3 => ?_
  rw [flat_length PR.itC_len] at hu1
  refine ZY 4 ?_
  refine Zl (fun fz ρ' Γ' => ∃ (e : Nat) (us : List Nat) (o : SV), fz = (waitQ st).length - e ∧ e ≤ (waitQ st).length ∧ us = (waitR st).take e ∧ o.n = e ∧ ρ' = [(0, pt b), (6, o.v), (45, u.v), (46, .int .i64 (u.n : Int)), (47, .int .i64 (e : Int))] ∧ Γ' = own o 86 1 (wps ps us) :: own u 183 3 ((waitQ st).flatMap PR.itC) :: BP b st ps :: Γ) (m := _) (⟨0, [], SV.nil, rfl, by omega, rfl, rfl, rfl, rfl⟩) ?_
  rintro fz ρ' Γ' ⟨e, us, o, hfz, he, hus, hon, rfl, rfl⟩
  refine ZY 5 ?_
  refine Zj ef (fun h3 => ?_) (fun h3 => ?_)
  ·refine S.ownSome u (by omega) fun sb so hsa _ _ _ => ?_
   obtain ⟨y, hy⟩ := getE (show e < (waitQ st).length by omega)
   obtain ⟨x, hx, hxe⟩ := List.mem_map.1 (hqp.mem_iff.1 (List.mem_of_getElem? hy))
   subst hxe
   have hwr : (waitR st)[e]? = some x.id := by rw [waitR, List.getElem?_map, hy]; rfl
   have hgx : getJ st.js x.id = some x := getJ_mem hok.srt (List.mem_filter.1 hx).1
   refine S.bpOpen b st ps fun ub jb mb ov iv dv mv sb l hF => ?_
   have hlk : alGet (x.id : Int) l = some (pt (ps x.id)) := by rw [jE_get hok.srt hF.perm, hgx]; rfl
   refine ZY 5 ?_
   refine Zv (Zx (e) ef (hsa) ef (by omega)) ?_
   refine Zv (q_loadOwS (u) (e * 3) [_, _, _] Eo.h rfl hsa (by first | rfl | exact Nat.add_assoc _ _ _ | omega) rfl (flat_seg (enc := PR.itC) (sz := 3) (fun _ => rfl) hy)) ?_
   refine Zp (S.alloc Tryz.z183.h rfl ?_)
   intro b8
   refine Zp (Zs ef ef (cs' := [_, _, _]) ef ?_)
   refine Zy ?_
   refine Zd ([blk b8 183 (PR.itC (itOf x)).toArray, blk b 84 (bC st ub jb mb ov iv dv mv sb).toArray, mapL jb .u32 l]) [9] (Zra 0 8) ?_
   refine ZY 7 ?_
   refine Zw ef (q_lookup1 (pt (ps x.id)) Tryz.underlying82 Tryz.underlying31 Tryz.zv86.h rfl rfl rfl (by rw [hlk]; rfl)) ?_
   refine Z1 (i := 8) ef ef ?_
   refine (S.buildSlice (pvs := [(_, _)]) [_] Tryz.underlying99 Tryz.inf86.h rfl rfl ⟨⟨rfl, rfl⟩, trivial⟩ rfl rfl ?_)
   intro b59
   refine Zk [] ?_
   refine Z1 (i := 9) ef ef ?_
   refine (S.appendOw (s := o) (1) (wps ps [x.id]) Tryz.underlying99 Tryz.inf86.h rfl rfl rfl (blk_slAt (b := b59) rfl (by unfold maxLen; omega)) (by first | rfl | exact allOne_bcells _) (⟨by omega, by omega⟩) rfl ?_)
   intro o2 ho2
   refine ZL ([]) [10] ?_
   refine Zy ?_
   refine ZD ?_
   refine Zy ?_
   rw [show wps ps us ++ wps ps [x.id] = wps ps (us ++ [x.id]) from List.map_append.symm]
   refine S.bpClose b st ps ub jb mb ov iv dv mv sb l hF ?_
   refine Zv (Za ef ef) ?_
   refine ZY 2 ?_
   exact ZX (fz - 1) (⟨e + 1, us ++ [x.id], o2, by omega, by omega, by rw [List.take_add_one, hwr, hus]; rfl, by omega, rfl, rfl⟩) (by omega)
  ·rw [show (waitR st).take e = waitR st by rw [show e = (waitR st).length by omega, List.take_length]] at hus
   refine ZY 7 ?_
   subst hus
   exact Zf ef Zq (⟨o, rfl, by omega, rfl⟩)
end BN
end Go.Proofs.YtdackcibfkkniaaGreatDoor
namespace Go.Proofs.YtdackcibfkkniaaGreatDoor
open Go.RowKit
namespace BN
section
variable {P : Program} {n : Nat} {ρ : Env} {Γ Δ : List Assn} {ty : TypeId} {pos : String} {af : Array Edge} {gd : Option (Nat × Bool)} {ds : Option Tmp}
theorem q_loadBj (b : Nat) (st : Br) (ps : Nat → Nat) {x : Bj} (hx : getJ st.js x.id = some x) [p : Pick (BP b st ps) Γ Δ] {t o : Nat} {y : Operand} {v : Value} (ht : atomT P t = true) (hy : ev ρ y = some (.pointer (some ⟨ps x.id, o, none⟩))) (hv : ∀ av lb db rb sb, lg (bjC x av lb db rb sb) o = some v) :
  Qv P n ρ Γ ⟨ds, .load t y, ty, pos, af, gd⟩ v := fun a w ha hs =>
 (S.bjOpen (n := n) (w0 := (⟨w⟩ : WM false)) (φ := fun a w => (execOp a.eval ⟨ds, .load t y, ty, pos, af, gd⟩).run P w = .ok (.value v) w) b st ps x hx fun ub jb mb ov iv dv mv sb l i av lb db rb qb _ _ _ _ _ =>
  fun a w ha hs _ => q_load ht hy (by simpa using hv av lb db rb qb) a w ha hs) a w ha hs (Ext.refl _)
end
abbrev lodY (x : Bj) (ns : List Nat) : Bj := { x with at_ := ns, loaded := some [], state := 1 }
theorem JOk.lodY {N : Nat} {x : Bj} (h : JOk N x) {ns : List Nat} (h1 : ns.Pairwise (· < ·)) (h2 : ∀ i ∈ ns, i < N) (hs : x.sav = none) : JOk N (lodY x ns) := ⟨h.id1, h.id2, h.tier, h.k1, h.kn, h.w, h.cr, h.wk, h1, h2, h.drop, fun d hd => (by cases hd; exact List.nodup_nil), h.ran, fun _ => rfl, fun s h9 => by
 have h9 : x.sav = some s := h9
 rw [hs] at h9; cases h9⟩
theorem putR_NR (m : Mx) (j : Nat) (z : Int) (l : List Int) : (putR m j z l).2.N = m.N ∧ (putR m j z l).2.R = m.R ∧ (putR m j z l).2.up = m.up := by
 unfold putR
 split
 ·exact ⟨rfl, rfl, rfl⟩
 split
 ·exact ⟨rfl, rfl, rfl⟩
 split <;> exact ⟨rfl, rfl, rfl⟩
theorem putR_zero {m : Mx} {j : Nat} {z : Int} {l : List Int} (h : (putR m j z l).1 = 0) : okUp m l l.length = true ∧ 0 < l.length ∧ look m.js j = none ∧ (putR m j z l).2 = m.add ⟨j, z.toNat, ofL (nats l)⟩ := by
 unfold putR at h ⊢
 split at h
 ·cases h
 rename_i h1
 have h1 : (putOk m j z l && okUp m l l.length) = true := by simpa using h1
 split at h
 ·cases h
 rename_i h2
 split at h
 ·cases h
 rename_i h3
 rw [if_neg (by rw [h1]; decide), if_neg h2, if_neg h3]
 rw [Bool.and_eq_true, putOk, Bool.and_eq_true, Bool.and_eq_true, decide_eq_true_eq, decide_eq_true_eq] at h1
 exact ⟨h1.2, by omega, by cases hl : look m.js j with | none => rfl | some x => rw [hl] at h2; simp at h2, rfl⟩
theorem BrOk.mset2 {st : Br} (h : BrOk st) {m : Mx} (hm : MxOk m) (h1 : m.N = st.m.N) (h2 : m.R = st.m.R) : BrOk { st with m := m } := ⟨h2.trans h.R, h1.trans h.N, hm, h.srt, fun x hx => h.job x hx, h.few, h.q1, h.q2, h.g1, h.g2, h.now, h.fin, h.mem, h.stp⟩
theorem loadR_no {st : Br} {x : Bj} {s : PL.St} (h : (putR st.m x.id s.row s.nodes).1 ≠ 0) : loadR st x s = { st with m := (putR st.m x.id s.row s.nodes).2 } := by rw [loadR, if_pos h]
theorem loadR_yes {st : Br} {x : Bj} {s : PL.St} (h : ¬ (putR st.m x.id s.row s.nodes).1 ≠ 0) : loadR st x s = Br.set { st with m := (putR st.m x.id s.row s.nodes).2, orders := st.orders ++ loadOrd x (nats s.nodes) } (lodY x (nats s.nodes)) := by rw [loadR, if_neg h]
theorem loadR_ok {st : Br} (h : BrOk st) {x : Bj} {s : PL.St} (hx : JOk st.nodes x) (hs : x.sav = none) : BrOk (loadR st x s) := by
 have hm := putR_ok h.mok hx.id2 s.row s.nodes
 obtain ⟨n1, n2, _⟩ := putR_NR st.m x.id s.row s.nodes
 by_cases hp : (putR st.m x.id s.row s.nodes).1 ≠ 0
 ·rw [loadR_no hp]; exact h.mset2 hm n1 n2
 ·rw [loadR_yes hp]
  obtain ⟨q1, q2, q3, q4⟩ := putR_zero (Classical.byContradiction hp)
  obtain ⟨r1, r2⟩ := okUp_rise q1
  exact ((h.mset2 hm n1 n2).oset _).set (x := BN.lodY x (nats s.nodes)) (hx.lodY r1 (fun i hi => by rw [← h.N]; exact r2 i hi) hs)
theorem load_oth (st : Br) {x : Bj} (s : PL.St) {id : Nat} (h : id ≠ x.id) : getJ (loadR st x s).js id = getJ st.js id := by
 by_cases hp : (putR st.m x.id s.row s.nodes).1 ≠ 0
 ·rw [loadR_no hp]
 ·rw [loadR_yes hp]; exact set_oth { st with m := (putR st.m x.id s.row s.nodes).2, orders := st.orders ++ loadOrd x (nats s.nodes) } (x := lodY x (nats s.nodes)) h
theorem loadOrd_len (x : Bj) (ns : List Nat) : (loadOrd x ns).length = ns.length := by simp [loadOrd]
theorem riseN_len {l : List Nat} (h : l.Pairwise (· < ·)) {N : Nat} (h2 : ∀ i ∈ l, i < N) : l.length ≤ N := nodup_lt (h.imp fun h e => by omega) h2
theorem load_ord {st : Br} (h : BrOk st) (x : Bj) (s : PL.St) : (loadR st x s).orders.length ≤ st.orders.length + 16 := by
 by_cases hp : (putR st.m x.id s.row s.nodes).1 ≠ 0
 ·rw [loadR_no hp]; exact Nat.le_add_right ..
 ·rw [loadR_yes hp]
  obtain ⟨q1, q2, q3, q4⟩ := putR_zero (Classical.byContradiction hp)
  obtain ⟨r1, r2⟩ := okUp_rise q1
  have := riseN_len r1 r2
  have := h.mok.N16
  show (st.orders ++ loadOrd x (nats s.nodes)).length ≤ _
  rw [List.length_append, loadOrd_len]
  omega
theorem nats_ints {m : Mx} {l : List Int} (h : okUp m l l.length = true) : ints l = nds (nats l) := by
 show l.map (Value.int .i64) = (l.map Int.toNat).map nv
 rw [List.map_map]
 refine List.map_congr_left fun z hz => ?_
 obtain ⟨i, hi, e⟩ := List.getElem_of_mem hz
 have h1 := nodeB_iff.1 (okUp_at h (i := i) hi).1
 simp only [List.getD, List.getElem?_eq_getElem hi, Option.getD_some, e] at h1
 show Value.int .i64 z = Value.int .i64 ((z.toNat : Nat) : Int)
 congr 1
 omega
theorem loadOrd_take (x : Bj) {ns : List Nat} {e y : Nat} (h : ns[e]? = some y) : loadOrd x (ns.take (e + 1)) = loadOrd x (ns.take e) ++ [(y, { kind := 3, job := x.id, ver := x.ver, rank := e, credit := x.credit })] := by
 have hl : e < ns.length := (List.getElem?_eq_some_iff.1 h).1
 rw [List.take_add_one, h]
 unfold loadOrd
 rw [List.mapIdx_append, List.length_take, Nat.min_eq_left (by omega)]
 simp
set_option maxHeartbeats 1000000 in
theorem load_S (b : Nat) (st : Br) (ps : Nat → Nat) (x : Bj) (s : PL.St) (sv : SV) (R : Assn) (hx : getJ st.js x.id = some x) (hs : x.sav = none) (hsn : sv.n = s.nodes.length) (hsl : s.nodes.length ≤ 1000) (hR : RdS R sv sv.n 1 (ints s.nodes)) (hl : st.orders.length ≤ 900000) :
  Spec Tryz.prog 79 [pt b, pt (ps x.id), .agg (PL.stC sv s).toArray] [BP b st ps, R] fun Γ _ Θ => Θ = BP b (loadR st x s) ps :: R :: Γ := by
 refine Spec.bpOk fun hok => ?_
 have hjx := hok.at_ hx
 have hN := hok.N16
 have hmok := putR_ok hok.mok hjx.id2 s.row s.nodes
 obtain ⟨n1, n2, _⟩ := putR_NR st.m x.id s.row s.nodes
 have hokM := hok.mset2 hmok n1 n2
 refine Zbd Tryz.func79 rfl Tryz.ntmps79 fun w0 Γ => Zsh ?_
 refine S.bjOpen b st ps x hx fun ub jb mb ov iv dv mv sb l i av lb db rb qb hF hi hset hrm hJ => ?_
 refine ZY 2 ?_
 refine Zp (S.box (cs := [_, _, _, _]) rfl rfl rfl ?_)
 intro b5
 refine ZY 3 ?_
 refine Zd ([blk (ps x.id) 90 (bjC x av lb db rb qb).toArray, blk b 84 (bC st ub jb mb ov iv dv mv sb).toArray, blk b5 146 (PL.stC sv s).toArray]) [] (Zra 0 13) ?_
 refine ZY 8 ?_
 refine ZY 5 ?_
 refine Z1 (i := 13) ef ef ?_
 refine  (Zcp Ze (Go.Proofs.YtdackcibfkkniaaGreatDoor.Put_S mb st.m x.id s.row R sv s.nodes hsn hR hjx.id2) ?_)
 refine Zk [14] ?_
 refine Zy ?_
 refine ZD ?_
 refine Zj ef (fun h1 => ?_) (fun h1 => ?_)
 ·have hg := loadR_no (st := st) (x := x) (s := s) h1
  refine Zy ?_
  refine S.sub (jX (ps x.id) x av lb db rb qb (bR b { st with m := (putR st.m x.id s.row s.nodes).2 } ps ub jb mb ov iv dv mv sb l i (R :: Γ))) ?_
  refine S.bjClose b { st with m := (putR st.m x.id s.row s.nodes).2 } ps ub jb mb ov iv dv mv sb l i x av lb db rb qb hi rfl (hset x rfl) (BF.set (st := { st with m := (putR st.m x.id s.row s.nodes).2 }) ⟨hokM, hF.perm, hF.on, hF.im, hF.dn, hF.mn, hF.sn⟩ hjx) hJ ?_
  rw [set_self (st := { st with m := (putR st.m x.id s.row s.nodes).2 }) hokM hx]
  exact Zf ef Zq (by rw [hg])
 ·have hg := loadR_yes (st := st) (x := x) (s := s) h1
  obtain ⟨q1, q2, q3, q4⟩ := putR_zero (Classical.byContradiction h1)
  obtain ⟨r1, r2⟩ := okUp_rise q1
  have hni := nats_ints q1
  have hnl : (nats s.nodes).length = s.nodes.length := List.length_map ..
  have hrl := riseN_len r1 r2
  have hM16 := hok.mok.N16
  obtain ⟨x1, hx1⟩ : ∃ x1 : Bj, x1 = lodY x (nats s.nodes) := ⟨_, rfl⟩
  have hj1 : JOk st.nodes x1 := by rw [hx1]; exact hjx.lodY r1 (fun i hi => by rw [← hok.N]; exact r2 i hi) hs
  have hid : x1.id = x.id := by rw [hx1]
  refine ZY 8 ?_
  refine Zp (Zc1 Ze (PL.Clone_S R sv s.nodes hsl (by rw [← hsn]; exact hR)) ?_)
  rintro v Θ ⟨u, rfl, rfl⟩
  rw [hni]
  refine S.ownLen u fun hu1 hu2 hu3 => ?_
  rw [List.length_map] at hu1
  refine Zp (S.makeMap .i64 rfl ?_)
  intro b29
  refine ZY 8 ?_
  refine ZY 5 ?_
  refine S.blkAs (ps x.id) (bjC x1 u (some b29) db rb qb).toArray (by rw [hx1]; rfl) ?_
  refine ZY 8 ?_
  refine Zl (fun fz ρ' Γ' => ∃ (e : Nat) (os : List Od) (ov2 : SV), fz = (nats s.nodes).length - e ∧ e ≤ (nats s.nodes).length ∧ os = st.orders ++ loadOrd x ((nats s.nodes).take e) ∧ ov2.n = os.length ∧ os.length = st.orders.length + e ∧ ρ' = [(0, pt b), (1, pt (ps x.id)), (40, u.v), (41, .int .i64 (u.n : Int)), (42, .int .i64 (e : Int))] ∧   Γ' = blk (ps x.id) 90 (bjC x1 u (some b29) db rb qb).toArray :: mapL b29 .i64 [] :: own u 3 1 (nds (nats s.nodes)) :: R :: optS db x.drops :: optR rb x.ran :: savB qb x.id x.sav :: blk b 84 (bC st ub jb mb ov2 iv dv mv sb).toArray :: mapL ub .i64 (setE st.up) :: mapL jb .u32 l :: jT ps st.js i :: jD ps st.js i :: MI mb (putR st.m x.id s.row s.nodes).2 :: own ov2 97 14 (os.flatMap odC) :: imgs iv st.images :: own dv 31 1 (idsV st.done) :: own mv 31 1 (idsV st.members) :: optS sb st.stops :: Γ) (m := _) (⟨0, st.orders, ov, rfl, by omega, by simp [loadOrd], hF.on, rfl, rfl, rfl⟩) ?_
  rintro fz ρ' Γ' ⟨e, os, ov2, hfz, he, hos, hov2, hol, rfl, rfl⟩
  refine ZY 5 ?_
  refine Zj ef (fun h2 => ?_) (fun h2 => ?_)
  ·refine S.ownSome u (by omega) fun ab ao haa _ _ _ => ?_
   obtain ⟨y, hy⟩ := getE (show e < (nats s.nodes).length by omega)
   have hos2 : os ++ [((y, { kind := 3, job := x.id, ver := x.ver, rank := e, credit := x.credit }) : Od)] = st.orders ++ loadOrd x ((nats s.nodes).take (e + 1)) := by rw [hos, loadOrd_take x hy, List.append_assoc]
   have e1 : x1.id = x.id ∧ x1.ver = x.ver ∧ x1.credit = x.credit := by rw [hx1]; exact ⟨rfl, rfl, rfl⟩
   refine ZY 6 ?_
   refine Zv (Zx (e) ef (haa) ef (by omega)) ?_
   refine Zv (Zo (u) (e) ef (haa) (by rw [List.getElem?_map, hy]; rfl)) ?_
   refine ZY 3 ?_
   refine Zd ([blk (ps x.id) 90 (bjC x1 u (some b29) db rb qb).toArray]) [] (Zra 0 19) ?_
   refine ZY 8 ?_
   refine ZY 4 ?_
   refine Zw ef (q_conv Tryz.it5.h (by rw [Tryz.underlying3]; rfl) rfl (inU8 (by omega) (by omega))) ?_
   refine ZY 5 ?_
   refine Zw ef (q_build (pvs := [(_, _), (_, _), (_, _), (_, _), (_, _)]) [_, _, _, _, _, _, _, _, _, _, _, _, _] Tryz.z72.h Tryz.p72.h ⟨⟨rfl, rfl⟩, ⟨rfl, rfl⟩, ⟨rfl, rfl⟩, ⟨rfl, rfl⟩, ⟨rfl, rfl⟩, trivial⟩ rfl) ?_
   refine Z1 (i := 19) ef ef ?_
   rw [e1.1, e1.2.1, e1.2.2]
   refine  (Zc1 Ze (order_S b st ub jb mb ov2 iv dv mv sb y { kind := 3, job := x.id, ver := x.ver, rank := e, credit := x.credit } os hov2 (by omega)) ?_)
   rintro v Θ ⟨ov3, hov3, rfl⟩
   refine Zk [] ?_
   refine ZD ?_
   refine Zy ?_
   refine Zv (Za ef ef) ?_
   refine ZY 2 ?_
   exact ZX (fz - 1) (⟨e + 1, os ++ [((y, { kind := 3, job := x.id, ver := x.ver, rank := e, credit := x.credit }) : Od)], ov3, by omega, by omega, hos2, hov3, by rw [List.length_append, List.length_singleton]; omega, rfl, rfl⟩) (by omega)
  ·rw [show (nats s.nodes).take e = nats s.nodes by rw [show e = (nats s.nodes).length by omega, List.take_length]] at hos
   refine Zy ?_
   refine S.conv (mapL b29 .i64 []) (show Ent _ (optS (some b29) (some []) :: _) from Ent.opt2 (s := some []) rfl _) ?_
   refine S.sub (jX (ps x.id) x1 u (some b29) db rb qb (bR b { st with m := (putR st.m x.id s.row s.nodes).2, orders := os } ps ub jb mb ov2 iv dv mv sb l i (R :: Γ))) (e := by subst hx1; infer_instance) ?_
   refine S.bjClose b { st with m := (putR st.m x.id s.row s.nodes).2, orders := os } ps ub jb mb ov2 iv dv mv sb l i x1 u (some b29) db rb qb hi hid (hset x1 hid) (BF.set (st := { st with m := (putR st.m x.id s.row s.nodes).2, orders := os }) ⟨hokM.oset os, hF.perm, hov2, hF.im, hF.dn, hF.mn, hF.sn⟩ hj1) ⟨by rw [hx1]; show u.n = (nats s.nodes).length; omega, by rw [hx1]; rfl, by rw [hx1]; exact hJ.d, by rw [hx1]; exact hJ.r, by rw [hx1]; exact hJ.s⟩ ?_
   exact Zfn ef Zq (by rw [hg, ← hos, ← hx1])
end BN
end Go.Proofs.YtdackcibfkkniaaGreatDoor
namespace Go.Proofs.YtdackcibfkkniaaGreatDoor
open Go.RowKit
namespace BN
theorem S.ownAs {n : Nat} {md : Bool} {w0 : WM md} {ρ : Env} {Γ : List Assn} {φ : Act → World → Prop} (s : SV) {e : TypeId} {sz : Nat} {xs : List Value} (xs' : List Value) {Δ : List Assn} [h : HasOw Γ s e sz xs Δ] (hx : xs = xs') (k : S n w0 ρ (own s e sz xs' :: Δ) φ) : S n w0 ρ Γ φ := S.ent h.ent (by subst hx; exact k)
theorem profC_down {st : Br} {r n : Nat} (h : isUpB st.m n = false) : profC st r n = 1099511627776 := by simp only [profC]; rw [if_neg (by rw [h]; simp)]
theorem profC_none {st : Br} {r n : Nat} (h : isUpB st.m n = true) (hg : getJ st.js (atR st.m r n) = none) : profC st r n = 0 := by simp only [profC]; rw [if_pos h, hg]
theorem profC_some {st : Br} {r n : Nat} {x : Bj} (h : isUpB st.m n = true) (hg : getJ st.js (atR st.m r n) = some x) : profC st r n = max 1 ((lenR st x : Nat) : Int) := by simp only [profC]; rw [if_pos h, hg]
abbrev proR (st : Br) (r : Nat) : List Int := (List.range st.nodes).map fun n : Nat => profC st r n
abbrev proN (st : Br) (r n : Nat) : List Int := (List.range n).map fun n : Nat => profC st r n
theorem profR_eq (st : Br) : profR st = (List.range st.rows).map (proR st) := rfl
def ProOk (st : Br) (r n : Nat) (rs : List PL.RW) : Prop := rs.length = st.rows ∧ ∀ (i : Nat) (w : PL.RW), rs[i]? = some w → w.d = if i < r then proR st i else if i = r then proN st r n else []
theorem ProOk.all {st : Br} {rs : List PL.RW} (h : ProOk st st.rows 0 rs) : PL.dat rs = profR st := by
 refine List.ext_getElem? fun i => ?_
 rw [profR_eq, List.getElem?_map, List.getElem?_map]
 by_cases hi : i < st.rows
 ·rw [List.getElem?_range hi]
  obtain ⟨w, hw⟩ := getE (show i < rs.length by rw [h.1]; exact hi)
  rw [hw, Option.map_some, Option.map_some, h.2 i w hw, if_pos hi]
 ·rw [List.getElem?_eq_none (by rw [h.1]; omega), List.getElem?_eq_none (by rw [List.length_range]; omega)]
  rfl
theorem ProOk.row {st : Br} {r : Nat} {rs : List PL.RW} (h : ProOk st r st.nodes rs) : ProOk st (r + 1) 0 rs := ⟨h.1, fun i w hw => by
 rw [h.2 i w hw]
 by_cases h1 : i < r
 ·rw [if_pos h1, if_pos (by omega)]
 ·rw [if_neg h1]
  by_cases h2 : i = r
  ·subst h2; rw [if_pos rfl, if_pos (by omega)]
  ·rw [if_neg h2, if_neg (by omega)]
   by_cases h3 : i = r + 1
   ·rw [if_pos h3]; rfl
   ·rw [if_neg h3]⟩
theorem ProOk.cell {st : Br} {r n : Nat} {rs : List PL.RW} (h : ProOk st r n rs) {w : PL.RW} (hr : rs[r]? = some w) (v : SV) : ProOk st r (n + 1) (rs.set r ⟨v, w.d ++ [profC st r n]⟩) := ⟨by rw [List.length_set]; exact h.1, fun i u hu => by
 rw [List.getElem?_set] at hu
 by_cases e : r = i
 ·subst e
  rw [if_pos rfl, if_pos (List.getElem?_eq_some_iff.1 hr).1, Option.some.injEq] at hu
  rw [← hu, if_neg (Nat.lt_irrefl _), if_pos rfl]
  show w.d ++ [profC st r n] = _
  rw [h.2 r w hr, if_neg (Nat.lt_irrefl _), if_pos rfl, proN, proN, List.range_succ, List.map_append]
  rfl
 ·rw [if_neg e] at hu
  rw [h.2 i u hu]
  by_cases h1 : i < r
  ·rw [if_pos h1, if_pos h1]
  ·rw [if_neg h1, if_neg h1, if_neg (by omega), if_neg (by omega)]⟩
theorem zeroRow_rw (m : Nat) : zeroRow [.slice none 0 0] m = (List.replicate m (⟨SV.nil, []⟩ : PL.RW)).flatMap PL.rwC := by
 induction m with
 | zero => rfl
 | succ m ih => rw [List.replicate_succ, List.flatMap_cons, ← ih]; rfl
theorem allsNilR (m : Nat) (Γ : List Assn) : Ent Γ (alls (List.replicate m (⟨SV.nil, []⟩ : PL.RW)) PL.rwB :: Γ) := by
 induction m with
 | zero => exact Ent.allsNil _ _
 | succ m ih =>
  rw [List.replicate_succ]
  exact (ih.trans (show Ent _ (PL.rwB (⟨SV.nil, []⟩ : PL.RW) :: _) from Ent.ownNil 3 1)).trans (Ent.allsCons PL.rwB _ _ _)
theorem rw_set (rs : List PL.RW) (i : Nat) (w : PL.RW) : (rs.flatMap PL.rwC).set (i * 1) w.v.v = (rs.set i w).flatMap PL.rwC := by
 have e : ∀ l : List PL.RW, l.flatMap PL.rwC = l.map fun r => r.v.v := fun l => by
  induction l with
  | nil => rfl
  | cons x l ih => rw [List.flatMap_cons, ih]; rfl
 rw [e, e, List.map_set, Nat.mul_one]
theorem rw_get {rs : List PL.RW} {i : Nat} {w : PL.RW} (h : rs[i]? = some w) : (rs.flatMap PL.rwC)[i]? = some w.v.v := by
 have e : ∀ l : List PL.RW, l.flatMap PL.rwC = l.map fun r => r.v.v := fun l => by
  induction l with
  | nil => rfl
  | cons x l ih => rw [List.flatMap_cons, ih]; rfl
 rw [e, List.getElem?_map, h]
 rfl
set_option maxHeartbeats 2000000 in
theorem profile_S (b : Nat) (st : Br) (ps : Nat → Nat) : Spec Tryz.prog 78 [pt b] [BP b st ps] fun Γ v Θ => ∃ (s : SV) (rs : List PL.RW), v = s.v ∧ PL.dat rs = profR st ∧ Θ = PL.prof s rs :: BP b st ps :: Γ := by
 refine Spec.bpOk fun hok => ?_
 have hN := hok.N16
 have hR8 : st.rows ≤ 8 := by have := hok.mok.R8; rw [hok.R] at this; exact this
 refine Zbd Tryz.func78 rfl Tryz.ntmps78 fun w0 Γ => Zsh ?_
 refine S.bpOpen b st ps fun ub jb mb ov iv dv mv sb l hF => ?_
 refine ZY 8 ?_
 refine ZY 3 ?_
 refine Zp (S.makeSlice (st.rows) (st.rows) Tryz.underlying143 Tryz.inf66.h rfl rfl rfl rfl rfl (by omega) (by omega) rfl ?_)
 intro o ho
 refine ZY 5 ?_
 refine S.bpClose b st ps ub jb mb ov iv dv mv sb l hF ?_
 rw [zeroRow_rw]
 refine S.ent (allsNilR st.rows _) ?_
 refine ZY 5 ?_
 refine Zl (fun fz ρ' Γ' => ∃ (r : Nat) (rs : List PL.RW), fz = st.rows - r ∧ r ≤ st.rows ∧ ProOk st r 0 rs ∧ ρ' = [(0, pt b), (3, o.v), (15, .int .i64 (o.n : Int)), (16, .int .i64 (r : Int))] ∧ Γ' = own o 66 1 (rs.flatMap PL.rwC) :: alls rs PL.rwB :: BP b st ps :: Γ) (m := _) (⟨0, List.replicate st.rows ⟨SV.nil, []⟩, rfl, by omega, ⟨List.length_replicate .., fun i w hw => by obtain ⟨_, e⟩ := List.getElem?_eq_some_iff.1 hw; rw [List.getElem_replicate] at e; rw [← e]; split; (rename_i h; exact absurd h (Nat.not_lt_zero _)); split <;> rfl⟩, rfl, rfl⟩) ?_
 rintro fz ρ' Γ' ⟨r, rs, hfz, hr, hpro, rfl, rfl⟩
 refine ZY 5 ?_
 refine Zj ef (fun h1 => ?_) (fun h1 => ?_)
 ·refine S.bpOpen b st ps fun ub jb mb ov iv dv mv sb l hF => ?_
  refine ZY 8 ?_
  refine ZY 7 ?_
  refine S.bpClose b st ps ub jb mb ov iv dv mv sb l hF ?_
  refine ZY 3 ?_
  refine Zl (fun fy ρ' Γ' => ∃ (n : Nat) (rs : List PL.RW), fy = st.nodes - n ∧ n ≤ st.nodes ∧ ProOk st r n rs ∧ ρ' = [(0, pt b), (3, o.v), (4, .int .i64 (r : Int)), (15, .int .i64 (o.n : Int)), (16, .int .i64 (r : Int)), (23, .int .i64 (st.nodes : Int)), (24, .int .i64 (n : Int))] ∧ Γ' = own o 66 1 (rs.flatMap PL.rwC) :: alls rs PL.rwB :: BP b st ps :: Γ) (m := _) (⟨0, rs, rfl, by omega, hpro, rfl, rfl⟩) ?_
  rintro fy ρ' Γ' ⟨n, rs, hfy, hn, hpro, rfl, rfl⟩
  refine ZY 5 ?_
  refine Zj ef (fun h2 => ?_) (fun h2 => ?_)
  ·refine S.ownSome o (by omega) fun ib io hia _ _ _ => ?_
   obtain ⟨w, hw⟩ := getE (show r < rs.length by rw [hpro.1]; omega)
   have hcell := hpro.cell hw
   refine S.bpOpen b st ps fun ub jb mb ov iv dv mv sb l hF => ?_
   refine ZY 8 ?_
   refine ZY 6 ?_
   rcases hgj : getJ st.js (atR st.m r n) with _ | x
   ·have hlk : alGet ((atR st.m r n : Nat) : Int) l = none := by rw [jE_get hok.srt hF.perm, hgj]; rfl
    refine Zd ([blk b 84 (bC st ub jb mb ov iv dv mv sb).toArray, mapL jb .u32 l]) [] (Zra 0 10) ?_
    refine ZY 8 ?_
    refine ZY 2 ?_
    refine Z1 (i := 10) ef ef ?_
    refine  (Zcp Ze (Go.Proofs.YtdackcibfkkniaaGreatDoor.At_S mb st.m r n) ?_)
    refine Zk [11, 12] ?_
    refine Zw ef (q_lookup1 (.pointer none) Tryz.underlying82 Tryz.underlying31 Tryz.zv86.h rfl rfl rfl (by rw [hlk]; rfl)) ?_
    refine Zy ?_
    refine ZD ?_
    refine ZY 5 ?_
    refine ZF ef ?_
    refine ZY 8 ?_
    refine Zy ?_
    refine Zp (Zcp Ze (Go.Proofs.YtdackcibfkkniaaGreatDoor.IsUp_S mb st.m n) ?_)
    refine ZY 2 ?_
    refine Zi ef (fun h4 => ?_) (fun h4 => ?_)
    ·have hpc : profC st r n = 1099511627776 := profC_down (by simpa using h4)
     refine ZY 3 ?_
     refine S.conv (alls rs PL.rwB) (Ent.allsAt PL.rwB hw _) ?_
     refine S.ownLen w.v fun hw1 hw2 hw3 => ?_
     rw [List.length_map, hpro.2 r w hw, if_neg (Nat.lt_irrefl _), if_pos rfl, List.length_map, List.length_range] at hw1
     refine ZY 5 ?_
     refine Zv (Zx (r) ef (hia) ef (by omega)) ?_
     refine Zv (Zo (o) (r) ef (hia) (rw_get hw)) ?_
     refine Zy ?_
     refine Zp (S.buildSlice (pvs := [(_, _)]) [_] Tryz.underlying66 Tryz.inf3.h rfl rfl ⟨⟨rfl, rfl⟩, trivial⟩ rfl rfl ?_)
     intro b59
     refine Zp (S.appendOw (s := w.v) (1) (_) Tryz.underlying66 Tryz.inf3.h rfl rfl rfl (blk_slAt (b := b59) rfl (by unfold maxLen; omega)) (by first | rfl | exact allOne_bcells _) (⟨by omega, by omega⟩) rfl ?_)
     intro v2 hv2
     refine S.ownAs v2 (ints (w.d ++ [profC st r n])) (by rw [hpc]; exact (List.map_append (f := Value.int .i64) (l₁ := w.d) (l₂ := [_])).symm) ?_
     refine Zv (Zx (r) ef (hia) ef (by omega)) ?_
     refine Zp (S.storeOw (o) (r * 1) Eo.h rfl rfl rfl hia (by first | rfl | exact Nat.add_assoc _ _ _ | omega) (by rw [flat_length PL.rwC_len, hpro.1]; omega) (rw_set rs r ⟨v2, w.d ++ [profC st r n]⟩) ?_)
     refine ZY 2 ?_
     refine S.conv3 (own v2 3 1 (ints (w.d ++ [profC st r n]))) (alls (rs.take r) PL.rwB) (alls (rs.drop (r + 1)) PL.rwB) (Ent.allsBack PL.rwB (x' := ⟨v2, w.d ++ [profC st r n]⟩) hw _) ?_
     refine S.bpClose b st ps ub jb mb ov iv dv mv sb l hF ?_
     refine Zv (Za ef ef) ?_
     refine ZY 2 ?_
     exact ZX (fy - 1) (⟨n + 1, rs.set r ⟨v2, w.d ++ [profC st r n]⟩, by omega, by omega, hcell v2, rfl, rfl⟩) (by omega)
    ·have hpc : profC st r n = 0 := profC_none (by simpa using h4) hgj
     refine Zy ?_
     refine S.conv (alls rs PL.rwB) (Ent.allsAt PL.rwB hw _) ?_
     refine S.ownLen w.v fun hw1 hw2 hw3 => ?_
     rw [List.length_map, hpro.2 r w hw, if_neg (Nat.lt_irrefl _), if_pos rfl, List.length_map, List.length_range] at hw1
     refine ZY 5 ?_
     refine Zv (Zx (r) ef (hia) ef (by omega)) ?_
     refine Zv (Zo (o) (r) ef (hia) (rw_get hw)) ?_
     refine Zy ?_
     refine Zp (S.buildSlice (pvs := [(_, _)]) [_] Tryz.underlying66 Tryz.inf3.h rfl rfl ⟨⟨rfl, rfl⟩, trivial⟩ rfl rfl ?_)
     intro b59
     refine Zp (S.appendOw (s := w.v) (1) (_) Tryz.underlying66 Tryz.inf3.h rfl rfl rfl (blk_slAt (b := b59) rfl (by unfold maxLen; omega)) (by first | rfl | exact allOne_bcells _) (⟨by omega, by omega⟩) rfl ?_)
     intro v2 hv2
     refine S.ownAs v2 (ints (w.d ++ [profC st r n])) (by rw [hpc]; exact (List.map_append (f := Value.int .i64) (l₁ := w.d) (l₂ := [_])).symm) ?_
     refine Zv (Zx (r) ef (hia) ef (by omega)) ?_
     refine Zp (S.storeOw (o) (r * 1) Eo.h rfl rfl rfl hia (by first | rfl | exact Nat.add_assoc _ _ _ | omega) (by rw [flat_length PL.rwC_len, hpro.1]; omega) (rw_set rs r ⟨v2, w.d ++ [profC st r n]⟩) ?_)
     refine ZY 2 ?_
     refine S.conv3 (own v2 3 1 (ints (w.d ++ [profC st r n]))) (alls (rs.take r) PL.rwB) (alls (rs.drop (r + 1)) PL.rwB) (Ent.allsBack PL.rwB (x' := ⟨v2, w.d ++ [profC st r n]⟩) hw _) ?_
     refine S.bpClose b st ps ub jb mb ov iv dv mv sb l hF ?_
     refine Zv (Za ef ef) ?_
     refine ZY 2 ?_
     exact ZX (fy - 1) (⟨n + 1, rs.set r ⟨v2, w.d ++ [profC st r n]⟩, by omega, by omega, hcell v2, rfl, rfl⟩) (by omega)
   ·obtain ⟨_, hxi⟩ := getJ_some hgj
    have hx : getJ st.js x.id = some x := by rw [hxi]; exact hgj
    have hlk : alGet ((atR st.m r n : Nat) : Int) l = some (pt (ps x.id)) := by rw [jE_get hok.srt hF.perm, hgj]; rfl
    have hlen : lenR st x ≤ 80000 := by
     have h1 := (hok.at_ hx).w
     exact Nat.mul_le_mul (show x.w - x.credit ≤ 10000 by omega) hR8
    refine Zd ([blk b 84 (bC st ub jb mb ov iv dv mv sb).toArray, mapL jb .u32 l]) [] (Zra 0 10) ?_
    refine ZY 8 ?_
    refine ZY 2 ?_
    refine Z1 (i := 10) ef ef ?_
    refine  (Zcp Ze (Go.Proofs.YtdackcibfkkniaaGreatDoor.At_S mb st.m r n) ?_)
    refine Zk [11, 12] ?_
    refine Zw ef (q_lookup1 (pt (ps x.id)) Tryz.underlying82 Tryz.underlying31 Tryz.zv86.h rfl rfl rfl (by rw [hlk]; rfl)) ?_
    refine Zy ?_
    refine ZD ?_
    refine ZY 5 ?_
    refine ZT ef ?_
    refine ZY 3 ?_
    refine S.bpClose b st ps ub jb mb ov iv dv mv sb l hF ?_
    refine Zp (Zcp Ze (length_S b st ps x hx) ?_)
    obtain ⟨ln, hln⟩ : ∃ ln, ln = lenR st x := ⟨_, rfl⟩
    rw [← hln] at hlen ⊢
    obtain ⟨fr, hfr⟩ : ∃ fr : Int, fr = max 1 ((ln : Nat) : Int) := ⟨_, rfl⟩
    refine Zv (q_max (fr) rfl rfl (by omega)) ?_
    refine ZY 5 ?_
    refine S.bpOpen b st ps fun ub2 jb2 mb2 ov2 iv2 dv2 mv2 sb2 l2 hF2 => ?_
    refine ZY 5 ?_
    refine Zp (Zcp Ze (Go.Proofs.YtdackcibfkkniaaGreatDoor.IsUp_S mb2 st.m n) ?_)
    refine ZY 2 ?_
    refine Zi ef (fun h4 => ?_) (fun h4 => ?_)
    ·have hpc : profC st r n = 1099511627776 := profC_down (by simpa using h4)
     refine ZY 3 ?_
     refine S.conv (alls rs PL.rwB) (Ent.allsAt PL.rwB hw _) ?_
     refine S.ownLen w.v fun hw1 hw2 hw3 => ?_
     rw [List.length_map, hpro.2 r w hw, if_neg (Nat.lt_irrefl _), if_pos rfl, List.length_map, List.length_range] at hw1
     refine ZY 5 ?_
     refine Zv (Zx (r) ef (hia) ef (by omega)) ?_
     refine Zv (Zo (o) (r) ef (hia) (rw_get hw)) ?_
     refine Zy ?_
     refine Zp (S.buildSlice (pvs := [(_, _)]) [_] Tryz.underlying66 Tryz.inf3.h rfl rfl ⟨⟨rfl, rfl⟩, trivial⟩ rfl rfl ?_)
     intro b59
     refine Zp (S.appendOw (s := w.v) (1) (_) Tryz.underlying66 Tryz.inf3.h rfl rfl rfl (blk_slAt (b := b59) rfl (by unfold maxLen; omega)) (by first | rfl | exact allOne_bcells _) (⟨by omega, by omega⟩) rfl ?_)
     intro v2 hv2
     refine S.ownAs v2 (ints (w.d ++ [profC st r n])) (by rw [hpc]; exact (List.map_append (f := Value.int .i64) (l₁ := w.d) (l₂ := [_])).symm) ?_
     refine Zv (Zx (r) ef (hia) ef (by omega)) ?_
     refine Zp (S.storeOw (o) (r * 1) Eo.h rfl rfl rfl hia (by first | rfl | exact Nat.add_assoc _ _ _ | omega) (by rw [flat_length PL.rwC_len, hpro.1]; omega) (rw_set rs r ⟨v2, w.d ++ [profC st r n]⟩) ?_)
     refine ZY 2 ?_
     refine S.conv3 (own v2 3 1 (ints (w.d ++ [profC st r n]))) (alls (rs.take r) PL.rwB) (alls (rs.drop (r + 1)) PL.rwB) (Ent.allsBack PL.rwB (x' := ⟨v2, w.d ++ [profC st r n]⟩) hw _) ?_
     refine S.bpClose b st ps ub2 jb2 mb2 ov2 iv2 dv2 mv2 sb2 l2 hF2 ?_
     refine Zv (Za ef ef) ?_
     refine ZY 2 ?_
     exact ZX (fy - 1) (⟨n + 1, rs.set r ⟨v2, w.d ++ [profC st r n]⟩, by omega, by omega, hcell v2, rfl, rfl⟩) (by omega)
    ·have hpc : profC st r n = fr := by rw [hfr, hln]; exact profC_some (by simpa using h4) hgj
     refine Zy ?_
     refine S.conv (alls rs PL.rwB) (Ent.allsAt PL.rwB hw _) ?_
     refine S.ownLen w.v fun hw1 hw2 hw3 => ?_
     rw [List.length_map, hpro.2 r w hw, if_neg (Nat.lt_irrefl _), if_pos rfl, List.length_map, List.length_range] at hw1
     refine ZY 5 ?_
     refine Zv (Zx (r) ef (hia) ef (by omega)) ?_
     refine Zv (Zo (o) (r) ef (hia) (rw_get hw)) ?_
     refine Zy ?_
     refine Zp (S.buildSlice (pvs := [(_, _)]) [_] Tryz.underlying66 Tryz.inf3.h rfl rfl ⟨⟨rfl, rfl⟩, trivial⟩ rfl rfl ?_)
     intro b59
     refine Zp (S.appendOw (s := w.v) (1) (_) Tryz.underlying66 Tryz.inf3.h rfl rfl rfl (blk_slAt (b := b59) rfl (by unfold maxLen; omega)) (by first | rfl | exact allOne_bcells _) (⟨by omega, by omega⟩) rfl ?_)
     intro v2 hv2
     refine S.ownAs v2 (ints (w.d ++ [profC st r n])) (by rw [hpc]; exact (List.map_append (f := Value.int .i64) (l₁ := w.d) (l₂ := [_])).symm) ?_
     refine Zv (Zx (r) ef (hia) ef (by omega)) ?_
     refine Zp (S.storeOw (o) (r * 1) Eo.h rfl rfl rfl hia (by first | rfl | exact Nat.add_assoc _ _ _ | omega) (by rw [flat_length PL.rwC_len, hpro.1]; omega) (rw_set rs r ⟨v2, w.d ++ [profC st r n]⟩) ?_)
     refine ZY 2 ?_
     refine S.conv3 (own v2 3 1 (ints (w.d ++ [profC st r n]))) (alls (rs.take r) PL.rwB) (alls (rs.drop (r + 1)) PL.rwB) (Ent.allsBack PL.rwB (x' := ⟨v2, w.d ++ [profC st r n]⟩) hw _) ?_
     refine S.bpClose b st ps ub2 jb2 mb2 ov2 iv2 dv2 mv2 sb2 l2 hF2 ?_
     refine Zv (Za ef ef) ?_
     refine ZY 2 ?_
     exact ZX (fy - 1) (⟨n + 1, rs.set r ⟨v2, w.d ++ [profC st r n]⟩, by omega, by omega, hcell v2, rfl, rfl⟩) (by omega)
  ·rw [show n = st.nodes by omega] at hpro
   refine ZY 2 ?_
   refine Zv (Za ef ef) ?_
   refine ZY 2 ?_
   exact ZX (fz - 1) (⟨r + 1, rs, by omega, by omega, hpro.row, rfl, rfl⟩) (by omega)
 ·rw [show r = st.rows by omega] at hpro
  refine ZY 7 ?_
  refine S.conv2 (own o 66 1 (rs.flatMap PL.rwC)) (alls rs PL.rwB) (PL.Ent.prof o rs _) ?_
  exact Zf ef Zq (⟨o, rs, rfl, hpro.all, rfl⟩)
end BN
end Go.Proofs.YtdackcibfkkniaaGreatDoor
namespace Go.Proofs.YtdackcibfkkniaaGreatDoor
open Go.RowKit
namespace BN
def akO (st : Br) (id : Nat) : PL.Ak := match getJ st.js id with
 | none => ⟨0, 0⟩
 | some x => ⟨x.k, lenR st x⟩
theorem asksR_eq (st : Br) : asksR st = (waitR st).map (akO st) := rfl
theorem akO_some {st : Br} {id : Nat} {x : Bj} (h : getJ st.js id = some x) : akO st id = ⟨x.k, (lenR st x : Nat)⟩ := by rw [akO, h]
def plStep (b : Br) (p : Nat × PL.St) : Br := if p.2.ok = true ∧ p.2.at_ = 0 then match getJ b.js p.1 with | none => b | some x => loadR b x p.2 else b
theorem placeUp_eq : ∀ (l : List (Nat × PL.St)) (b : Br), placeUp b l = l.foldl plStep b
 | [], _ => rfl
 | (id, s) :: l, b => by rw [placeUp, placeUp_eq l]; rfl
theorem placeUp_snoc (b : Br) (l : List (Nat × PL.St)) (p : Nat × PL.St) : placeUp b (l ++ [p]) = plStep (placeUp b l) p := by rw [placeUp_eq, placeUp_eq, List.foldl_append]; rfl
theorem plStep_no {b : Br} {p : Nat × PL.St} (h : ¬ (p.2.ok = true ∧ p.2.at_ = 0)) : plStep b p = b := if_neg h
theorem plStep_yes {b : Br} {p : Nat × PL.St} {x : Bj} (h : p.2.ok = true ∧ p.2.at_ = 0) (hg : getJ b.js p.1 = some x) : plStep b p = loadR b x p.2 := by rw [plStep, if_pos h, hg]
def WSav (st : Br) : Prop := ∀ x ∈ st.js, x.state = 0 → x.sav = none
structure PlInv (st : Br) (zs : List (Nat × PL.St)) (e : Nat) (t : Br) : Prop where
 ok : BrOk t
 ord : t.orders.length ≤ st.orders.length + 16 * e
 here : ∀ i p, e ≤ i → zs[i]? = some p → getJ t.js p.1 = getJ st.js p.1
theorem PlInv.step {st : Br} {zs : List (Nat × PL.St)} (hz : (zs.map (·.1)).Nodup) (hw : ∀ p ∈ zs, ∀ x, getJ st.js p.1 = some x → x.sav = none) {e : Nat} {t : Br} (h : PlInv st zs e t) {p : Nat × PL.St} (hp : zs[e]? = some p) : PlInv st zs (e + 1) (plStep t p) := by
 by_cases hy : p.2.ok = true ∧ p.2.at_ = 0
 ·cases hg : getJ t.js p.1 with
  | none =>
   have : plStep t p = t := by rw [plStep, if_pos hy, hg]
   rw [this]
   exact ⟨h.ok, by have := h.ord; omega, fun i q hi hq => h.here i q (by omega) hq⟩
  | some x =>
   rw [plStep_yes hy hg]
   have hxi := (getJ_some hg).2
   have hgx : getJ t.js x.id = some x := by rw [hxi]; exact hg
   have hs : x.sav = none := hw p (List.mem_of_getElem? hp) x (by rw [← h.here e p (Nat.le_refl _) hp]; exact hg)
   refine ⟨loadR_ok h.ok (h.ok.at_ hgx) hs, by have := h.ord; have := load_ord h.ok x p.2; omega, fun i q hi hq => ?_⟩
   rw [load_oth t p.2 ?_]
   ·exact h.here i q (by omega) hq
   ·rw [hxi]
    intro e9
    obtain ⟨a1, a2⟩ := List.getElem?_eq_some_iff.1 hp
    obtain ⟨b1, b2⟩ := List.getElem?_eq_some_iff.1 hq
    have := List.pairwise_iff_getElem.1 (List.nodup_iff_pairwise_ne.1 hz) e i (by simpa using a1) (by simpa using b1) (by omega)
    simp only [List.getElem_map, a2, b2] at this
    exact this e9.symm
 ·rw [plStep_no hy]
  exact ⟨h.ok, by have := h.ord; omega, fun i q hi hq => h.here i q (by omega) hq⟩
abbrev zsR (st : Br) : List (Nat × PL.St) := (waitR st).zip (PL.planR (profR st) (asksR st))
theorem zsR_fst {st : Br} : (zsR st).map (·.1) = waitR st := by
 rw [List.map_fst_zip]
 rw [PL.planR_length, asksR_eq, List.length_map]
 exact Nat.le_refl _
theorem place_inv {st : Br} (h : BrOk st) (hw : WSav st) : ∀ e, e ≤ (zsR st).length → PlInv st (zsR st) e (placeUp st ((zsR st).take e)) := by
 intro e
 induction e with
 | zero => exact fun _ => ⟨h, Nat.le_refl _, fun _ _ _ _ => rfl⟩
 | succ e ih =>
  intro he
  obtain ⟨p, hp⟩ := getE (show e < (zsR st).length by omega)
  have htk : (zsR st).take (e + 1) = (zsR st).take e ++ [p] := by rw [List.take_add_one, hp]; rfl
  rw [htk, placeUp_snoc]
  refine (ih (by omega)).step (by rw [zsR_fst]; exact waitR_nodup h.srt) (fun q hq x hx => ?_) hp
  have hq1 : q.1 ∈ waitR st := by rw [← zsR_fst]; exact List.mem_map.2 ⟨q, hq, rfl⟩
  obtain ⟨y, hy1, hy2⟩ := mem_waitR h.srt hq1
  rw [hx] at hy1
  cases hy1
  simp only [quB, Bool.and_eq_true, decide_eq_true_eq] at hy2
  exact hw x (getJ_some hx).1 hy2.1
theorem placeAll_eq (st : Br) : placeAll st = placeUp st (zsR st) := rfl
theorem placeAll_ok {st : Br} (h : BrOk st) (hw : WSav st) : BrOk (placeAll st) ∧ (placeAll st).orders.length ≤ st.orders.length + 16 * st.js.length := by
 have := place_inv h hw _ (Nat.le_refl _)
 rw [List.take_length] at this
 refine ⟨this.ok, Nat.le_trans this.ord ?_⟩
 have h1 := waitR_len h.srt
 have h2 : (zsR st).length ≤ (waitR st).length := by rw [List.length_zip]; exact Nat.min_le_left _ _
 omega
theorem chosen_len (row : List Int) (k : Nat) : (PL.chosen row k).length ≤ row.length := by
 unfold PL.chosen
 rw [(PL.srtI_perm _).length_eq, List.length_map, List.length_take, PL.srt_length]
 exact Nat.min_le_right _ _
theorem first_len {D : List (List Int)} {n : Nat} (h : ∀ r ∈ D, r.length ≤ n) (k : Int) : (PL.firstR D k).nodes.length ≤ n := by
 unfold PL.firstR
 split
 ·exact Nat.zero_le _
 split
 ·exact Nat.zero_le _
 ·rename_i v i _
  refine Nat.le_trans (chosen_len _ _) ?_
  cases hd : D[i]? with
  | none => exact Nat.zero_le _
  | some r => exact h r (List.mem_of_getElem? hd)
theorem plan_len {n : Nat} : ∀ (l : List PL.Ak) {D : List (List Int)}, (∀ r ∈ D, r.length ≤ n) → ∀ s ∈ PL.planR D l, s.nodes.length ≤ n
 | [], _, _, s, hs => by cases hs
 | a :: l, D, h, s, hs => by
  rcases List.mem_cons.1 hs with rfl | hs
  ·exact first_len h _
  ·refine plan_len l (fun r hr => ?_) s hs
   have hm : r.length ∈ (PL.resR D (PL.firstR D a.k) a.len).map List.length := List.mem_map.2 ⟨r, hr, rfl⟩
   rw [PL.resR_lens] at hm
   obtain ⟨q, hq, e⟩ := List.mem_map.1 hm
   rw [← e]; exact h q hq
theorem prof_rows (st : Br) : ∀ r ∈ profR st, r.length ≤ st.nodes := fun r hr => by
 obtain ⟨i, _, rfl⟩ := List.mem_map.1 (by rw [profR_eq] at hr; exact hr)
 rw [List.length_map, List.length_range]
 exact Nat.le_refl _
theorem prof_sml {st : Br} (hN : st.nodes ≤ 16) (hR : st.rows ≤ 8) : PL.Sml (profR st) := ⟨by rw [profR_eq, List.length_map, List.length_range]; omega, fun r hr => by have := prof_rows st r hr; omega⟩
set_option maxHeartbeats 2000000 in
theorem place_S (b : Nat) (st : Br) (ps : Nat → Nat) (hw : WSav st) (hl : st.orders.length ≤ 800000) : Spec Tryz.prog 43 [pt b] [BP b st ps] fun Γ _ Θ => Θ = BP b (placeAll st) ps :: Γ := by
 refine Spec.bpOk fun hok => ?_
 have hN := hok.N16
 have hfew := hok.few
 have hR8 : st.rows ≤ 8 := by have := hok.mok.R8; rw [hok.R] at this; exact this
 have hwl := waitR_len hok.srt
 refine Zbd Tryz.func43 rfl Tryz.ntmps43 fun w0 Γ => Zsh ?_
 refine ZY 3 ?_
 refine Zp (Zc1 Ze (waiting_S b st ps) ?_)
 rintro v Θ ⟨wv, rfl, hwn, rfl⟩
 refine S.ownLen wv fun hw1 hw2 hw3 => ?_
 have hmx : maxLen ≤ 9223372036854775807 := by unfold maxLen; omega
 refine ZY 8 ?_
 refine Zy ?_
 refine S.ent (show Ent _ (own SV.nil 139 2 (([] : List PL.Ak).flatMap PL.akC) :: _) from Ent.ownNil 139 2) ?_
 refine ZY 5 ?_
 refine Zl (fun fz ρ' Γ' => ∃ (e : Nat) (al : List PL.Ak) (av : SV), fz = (waitR st).length - e ∧ e ≤ (waitR st).length ∧ al = (asksR st).take e ∧ av.n = e ∧ ρ' = [(0, pt b), (2, wv.v), (3, av.v), (10, wv.v), (11, .int .i64 (wv.n : Int)), (12, .int .i64 (e : Int))] ∧ Γ' = own wv 86 1 (wps ps (waitR st)) :: own av 139 2 (al.flatMap PL.akC) :: BP b st ps :: Γ) (m := _) (⟨0, [], SV.nil, rfl, by omega, rfl, rfl, rfl, rfl⟩) ?_
 rintro fz ρ' Γ' ⟨e, al, av, hfz, he, hal, han, rfl, rfl⟩
 refine ZY 5 ?_
 refine Zj ef (fun h1 => ?_) (fun h1 => ?_)
 ·refine S.ownSome wv (by omega) fun sb so hsa _ _ _ => ?_
  obtain ⟨id, hid⟩ := getE (show e < (waitR st).length by omega)
  obtain ⟨x, hgx, hxq⟩ := mem_waitR hok.srt (List.mem_of_getElem? hid)
  obtain ⟨_, hxi⟩ := getJ_some hgx
  subst hxi
  have hjx := hok.at_ hgx
  have hak : (asksR st)[e]? = some ⟨x.k, (lenR st x : Nat)⟩ := by rw [asksR_eq, List.getElem?_map, hid]; exact congrArg some (akO_some hgx)
  obtain ⟨ln, hln⟩ : ∃ ln, ln = lenR st x := ⟨_, rfl⟩
  have hlen := length_S b st ps x hgx
  rw [← hln] at hlen hak
  refine ZY 5 ?_
  refine Zv (Zx (e) ef (hsa) ef (by omega)) ?_
  refine Zv (Zo (wv) (e) ef (hsa) (by rw [List.getElem?_map, hid]; rfl)) ?_
  refine ZY 2 ?_
  refine Zd ([BP b st ps]) [11] (Zra 0 8) ?_
  refine ZY 5 ?_
  refine Zw ef (q_loadBj b st ps hgx Eo.h rfl (fun _ _ _ _ _ => rfl)) ?_
  refine ZY 2 ?_
  refine Z1 (i := 8) ef ef ?_
  refine  (Zcp Ze (hlen) ?_)
  refine Zk [9] ?_
  refine Zw ef (q_build (pvs := [(_, _), (_, _)]) [_, _] Tryz.z139.h Tryz.p139.h ⟨⟨rfl, rfl⟩, ⟨rfl, rfl⟩, trivial⟩ rfl) ?_
  refine Z1 (i := 10) ef ef ?_
  refine (S.buildSlice (pvs := [(_, _)]) [_, _] Tryz.underlying136 Tryz.inf139.h rfl rfl ⟨⟨rfl, rfl⟩, trivial⟩ rfl rfl ?_)
  intro b26
  refine Zk [] ?_
  refine Z1 (i := 11) ef ef ?_
  refine (S.appendOw (s := av) (1) (PL.akC ⟨x.k, (ln : Nat)⟩) Tryz.underlying136 Tryz.inf139.h rfl rfl rfl (blk_slAt (b := b26) rfl (by unfold maxLen; omega)) (by first | rfl | exact allOne_bcells _) (⟨by omega, by omega⟩) rfl ?_)
  intro av2 hav2
  refine ZL ([]) [12] ?_
  refine Zy ?_
  refine ZD ?_
  refine Zy ?_
  rw [flat_snoc PL.akC al (⟨x.k, (ln : Nat)⟩ : PL.Ak)]
  refine Zv (Za ef ef) ?_
  refine ZY 2 ?_
  exact ZX (fz - 1) (⟨e + 1, al ++ [⟨x.k, (ln : Nat)⟩], av2, by omega, by omega, by rw [List.take_add_one, hak, hal]; rfl, by omega, rfl, rfl⟩) (by omega)
 ·have hasl : (asksR st).length = (waitR st).length := by rw [asksR_eq, List.length_map]
  rw [show (asksR st).take e = asksR st by rw [show e = (asksR st).length by omega, List.take_length]] at hal
  subst hal
  refine ZY 4 ?_
  refine Zp (Zc1 Ze (profile_S b st ps) ?_)
  rintro v Θ ⟨pv, rs, rfl, hrs, rfl⟩
  refine Zy ?_
  refine Zp (Zc1 Ze (PL.Plan_S (PL.prof pv rs) (own av 139 2 ((asksR st).flatMap PL.akC)) pv rs av (asksR st) (by rw [hrs]; exact prof_sml hN hR8) (by omega) (PL.RdP.prof pv rs) (by rw [hasl, ← show av.n = (waitR st).length by omega]; exact RdS.own)) ?_)
  rintro v Θ ⟨u, os, rfl, hos, rfl⟩
  rw [hrs] at hos
  have hpl := PL.planR_length (asksR st) (profR st)
  have hol : os.length = (waitR st).length := by rw [← hasl, ← hpl, ← hos, List.length_map]
  refine S.ownLen u fun hu1 hu2 hu3 => ?_
  rw [flat_length PL.srC_len, hol] at hu1
  have hzl : (zsR st).length = (waitR st).length := by rw [List.length_zip, hpl, hasl, Nat.min_self]
  refine ZY 4 ?_
  refine Zl (fun fz ρ' Γ' => ∃ (e : Nat) (t : Br), fz = (waitR st).length - e ∧ e ≤ (waitR st).length ∧ t = placeUp st ((zsR st).take e) ∧ ρ' = [(0, pt b), (2, wv.v), (32, u.v), (33, .int .i64 (u.n : Int)), (34, .int .i64 (e : Int))] ∧ Γ' = own u 146 4 (os.flatMap PL.srC) :: alls os PL.srB :: own wv 86 1 (wps ps (waitR st)) :: BP b t ps :: Γ) (m := _) (⟨0, st, rfl, by omega, rfl, rfl, rfl⟩) ?_
  rintro fz ρ' Γ' ⟨e, t, hfz, he, ht, rfl, rfl⟩
  have hI : PlInv st (zsR st) e t := by rw [ht]; exact place_inv hok hw e (by omega)
  refine ZY 5 ?_
  refine Zj ef (fun h2 => ?_) (fun h2 => ?_)
  ·refine S.ownSome u (by omega) fun sb so hsa _ _ _ => ?_
   refine S.ownSome wv (by omega) fun wb wo hwa _ _ _ => ?_
   obtain ⟨r, hr⟩ := getE (show e < os.length by omega)
   obtain ⟨id, hid⟩ := getE (show e < (waitR st).length by omega)
   have hpr : (PL.planR (profR st) (asksR st))[e]? = some r.x := by rw [← hos, List.getElem?_map, hr]; rfl
   have hz : (zsR st)[e]? = some (id, r.x) := by rw [List.getElem?_zip_eq_some]; exact ⟨hid, hpr⟩
   obtain ⟨x, hgx, hxq⟩ := mem_waitR hok.srt (List.mem_of_getElem? hid)
   obtain ⟨_, hxi⟩ := getJ_some hgx
   subst hxi
   have hgt : getJ t.js x.id = some x := by rw [hI.here e (x.id, r.x) (Nat.le_refl _) hz]; exact hgx
   have hxs : x.sav = none := by
    simp only [quB, Bool.and_eq_true, decide_eq_true_eq] at hxq
    exact hw x (getJ_some hgx).1 hxq.1
   have hstep : placeUp st ((zsR st).take (e + 1)) = plStep t (x.id, r.x) := by rw [List.take_add_one, hz, ht]; exact placeUp_snoc _ _ _
   have hnl : r.x.nodes.length ≤ 16 := Nat.le_trans (plan_len (asksR st) (prof_rows st) r.x (by rw [← hos]; exact List.mem_map.2 ⟨r, List.mem_of_getElem? hr, rfl⟩)) hN
   have hto := hI.ord
   refine S.conv (alls os PL.srB) (Ent.allsAt PL.srB hr _) ?_
   refine S.ownLen r.v fun hr1 hr2 hr3 => ?_
   rw [List.length_map, Nat.mul_one] at hr1
   refine S.conv3 (PL.srB r) (alls (os.take e) PL.srB) (alls (os.drop (e + 1)) PL.srB) (Ent.allsBack' PL.srB hr _) ?_
   refine ZY 6 ?_
   refine Zv (Zx (e) ef (hsa) ef (by omega)) ?_
   refine Zv (q_loadOwS (u) (e * 4) [_, _, _, _] Eo.h rfl hsa (by first | rfl | exact Nat.add_assoc _ _ _ | omega) rfl (flat_seg (enc := PL.srC) (sz := 4) (fun _ => rfl) hr)) ?_
   refine Zp (S.alloc Tryz.z146.h rfl ?_)
   intro b7
   refine Zy ?_
   refine Zp (Zs ef ef (cs' := [_, _, _, _]) ef ?_)
   refine ZY 6 ?_
   refine Zbb 41 ef (fun hg10_2 => ?_) (fun hg10_2 => ?_)
   ·refine ZY 5 ?_
    refine Zj ef (fun h3 => ?_) (fun h3 => ?_)
    ·have hst3 : plStep t (x.id, r.x) = loadR t x r.x := plStep_yes ⟨hg10_2, h3⟩ hgt
     refine Zd ([blk b7 146 (PL.srC r).toArray, own wv 86 1 (wps ps (waitR st))]) [] (Zra 0 6) ?_
     refine ZY 3 ?_
     refine Zw ef (Zx (e) ef (hwa) ef (by omega)) ?_
     refine Zw ef (Zo (wv) (e) ef (hwa) (by rw [List.getElem?_map, hid]; rfl)) ?_
     refine Zy ?_
     refine Z1 (i := 6) ef ef ?_
     refine  (Zc1 Ze (load_S b t ps x r.x r.v (alls os PL.srB) hgt hxs hr1.symm (by omega) (RdS.alls hr RdS.own) (by omega)) ?_)
     rintro v Θ rfl
     refine Zk [] ?_
     refine ZD ?_
     refine Zy ?_
     refine Zv (Za ef ef) ?_
     refine ZY 2 ?_
     first | exact ZX (fz - 1) ⟨e + 1, t, by omega, by omega, by rw [hstep, hst2], rfl, rfl⟩ (by omega) | exact ZX (fz - 1) ⟨e + 1, loadR t x r.x, by omega, by omega, by rw [hstep, hst3], rfl, rfl⟩ (by omega)
    ·have hst2 : plStep t (x.id, r.x) = t := by first | exact hst2 | exact plStep_no (fun h => h3 h.2)
     refine ZY 2 ?_
     refine Zv (Za ef ef) ?_
     refine ZY 2 ?_
     first | exact ZX (fz - 1) ⟨e + 1, t, by omega, by omega, by rw [hstep, hst2], rfl, rfl⟩ (by omega) | exact ZX (fz - 1) ⟨e + 1, loadR t x r.x, by omega, by omega, by rw [hstep, hst3], rfl, rfl⟩ (by omega)
   ·have hst2 : plStep t (x.id, r.x) = t := plStep_no (by rw [hg10_2]; simp)
    refine ZY 8 ?_
    refine Zv (Za ef ef) ?_
    refine ZY 2 ?_
    first | exact ZX (fz - 1) ⟨e + 1, t, by omega, by omega, by rw [hstep, hst2], rfl, rfl⟩ (by omega) | exact ZX (fz - 1) ⟨e + 1, loadR t x r.x, by omega, by omega, by rw [hstep, hst3], rfl, rfl⟩ (by omega)
  ·rw [show (zsR st).take e = zsR st by rw [show e = (zsR st).length by omega, List.take_length]] at ht
   refine Zy ?_
   exact Zfn ef Zq (by rw [placeAll_eq, ← ht])
end BN
end Go.Proofs.YtdackcibfkkniaaGreatDoor
namespace Go.Proofs.YtdackcibfkkniaaGreatDoor
open Go.RowKit
namespace BN
theorem choR_mem {m : Mx} {tier k : Int} {l : List Cd} {x : Cd} (h : x ∈ (choR m tier k l).1) : x ∈ l := by
 have key : ∀ i, x ∈ (chUp m tier k l i).1 → x ∈ l := by
  intro i
  induction i with
  | zero => exact fun h => by cases h
  | succ i ih =>
   intro h
   rw [chUp] at h
   split at h
   ·exact ofV_mem h
   ·exact ih h
 exact key _ h
theorem choR_len (m : Mx) (tier k : Int) (l : List Cd) : (choR m tier k l).1.length ≤ l.length := by
 have hof : ∀ row, (ofV m row tier k l).1.length ≤ l.length := fun row => by
  unfold ofV
  split
  ·exact Nat.zero_le _
  split
  ·exact Nat.le_trans (List.length_take_le' _ _) (lesR_len m row tier l)
  ·exact Nat.zero_le _
 have key : ∀ i, (chUp m tier k l i).1.length ≤ l.length := by
  intro i
  induction i with
  | zero => exact Nat.zero_le _
  | succ i ih =>
   rw [chUp]
   split
   ·exact hof _
   ·exact ih
 exact key _
structure LInv (f : Br → Bj → Br) (st : Br) (l : List Nat) (e : Nat) (t : Br) : Prop where
 ok : BrOk t
 ord : t.orders.length ≤ st.orders.length + 16 * e
 ids : t.js.map (·.id) = st.js.map (·.id)
theorem isSome_ids {js js' : List Bj} (h : js'.map (·.id) = js.map (·.id)) (id : Nat) : (getJ js' id).isSome = (getJ js id).isSome := by
 have e : ∀ l : List Bj, (getJ l id).isSome = (l.map (·.id)).any fun i => decide (i = id) := fun l => by
  unfold getJ
  rw [List.isSome_find?, List.any_map]
  rfl
 rw [e, e, h]
theorem linv {f : Br → Bj → Br} (hE : EachOk f) (hid : ∀ st x, (f st x).js.map (·.id) = st.js.map (·.id)) {st : Br} (h : BrOk st) {l : List Nat} (hl : ∀ id ∈ l, (getJ st.js id).isSome = true) : ∀ e, e ≤ l.length → LInv f st l e (each f st (l.take e)) := by
 intro e
 induction e with
 | zero => exact fun _ => ⟨h, Nat.le_refl _, rfl⟩
 | succ e ih =>
  intro he
  have hi := ih (by omega)
  obtain ⟨id, hid2⟩ := getE (show e < l.length by omega)
  have htk : l.take (e + 1) = l.take e ++ [id] := by rw [List.take_add_one, hid2]; rfl
  obtain ⟨x, hx⟩ : ∃ x, getJ (each f st (l.take e)).js id = some x := Option.isSome_iff_exists.1 (by rw [isSome_ids hi.ids]; exact hl id (List.mem_of_getElem? hid2))
  have hxi := (getJ_some hx).2
  rw [htk, each_snoc, hx]
  dsimp only
  refine ⟨hE.ok _ x hi.ok (by rw [hxi]; exact hx), ?_, by rw [hid]; exact hi.ids⟩
  have := hE.ord _ x hi.ok (by rw [hxi]; exact hx)
  have := hi.ord
  omega
theorem lstep {f : Br → Bj → Br} {st : Br} {l : List Nat} {e id : Nat} {x : Bj} (hid : l[e]? = some id) (hx : getJ (each f st (l.take e)).js id = some x) : each f st (l.take (e + 1)) = f (each f st (l.take e)) x := by
 rw [List.take_add_one, hid]
 show each f st (l.take e ++ [id]) = _
 rw [each_snoc, hx]
abbrev warX (st : Br) (x : Bj) : Bj := { x with warned := true, till := laterR st.now st.grace }
abbrev warOrd (st : Br) (x : Bj) (n : Nat) : Od := (n, { kind := 12, job := x.id, tick := laterR st.now st.grace })
theorem warnJ_eq (st : Br) (x : Bj) : warnJ st x = Br.set { st with orders := st.orders ++ x.at_.map (warOrd st x) } (warX st x) := rfl
theorem JOk.warX {N : Nat} {st : Br} {x : Bj} (h : JOk N x) : JOk N (warX st x) := ⟨h.id1, h.id2, h.tier, h.k1, h.kn, h.w, h.cr, h.wk, h.rise, h.at_, h.drop, h.lod, h.ran, h.ld, h.svl⟩
theorem warnE : EachOk warnJ := ⟨fun st x h hx => by rw [warnJ_eq]; exact (h.oset _).set (x := BN.warX st x) (h.at_ hx).warX, fun st x id h => by rw [warnJ_eq]; exact set_oth { st with orders := st.orders ++ x.at_.map (warOrd st x) } (x := BN.warX st x) h, fun st x h hx => by
 rw [warnJ_eq]
 show (st.orders ++ x.at_.map (warOrd st x)).length ≤ _
 rw [List.length_append, List.length_map]
 have := len16 h hx
 omega⟩
theorem warn_ids (st : Br) (x : Bj) : (warnJ st x).js.map (·.id) = st.js.map (·.id) := setJ_ids st.js (BN.warX st x)
def vicR (st : Br) (y : Bj) : List Nat := jobsR (choR st.m y.tier y.k (candR st)).1
theorem pre_nil {st : Br} (h : waitR st = []) : preemptR st = st := by rw [preemptR, h]
theorem pre_live {st : Br} (h : st.js.any lvB = true) : preemptR st = st := by
 unfold preemptR
 split
 ·rfl
 ·exact if_pos h
theorem pre_go {st : Br} {id : Nat} {l : List Nat} {y : Bj} (hw : waitR st = id :: l) (h : st.js.any lvB = false) (hy : getJ st.js id = some y) : preemptR st = each warnJ st (vicR st y) := by
 unfold preemptR
 rw [hw]
 dsimp only
 rw [if_neg (by rw [h]; decide), hy]
 rfl
theorem vic_mem {st : Br} (hs : JsOk st.js) {y : Bj} : ∀ id ∈ vicR st y, (getJ st.js id).isSome = true := fun id h => by
 obtain ⟨c, hc, e⟩ := List.mem_map.1 h
 obtain ⟨x, hx, e2⟩ := List.mem_map.1 (choR_mem hc)
 subst e2
 simp only at e
 rw [← e, getJ_mem hs (List.mem_filter.1 hx).1]
 rfl
theorem later_le (t n : Nat) : laterR t n ≤ 4294967295 := Nat.min_le_right _ _
set_option maxHeartbeats 4000000 in
theorem preempt_S (b : Nat) (st : Br) (ps : Nat → Nat) (hl : st.orders.length ≤ 800000) {W : World} (hW : TabW W) : Spec Tryz.prog 44 [pt b] [BP b st ps, old W] fun Γ _ Θ => Θ = BP b (preemptR st) ps :: old W :: Γ := by
 refine Spec.bpOk fun hok => ?_
 have hN := hok.N16
 have hfew := hok.few
 have hwl := waitR_len hok.srt
 refine Zbd Tryz.func44 rfl Tryz.ntmps44 fun w0 Γ => Zsh ?_
 refine ZY 3 ?_
 refine Zp (Zc1 Ze (waiting_S b st ps) ?_)
 rintro v Θ ⟨wv, rfl, hwn, rfl⟩
 refine ZY 8 ?_
 refine Zy ?_
 refine Zb 18 ef (fun hg1_3 => ?_) (fun hg1_3 => ?_)
 ·have hg := pre_nil (List.eq_nil_of_length_eq_zero (show (waitR st).length = 0 by omega))
  refine ZY 7 ?_
  exact Zf ef Zq (by rw [hg])
 ·refine Zy ?_
  refine Zg ef ef ef (Zc1 Ze (all_S b st ps) ?_)
  rintro v Θ ⟨jv, rfl, hjv, rfl⟩
  refine Zg ef ef ef (Zcp Ze (contJ_S b st ps jv hjv) ?_)
  refine ZY 2 ?_
  refine Zi ef (fun h1 => ?_) (fun h1 => ?_)
  ·have hg := pre_live h1
   refine Zy ?_
   exact Zf ef Zq (by rw [hg])
  ·obtain ⟨id, ws, hws⟩ : ∃ id ws, waitR st = id :: ws := by
    cases hw : waitR st with
    | nil => exact absurd (show ((wv.n : Nat) : Int) = 0 by rw [hwn, hw]; rfl) hg1_3
    | cons id ws => exact ⟨id, ws, rfl⟩
   obtain ⟨y, hgy, hyq⟩ := mem_waitR hok.srt (show id ∈ waitR st by rw [hws]; exact List.mem_cons_self ..)
   obtain ⟨_, hyi⟩ := getJ_some hgy
   subst hyi
   have hg := pre_go hws h1 hgy
   refine ZY 8 ?_
   refine S.ent (show Ent _ (own SV.nil 152 2 (([] : List Cd).flatMap cdC) :: _) from Ent.ownNil 152 2) ?_
   refine Zy ?_
   refine Zp (Zc1 Ze (all_S b st ps) ?_)
   rintro v Θ ⟨j2, rfl, hj2, rfl⟩
   refine S.ownLen j2 fun hl1 hl2 hl3 => ?_
   have hmx : maxLen ≤ 9223372036854775807 := by unfold maxLen; omega
   refine ZY 4 ?_
   refine Zl (fun fz ρ' Γ' => ∃ (e : Nat) (cs : List Cd) (cv : SV), fz = st.js.length - e ∧ e ≤ st.js.length ∧ cs = ((st.js.take e).filter fun x => decide (x.state = 2) || decide (x.state = 1)).map (fun x => (x.id, (x.tier : Int))) ∧ cv.n = cs.length ∧ cs.length ≤ e ∧ ρ' = [(0, pt b), (2, wv.v), (3, cv.v), (24, j2.v), (25, .int .i64 (j2.n : Int)), (26, .int .i64 (e : Int))] ∧ Γ' = own j2 86 1 (pts ps st.js) :: own wv 86 1 (wps ps (waitR st)) :: own cv 152 2 (cs.flatMap cdC) :: BP b st ps :: old W :: Γ) (m := _) (⟨0, [], SV.nil, rfl, by omega, rfl, rfl, Nat.le_refl _, rfl, rfl⟩) ?_
   rintro fz ρ' Γ' ⟨e, cs, cv, hfz, he, hcs, hcn, hcl, rfl, rfl⟩
   refine ZY 5 ?_
   refine Zj ef (fun h2 => ?_) (fun h2 => ?_)
   ·refine S.ownSome j2 (by omega) fun sb so hsa _ _ _ => ?_
    obtain ⟨x, hx⟩ := getE (show e < st.js.length by omega)
    have hgx : getJ st.js x.id = some x := getJ_mem hok.srt (List.mem_of_getElem? hx)
    have hjx := hok.at_ hgx
    have hsn := fun v hv => fsnoc (p := fun x : Bj => decide (x.state = 2) || decide (x.state = 1)) hx v hv
    refine S.bjOpen b st ps x hgx fun ub jb mb ov iv dv mv sb l i av lb db rb qb hF hi hset hrm hJ => ?_
    refine ZY 5 ?_
    refine Zv (Zx (e) ef (hsa) ef (by omega)) ?_
    refine Zv (Zo (j2) (e) ef (hsa) (by rw [List.getElem?_map, hx]; rfl)) ?_
    refine ZY 8 ?_
    refine ZY 3 ?_
    refine Zb 36 ef (fun hg6_6 => ?_) (fun hg6_6 => ?_)
    ·have hcs2 : cs ++ [(x.id, (x.tier : Int))] = ((st.js.take (e + 1)).filter fun x => decide (x.state = 2) || decide (x.state = 1)).map (fun x => (x.id, (x.tier : Int))) := by
      rw [hsn true (by rw [decide_eq_true (show x.state = 2 by omega)]; rfl), List.map_append, hcs]; rfl
     refine ZY 8 ?_
     refine Zy ?_
     refine Zd ([blk (ps x.id) 90 (bjC x av lb db rb qb).toArray]) [13] (Zra 0 12) ?_
     refine ZY 8 ?_
     refine ZY 3 ?_
     refine Zw ef (q_build (pvs := [(_, _), (_, _)]) [_, _] Tryz.z152.h Tryz.p152.h ⟨⟨rfl, rfl⟩, ⟨rfl, rfl⟩, trivial⟩ rfl) ?_
     refine Z1 (i := 12) ef ef ?_
     refine (S.buildSlice (pvs := [(_, _)]) [_, _] Tryz.underlying150 Tryz.inf152.h rfl rfl ⟨⟨rfl, rfl⟩, trivial⟩ rfl rfl ?_)
     intro b56
     refine Zk [] ?_
     refine Z1 (i := 13) ef ef ?_
     refine (S.appendOw (s := cv) (1) (cdC (x.id, (x.tier : Int))) Tryz.underlying150 Tryz.inf152.h rfl rfl rfl (blk_slAt (b := b56) rfl (by unfold maxLen; omega)) (by first | rfl | exact allOne_bcells _) (⟨by omega, by omega⟩) rfl ?_)
     intro cv2 hcv2
     refine ZL ([]) [14] ?_
     refine Zy ?_
     refine ZD ?_
     refine Zy ?_
     first | rw [flat_snoc cdC cs ((x.id, (x.tier : Int)) : Cd)] | skip
     refine S.bjClose b st ps ub jb mb ov iv dv mv sb l i x av lb db rb qb hi rfl (hset x rfl) (hF.set hjx) hJ ?_
     rw [set_self hok hgx]
     refine Zv (Za ef ef) ?_
     refine ZY 2 ?_
     first | exact ZX (fz - 1) ⟨e + 1, cs ++ [(x.id, (x.tier : Int))], cv2, by omega, by omega, hcs2, by rw [List.length_append, List.length_singleton]; omega, by rw [List.length_append, List.length_singleton]; omega, rfl, rfl⟩ (by omega) | exact ZX (fz - 1) ⟨e + 1, cs, cv, by omega, by omega, hcs2, by omega, by omega, rfl, rfl⟩ (by omega)
    ·refine ZY 8 ?_
     refine Zj ef (fun h3 => ?_) (fun h3 => ?_)
     ·have hcs2 : cs ++ [(x.id, (x.tier : Int))] = ((st.js.take (e + 1)).filter fun x => decide (x.state = 2) || decide (x.state = 1)).map (fun x => (x.id, (x.tier : Int))) := by
       rw [hsn true (by rw [decide_eq_true (show x.state = 1 by omega), Bool.or_true]), List.map_append, hcs]; rfl
      refine Zd ([blk (ps x.id) 90 (bjC x av lb db rb qb).toArray]) [13] (Zra 0 12) ?_
      refine ZY 8 ?_
      refine ZY 3 ?_
      refine Zw ef (q_build (pvs := [(_, _), (_, _)]) [_, _] Tryz.z152.h Tryz.p152.h ⟨⟨rfl, rfl⟩, ⟨rfl, rfl⟩, trivial⟩ rfl) ?_
      refine Z1 (i := 12) ef ef ?_
      refine (S.buildSlice (pvs := [(_, _)]) [_, _] Tryz.underlying150 Tryz.inf152.h rfl rfl ⟨⟨rfl, rfl⟩, trivial⟩ rfl rfl ?_)
      intro b56
      refine Zk [] ?_
      refine Z1 (i := 13) ef ef ?_
      refine (S.appendOw (s := cv) (1) (cdC (x.id, (x.tier : Int))) Tryz.underlying150 Tryz.inf152.h rfl rfl rfl (blk_slAt (b := b56) rfl (by unfold maxLen; omega)) (by first | rfl | exact allOne_bcells _) (⟨by omega, by omega⟩) rfl ?_)
      intro cv2 hcv2
      refine ZL ([]) [14] ?_
      refine Zy ?_
      refine ZD ?_
      refine Zy ?_
      first | rw [flat_snoc cdC cs ((x.id, (x.tier : Int)) : Cd)] | skip
      refine S.bjClose b st ps ub jb mb ov iv dv mv sb l i x av lb db rb qb hi rfl (hset x rfl) (hF.set hjx) hJ ?_
      rw [set_self hok hgx]
      refine Zv (Za ef ef) ?_
      refine ZY 2 ?_
      first | exact ZX (fz - 1) ⟨e + 1, cs ++ [(x.id, (x.tier : Int))], cv2, by omega, by omega, hcs2, by rw [List.length_append, List.length_singleton]; omega, by rw [List.length_append, List.length_singleton]; omega, rfl, rfl⟩ (by omega) | exact ZX (fz - 1) ⟨e + 1, cs, cv, by omega, by omega, hcs2, by omega, by omega, rfl, rfl⟩ (by omega)
     ·have hcs2 : cs = ((st.js.take (e + 1)).filter fun x => decide (x.state = 2) || decide (x.state = 1)).map (fun x => (x.id, (x.tier : Int))) := by
       rw [hsn false (by rw [decide_eq_false (show ¬ x.state = 2 by omega), decide_eq_false (show ¬ x.state = 1 by omega)]; rfl), hcs]; simp
      refine ZY 2 ?_
      first | rw [flat_snoc cdC cs ((x.id, (x.tier : Int)) : Cd)] | skip
      refine S.bjClose b st ps ub jb mb ov iv dv mv sb l i x av lb db rb qb hi rfl (hset x rfl) (hF.set hjx) hJ ?_
      rw [set_self hok hgx]
      refine Zv (Za ef ef) ?_
      refine ZY 2 ?_
      first | exact ZX (fz - 1) ⟨e + 1, cs ++ [(x.id, (x.tier : Int))], cv2, by omega, by omega, hcs2, by rw [List.length_append, List.length_singleton]; omega, by rw [List.length_append, List.length_singleton]; omega, rfl, rfl⟩ (by omega) | exact ZX (fz - 1) ⟨e + 1, cs, cv, by omega, by omega, hcs2, by omega, by omega, rfl, rfl⟩ (by omega)
   ·have hcs9 : cs = candR st := by rw [hcs, show e = st.js.length by omega, List.take_length]; rfl
    have hct : ∀ c ∈ cs, 0 ≤ c.2 ∧ c.2 ≤ 255 := fun c hc => by
     rw [hcs9] at hc
     obtain ⟨x, hx, e2⟩ := List.mem_map.1 hc
     have := (hok.job x (List.mem_filter.1 hx).1).tier
     subst e2
     exact ⟨by show (0 : Int) ≤ (x.tier : Int); omega, by show ((x.tier : Nat) : Int) ≤ 255; omega⟩
    refine S.ownSome wv (by omega) fun wb wo hwa _ _ _ => ?_
    have hjy := hok.at_ hgy
    refine S.bjOpen b st ps y hgy fun ub jb mb ov iv dv mv sb l i av lb db rb qb hF hi hset hrm hJ => ?_
    refine ZY 2 ?_
    refine Zd ([blk (ps y.id) 90 (bjC y av lb db rb qb).toArray, blk b 84 (bC st ub jb mb ov iv dv mv sb).toArray, own wv 86 1 (wps ps (waitR st))]) [] (Zra 0 19) ?_
    refine ZY 6 ?_
    refine Zw ef (Zx (0) ef (hwa) ef (by omega)) ?_
    refine Zw ef (Zo (wv) (0) ef (hwa) (by rw [hws]; rfl)) ?_
    refine ZY 5 ?_
    refine Zw ef (Zx (0) ef (hwa) ef (by omega)) ?_
    refine Zw ef (Zo (wv) (0) ef (hwa) (by rw [hws]; rfl)) ?_
    refine ZY 4 ?_
    refine Z2 (i := 19) (j := 23) ef ef ef ?_ ?_
    ·refine  (Zc1 Ze (Choose_S mb st.m y.tier y.k (own cv 152 2 (cs.flatMap cdC)) cv cs hcn (by omega) hct RdS.own hW) ?_)
     rintro v Θ ⟨cu, rfl, hcun, rfl⟩
     refine Zk [20, 21, 22] ?_
     refine ZY 3 ?_
     refine Z1 (i := 23) ef ef ?_
     refine (S.alloc Tryz.z154.h rfl ?_)
     intro b6
     refine Zk [] ?_
     refine Z1 (i := 24) ef ef ?_
     refine  (Zs ef ef (cs' := [_, _]) ef ?_)
     refine Zk [25] ?_
     refine Zy ?_
     refine ZD ?_
     refine ZY 2 ?_
     have hvr : jobsR (choR st.m y.tier y.k cs).1 = vicR st y := by rw [hcs9]; rfl
     have hcl2 : (choR st.m y.tier y.k cs).1.length = (vicR st y).length := by rw [← hvr, List.length_map]
     rw [hvr]
     rw [hcl2] at hcun
     refine S.bjClose b st ps ub jb mb ov iv dv mv sb l i y av lb db rb qb hi rfl (hset y rfl) (hF.set hjy) hJ ?_
     rw [set_self hok hgy]
     refine S.ownLen cu fun hc1 hc2 hc3 => ?_
     have hvl : (vicR st y).length ≤ 1000 := by
      have h1 : (vicR st y).length ≤ (candR st).length := Nat.le_trans (Nat.le_of_eq (List.length_map ..)) (choR_len st.m y.tier y.k (candR st))
      have h2 : (candR st).length ≤ st.js.length := by rw [candR, List.length_map]; exact List.length_filter_le _ _
      omega
     refine ZY 6 ?_
     refine Zl (fun fz ρ' Γ' => ∃ (e : Nat) (t : Br), fz = (vicR st y).length - e ∧ e ≤ (vicR st y).length ∧ t = each warnJ st ((vicR st y).take e) ∧ ρ' = [(0, pt b), (83, cu.v), (84, .int .i64 (cu.n : Int)), (85, .int .i64 (e : Int))] ∧ Γ' = own cu 31 1 (idsV (vicR st y)) :: BP b t ps :: old W :: Γ) (m := _) (⟨0, st, rfl, by omega, rfl, rfl, rfl⟩) ?_
     rintro fz ρ' Γ' ⟨e, t, hfz, he, ht, rfl, rfl⟩
     have hI : LInv warnJ st (vicR st y) e t := by rw [ht]; exact linv warnE warn_ids hok (vic_mem hok.srt) e he
     have hIo := hI.ord
     refine ZY 5 ?_
     refine Zj ef (fun h4 => ?_) (fun h4 => ?_)
     ·refine S.ownSome cu (by omega) fun sb so hsa _ _ _ => ?_
      obtain ⟨id, hid⟩ := getE (show e < (vicR st y).length by omega)
      obtain ⟨x, hgx⟩ : ∃ x, getJ t.js id = some x := Option.isSome_iff_exists.1 (by rw [isSome_ids hI.ids]; exact vic_mem hok.srt id (List.mem_of_getElem? hid))
      obtain ⟨_, hxi⟩ := getJ_some hgx
      subst hxi
      have hst : each warnJ st ((vicR st y).take (e + 1)) = warnJ t x := by rw [ht]; exact lstep hid (by rw [← ht]; exact hgx)
      have hokt := hI.ok
      have hjx := hokt.at_ hgx
      have hal := Nat.le_trans hjx.len hokt.N16
      obtain ⟨x1, hx1⟩ : ∃ x1 : Bj, x1 = warX t x := ⟨_, rfl⟩
      have hj1 : JOk t.nodes x1 := by rw [hx1]; exact hjx.warX
      have hidx : x1.id = x.id := by rw [hx1]
      have e1 : x1.till = laterR t.now t.grace := by rw [hx1]
      refine S.bjOpen b t ps x hgx fun ub jb mb ov iv dv mv sb l i av lb db rb qb hF hi hset hrm hJ => ?_
      have hlk : alGet (x.id : Int) l = some (pt (ps x.id)) := by rw [jE_get hokt.srt hF.perm, hgx]; rfl
      have han := hJ.an
      refine ZY 5 ?_
      refine Zv (Zx (e) ef (hsa) ef (by omega)) ?_
      refine Zv (Zo (cu) (e) ef (hsa) (idsV_get hid)) ?_
      refine ZY 8 ?_
      refine Zy ?_
      refine Zv (q_lookup1 (pt (ps x.id)) Tryz.underlying82 Tryz.underlying31 Tryz.zv86.h rfl rfl rfl (by rw [hlk]; rfl)) ?_
      refine ZY 3 ?_
      refine Zd ([blk b 84 (bC t ub jb mb ov iv dv mv sb).toArray]) [] (Zra 0 11) ?_
      refine ZY 8 ?_
      refine ZY 3 ?_
      refine Z1 (i := 11) ef ef ?_
      refine  (Zcp Ze (later_S t.now t.grace hokt.now (by have := hokt.g2; omega)) ?_)
      refine Zk [12, 13] ?_
      refine ZY 2 ?_
      refine Z1 (i := 14) ef ef ?_
      refine (S.store (cs' := [_, _, _, _, _, _, _, _, _, _, _, _, _, _, _, _, _]) Eo.h rfl rfl rfl rfl rfl ?_)
      refine Zk [15, 16] ?_
      refine ZY 2 ?_
      refine Z1 (i := 17) ef ef ?_
      refine (S.store (cs' := [_, _, _, _, _, _, _, _, _, _, _, _, _, _, _, _, _]) Eo.h rfl rfl rfl rfl rfl ?_)
      refine Zk [] ?_
      refine ZD ?_
      refine ZY 2 ?_
      refine S.blkAs (ps x.id) (bjC x1 av lb db rb qb).toArray (by rw [hx1]) ?_
      refine ZY 8 ?_
      refine Zl (fun fy ρ' Γ' => ∃ (e3 : Nat) (os : List Od) (ov2 : SV), fy = x.at_.length - e3 ∧ e3 ≤ x.at_.length ∧ os = t.orders ++ (x.at_.take e3).map (warOrd t x) ∧ ov2.n = os.length ∧ os.length = t.orders.length + e3 ∧ ρ' = [(0, pt b), (9, .int .u32 (x.id : Int)), (10, pt (ps x.id)), (83, cu.v), (84, .int .i64 (cu.n : Int)), (85, .int .i64 (e : Int)), (114, av.v), (115, .int .i64 (av.n : Int)), (116, .int .i64 (e3 : Int))] ∧   Γ' = blk (ps x.id) 90 (bjC x1 av lb db rb qb).toArray :: own av 3 1 (nds x.at_) :: optS lb x.loaded :: optS db x.drops :: optR rb x.ran :: savB qb x.id x.sav :: blk b 84 (bC t ub jb mb ov2 iv dv mv sb).toArray :: mapL ub .i64 (setE t.up) :: mapL jb .u32 l :: jT ps t.js i :: jD ps t.js i :: MI mb t.m :: own ov2 97 14 (os.flatMap odC) :: imgs iv t.images :: own dv 31 1 (idsV t.done) :: own mv 31 1 (idsV t.members) :: optS sb t.stops :: own cu 31 1 (idsV (vicR st y)) :: old W :: Γ) (m := _) (⟨0, t.orders, ov, rfl, by omega, by simp, hF.on, rfl, rfl, rfl⟩) ?_
      rintro fy ρ' Γ' ⟨e3, os, ov2, hfy, he3, hos, hov2, hol, rfl, rfl⟩
      refine ZY 5 ?_
      refine Zj ef (fun h5 => ?_) (fun h5 => ?_)
      ·refine S.ownSome av (by omega) fun ab ao haa _ _ _ => ?_
       obtain ⟨z, hz⟩ := getE (show e3 < x.at_.length by omega)
       have htk : x.at_.take (e3 + 1) = x.at_.take e3 ++ [z] := by rw [List.take_add_one, hz]; rfl
       have hos2 : os ++ [((z, { kind := 12, job := x.id, tick := laterR t.now t.grace }) : Od)] = t.orders ++ (x.at_.take (e3 + 1)).map (warOrd t x) := by rw [hos, htk, List.map_append, List.append_assoc]; rfl
       refine ZY 5 ?_
       refine Zv (Zx (e3) ef (haa) ef (by omega)) ?_
       refine Zv (Zo (av) (e3) ef (haa) (by rw [List.getElem?_map, hz]; rfl)) ?_
       refine ZY 8 ?_
       refine ZY 2 ?_
       refine Zv (q_build (pvs := [(_, _), (_, _), (_, _)]) [_, _, _, _, _, _, _, _, _, _, _, _, _] Tryz.z72.h Tryz.p72.h ⟨⟨rfl, rfl⟩, ⟨rfl, rfl⟩, ⟨rfl, rfl⟩, trivial⟩ rfl) ?_
       rw [e1]
       refine Zp (Zc1 Ze (order_S b t ub jb mb ov2 iv dv mv sb z { kind := 12, job := x.id, tick := laterR t.now t.grace } os hov2 (by omega)) ?_)
       rintro v Θ ⟨ov3, hov3, rfl⟩
       refine ZY 2 ?_
       refine Zv (Za ef ef) ?_
       refine ZY 2 ?_
       exact ZX (fy - 1) (⟨e3 + 1, os ++ [((z, { kind := 12, job := x.id, tick := laterR t.now t.grace }) : Od)], ov3, by omega, by omega, hos2, hov3, by rw [List.length_append, List.length_singleton]; omega, rfl, rfl⟩) (by omega)
      ·rw [show x.at_.take e3 = x.at_ by rw [show e3 = x.at_.length by omega, List.take_length]] at hos
       have hwj : warnJ t x = Br.set { t with orders := os } x1 := by rw [warnJ_eq, hos, hx1]
       refine ZY 2 ?_
       refine S.sub (jX (ps x.id) x1 av lb db rb qb (bR b { t with orders := os } ps ub jb mb ov2 iv dv mv sb l i (own cu 31 1 (idsV (vicR st y)) :: old W :: Γ))) (e := by subst hx1; infer_instance) ?_
       refine S.bjClose b { t with orders := os } ps ub jb mb ov2 iv dv mv sb l i x1 av lb db rb qb hi hidx (hset x1 hidx) (BF.set (st := { t with orders := os }) ⟨hokt.oset os, hF.perm, hov2, hF.im, hF.dn, hF.mn, hF.sn⟩ hj1) ⟨by rw [hx1]; exact hJ.an, by rw [hx1]; exact hJ.l, by rw [hx1]; exact hJ.d, by rw [hx1]; exact hJ.r, by rw [hx1]; exact hJ.s⟩ ?_
       rw [← hwj]
       refine Zv (Za ef ef) ?_
       refine ZY 2 ?_
       exact ZX (fz - 1) (⟨e + 1, warnJ t x, by omega, by omega, by rw [hst], rfl, rfl⟩) (by omega)
     ·rw [show (vicR st y).take e = vicR st y by rw [show e = (vicR st y).length by omega, List.take_length]] at ht
      refine Zy ?_
      exact Zfn ef Zq (by rw [hg, ← ht])
    ·refine (S.alloc Tryz.z154.h rfl ?_)
     intro b6
     refine Zk [] ?_
     refine Z1 (i := 19) ef ef ?_
     refine  (Zc1 Ze (Choose_S mb st.m y.tier y.k (own cv 152 2 (cs.flatMap cdC)) cv cs hcn (by omega) hct RdS.own hW) ?_)
     rintro v Θ ⟨cu, rfl, hcun, rfl⟩
     refine Zk [20, 21, 22] ?_
     refine ZY 3 ?_
     refine Z1 (i := 24) ef ef ?_
     refine  (Zs ef ef (cs' := [_, _]) ef ?_)
     refine Zk [25] ?_
     refine Zy ?_
     refine ZD ?_
     refine ZY 2 ?_
     have hvr : jobsR (choR st.m y.tier y.k cs).1 = vicR st y := by rw [hcs9]; rfl
     have hcl2 : (choR st.m y.tier y.k cs).1.length = (vicR st y).length := by rw [← hvr, List.length_map]
     rw [hvr]
     rw [hcl2] at hcun
     refine S.bjClose b st ps ub jb mb ov iv dv mv sb l i y av lb db rb qb hi rfl (hset y rfl) (hF.set hjy) hJ ?_
     rw [set_self hok hgy]
     refine S.ownLen cu fun hc1 hc2 hc3 => ?_
     have hvl : (vicR st y).length ≤ 1000 := by
      have h1 : (vicR st y).length ≤ (candR st).length := Nat.le_trans (Nat.le_of_eq (List.length_map ..)) (choR_len st.m y.tier y.k (candR st))
      have h2 : (candR st).length ≤ st.js.length := by rw [candR, List.length_map]; exact List.length_filter_le _ _
      omega
     refine ZY 6 ?_
     refine Zl (fun fz ρ' Γ' => ∃ (e : Nat) (t : Br), fz = (vicR st y).length - e ∧ e ≤ (vicR st y).length ∧ t = each warnJ st ((vicR st y).take e) ∧ ρ' = [(0, pt b), (83, cu.v), (84, .int .i64 (cu.n : Int)), (85, .int .i64 (e : Int))] ∧ Γ' = own cu 31 1 (idsV (vicR st y)) :: BP b t ps :: old W :: Γ) (m := _) (⟨0, st, rfl, by omega, rfl, rfl, rfl⟩) ?_
     rintro fz ρ' Γ' ⟨e, t, hfz, he, ht, rfl, rfl⟩
     have hI : LInv warnJ st (vicR st y) e t := by rw [ht]; exact linv warnE warn_ids hok (vic_mem hok.srt) e he
     have hIo := hI.ord
     refine ZY 5 ?_
     refine Zj ef (fun h4 => ?_) (fun h4 => ?_)
     ·refine S.ownSome cu (by omega) fun sb so hsa _ _ _ => ?_
      obtain ⟨id, hid⟩ := getE (show e < (vicR st y).length by omega)
      obtain ⟨x, hgx⟩ : ∃ x, getJ t.js id = some x := Option.isSome_iff_exists.1 (by rw [isSome_ids hI.ids]; exact vic_mem hok.srt id (List.mem_of_getElem? hid))
      obtain ⟨_, hxi⟩ := getJ_some hgx
      subst hxi
      have hst : each warnJ st ((vicR st y).take (e + 1)) = warnJ t x := by rw [ht]; exact lstep hid (by rw [← ht]; exact hgx)
      have hokt := hI.ok
      have hjx := hokt.at_ hgx
      have hal := Nat.le_trans hjx.len hokt.N16
      obtain ⟨x1, hx1⟩ : ∃ x1 : Bj, x1 = warX t x := ⟨_, rfl⟩
      have hj1 : JOk t.nodes x1 := by rw [hx1]; exact hjx.warX
      have hidx : x1.id = x.id := by rw [hx1]
      have e1 : x1.till = laterR t.now t.grace := by rw [hx1]
      refine S.bjOpen b t ps x hgx fun ub jb mb ov iv dv mv sb l i av lb db rb qb hF hi hset hrm hJ => ?_
      have hlk : alGet (x.id : Int) l = some (pt (ps x.id)) := by rw [jE_get hokt.srt hF.perm, hgx]; rfl
      have han := hJ.an
      refine ZY 5 ?_
      refine Zv (Zx (e) ef (hsa) ef (by omega)) ?_
      refine Zv (Zo (cu) (e) ef (hsa) (idsV_get hid)) ?_
      refine ZY 8 ?_
      refine Zy ?_
      refine Zv (q_lookup1 (pt (ps x.id)) Tryz.underlying82 Tryz.underlying31 Tryz.zv86.h rfl rfl rfl (by rw [hlk]; rfl)) ?_
      refine ZY 3 ?_
      refine Zd ([blk b 84 (bC t ub jb mb ov iv dv mv sb).toArray]) [] (Zra 0 11) ?_
      refine ZY 8 ?_
      refine ZY 3 ?_
      refine Z1 (i := 11) ef ef ?_
      refine  (Zcp Ze (later_S t.now t.grace hokt.now (by have := hokt.g2; omega)) ?_)
      refine Zk [12, 13] ?_
      refine ZY 2 ?_
      refine Z1 (i := 14) ef ef ?_
      refine (S.store (cs' := [_, _, _, _, _, _, _, _, _, _, _, _, _, _, _, _, _]) Eo.h rfl rfl rfl rfl rfl ?_)
      refine Zk [15, 16] ?_
      refine ZY 2 ?_
      refine Z1 (i := 17) ef ef ?_
      refine (S.store (cs' := [_, _, _, _, _, _, _, _, _, _, _, _, _, _, _, _, _]) Eo.h rfl rfl rfl rfl rfl ?_)
      refine Zk [] ?_
      refine ZD ?_
      refine ZY 2 ?_
      refine S.blkAs (ps x.id) (bjC x1 av lb db rb qb).toArray (by rw [hx1]) ?_
      refine ZY 8 ?_
      refine Zl (fun fy ρ' Γ' => ∃ (e3 : Nat) (os : List Od) (ov2 : SV), fy = x.at_.length - e3 ∧ e3 ≤ x.at_.length ∧ os = t.orders ++ (x.at_.take e3).map (warOrd t x) ∧ ov2.n = os.length ∧ os.length = t.orders.length + e3 ∧ ρ' = [(0, pt b), (9, .int .u32 (x.id : Int)), (10, pt (ps x.id)), (83, cu.v), (84, .int .i64 (cu.n : Int)), (85, .int .i64 (e : Int)), (114, av.v), (115, .int .i64 (av.n : Int)), (116, .int .i64 (e3 : Int))] ∧   Γ' = blk (ps x.id) 90 (bjC x1 av lb db rb qb).toArray :: own av 3 1 (nds x.at_) :: optS lb x.loaded :: optS db x.drops :: optR rb x.ran :: savB qb x.id x.sav :: blk b 84 (bC t ub jb mb ov2 iv dv mv sb).toArray :: mapL ub .i64 (setE t.up) :: mapL jb .u32 l :: jT ps t.js i :: jD ps t.js i :: MI mb t.m :: own ov2 97 14 (os.flatMap odC) :: imgs iv t.images :: own dv 31 1 (idsV t.done) :: own mv 31 1 (idsV t.members) :: optS sb t.stops :: own cu 31 1 (idsV (vicR st y)) :: old W :: Γ) (m := _) (⟨0, t.orders, ov, rfl, by omega, by simp, hF.on, rfl, rfl, rfl⟩) ?_
      rintro fy ρ' Γ' ⟨e3, os, ov2, hfy, he3, hos, hov2, hol, rfl, rfl⟩
      refine ZY 5 ?_
      refine Zj ef (fun h5 => ?_) (fun h5 => ?_)
      ·refine S.ownSome av (by omega) fun ab ao haa _ _ _ => ?_
       obtain ⟨z, hz⟩ := getE (show e3 < x.at_.length by omega)
       have htk : x.at_.take (e3 + 1) = x.at_.take e3 ++ [z] := by rw [List.take_add_one, hz]; rfl
       have hos2 : os ++ [((z, { kind := 12, job := x.id, tick := laterR t.now t.grace }) : Od)] = t.orders ++ (x.at_.take (e3 + 1)).map (warOrd t x) := by rw [hos, htk, List.map_append, List.append_assoc]; rfl
       refine ZY 5 ?_
       refine Zv (Zx (e3) ef (haa) ef (by omega)) ?_
       refine Zv (Zo (av) (e3) ef (haa) (by rw [List.getElem?_map, hz]; rfl)) ?_
       refine ZY 8 ?_
       refine ZY 2 ?_
       refine Zv (q_build (pvs := [(_, _), (_, _), (_, _)]) [_, _, _, _, _, _, _, _, _, _, _, _, _] Tryz.z72.h Tryz.p72.h ⟨⟨rfl, rfl⟩, ⟨rfl, rfl⟩, ⟨rfl, rfl⟩, trivial⟩ rfl) ?_
       rw [e1]
       refine Zp (Zc1 Ze (order_S b t ub jb mb ov2 iv dv mv sb z { kind := 12, job := x.id, tick := laterR t.now t.grace } os hov2 (by omega)) ?_)
       rintro v Θ ⟨ov3, hov3, rfl⟩
       refine ZY 2 ?_
       refine Zv (Za ef ef) ?_
       refine ZY 2 ?_
       exact ZX (fy - 1) (⟨e3 + 1, os ++ [((z, { kind := 12, job := x.id, tick := laterR t.now t.grace }) : Od)], ov3, by omega, by omega, hos2, hov3, by rw [List.length_append, List.length_singleton]; omega, rfl, rfl⟩) (by omega)
      ·rw [show x.at_.take e3 = x.at_ by rw [show e3 = x.at_.length by omega, List.take_length]] at hos
       have hwj : warnJ t x = Br.set { t with orders := os } x1 := by rw [warnJ_eq, hos, hx1]
       refine ZY 2 ?_
       refine S.sub (jX (ps x.id) x1 av lb db rb qb (bR b { t with orders := os } ps ub jb mb ov2 iv dv mv sb l i (own cu 31 1 (idsV (vicR st y)) :: old W :: Γ))) (e := by subst hx1; infer_instance) ?_
       refine S.bjClose b { t with orders := os } ps ub jb mb ov2 iv dv mv sb l i x1 av lb db rb qb hi hidx (hset x1 hidx) (BF.set (st := { t with orders := os }) ⟨hokt.oset os, hF.perm, hov2, hF.im, hF.dn, hF.mn, hF.sn⟩ hj1) ⟨by rw [hx1]; exact hJ.an, by rw [hx1]; exact hJ.l, by rw [hx1]; exact hJ.d, by rw [hx1]; exact hJ.r, by rw [hx1]; exact hJ.s⟩ ?_
       rw [← hwj]
       refine Zv (Za ef ef) ?_
       refine ZY 2 ?_
       exact ZX (fz - 1) (⟨e + 1, warnJ t x, by omega, by omega, by rw [hst], rfl, rfl⟩) (by omega)
     ·rw [show (vicR st y).take e = vicR st y by rw [show e = (vicR st y).length by omega, List.take_length]] at ht
      refine Zy ?_
      exact Zfn ef Zq (by rw [hg, ← ht])
end BN
end Go.Proofs.YtdackcibfkkniaaGreatDoor
namespace Go.Proofs.YtdackcibfkkniaaGreatDoor
open Go.RowKit
namespace BN
theorem srtN_perm (l : List Nat) : (srtN l).Perm l := List.mergeSort_perm l _
theorem srtN_srt (l : List Nat) : (srtN l).Pairwise (· ≤ ·) := by
 have := List.pairwise_mergeSort (le := fun a b : Nat => decide (a ≤ b)) (fun a b c h1 h2 => by simp only [decide_eq_true_eq] at *; omega) (fun a b => by simp only [Bool.or_eq_true, decide_eq_true_eq]; omega) l
 exact this.imp fun h => by simpa using h
theorem srtN_len (l : List Nat) : (srtN l).length = l.length := (srtN_perm l).length_eq
theorem sortN_S (s : SV) (l : List Nat) (hl : l.length ≤ 65535) (hsn : s.n = l.length) : Spec Tryz.prog 101 [s.v] [own s 31 1 (idsV l)] fun Γ _ Θ => Θ = own s 31 1 (idsV (srtN l)) :: Γ := by
 have h := Go.Proofs.YtdackcibfkkniaaGreatDoor.Sort_S s (l.map fun n : Nat => (n : Int)).toArray (by simpa using hl) (by simpa using hsn)
 have e : ∀ m : List Nat, uA (m.map fun n : Nat => (n : Int)).toArray = idsV m := fun m => by
  show (m.map fun n : Nat => (n : Int)).map (Value.int .u32) = _
  rw [List.map_map]; rfl
 rw [e] at h
 refine h.weaken fun Γ => ⟨Γ, Ent.refl _, ?_⟩
 rintro v Θ ⟨R, h1, h2, rfl⟩
 refine ⟨_, rfl, ?_⟩
 have h3 : R.toList = (srtN l).map fun n : Nat => (n : Int) := by
  refine (h1.trans ?_).eq_of_pairwise (le := fun a b : Int => a ≤ b) (fun a b _ _ h1 h2 => Int.le_antisymm h1 h2) h2 (List.pairwise_map.2 ((srtN_srt l).imp fun h => by omega))
  show ((l.map fun n : Nat => (n : Int)).toArray).toList.Perm _
  exact ((srtN_perm l).symm.map _)
 have h4 : uA R = idsV (srtN l) := by
  show R.toList.map (Value.int .u32) = _
  rw [h3, List.map_map]; rfl
 rw [h4]
 exact Ent.refl _
theorem Ent.unfocusX {b : Nat} {st : Br} {ps : Nat → Nat} {ub jb mb : Nat} {ov iv dv mv : SV} {sb : Option Nat} {l : List (Int × Value)} {i : Nat} {x x' : Bj} (hx : st.js[i]? = some x) (hid : x'.id = x.id) (hset : setJ st.js x' = st.js.set i x') (Γ : List Assn) :
  Ent (JI (ps x.id) x' :: bR b st ps ub jb mb ov iv dv mv sb l i Γ) (bX b (st.set x') ps ub jb mb ov iv dv mv sb l Γ) := by
 have h1 : Ent (JI (ps x.id) x' :: jT ps st.js i :: jD ps st.js i :: MI mb st.m :: own ov 97 14 (st.orders.flatMap odC) :: imgs iv st.images :: own dv 31 1 (idsV st.done) :: own mv 31 1 (idsV st.members) :: optS sb st.stops :: Γ) (alls (st.js.set i x') (jI ps) :: MI mb st.m :: own ov 97 14 (st.orders.flatMap odC) :: imgs iv st.images :: own dv 31 1 (idsV st.done) :: own mv 31 1 (idsV st.members) :: optS sb st.stops :: Γ) := by
  rw [← hid]
  exact Ent.allsBack (jI ps) (x' := x') hx _
 have h3 : (st.set x').js = st.js.set i x' := hset
 rw [← h3] at h1
 exact (((Ent.swap _ _ _).trans ((Ent.swap _ _ _).cons _)).trans (((Ent.swap _ _ _).cons _).cons _)).trans ((((h1.cons _).cons _).cons _))
section
variable {n : Nat} {md : Bool} {w0 : WM md} {ρ : Env} {Γ Δ : List Assn} {φ : Act → World → Prop}
theorem S.bxFocus (b : Nat) (st : Br) (ps : Nat → Nat) (ub jb mb : Nat) (ov iv dv mv : SV) (sb : Option Nat) (l : List (Int × Value)) {i : Nat} {x : Bj} (hx : st.js[i]? = some x) [q : Picks (bX b st ps ub jb mb ov iv dv mv sb l []) Γ Δ] (k : ∀ av lb db rb qb, JF x av lb db rb qb → S n w0 ρ (jX (ps x.id) x av lb db rb qb (bR b st ps ub jb mb ov iv dv mv sb l i Δ)) φ) : S n w0 ρ Γ φ := by
 refine S.ent (q.ent.trans (Ent.focus hx Δ)) ?_
 refine S.jiOpen (ps x.id) x fun av lb db rb qb q1 q2 q3 q4 q5 => ?_
 exact k av lb db rb qb ⟨q1, q2, q3, q4, q5⟩
theorem S.bxClose (b : Nat) (st : Br) (ps : Nat → Nat) (ub jb mb : Nat) (ov iv dv mv : SV) (sb : Option Nat) (l : List (Int × Value)) (i : Nat) {x : Bj} (x' : Bj) (av : SV) (lb db rb qb : Option Nat) (hx : st.js[i]? = some x) (hid : x'.id = x.id) (hset : setJ st.js x' = st.js.set i x') (hJ : JF x' av lb db rb qb)
  [q : Picks (jX (ps x.id) x' av lb db rb qb (bR b st ps ub jb mb ov iv dv mv sb l i [])) Γ Δ] (k : S n w0 ρ (bX b (st.set x') ps ub jb mb ov iv dv mv sb l Δ) φ) : S n w0 ρ Γ φ := by
 refine S.ent ?_ k
 have h1 : Ent (jX (ps x.id) x' av lb db rb qb (bR b st ps ub jb mb ov iv dv mv sb l i Δ)) (JI (ps x.id) x' :: bR b st ps ub jb mb ov iv dv mv sb l i Δ) :=
  (Ent.pack (jX (ps x.id) x' av lb db rb qb []) _).trans (Ent.mono1 _ fun _ s => ⟨av, lb, db, rb, qb, hJ.an, hJ.l, hJ.d, hJ.r, hJ.s, s⟩)
 exact q.ent.trans (h1.trans (Ent.unfocusX hx hid hset Δ))
end
abbrev goX (x : Bj) : Bj := { x with ran := some [] }
abbrev goOrd (st : Br) (x : Bj) (n : Nat) : Od := (n, { kind := 5, gen := st.gen, job := x.id })
theorem goJob_eq (st : Br) (x : Bj) : goJob st x = Br.set { st with stops := some (x.at_.foldl sAdd (st.stops.getD [])), orders := st.orders ++ x.at_.map (goOrd st x) } (goX x) := rfl
theorem JOk.goX {N : Nat} {x : Bj} (h : JOk N x) : JOk N (goX x) := ⟨h.id1, h.id2, h.tier, h.k1, h.kn, h.w, h.cr, h.wk, h.rise, h.at_, h.drop, h.lod, fun r hr => (by cases hr; intro y hy; cases hy), h.ld, h.svl⟩
theorem fold_nodup : ∀ (l s : List Nat), s.Nodup → (l.foldl sAdd s).Nodup
 | [], _, h => h
 | x :: l, s, h => fold_nodup l (sAdd s x) (sAdd_nodup h x)
theorem BrOk.stset {st : Br} (h : BrOk st) {s : Option (List Nat)} (hs : ∀ d, s = some d → d.Nodup) : BrOk { st with stops := s } := ⟨h.R, h.N, h.mok, h.srt, fun x hx => h.job x hx, h.few, h.q1, h.q2, h.g1, h.g2, h.now, h.fin, h.mem, hs⟩
theorem goE : EachOk goJob := by
 refine ⟨fun st x h hx => ?_, fun st x id h => by rw [goJob_eq]; exact set_oth { st with stops := some (x.at_.foldl sAdd (st.stops.getD [])), orders := st.orders ++ x.at_.map (goOrd st x) } (x := BN.goX x) h, fun st x h hx => ?_⟩
 ·have hn : ∀ d, some (x.at_.foldl sAdd (st.stops.getD [])) = some d → d.Nodup := fun d hd => by
   cases hd
   refine fold_nodup _ _ ?_
   cases hs : st.stops with
   | none => exact List.nodup_nil
   | some s => exact h.stp s hs
  have h2 : BrOk { st with stops := some (x.at_.foldl sAdd (st.stops.getD [])), orders := st.orders ++ x.at_.map (goOrd st x) } := (h.oset (st.orders ++ x.at_.map (goOrd st x))).stset hn
  rw [goJob_eq]
  exact BrOk.set h2 (x := BN.goX x) (h.at_ hx).goX
 ·rw [goJob_eq]
  show (st.orders ++ x.at_.map (goOrd st x)).length ≤ _
  rw [List.length_append, List.length_map]
  have := len16 h hx
  omega
theorem go_ids (st : Br) (x : Bj) : (goJob st x).js.map (·.id) = st.js.map (·.id) := setJ_ids st.js (BN.goX x)
theorem go_same (st : Br) (x : Bj) : (goJob st x).members = st.members ∧ (goJob st x).gen = st.gen ∧ (goJob st x).stops.isSome = true := ⟨rfl, rfl, rfl⟩
theorem each_go_same {l : List Nat} : ∀ {st : Br}, st.stops.isSome = true → (each goJob st l).members = st.members ∧ (each goJob st l).stops.isSome = true := by
 induction l with
 | nil => exact fun h => ⟨rfl, h⟩
 | cons id l ih =>
  intro st h
  have e : each goJob st (id :: l) = each goJob (match getJ st.js id with | none => st | some x => goJob st x) l := rfl
  rw [e]
  cases hg : getJ st.js id with
  | none => exact ih h
  | some x =>
   obtain ⟨a1, a2, a3⟩ := go_same st x
   obtain ⟨b1, b2⟩ := ih (st := goJob st x) a3
   exact ⟨b1.trans a1, b2⟩
abbrev run0 (st : Br) (l : List Nat) : Br := { st with gen := u32 (st.gen + 1), members := srtN l, fin := laterR st.now st.quantum, stops := some [] }
theorem runR_eq (st : Br) (l : List Nat) : runR st l = each goJob (run0 st l) (srtN l) := rfl
theorem run0_ok {st : Br} (h : BrOk st) {l : List Nat} (hl : l.length ≤ 1000) : BrOk (run0 st l) := ⟨h.R, h.N, h.mok, h.srt, fun x hx => h.job x hx, h.few, h.q1, h.q2, h.g1, h.g2, h.now, later_le _ _, by show (srtN l).length ≤ _; rw [srtN_len]; exact hl, fun d hd => (by cases hd; exact List.nodup_nil)⟩
theorem run_ok {st : Br} (h : BrOk st) {l : List Nat} (hl : l.length ≤ 1000) (hm : ∀ id ∈ l, (getJ st.js id).isSome = true) : BrOk (runR st l) ∧ (runR st l).orders.length ≤ st.orders.length + 16 * l.length := by
 have := linv goE go_ids (run0_ok h hl) (l := srtN l) (fun id hid => hm id ((srtN_perm l).mem_iff.1 hid)) _ (Nat.le_refl _)
 rw [List.take_length] at this
 rw [runR_eq]
 exact ⟨this.ok, by have := this.ord; rw [srtN_len] at this; exact this⟩
set_option maxHeartbeats 4000000 in
theorem run_S (b : Nat) (st : Br) (ps : Nat → Nat) (s : SV) (xs : List Nat) (hsn : s.n = xs.length) (hxl : xs.length ≤ 1000) (hxm : ∀ id ∈ xs, (getJ st.js id).isSome = true) (hl : st.orders.length ≤ 800000) : Spec Tryz.prog 90 [pt b, s.v] [BP b st ps, own s 31 1 (idsV xs)] fun Γ _ Θ => Θ = BP b (runR st xs) ps :: Γ := by
 refine Spec.bpOk fun hok => ?_
 have hok0 := run0_ok hok hxl
 have hxm2 : ∀ id ∈ srtN xs, (getJ (run0 st xs).js id).isSome = true := fun id hid => hxm id ((srtN_perm xs).mem_iff.1 hid)
 have hsl := srtN_len xs
 refine Zbd Tryz.func90 rfl Tryz.ntmps90 fun w0 Γ => Zsh ?_
 refine ZY 3 ?_
 refine Zp (Zc1 Ze (sortN_S s xs (by omega) hsn) ?_)
 rintro v Θ rfl
 refine S.bpOpen b st ps fun ub jb mb ov iv dv mv sb l hF => ?_
 refine ZY 7 ?_
 refine Zv (q_addW rfl rfl) ?_
 rw [wrap32]
 refine ZY 8 ?_
 refine ZY 5 ?_
 refine Zd ([blk b 84 (bC { st with gen := u32 (st.gen + 1), members := srtN xs } ub jb mb ov iv dv s sb).toArray]) [13] (Zra 0 10) ?_
 refine ZY 8 ?_
 refine ZY 2 ?_
 refine Z1 (i := 10) ef ef ?_
 refine  (Zcp Ze (later_S st.now st.quantum hok.now (by have := hok.q2; omega)) ?_)
 refine Zk [11, 12] ?_
 refine ZY 2 ?_
 refine Z1 (i := 13) ef ef ?_
 refine (S.store (cs' := [_, _, _, _, _, _, _, _, _, _, _, _, _, _, _, _, _, _]) Eo.h rfl rfl rfl rfl rfl ?_)
 refine ZL ([]) [] ?_
 refine ZD ?_
 refine ZY 3 ?_
 refine Zp (S.makeMap .i64 rfl ?_)
 intro b36
 refine ZY 6 ?_
 refine S.conv (mapL b36 .i64 []) (show Ent _ (optS (some b36) (some []) :: _) from Ent.opt2 (s := some []) rfl _) ?_
 refine S.blkAs b (bC (run0 st xs) ub jb mb ov iv dv s (some b36)).toArray rfl ?_
 refine S.sub (bX b (run0 st xs) ps ub jb mb ov iv dv s (some b36) l Γ) ?_
 have hF0 : BF (run0 st xs) ps ov iv dv s (some b36) l := ⟨hok0, hF.perm, hF.on, hF.im, hF.dn, by show s.n = (srtN xs).length; omega, rfl⟩
 clear hF
 refine ZY 5 ?_
 refine Zl (fun fz ρ' Γ' => ∃ (e : Nat) (t : Br) (ub jb mb : Nat) (ov iv dv : SV) (sb : Option Nat) (l : List (Int × Value)), fz = (srtN xs).length - e ∧ e ≤ (srtN xs).length ∧ t = each goJob (run0 st xs) ((srtN xs).take e) ∧ BF t ps ov iv dv s sb l ∧ ρ' = [(0, pt b), (39, s.v), (40, .int .i64 (s.n : Int)), (41, .int .i64 (e : Int))] ∧ Γ' = bX b t ps ub jb mb ov iv dv s sb l Γ) (m := _) (⟨0, run0 st xs, ub, jb, mb, ov, iv, dv, some b36, l, rfl, by omega, rfl, hF0, rfl, rfl⟩) ?_
 rintro fz ρ' Γ' ⟨e, t, ub, jb, mb, ov, iv, dv, sb, l, hfz, he, ht, hF, rfl, rfl⟩
 have hI : LInv goJob (run0 st xs) (srtN xs) e t := by rw [ht]; exact linv goE go_ids hok0 hxm2 e he
 have hIo : t.orders.length ≤ st.orders.length + 16 * e := hI.ord
 obtain ⟨hmem, hsome⟩ : t.members = srtN xs ∧ t.stops.isSome = true := by rw [ht]; exact each_go_same (st := run0 st xs) rfl
 refine ZY 5 ?_
 refine Zj ef (fun h1 => ?_) (fun h1 => ?_)
 ·obtain ⟨id, hid⟩ := getE (show e < (srtN xs).length by omega)
  obtain ⟨x, hgx⟩ : ∃ x, getJ t.js id = some x := Option.isSome_iff_exists.1 (by rw [isSome_ids hI.ids]; exact hxm2 id (List.mem_of_getElem? hid))
  obtain ⟨_, hxi⟩ := getJ_some hgx
  subst hxi
  have hst : each goJob (run0 st xs) ((srtN xs).take (e + 1)) = goJob t x := by rw [ht]; exact lstep hid (by rw [← ht]; exact hgx)
  have hokt := hI.ok
  have hjx := hokt.at_ hgx
  have hal := Nat.le_trans hjx.len hokt.N16
  obtain ⟨ss, hss⟩ : ∃ ss, t.stops = some ss := Option.isSome_iff_exists.1 hsome
  obtain ⟨q, rfl⟩ : ∃ q, sb = some q := by have := hF.sn; rw [hss] at this; cases sb with | none => cases this | some q => exact ⟨q, rfl⟩
  obtain ⟨x1, hx1⟩ : ∃ x1 : Bj, x1 = goX x := ⟨_, rfl⟩
  have hj1 : JOk t.nodes x1 := by rw [hx1]; exact hjx.goX
  have hidx : x1.id = x.id := by rw [hx1]
  refine S.ownSome s (by omega) fun ib io hia _ _ _ => ?_
  obtain ⟨i, hi, hset, _⟩ := getJ_at hokt.srt hgx
  refine S.bxFocus b t ps ub jb mb ov iv dv s (some q) l hi fun av lb db rb qb hJ => ?_
  refine S.conv (optS (some q) t.stops) (Ent.opt1 hss _) ?_
  have hlk : alGet (x.id : Int) l = some (pt (ps x.id)) := by rw [jE_get hokt.srt hF.perm, hgx]; rfl
  have han := hJ.an
  refine ZY 5 ?_
  refine Zv (Zx (e) ef (hia) ef (by omega)) ?_
  refine Zv (Zo (s) (e) ef (hia) (by rw [hmem]; exact idsV_get hid)) ?_
  refine ZY 8 ?_
  refine Zy ?_
  refine Zv (q_lookup1 (pt (ps x.id)) Tryz.underlying82 Tryz.underlying31 Tryz.zv86.h rfl rfl rfl (by rw [hlk]; rfl)) ?_
  refine ZY 5 ?_
  refine Zp (S.makeMap .i64 rfl ?_)
  intro b52
  refine ZY 6 ?_
  refine S.blkAs (ps x.id) (bjC x1 av lb db (some b52) qb).toArray (by rw [hx1]) ?_
  refine ZY 8 ?_
  refine Zl (fun fy ρ' Γ' => ∃ (e3 : Nat) (s3 : List Nat) (os : List Od) (ov2 : SV), fy = x.at_.length - e3 ∧ e3 ≤ x.at_.length ∧ s3 = (x.at_.take e3).foldl sAdd ss ∧ os = t.orders ++ (x.at_.take e3).map (goOrd t x) ∧ ov2.n = os.length ∧ os.length = t.orders.length + e3 ∧ ρ' = [(0, pt b), (5, .int .u32 (x.id : Int)), (6, pt (ps x.id)), (39, s.v), (40, .int .i64 (s.n : Int)), (41, .int .i64 (e : Int)), (58, av.v), (59, .int .i64 (av.n : Int)), (60, .int .i64 (e3 : Int))] ∧   Γ' = blk (ps x.id) 90 (bjC x1 av lb db (some b52) qb).toArray :: mapL b52 .i64 [] :: mapL q .i64 (setE s3) :: own av 3 1 (nds x.at_) :: optS lb x.loaded :: optS db x.drops :: savB qb x.id x.sav :: blk b 84 (bC t ub jb mb ov2 iv dv s (some q)).toArray :: mapL ub .i64 (setE t.up) :: mapL jb .u32 l :: jT ps t.js i :: jD ps t.js i :: MI mb t.m :: own ov2 97 14 (os.flatMap odC) :: imgs iv t.images :: own dv 31 1 (idsV t.done) :: own s 31 1 (idsV t.members) :: Γ) (m := _) (⟨0, ss, t.orders, ov, rfl, by omega, rfl, by simp, hF.on, rfl, rfl, rfl⟩) ?_
  rintro fy ρ' Γ' ⟨e3, s3, os, ov2, hfy, he3, hs3, hos, hov2, hol, rfl, rfl⟩
  refine ZY 5 ?_
  refine Zj ef (fun h2 => ?_) (fun h2 => ?_)
  ·refine S.ownSome av (by omega) fun ab ao haa _ _ _ => ?_
   obtain ⟨z, hz⟩ := getE (show e3 < x.at_.length by omega)
   have htk : x.at_.take (e3 + 1) = x.at_.take e3 ++ [z] := by rw [List.take_add_one, hz]; rfl
   have hos2 : os ++ [((z, { kind := 5, gen := t.gen, job := x.id }) : Od)] = t.orders ++ (x.at_.take (e3 + 1)).map (goOrd t x) := by rw [hos, htk, List.map_append, List.append_assoc]; rfl
   have hs32 : sAdd s3 z = (x.at_.take (e3 + 1)).foldl sAdd ss := by rw [htk, List.foldl_append, ← hs3]; rfl
   refine ZY 5 ?_
   refine Zv (Zx (e3) ef (haa) ef (by omega)) ?_
   refine Zv (Zo (av) (e3) ef (haa) (by rw [List.getElem?_map, hz]; rfl)) ?_
   refine ZY 8 ?_
   refine Zy ?_
   refine Zp (Zc1 Ze (add_S q s3 z) ?_)
   rintro v Θ rfl
   refine ZY 8 ?_
   refine Zy ?_
   refine Zv (q_build (pvs := [(_, _), (_, _), (_, _)]) [_, _, _, _, _, _, _, _, _, _, _, _, _] Tryz.z72.h Tryz.p72.h ⟨⟨rfl, rfl⟩, ⟨rfl, rfl⟩, ⟨rfl, rfl⟩, trivial⟩ rfl) ?_
   refine Zp (Zc1 Ze (order_S b t ub jb mb ov2 iv dv s (some q) z { kind := 5, gen := t.gen, job := x.id } os hov2 (by omega)) ?_)
   rintro v Θ ⟨ov3, hov3, rfl⟩
   refine ZY 2 ?_
   refine Zv (Za ef ef) ?_
   refine ZY 2 ?_
   exact ZX (fy - 1) (⟨e3 + 1, sAdd s3 z, os ++ [((z, { kind := 5, gen := t.gen, job := x.id }) : Od)], ov3, by omega, by omega, hs32, hos2, hov3, by rw [List.length_append, List.length_singleton]; omega, rfl, rfl⟩) (by omega)
  ·rw [show x.at_.take e3 = x.at_ by rw [show e3 = x.at_.length by omega, List.take_length]] at hos hs3
   have hwj : goJob t x = Br.set { t with stops := some s3, orders := os } x1 := by rw [goJob_eq, hos, hs3, hx1, hss]; rfl
   have hokg : BrOk (goJob t x) := goE.ok t x hokt hgx
   have hF1 : BF (goJob t x) ps ov2 iv dv s (some q) l := ⟨hokg, by rw [hwj]; show l.Perm ((setJ t.js x1).map (jE ps)); rw [jE_set]; exact hF.perm, by rw [hwj]; exact hov2, by rw [hwj]; exact hF.im, by rw [hwj]; exact hF.dn, by rw [hwj]; exact hF.mn, by rw [hwj]; rfl⟩
   refine ZY 2 ?_
   refine S.conv (mapL q .i64 (setE s3)) (show Ent _ (optS (some q) (some s3) :: _) from Ent.opt2 (s := some s3) rfl _) ?_
   refine S.conv (mapL b52 .i64 []) (show Ent _ (optR (some b52) x1.ran :: _) by rw [hx1]; exact Ent.refl _) ?_
   refine S.sub (jX (ps x.id) x1 av lb db (some b52) qb (bR b { t with stops := some s3, orders := os } ps ub jb mb ov2 iv dv s (some q) l i Γ)) (e := by subst hx1; infer_instance) ?_
   refine S.bxClose b { t with stops := some s3, orders := os } ps ub jb mb ov2 iv dv s (some q) l i x1 av lb db (some b52) qb hi hidx (hset x1 hidx) ⟨by rw [hx1]; exact hJ.an, by rw [hx1]; exact hJ.l, by rw [hx1]; exact hJ.d, by rw [hx1]; rfl, by rw [hx1]; exact hJ.s⟩ ?_
   rw [← hwj]
   refine Zv (Za ef ef) ?_
   refine ZY 2 ?_
   exact ZX (fz - 1) (⟨e + 1, goJob t x, ub, jb, mb, ov2, iv, dv, some q, l, by omega, by omega, by rw [hst], hF1, rfl, rfl⟩) (by omega)
 ·rw [show (srtN xs).take e = srtN xs by rw [show e = (srtN xs).length by omega, List.take_length]] at ht
  refine Zy ?_
  refine S.bpClose b t ps ub jb mb ov iv dv s sb l hF ?_
  exact Zfn ef Zq (by rw [runR_eq, ← ht])
end BN
end Go.Proofs.YtdackcibfkkniaaGreatDoor
namespace Go.Proofs.YtdackcibfkkniaaGreatDoor
open Go.RowKit
namespace BN
theorem repTry_first {m : Mx} {j : Nat} {r : Mv × Mx} : ∀ {p : Nat}, repTry m j p = some r → ∃ i, i < p ∧ moveR m j i = (some r.1, r.2) ∧ ∀ k, k < i → (moveR m j k).1 = none
 | 0, h => by cases h
 | p + 1, h => by
  rw [repTry] at h
  cases hr : repTry m j p with
  | some r' =>
   rw [hr] at h
   simp only [Option.some.injEq] at h
   subst h
   obtain ⟨i, h3, h4, h5⟩ := repTry_first hr
   exact ⟨i, by omega, h4, h5⟩
  | none =>
   rw [hr] at h
   simp only at h
   cases hv : moveR m j p with
   | mk x m' =>
    rw [hv] at h
    cases x with
    | none => cases h
    | some x =>
     simp only [Option.some.injEq] at h
     subst h
     exact ⟨p, by omega, hv, repTry_none hr⟩
def Mvs (m : Mx) : List Mv → Mx → Prop
 | [], m' => m' = m
 | x :: xs, m' => (moveR m x.1 x.2.2).1 = some x ∧ Mvs (moveR m x.1 x.2.2).2 xs m'
theorem go_append {m m1 m2 : Mx} {xs ys : List Mv} (h : Mvs m xs m1) (h2 : Mvs m1 ys m2) : Mvs m (xs ++ ys) m2 := by
 induction xs generalizing m with
 | nil => rw [show m1 = m from h] at h2; exact h2
 | cons x xs ih => exact ⟨h.1, ih h.2⟩
theorem go_one {m m' : Mx} {j : Nat} {z : Int} {x : Mv} (h : moveR m j z = (some x, m')) : Mvs m [x] m' := by
 obtain ⟨y, _, _, rfl, _⟩ := moveR_some h
 refine ⟨by rw [h], ?_⟩
 show m' = _
 rw [h]
theorem repRow_go {m0 : Mx} {j : Nat} {ids : List Nat} {a : Mx × List Mv} (h : Mvs m0 a.2 a.1) : ∀ q, Mvs m0 (repRow j ids a q).2 (repRow j ids a q).1
 | 0 => h
 | q + 1 => by
  have ih := repRow_go (ids := ids) h q (j := j)
  rw [repRow]
  cases ht : repTry (repRow j ids a q).1 (ids.getD q 0) j with
  | none => exact ih
  | some r =>
   obtain ⟨i, _, hv, _⟩ := repTry_first ht
   exact go_append ih (go_one hv)
theorem repUp_go (m : Mx) : ∀ k, Mvs m (repUp m k).2 (repUp m k).1
 | 0 => rfl
 | k + 1 => repRow_go (repUp_go m k) _
theorem repack_go (m : Mx) : Mvs m (repackR m).2 (repackR m).1 := repUp_go m _
abbrev idNs (x : Jb) : Nat × Bs := (x.id, x.ns)
structure Keep (m m' : Mx) : Prop where
 ok : MxOk m'
 R : m'.R = m.R
 N : m'.N = m.N
 up : m'.up = m.up
 js : m'.js.map idNs = m.js.map idNs
theorem Keep.refl {m : Mx} (h : MxOk m) : Keep m m := ⟨h, rfl, rfl, rfl, rfl⟩
theorem Keep.trans {a b c : Mx} (h : Keep a b) (h2 : Keep b c) : Keep a c := ⟨h2.ok, h2.R.trans h.R, h2.N.trans h.N, h2.up.trans h.up, h2.js.trans h.js⟩
theorem reRow_keep (js : List Jb) (j t : Nat) : (reRow js j t).map idNs = js.map idNs := by
 rw [reRow, List.map_map]
 refine List.map_congr_left fun x _ => ?_
 show idNs (if x.id = j then _ else x) = _
 split <;> rfl
theorem Keep.move {m : Mx} (hm : MxOk m) (j : Nat) (z : Int) : Keep m (moveR m j z).2 := by
 obtain ⟨h1, h2, h3⟩ := moveR_N m j z
 refine ⟨moveR_ok hm j z, h1, h2, h3, ?_⟩
 cases hv : moveR m j z with
 | mk x m' =>
  cases x with
  | none => rw [(moveR_none hv).1]
  | some x =>
   obtain ⟨y, _, _, _, e⟩ := moveR_some hv
   rw [e]
   exact reRow_keep _ _ _
theorem Keep.go {xs : List Mv} : ∀ {m m' : Mx}, MxOk m → Mvs m xs m' → Keep m m' := by
 induction xs with
 | nil => intro m m' hm h; rw [show m' = m from h]; exact .refl hm
 | cons x xs ih => intro m m' hm h; exact (Keep.move hm x.1 x.2.2).trans (ih (moveR_ok hm _ _) h.2)
theorem Keep.repack {m : Mx} (hm : MxOk m) : Keep m (repackR m).1 := Keep.go hm (repack_go m)
theorem Keep.ids {m m' : Mx} (h : Keep m m') : m'.js.map (·.id) = m.js.map (·.id) := by
 have := congrArg (List.map Prod.fst) h.js
 simpa [List.map_map, Function.comp_def] using this
end BN
end Go.Proofs.YtdackcibfkkniaaGreatDoor
namespace Go.Proofs.YtdackcibfkkniaaGreatDoor
open Go.RowKit
namespace BN
theorem rowIds_len {m : Mx} (_h : MxOk m) (z : Int) : (rowIds m z).length ≤ 128 := by
 unfold rowIds
 split
 ·rw [List.length_map]
  have h2 := rowJ_len m z.toNat
  omega
 ·exact Nat.zero_le _
theorem fillIds_len {m : Mx} (h : MxOk m) (z : Int) : (fillIds m z).length ≤ 128 := by
 unfold fillIds
 split
 ·rw [List.length_map]
  have h1 := fillUp_len m z.toNat m.R
  have := h.R8
  omega
 ·exact Nat.zero_le _
theorem startUp_zero (b : Br) (row : Int) : startUp b row 0 = b := rfl
theorem startUp_no {b : Br} {row : Int} {i : Nat} (h : (nextR b.m row).2 = false) : startUp b row (i + 1) = b := by rw [startUp, if_pos h]
theorem startUp_go {b : Br} {row : Int} {i : Nat} (h : (nextR b.m row).2 = true) (h2 : 0 < (readyR b (rowIds b.m (nextR b.m row).1)).length) : startUp b row (i + 1) = runR { b with row := (nextR b.m row).1 } (readyR b (rowIds b.m (nextR b.m row).1 ++ fillIds b.m (nextR b.m row).1)) := by
 rw [startUp, if_neg (by rw [h]; decide), if_pos h2]
theorem startUp_on {b : Br} {row : Int} {i : Nat} (h : (nextR b.m row).2 = true) (h2 : ¬ 0 < (readyR b (rowIds b.m (nextR b.m row).1)).length) : startUp b row (i + 1) = startUp b (nextR b.m row).1 i := by
 rw [startUp, if_neg (by rw [h]; decide), if_neg h2]
theorem ready_mem {st : Br} {l : List Nat} : ∀ id ∈ readyR st l, (getJ st.js id).isSome = true := fun id h => by
 have h2 := (List.mem_filter.1 h).2
 cases hg : getJ st.js id with
 | none => rw [hg] at h2; cases h2
 | some x => rfl
theorem ready_len (st : Br) (l : List Nat) : (readyR st l).length ≤ l.length := List.length_filter_le _ _
theorem BrOk.rset {st : Br} (h : BrOk st) (z : Int) : BrOk { st with row := z } := ⟨h.R, h.N, h.mok, h.srt, fun x hx => h.job x hx, h.few, h.q1, h.q2, h.g1, h.g2, h.now, h.fin, h.mem, h.stp⟩
theorem start_ok {st : Br} (h : BrOk st) : ∀ (i : Nat) (row : Int), BrOk (startUp st row i) ∧ (startUp st row i).orders.length ≤ st.orders.length + 4096
 | 0, _ => ⟨h, by rw [startUp_zero]; omega⟩
 | i + 1, row => by
  cases hn : (nextR st.m row).2 with
  | false => rw [startUp_no hn]; exact ⟨h, by omega⟩
  | true =>
   by_cases h2 : 0 < (readyR st (rowIds st.m (nextR st.m row).1)).length
   ·rw [startUp_go hn h2]
    have hl : (readyR st (rowIds st.m (nextR st.m row).1 ++ fillIds st.m (nextR st.m row).1)).length ≤ 256 := by
     have := ready_len st (rowIds st.m (nextR st.m row).1 ++ fillIds st.m (nextR st.m row).1)
     rw [List.length_append] at this
     have := rowIds_len h.mok (nextR st.m row).1
     have := fillIds_len h.mok (nextR st.m row).1
     omega
    obtain ⟨a, b⟩ := run_ok (h.rset (nextR st.m row).1) (l := readyR st (rowIds st.m (nextR st.m row).1 ++ fillIds st.m (nextR st.m row).1)) (by omega) (ready_mem (st := st))
    exact ⟨a, Nat.le_trans b (by show st.orders.length + _ ≤ _; omega)⟩
   ·rw [startUp_on hn h2]; exact start_ok h i _
set_option maxHeartbeats 4000000 in
theorem start_S (b : Nat) (st : Br) (ps : Nat → Nat) (hl : st.orders.length ≤ 800000) {W : World} (hW : TabW W) : Spec Tryz.prog 47 [pt b] [BP b st ps, old W] fun Γ _ Θ => Θ = BP b (startUp st st.row st.rows) ps :: old W :: Γ := by
 refine Spec.bpOk fun hok => ?_
 have hR8 : st.rows ≤ 8 := by have := hok.mok.R8; rw [hok.R] at this; exact this
 refine Zbd Tryz.func47 rfl Tryz.ntmps47 fun w0 Γ => Zsh ?_
 refine S.bpOpen b st ps fun ub jb mb ov iv dv mv sb l hF => ?_
 refine ZY 8 ?_
 refine ZY 7 ?_
 refine S.bpClose b st ps ub jb mb ov iv dv mv sb l hF ?_
 refine ZY 3 ?_
 refine Zl (fun fz ρ' Γ' => ∃ (e : Nat) (row : Int), fz = st.rows - e ∧ e ≤ st.rows ∧ startUp st st.row st.rows = startUp st row (st.rows - e) ∧ ρ' = [(0, pt b), (2, .int .i64 row), (13, .int .i64 (st.rows : Int)), (14, .int .i64 (e : Int))] ∧ Γ' = BP b st ps :: old W :: Γ) (m := _) (⟨0, st.row, rfl, by omega, rfl, rfl, rfl⟩) ?_
 rintro fz ρ' Γ' ⟨e, row, hfz, he, hs, rfl, rfl⟩
 refine ZY 5 ?_
 refine Zj ef (fun h1 => ?_) (fun h1 => ?_)
 ·refine S.bpOpen b st ps fun ub jb mb ov iv dv mv sb l hF => ?_
  have hse : st.rows - e = (st.rows - (e + 1)) + 1 := by omega
  rw [hse] at hs
  refine ZY 8 ?_
  refine ZY 2 ?_
  refine Zp (Zcp Ze (Go.Proofs.YtdackcibfkkniaaGreatDoor.Next_S mb st.m row) ?_)
  refine ZY 8 ?_
  refine ZY 4 ?_
  refine Zi ef (fun h2 => ?_) (fun h2 => ?_)
  ·have hgs := hs.trans (startUp_no (by simpa using h2))
   refine Zy ?_
   refine S.bpClose b st ps ub jb mb ov iv dv mv sb l hF ?_
   exact Zf ef Zq (by rw [hgs])
  ·have hnx : (nextR st.m row).2 = true := by simpa using h2
   obtain ⟨z, hz⟩ : ∃ z, z = (nextR st.m row).1 := ⟨_, rfl⟩
   rw [← hz]
   have hrl := rowIds_len hok.mok z
   refine ZY 8 ?_
   refine ZY 6 ?_
   refine Zp (Zc1 Ze (Go.Proofs.YtdackcibfkkniaaGreatDoor.Row_S mb st.m z hW) ?_)
   rintro v Θ ⟨rv, rfl, hrn, rfl⟩
   refine S.bpClose b st ps ub jb mb ov iv dv mv sb l hF ?_
   refine Zp (Zc1 Ze (ready_S b st ps rv (rowIds st.m z) hrn (by omega)) ?_)
   rintro v Θ ⟨u, rfl, hun, rfl⟩
   refine ZY 3 ?_
   refine Zj ef (fun h3 => ?_) (fun h3 => ?_)
   ·have hgs := hs.trans (startUp_go hnx (by rw [← hz]; omega))
    rw [← hz] at hgs
    have hfl := fillIds_len hok.mok z
    have hrdl := ready_len st (rowIds st.m z ++ fillIds st.m z)
    rw [List.length_append] at hrdl
    refine S.bpOpen b st ps fun ub jb mb ov iv dv mv sb l hF => ?_
    refine ZY 8 ?_
    refine Zy ?_
    refine Zd ([blk b 84 (bC { st with row := z } ub jb mb ov iv dv mv sb).toArray]) [15] [] ?_
    refine ZP 0 [1, 2, 3, 4, 5, 6, 8, 9, 10, 11, 12] ef (q_move rfl) ef ?_
    refine ZY 8 ?_
    refine ZY 3 ?_
    refine Z1 (i := 7) ef ef ?_
    refine  (Zc1 Ze (Go.Proofs.YtdackcibfkkniaaGreatDoor.Row_S mb st.m z hW) ?_)
    rintro v Θ ⟨r2, rfl, hr2, rfl⟩
    refine Zk [] ?_
    refine Z1 (i := 13) ef ef ?_
    refine  (Zc1 Ze (Go.Proofs.YtdackcibfkkniaaGreatDoor.Fill_S mb st.m z hW) ?_)
    rintro v Θ ⟨f2, rfl, hf2, rfl⟩
    refine Zk [] ?_
    refine Z1 (i := 14) ef ef ?_
    refine (S.appendOw (s := r2) (f2.n) (idsV (fillIds st.m z)) Tryz.underlying53 Tryz.inf31.h rfl rfl rfl (fun w hs => HasOw.slAt inferInstance hs) (idV_one _) (⟨by omega, by omega⟩) rfl ?_)
    intro a2 ha2
    rw [show idsV (rowIds st.m z) ++ idsV (fillIds st.m z) = idsV (rowIds st.m z ++ fillIds st.m z) from List.map_append.symm]
    refine Zk [] ?_
    refine Z1 (i := 15) ef ef ?_
    refine S.sub (bX b { st with row := z } ps ub jb mb ov iv dv mv sb l (own a2 31 1 (idsV (rowIds st.m z ++ fillIds st.m z)) :: old W :: Γ)) ?_
    refine S.bpClose b { st with row := z } ps ub jb mb ov iv dv mv sb l ⟨hok.rset z, hF.perm, hF.on, hF.im, hF.dn, hF.mn, hF.sn⟩ ?_
    refine  (Zc1 Ze (ready_S b { st with row := z } ps a2 (rowIds st.m z ++ fillIds st.m z) (by rw [List.length_append]; omega) (by rw [List.length_append]; omega)) ?_)
    rintro v Θ ⟨u2, rfl, hu2, rfl⟩
    refine ZL ([]) [] ?_
    refine Z1 (i := 16) ef ef ?_
    refine  (Zc1 Ze (run_S b { st with row := z } ps u2 (readyR { st with row := z } (rowIds st.m z ++ fillIds st.m z)) hu2 (by show (readyR st _).length ≤ _; omega) (ready_mem (st := { st with row := z })) hl) ?_)
    rintro v Θ rfl
    rw [show readyR { st with row := z } (rowIds st.m z ++ fillIds st.m z) = readyR st (rowIds st.m z ++ fillIds st.m z) from rfl]
    refine Zk [] ?_
    refine ZD ?_
    refine Zy ?_
    exact Zf ef Zq (by rw [hgs])
   ·have hgs := hs.trans (startUp_on hnx (by rw [← hz]; omega))
    rw [← hz] at hgs
    refine ZY 2 ?_
    refine Zv (Za ef ef) ?_
    refine ZY 2 ?_
    exact ZX (fz - 1) (⟨e + 1, z, by omega, by omega, hgs, rfl, rfl⟩) (by omega)
 ·rw [show st.rows - e = 0 by omega, startUp_zero] at hs
  refine Zy ?_
  exact Zfn ef Zq (by rw [hs])
theorem leave_wsav {st : Br} {x : Bj} (h : WSav st) : WSav (leaveJ st x) := by
 have hset : ∀ (b : Br) (y : Bj), WSav b → (y.state = 0 → y.sav = none) → WSav (b.set y) := fun b y hb hy z hz h0 => by
  obtain ⟨w, hw, e⟩ := List.mem_map.1 hz
  split at e
  ·subst e; exact hy h0
  ·subst e; exact hb w hw h0
 have hgone : ∀ (b : Br) (y : Bj), WSav b → (y.state = 0 → y.sav = none) → WSav (goneR b y) := fun b y hb hy => by
  unfold goneR
  split
  ·split
   ·exact hset { b with m := (removeR b.m y.id).2 } _ hb fun _ => rfl
   ·intro z hz h0
    exact hb z (List.mem_filter.1 hz).1 h0
  ·exact hset b y hb hy
 unfold leaveJ
 split
 ·unfold dropR
  split
  ·exact hgone _ _ h fun _ => rfl
  ·exact hgone _ _ h fun _ => rfl
 ·exact h
theorem each_wsav {f : Br → Bj → Br} (hf : ∀ st x, WSav st → WSav (f st x)) : ∀ (l : List Nat) {st : Br}, WSav st → WSav (each f st l)
 | [], _, h => h
 | id :: l, st, h => by
  have e : each f st (id :: l) = each f (match getJ st.js id with | none => st | some x => f st x) l := rfl
  rw [e]
  cases hg : getJ st.js id with
  | none => exact each_wsav hf l h
  | some x => exact each_wsav hf l (hf st x h)
abbrev rep (st : Br) : Br := { st with m := (repackR st.m).1 }
theorem rep_ok {st : Br} (h : BrOk st) : BrOk (rep st) := by
 have k := Keep.repack h.mok
 exact h.mset2 k.ok k.N k.R
theorem preempt_ok {st : Br} (h : BrOk st) : BrOk (preemptR st) ∧ (preemptR st).orders.length ≤ st.orders.length + 16 * st.js.length := by
 cases hw : waitR st with
 | nil => rw [pre_nil hw]; exact ⟨h, Nat.le_add_right ..⟩
 | cons id l =>
  cases hlv : st.js.any lvB with
  | true => rw [pre_live hlv]; exact ⟨h, Nat.le_add_right ..⟩
  | false =>
   obtain ⟨y, hy, _⟩ := mem_waitR h.srt (show id ∈ waitR st by rw [hw]; exact List.mem_cons_self ..)
   rw [pre_go hw hlv hy]
   have := linv warnE warn_ids h (vic_mem h.srt (y := y)) _ (Nat.le_refl _)
   rw [List.take_length] at this
   have hv : (vicR st y).length ≤ st.js.length := by
    have h1 : (vicR st y).length ≤ (candR st).length := Nat.le_trans (Nat.le_of_eq (List.length_map ..)) (choR_len st.m y.tier y.k (candR st))
    have h2 : (candR st).length ≤ st.js.length := by rw [candR, List.length_map]; exact List.length_filter_le _ _
    omega
   exact ⟨this.ok, by have := this.ord; omega⟩
theorem BrOk.nset {st : Br} (h : BrOk st) {n : Nat} (hn : n ≤ 4294967295) : BrOk { st with now := n } := ⟨h.R, h.N, h.mok, h.srt, fun x hx => h.job x hx, h.few, h.q1, h.q2, h.g1, h.g2, hn, h.fin, h.mem, h.stp⟩
section
variable {st : Br} {now : Nat}
theorem tick_stale (h : now ≤ st.now) : tickR st now = (12, st) := by rw [tickR, if_pos h]
theorem tick_hold (h : ¬ now ≤ st.now) (h2 : now ≤ st.hold) : tickR st now = (0, { st with now := now }) := by rw [tickR, if_neg h, if_pos h2]
theorem tick_stop (h : ¬ now ≤ st.now) (h2 : ¬ now ≤ st.hold) (h3 : st.stops.isSome = true) (h4 : st.stopped = false ∧ (st.fin ≤ now ∨ idleB st = true)) : tickR st now = (0, stopR { st with now := now }) := by rw [tickR, if_neg h, if_neg h2, if_pos h3, if_pos h4]
theorem tick_run (h : ¬ now ≤ st.now) (h2 : ¬ now ≤ st.hold) (h3 : st.stops.isSome = true) (h4 : ¬ (st.stopped = false ∧ (st.fin ≤ now ∨ idleB st = true))) : tickR st now = (0, { st with now := now }) := by rw [tickR, if_neg h, if_neg h2, if_pos h3, if_neg h4]
theorem tick_work (h : ¬ now ≤ st.now) (h2 : ¬ now ≤ st.hold) (h3 : st.stops.isSome = false) : tickR st now = (0, workR { st with now := now }) := by rw [tickR, if_neg h, if_neg h2, if_neg (by rw [h3]; decide)]
end
theorem stopR_ok2 {st : Br} (h : BrOk st) : BrOk (stopR st) := (h.oset (stopR st).orders).hset true
theorem each_len {f : Br → Bj → Br} (hE : EachOk f) {st : Br} (h : BrOk st) : (each f st st.ids).orders.length ≤ st.orders.length + 16000 := by
 have := each_ord hE h
 have := h.few
 omega
theorem work_ok {st : Br} (h : BrOk st) (hw : WSav st) : BrOk (workR st) ∧ (workR st).orders.length ≤ st.orders.length + 70000 := by
 have h1 := each_ok leaveE h
 have l1 := each_len leaveE h
 have w1 : WSav (each leaveJ st st.ids) := each_wsav (fun st x h => leave_wsav h) _ hw
 obtain ⟨h2, l2⟩ := placeAll_ok h1 w1
 obtain ⟨h3, l3⟩ := preempt_ok h2
 have h4 := rep_ok h3
 have h5 := each_ok saveE h4
 have l5 := each_len saveE h4
 obtain ⟨h6, l6⟩ := start_ok h5 (each saveR (rep (preemptR (placeAll (each leaveJ st st.ids)))) (rep (preemptR (placeAll (each leaveJ st st.ids)))).ids).rows (each saveR (rep (preemptR (placeAll (each leaveJ st st.ids)))) (rep (preemptR (placeAll (each leaveJ st st.ids)))).ids).row
 refine ⟨h6, ?_⟩
 have f1 := h1.few
 have f2 := h2.few
 have l5' : _ ≤ (preemptR (placeAll (each leaveJ st st.ids))).orders.length + 16000 := l5
 exact Nat.le_trans l6 (by omega)
set_option maxHeartbeats 4000000 in
theorem Tick_S (b : Nat) (st : Br) (ps : Nat → Nat) (now : Nat) (hnow : now ≤ 4294967295) (hw : WSav st) (hl : st.orders.length ≤ 700000) {W : World} (hW : TabW W) : Spec Tryz.prog 14 [pt b, .int .u32 (now : Int)] [BP b st ps, old W] fun Γ v Θ => v = .int .i64 (tickR st now).1 ∧ Θ = BP b (tickR st now).2 ps :: old W :: Γ := by
 refine Spec.bpOk fun hok => ?_
 have hokn := hok.nset hnow
 have hfew := hok.few
 obtain ⟨t, ht⟩ : ∃ t : Br, t = { st with now := now } := ⟨_, rfl⟩
 have hokt : BrOk t := by rw [ht]; exact hokn
 have hwt : WSav t := by rw [ht]; exact hw
 have hlt : t.orders.length ≤ 700000 := by rw [ht]; exact hl
 refine Zbd Tryz.func14 rfl Tryz.ntmps14 fun w0 Γ => Zsh ?_
 refine S.bpOpen b st ps fun ub jb mb ov iv dv mv sb l hF => ?_
 refine ZY 8 ?_
 refine ZY 4 ?_
 refine ZF ef ?_
 refine ZY 8 ?_
 refine ZY 2 ?_
 refine Zj ef (fun h2 => ?_) (fun h2 => ?_)
 ·have hg := tick_stale (st := st) (now := now) (by omega)
  refine ZY 5 ?_
  refine S.bpClose b st ps ub jb mb ov iv dv mv sb l hF ?_
  exact Zf ef Zq (⟨by rw [hg]; rfl, by rw [hg]⟩)
 ·have h2n : ¬ now ≤ st.now := by omega
  refine ZY 8 ?_
  refine ZY 8 ?_
  refine ZY 3 ?_
  refine Zj ef (fun h3 => ?_) (fun h3 => ?_)
  ·have hg := tick_hold (st := st) (now := now) h2n (by omega)
   refine ZY 5 ?_
   refine S.sub (bX b { st with now := now } ps ub jb mb ov iv dv mv sb l (old W :: Γ)) ?_
   refine S.bpClose b { st with now := now } ps ub jb mb ov iv dv mv sb l ⟨hokn, hF.perm, hF.on, hF.im, hF.dn, hF.mn, hF.sn⟩ ?_
   exact Zf ef Zq (⟨by rw [hg]; rfl, by rw [hg]⟩)
  ·have h3n : ¬ now ≤ st.hold := by omega
   refine ZY 8 ?_
   refine Zv (q_neMN Tryz.underlying81 rfl rfl) ?_
   refine Zy ?_
   refine Zi ef (fun h4 => ?_) (fun h4 => ?_)
   ·have h4s : st.stops.isSome = true := by rw [← hF.sn]; simpa using h4
    refine ZY 8 ?_
    refine Zy ?_
    refine Zbb 35 ef (fun hg9_5 => ?_) (fun hg9_5 => ?_)
    ·refine ZY 7 ?_
     refine Zb 42 ef (fun hg9_12 => ?_) (fun hg9_12 => ?_)
     ·have hg := tick_stop (st := st) (now := now) h2n h3n h4s ⟨by simpa using hg9_5, .inl (by omega)⟩
      refine ZY 8 ?_
      first | (refine S.sub (bX b { st with now := now } ps ub jb mb ov iv dv mv sb l (old W :: Γ)) ?_; refine S.bpClose b { st with now := now } ps ub jb mb ov iv dv mv sb l ⟨hokn, hF.perm, hF.on, hF.im, hF.dn, hF.mn, hF.sn⟩ ?_; rw [← ht]) | skip
      refine Zp (Zc1 Ze (stop_S b t ps (by omega)) ?_)
      rintro v Θ rfl
      refine ZY 6 ?_
      first | (refine S.sub (bX b { st with now := now } ps ub jb mb ov iv dv mv sb l (old W :: Γ)) ?_; refine S.bpClose b { st with now := now } ps ub jb mb ov iv dv mv sb l ⟨hokn, hF.perm, hF.on, hF.im, hF.dn, hF.mn, hF.sn⟩ ?_; rw [← ht]) | skip
      exact Zf ef Zq (⟨by rw [hg]; rfl, by rw [hg, ← ht]⟩)
     ·refine Zy ?_
      (refine S.sub (bX b { st with now := now } ps ub jb mb ov iv dv mv sb l (old W :: Γ)) ?_; refine S.bpClose b { st with now := now } ps ub jb mb ov iv dv mv sb l ⟨hokn, hF.perm, hF.on, hF.im, hF.dn, hF.mn, hF.sn⟩ ?_; rw [← ht])
      refine Zg ef ef ef (Zcp Ze (idle_S b t ps) ?_)
      have hid : idleB t = idleB st := by rw [ht]; rfl
      refine ZY 3 ?_
      refine Zi ef (fun h5 => ?_) (fun h5 => ?_)
      ·have hg := tick_stop (st := st) (now := now) h2n h3n h4s ⟨by simpa using hg9_5, .inr (by rw [← hid]; exact h5)⟩
       refine ZY 2 ?_
       first | (refine S.sub (bX b { st with now := now } ps ub jb mb ov iv dv mv sb l (old W :: Γ)) ?_; refine S.bpClose b { st with now := now } ps ub jb mb ov iv dv mv sb l ⟨hokn, hF.perm, hF.on, hF.im, hF.dn, hF.mn, hF.sn⟩ ?_; rw [← ht]) | skip
       refine Zp (Zc1 Ze (stop_S b t ps (by omega)) ?_)
       rintro v Θ rfl
       refine ZY 6 ?_
       first | (refine S.sub (bX b { st with now := now } ps ub jb mb ov iv dv mv sb l (old W :: Γ)) ?_; refine S.bpClose b { st with now := now } ps ub jb mb ov iv dv mv sb l ⟨hokn, hF.perm, hF.on, hF.im, hF.dn, hF.mn, hF.sn⟩ ?_; rw [← ht]) | skip
       exact Zf ef Zq (⟨by rw [hg]; rfl, by rw [hg, ← ht]⟩)
      ·have hg := tick_run (st := st) (now := now) h2n h3n h4s (fun h => by rcases h.2 with h | h; (exact hg9_12 (by omega)); (rw [← hid, h5] at h; cases h))
       refine ZY 6 ?_
       first | (refine S.sub (bX b { st with now := now } ps ub jb mb ov iv dv mv sb l (old W :: Γ)) ?_; refine S.bpClose b { st with now := now } ps ub jb mb ov iv dv mv sb l ⟨hokn, hF.perm, hF.on, hF.im, hF.dn, hF.mn, hF.sn⟩ ?_; rw [← ht]) | skip
       exact Zf ef Zq (⟨by rw [hg]; rfl, by rw [hg, ← ht]⟩)
    ·have hg := tick_run (st := st) (now := now) h2n h3n h4s (fun h => by rw [h.1] at hg9_5; cases hg9_5)
     refine ZY 8 ?_
     refine ZY 8 ?_
     refine ZY 3 ?_
     first | (refine S.sub (bX b { st with now := now } ps ub jb mb ov iv dv mv sb l (old W :: Γ)) ?_; refine S.bpClose b { st with now := now } ps ub jb mb ov iv dv mv sb l ⟨hokn, hF.perm, hF.on, hF.im, hF.dn, hF.mn, hF.sn⟩ ?_; rw [← ht]) | skip
     exact Zf ef Zq (⟨by rw [hg]; rfl, by rw [hg, ← ht]⟩)
   ·have h4s : st.stops.isSome = false := by rw [← hF.sn]; simpa using h4
    have hg := tick_work (st := st) (now := now) h2n h3n h4s
    (refine S.sub (bX b { st with now := now } ps ub jb mb ov iv dv mv sb l (old W :: Γ)) ?_; refine S.bpClose b { st with now := now } ps ub jb mb ov iv dv mv sb l ⟨hokn, hF.perm, hF.on, hF.im, hF.dn, hF.mn, hF.sn⟩ ?_; rw [← ht])
    obtain ⟨t1, ht1⟩ : ∃ t1, t1 = each leaveJ t t.ids := ⟨_, rfl⟩
    obtain ⟨t2, ht2⟩ : ∃ t2, t2 = placeAll t1 := ⟨_, rfl⟩
    obtain ⟨t3, ht3⟩ : ∃ t3, t3 = preemptR t2 := ⟨_, rfl⟩
    obtain ⟨t4, ht4⟩ : ∃ t4, t4 = rep t3 := ⟨_, rfl⟩
    obtain ⟨t5, ht5⟩ : ∃ t5, t5 = each saveR t4 t4.ids := ⟨_, rfl⟩
    have o1 : BrOk t1 := by rw [ht1]; exact each_ok leaveE hokt
    have w1 : WSav t1 := by rw [ht1]; exact each_wsav (fun st x h => leave_wsav h) _ hwt
    have l1 : t1.orders.length ≤ t.orders.length + 16000 := by rw [ht1]; exact each_len leaveE hokt
    have o2 : BrOk t2 ∧ t2.orders.length ≤ t1.orders.length + 16 * t1.js.length := by rw [ht2]; exact placeAll_ok o1 w1
    have o3 : BrOk t3 ∧ t3.orders.length ≤ t2.orders.length + 16 * t2.js.length := by rw [ht3]; exact preempt_ok o2.1
    have o4 : BrOk t4 := by rw [ht4]; exact rep_ok o3.1
    have l4 : t4.orders.length = t3.orders.length := by rw [ht4]
    have o5 : BrOk t5 ∧ t5.orders.length ≤ t4.orders.length + 16000 := by rw [ht5]; exact ⟨each_ok saveE o4, each_len saveE o4⟩
    have f1 := o1.few
    have f2 := o2.1.few
    have hwk : workR t = startUp t5 t5.row t5.rows := by rw [ht5, ht4, ht3, ht2, ht1]; rfl
    refine ZY 4 ?_
    refine Zp (Zc1 Ze (leave_S b t ps (by omega)) ?_)
    rintro v Θ rfl
    rw [← ht1]
    refine ZY 4 ?_
    refine Zp (Zc1 Ze (place_S b t1 ps w1 (by omega)) ?_)
    rintro v Θ rfl
    rw [← ht2]
    refine ZY 4 ?_
    refine Zp (Zc1 Ze (preempt_S b t2 ps (by omega) hW) ?_)
    rintro v Θ rfl
    rw [← ht3]
    refine ZY 3 ?_
    refine S.bpOpen b t3 ps fun ub jb mb ov iv dv mv sb l hF => ?_
    refine ZY 5 ?_
    refine Zp (Zc1 Ze (Go.Proofs.YtdackcibfkkniaaGreatDoor.Repack_S mb t3.m hW) ?_)
    rintro v Θ ⟨c, sv, rfl, hsv, rfl⟩
    refine ZY 8 ?_
    refine ZY 2 ?_
    refine S.sub (bX b (rep t3) ps ub jb c ov iv dv mv sb l (old W :: Γ)) ?_
    refine S.bpClose b (rep t3) ps ub jb c ov iv dv mv sb l ⟨by rw [← ht4]; exact o4, hF.perm, hF.on, hF.im, hF.dn, hF.mn, hF.sn⟩ ?_
    rw [← ht4]
    refine Zp (Zc1 Ze (save1_S b t4 ps (by omega)) ?_)
    rintro v Θ rfl
    rw [← ht5]
    refine ZY 4 ?_
    refine Zp (Zc1 Ze (start_S b t5 ps (by omega) hW) ?_)
    rintro v Θ rfl
    refine ZY 6 ?_
    exact Zf ef Zq (⟨by rw [hg]; rfl, by rw [hg, ← ht, hwk]⟩)
end BN
end Go.Proofs.YtdackcibfkkniaaGreatDoor
namespace Go.Proofs.YtdackcibfkkniaaGreatDoor
open Go.RowKit
namespace BN
structure Sm3 (b b' : Br) (i d j : Nat) : Prop where
 im : b'.images.length ≤ b.images.length + i
 dn : b'.done.length ≤ b.done.length + d
 js : b'.js.length ≤ b.js.length + j
 nodes : b'.nodes = b.nodes
theorem Sm3.refl (b : Br) : Sm3 b b 0 0 0 := ⟨Nat.le_refl _, Nat.le_refl _, Nat.le_refl _, rfl⟩
theorem Sm3.trans {a b c : Br} {i d j i' d' j' : Nat} (h : Sm3 a b i d j) (k : Sm3 b c i' d' j') : Sm3 a c (i + i') (d + d') (j + j') := ⟨by have := h.im; have := k.im; omega, by have := h.dn; have := k.dn; omega, by have := h.js; have := k.js; omega, k.nodes.trans h.nodes⟩
theorem Sm3.tr0 {a b c : Br} {i d j : Nat} (h : Sm3 a b 0 0 0) (k : Sm3 b c i d j) : Sm3 a c i d j := by have := h.trans k; simpa using this
theorem Sm3.le {a b : Br} {i d j i' d' j' : Nat} (h : Sm3 a b i d j) (h1 : i ≤ i') (h2 : d ≤ d') (h3 : j ≤ j') : Sm3 a b i' d' j' := ⟨by have := h.im; omega, by have := h.dn; omega, by have := h.js; omega, h.nodes⟩
theorem Sm3.set (b : Br) (x : Bj) : Sm3 b (b.set x) 0 0 0 := ⟨Nat.le_refl _, Nat.le_refl _, by show (setJ b.js x).length ≤ _; rw [setJ_len]; exact Nat.le_refl _, rfl⟩
theorem Sm3.gone (b : Br) (x : Bj) : Sm3 b (goneR b x) 0 0 0 := by
 unfold goneR
 split
 ·split
  ·exact ⟨Nat.le_refl _, Nat.le_refl _, by show (setJ b.js _).length ≤ _; rw [setJ_len]; exact Nat.le_refl _, rfl⟩
  ·exact ⟨Nat.le_refl _, Nat.le_refl _, List.length_filter_le _ _, rfl⟩
 ·exact .set b x
theorem Sm3.drop (b : Br) (x : Bj) (a : Bool) : Sm3 b (dropR b x a) 0 0 0 := by
 unfold dropR
 split
 ·exact .gone b _
 ·exact (show Sm3 b { b with orders := b.orders ++ (upOf b x).map (dropOrd x.id) } 0 0 0 from ⟨Nat.le_refl _, Nat.le_refl _, Nat.le_refl _, rfl⟩).tr0 (.gone _ _)
theorem Sm3.finish (b : Br) (x : Bj) : Sm3 b (finishR b x) 0 1 0 := by
 unfold finishR
 split
 ·exact (Sm3.set b x).le (by omega) (by omega) (by omega)
 ·have h := Sm3.drop { b with done := b.done ++ [x.id] } { x with done := true } false
  exact ⟨h.im, by have := h.dn; simp only [List.length_append, List.length_singleton] at this; omega, h.js, h.nodes⟩
theorem Sm3.save (b : Br) (x : Bj) : Sm3 b (saveR b x) 0 0 0 := by
 by_cases hc : x.work = x.credit ∨ x.sav.isSome ∨ x.drops.isSome ∨ x.state ≠ 2
 ·rw [saveR_no hc]; exact .set b x
 ·rw [saveR_yes hc]; exact ⟨Nat.le_refl _, Nat.le_refl _, by show (setJ b.js _).length ≤ _; rw [setJ_len]; exact Nat.le_refl _, rfl⟩
theorem Sm3.count (b : Br) (x : Bj) : Sm3 b (countR b x) 0 0 0 := by
 unfold countR
 split
 ·exact .set b x
 ·split
  ·exact .set b _
  ·exact .save b _
theorem Sm3.each {f : Br → Bj → Br} (hf : ∀ b x, Sm3 b (f b x) 0 0 0) : ∀ (l : List Nat) (b : Br), Sm3 b (each f b l) 0 0 0
 | [], b => .refl b
 | id :: l, b => by
  have e : BN.each f b (id :: l) = BN.each f (match getJ b.js id with | none => b | some x => f b x) l := rfl
  rw [e]
  cases getJ b.js id with
  | none => exact Sm3.each hf l b
  | some x => exact (hf b x).tr0 (Sm3.each hf l _)
theorem Sm3.stopHeard (b : Br) (n : Nat) : Sm3 b (stopHeardR b n) 0 0 0 := by
 unfold stopHeardR
 split
 ·exact .refl b
 ·split
  ·exact ⟨Nat.le_refl _, Nat.le_refl _, Nat.le_refl _, rfl⟩
  ·exact (show Sm3 b { b with stops := none, stopped := false } 0 0 0 from ⟨Nat.le_refl _, Nat.le_refl _, Nat.le_refl _, rfl⟩).tr0 (.each Sm3.count _ _)
theorem Sm3.lost (b : Br) (n : Int) : Sm3 b (lostR b n).2 0 0 0 := by
 unfold lostR
 split
 ·exact .refl b
 ·refine Sm3.tr0 (b := BN.each (lostJ n.toNat) { b with up := sDel b.up n.toNat, m := (Go.Proofs.YtdackcibfkkniaaGreatDoor.upR b.m n false).2, orders := b.orders.filter fun o => decide (o.1 ≠ n.toNat) } b.ids) ?_ (.stopHeard _ _)
  refine (show Sm3 b { b with up := sDel b.up n.toNat, m := (Go.Proofs.YtdackcibfkkniaaGreatDoor.upR b.m n false).2, orders := b.orders.filter fun o => decide (o.1 ≠ n.toNat) } 0 0 0 from ⟨Nat.le_refl _, Nat.le_refl _, Nat.le_refl _, rfl⟩).tr0 (.each (fun b x => ?_) _ _)
  unfold lostJ
  split
  ·split
   ·exact .drop b x true
   ·exact .gone b _
  ·exact .refl b
theorem Sm3.saved (b : Br) (x : Bj) (n : Nat) (t : Nt) (bl : List Int) : Sm3 b (savedR b x n t bl) 1 0 0 := by
 have hr := (Sm3.refl b).le (Nat.zero_le 1) (Nat.le_refl 0) (Nat.le_refl 0)
 unfold savedR
 split
 ·exact hr
 ·split
  ·exact hr
  ·split
   ·exact hr
   ·dsimp only
    split
    ·exact ⟨by show (b.images ++ [_]).length ≤ _; rw [List.length_append, List.length_singleton]; exact Nat.le_refl _, Nat.le_refl _, by show (setJ b.js _).length ≤ _; rw [setJ_len]; exact Nat.le_refl _, rfl⟩
    ·exact (Sm3.set b _).le (Nat.zero_le 1) (Nat.le_refl 0) (Nat.le_refl 0)
theorem Sm3.add (b : Br) (x : Bj) : Sm3 b (addR b x).2 0 1 1 := by
 have hr := (Sm3.refl b).le (Nat.le_refl 0) (Nat.zero_le 1) (Nat.zero_le 1)
 unfold addR
 split
 ·exact hr
 split
 ·exact hr
 ·have h := Sm3.finish { b with js := insJ x b.js } x
  exact ⟨h.im, h.dn, by have := h.js; rw [show ({ b with js := insJ x b.js } : Br).js = insJ x b.js from rfl, (insJ_perm x b.js).length_eq, List.length_cons] at this; exact this, h.nodes⟩
theorem Sm3.up (b : Br) (n : Int) : Sm3 b (upR' b n).2 0 0 0 := by
 unfold upR'
 split
 ·exact .refl b
 ·exact ⟨Nat.le_refl _, Nat.le_refl _, Nat.le_refl _, rfl⟩
theorem Sm3.load (b : Br) (x : Bj) (s : PL.St) : Sm3 b (loadR b x s) 0 0 0 := by
 by_cases hp : (putR b.m x.id s.row s.nodes).1 ≠ 0
 ·rw [loadR_no hp]; exact ⟨Nat.le_refl _, Nat.le_refl _, Nat.le_refl _, rfl⟩
 ·rw [loadR_yes hp]; exact ⟨Nat.le_refl _, Nat.le_refl _, by show (setJ b.js _).length ≤ _; rw [setJ_len]; exact Nat.le_refl _, rfl⟩
theorem Sm3.place (l : List (Nat × PL.St)) : ∀ b : Br, Sm3 b (placeUp b l) 0 0 0 := by
 induction l with
 | nil => exact fun b => .refl b
 | cons p l ih =>
  intro b
  have e : placeUp b (p :: l) = placeUp (plStep b p) l := by rw [placeUp_eq, placeUp_eq]; rfl
  rw [e]
  refine Sm3.tr0 ?_ (ih _)
  unfold plStep
  split
  ·split
   ·exact .refl b
   ·exact .load b _ _
  ·exact .refl b
theorem Sm3.preempt (b : Br) : Sm3 b (preemptR b) 0 0 0 := by
 unfold preemptR
 split
 ·exact .refl b
 split
 ·exact .refl b
 split
 ·exact .refl b
 ·exact .each (f := warnJ) (fun b x => ⟨Nat.le_refl _, Nat.le_refl _, by show (setJ b.js _).length ≤ _; rw [setJ_len]; exact Nat.le_refl _, rfl⟩) _ _
theorem Sm3.run (b : Br) (l : List Nat) : Sm3 b (runR b l) 0 0 0 :=
 (show Sm3 b (run0 b l) 0 0 0 from ⟨Nat.le_refl _, Nat.le_refl _, Nat.le_refl _, rfl⟩).tr0 (.each (f := goJob) (fun b x => ⟨Nat.le_refl _, Nat.le_refl _, by show (setJ b.js _).length ≤ _; rw [setJ_len]; exact Nat.le_refl _, rfl⟩) _ _)
theorem Sm3.start (b : Br) : ∀ (i : Nat) (row : Int), Sm3 b (startUp b row i) 0 0 0
 | 0, _ => .refl b
 | i + 1, row => by
  rw [startUp]
  split
  ·exact .refl b
  split
  ·exact (show Sm3 b { b with row := (nextR b.m row).1 } 0 0 0 from ⟨Nat.le_refl _, Nat.le_refl _, Nat.le_refl _, rfl⟩).tr0 (.run _ _)
  ·exact .start b i _
theorem Sm3.leave (b : Br) (x : Bj) : Sm3 b (leaveJ b x) 0 0 0 := by
 unfold leaveJ
 split
 ·exact .drop b x true
 ·exact .refl b
theorem Sm3.work (b : Br) : Sm3 b (workR b) 0 0 0 := by
 have h1 := Sm3.each Sm3.leave b.ids b
 have h2 := h1.tr0 (Sm3.place (zsR (BN.each leaveJ b b.ids)) _)
 have h3 := h2.tr0 (Sm3.preempt _)
 have h4 := h3.tr0 (show Sm3 _ (rep (preemptR (placeAll (BN.each leaveJ b b.ids)))) 0 0 0 from ⟨Nat.le_refl _, Nat.le_refl _, Nat.le_refl _, rfl⟩)
 have h5 := h4.tr0 (Sm3.each Sm3.save (rep (preemptR (placeAll (BN.each leaveJ b b.ids)))).ids _)
 exact h5.tr0 (Sm3.start _ _ _)
theorem Sm3.tick (b : Br) (now : Nat) : Sm3 b (tickR b now).2 0 0 0 := by
 unfold tickR
 split
 ·exact .refl b
 split
 ·exact ⟨Nat.le_refl _, Nat.le_refl _, Nat.le_refl _, rfl⟩
 split
 ·split
  ·exact ⟨Nat.le_refl _, Nat.le_refl _, Nat.le_refl _, rfl⟩
  ·exact ⟨Nat.le_refl _, Nat.le_refl _, Nat.le_refl _, rfl⟩
 ·exact (show Sm3 b { b with now := now } 0 0 0 from ⟨Nat.le_refl _, Nat.le_refl _, Nat.le_refl _, rfl⟩).tr0 (.work _)
theorem tick_after {b : Br} (h : BrOk b) (hw : WSav b) {now : Nat} (hn : now ≤ 4294967295) : BrOk (tickR b now).2 ∧ (tickR b now).2.orders.length ≤ b.orders.length + 70000 := by
 unfold tickR
 split
 ·exact ⟨h, Nat.le_add_right ..⟩
 split
 ·exact ⟨h.nset hn, Nat.le_add_right ..⟩
 split
 ·split
  ·refine ⟨stopR_ok2 (h.nset hn), ?_⟩
   show (b.orders ++ _).length ≤ _
   rw [List.length_append, List.length_map]
   have h1 : ((List.range b.nodes).filter fun n => decide (n ∈ b.stops.getD [])).length ≤ b.nodes := by
    have := List.length_filter_le (fun n => decide (n ∈ b.stops.getD [])) (List.range b.nodes)
    rwa [List.length_range] at this
   have h1 : (List.filter (fun n => decide (n ∈ ({ b with now := now } : Br).stops.getD [])) (List.range ({ b with now := now } : Br).nodes)).length ≤ b.nodes := h1
   have := h.N16
   omega
  ·exact ⟨h.nset hn, Nat.le_add_right ..⟩
 ·exact work_ok (h.nset hn) hw
end BN
end Go.Proofs.YtdackcibfkkniaaGreatDoor
