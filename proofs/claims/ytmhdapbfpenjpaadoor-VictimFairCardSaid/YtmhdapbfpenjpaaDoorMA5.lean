/- VictimFair: nobody goes for his equal; once they are gone there is room; without the last of them there isn't. -/
import Derived.Test.YtmhdapbfpenjpaaDoorMA4
/- The laws of victim: what both sides build; awake. -/
namespace Go.Proofs.YtmhdapbfpenjpaaDoor
open Go.RowKit
set_option maxRecDepth 20000
structure Vd where
  row : Int
  ns : Bs
  tier : Int
  no : Bool
instance : Inhabited Vd := ⟨⟨0, 0#16, 0, false⟩⟩
abbrev vdC (x : Vd) : List Value := [.int .u8 x.row, bsv x.ns, .int .u8 x.tier, .bool x.no]
def vd0 : Vd := ⟨0, 0#16, 0, false⟩
structure VW (W : World) (s : SV) (l : List Vd) : Prop where
  at_ : SlAt W s.v l.length 4 (l.flatMap vdC)
  len : s.n = l.length
  rng : ∀ x ∈ l, (0 ≤ x.row ∧ x.row ≤ 255) ∧ 0 ≤ x.tier ∧ x.tier ≤ 255
theorem rd_vd {W : World} {cs : List Value} (h : Rd W (.cat 1 (.int .u8) (.cat 1 (.int .u16) (.cat 1 (.int .u8) (.cat 1 .bool .nil)))) cs) : ∃ x : Vd, cs = vdC x ∧ (0 ≤ x.row ∧ x.row ≤ 255) ∧ 0 ≤ x.tier ∧ x.tier ≤ 255 := by
  obtain ⟨_, _, rfl, _, ⟨a, rfl, ha⟩, _, _, rfl, _, ⟨b, rfl, hb⟩, _, _, rfl, _, ⟨c, rfl, hc⟩, _, _, rfl, _, ⟨d, rfl⟩, rfl⟩ := h
  have h1 := u8_rng ha
  have h2 := u16_rng hb
  have h3 := u8_rng hc
  refine ⟨⟨a, BitVec.ofNat 16 b.toNat, c, d⟩, ?_, h1, h3⟩
  have e : ((BitVec.ofNat 16 b.toNat).toNat : Int) = b := by
    rw [BitVec.toNat_ofNat, Nat.mod_eq_of_lt (by omega)]
    omega
  show [Value.int .u8 a] ++ ([Value.int .u16 b] ++ ([Value.int .u8 c] ++ ([Value.bool d] ++ []))) = _
  simp only [vdC, bsv, e]
  rfl
theorem rd_vds {W : World} {cs : List Value} (h : Rd W (.slice 4 (.cat 1 (.int .u8) (.cat 1 (.int .u16) (.cat 1 (.int .u8) (.cat 1 .bool .nil))))) cs) : ∃ (s : SV) (l : List Vd), cs = [s.v] ∧ VW W s l := by
  obtain ⟨s, l, h1, h2, h3, h4, _⟩ := rd_slice (α := Vd) (encA := vdC) (p := fun x => (0 ≤ x.row ∧ x.row ≤ 255) ∧ 0 ≤ x.tier ∧ x.tier ≤ 255) (fun cs hr _ => by
    obtain ⟨x, rfl, hx⟩ := rd_vd hr
    exact ⟨x, rfl, hx⟩) h (by omega)
  exact ⟨s, l, h1, h3, h2, h4⟩
def stUp (m : Mx) (l : List Vd) : Nat → Mx
  | 0 => m
  | i + 1 => (putR (stUp m l i) (i + 1) ((l.getD i vd0).row % (m.R : Int)) (casts (bitU (l.getD i vd0).ns m.N))).2
def dnUp (m : Mx) (d : Bs) : Nat → Mx
  | 0 => m
  | k + 1 => if d.getLsbD k then (upR (dnUp m d k) k false).2 else dnUp m d k
/-- Who may have to go. -/
def cdUp (l : List Vd) : Nat → List Cd
  | 0 => []
  | i + 1 => if (l.getD i vd0).no then cdUp l i else cdUp l i ++ [(i + 1, (l.getD i vd0).tier)]
theorem cdUp_len (l : List Vd) : ∀ i, (cdUp l i).length ≤ i
  | 0 => Nat.le_refl _
  | i + 1 => by
    have := cdUp_len l i
    rw [cdUp]
    split
    · omega
    · rw [List.length_append, List.length_singleton]; omega
theorem cdUp_tier {l : List Vd} (h : ∀ x ∈ l, (0 ≤ x.row ∧ x.row ≤ 255) ∧ 0 ≤ x.tier ∧ x.tier ≤ 255) : ∀ i, i ≤ l.length → ∀ x ∈ cdUp l i, 0 ≤ x.2 ∧ x.2 ≤ 255
  | 0, _, x, hx => by cases hx
  | i + 1, hi, x, hx => by
    have hy := List.getElem?_eq_getElem (show i < l.length by omega)
    have hg : l.getD i vd0 = l[i] := by simp [List.getD, hy]
    rw [cdUp] at hx
    split at hx
    · exact cdUp_tier h i (by omega) x hx
    · rcases List.mem_append.1 hx with h9 | h9
      · exact cdUp_tier h i (by omega) x h9
      · rw [List.mem_singleton] at h9
        subst h9
        rw [hg]
        exact (h _ (List.getElem_mem _)).2
def bldR (r n : Int) (l : List Vd) (d : Bs) : Mx := dnUp (stUp (mx0 (1 + r % 8).toNat (1 + n % 16).toNat) l (min l.length 40)) d (1 + n % 16).toNat
def cdR (l : List Vd) : List Cd := cdUp l (min l.length 40)
theorem stUp_ok {m : Mx} (hm : MxOk m) (l : List Vd) : ∀ i, i ≤ 40 → MxOk (stUp m l i) ∧ (stUp m l i).R = m.R
  | 0, _ => ⟨hm, rfl⟩
  | i + 1, h => by
    obtain ⟨h1, h2⟩ := stUp_ok hm l i (by omega)
    exact ⟨putR_ok h1 (by omega) _ _, (putR_N _ _ _ _).2.2.trans h2⟩
theorem dnUp_ok {m : Mx} (hm : MxOk m) (d : Bs) : ∀ k, MxOk (dnUp m d k) ∧ (dnUp m d k).R = m.R
  | 0 => ⟨hm, rfl⟩
  | k + 1 => by
    obtain ⟨h1, h2⟩ := dnUp_ok hm d k
    rw [dnUp]
    split
    · exact ⟨upR_ok h1 _ _, (upR_N _ _ _).2.trans h2⟩
    · exact ⟨h1, h2⟩
theorem bldR_ok (r n : Int) (l : List Vd) (d : Bs) : MxOk (bldR r n l d) ∧ (bldR r n l d).R = (1 + r % 8).toNat := by
  obtain ⟨h1, h2⟩ := stUp_ok (mx0_ok (R := (1 + r % 8).toNat) (N := (1 + n % 16).toNat) (by omega) (by omega) (by omega) (by omega)) l (min l.length 40) (by omega)
  obtain ⟨h3, h4⟩ := dnUp_ok h1 d (1 + n % 16).toNat
  exact ⟨h3, h4.trans h2⟩
set_option maxHeartbeats 1000000 in
theorem build_S (r n : Int) (l : List Vd) (d : Bs) (s : SV) (hr : 0 ≤ r ∧ r ≤ 255) (hn : 0 ≤ n ∧ n ≤ 255) {W : World} (hs : VW W s l) : Spec Tryd.prog 14 [.int .u8 r, .int .u8 n, s.v, bsv d] [old W] fun Γ v Θ => ∃ (b c : Nat) (p q : SV), v = .tuple #[.pointer (some ⟨b, 0, none⟩), .pointer (some ⟨c, 0, none⟩), p.v, q.v] ∧ p.n = (cdR l).length ∧ q.n = (cdR l).length ∧
    Θ = MI b (bldR r n l d) :: RI c (bldR r n l d) :: own p 110 2 ((cdR l).flatMap cdC) :: own q 111 2 ((cdR l).flatMap cdC) :: old W :: Γ := by
  refine Spec.of_body Tryd.func14 rfl Tryd.ntmps14 rfl ?_
  intro w0 Γ
  show S _ w0 [(0, .int .u8 r), (1, .int .u8 n), (2, s.v), (3, bsv d)] (old W :: Γ) _
  have hsl := hs.len
  have hRs : RdS (old W) s s.n 4 (l.flatMap vdC) := by rw [hsl]; exact RdS.old hs.at_
  refine S.rCap hRs fun _ hc1 hc2 => ?_
  obtain ⟨R, hR⟩ : ∃ R : Nat, (R : Int) = 1 + r % 8 := ⟨(1 + r % 8).toNat, by omega⟩
  obtain ⟨N, hN⟩ : ∃ N : Nat, (N : Int) = 1 + n % 16 := ⟨(1 + n % 16).toNat, by omega⟩
  have hbR : bldR r n l d = dnUp (stUp (mx0 R N) l (min l.length 40)) d N := by rw [bldR, ← hN, ← hR, Int.toNat_natCast, Int.toNat_natCast]
  refine S.seq fun K1 hK1 => ?_
  refine S.region rfl ?_
  refine S.op (S.q (q_assign rfl) rfl rfl ?_)
  refine S.op (S.q (q_assign rfl) rfl rfl ?_)
  refine S.op (S.q (q_assign rfl) rfl rfl ?_)
  refine S.op (S.q (q_assign rfl) rfl rfl ?_)
  first | with_reducible refine S.nilK ?_ | refine S.nil ?_
  refine hK1 _ _ ?_
  refine S.seq fun K2 hK2 => ?_
  refine S.region rfl ?_
  refine S.op (S.q (q_move rfl) rfl rfl ?_)
  refine S.op (S.q (q_rem rfl rfl (⟨by omega, by omega⟩)) rfl rfl ?_)
  refine S.op (S.q (q_conv Tryd.it3 (by rw [Tryd.underlying5]; rfl) rfl (inI64 (by omega) (by omega))) rfl rfl ?_)
  refine S.op (S.q (q_add rfl rfl (inI64 (by omega) (by omega))) rfl rfl ?_)
  refine S.op (S.q (q_move rfl) rfl rfl ?_)
  refine S.op (S.q (q_rem rfl rfl (⟨by omega, by omega⟩)) rfl rfl ?_)
  refine S.op (S.q (q_conv Tryd.it3 (by rw [Tryd.underlying5]; rfl) rfl (inI64 (by omega) (by omega))) rfl rfl ?_)
  refine S.op (S.q (q_add rfl rfl (inI64 (by omega) (by omega))) rfl rfl ?_)
  refine S.op (S.q (q_assign rfl) rfl rfl ?_)
  refine S.op (S.q (q_assign rfl) rfl rfl ?_)
  first | with_reducible refine S.nilK ?_ | refine S.nil ?_
  refine hK2 _ _ ?_
  refine S.seq fun K3 hK3 => ?_
  refine S.region rfl ?_
  rw [← hR, ← hN]
  refine S.op (S.q (q_move rfl) rfl rfl ?_)
  refine S.op (S.q (q_move rfl) rfl rfl ?_)
  refine S.op (S.call Tryd.en45 (vs := [_, _]) ⟨rfl, rfl, trivial⟩ (New_S R N (by omega) (by omega) (by omega) (by omega)) rfl ?_)
  rintro v Θ ⟨b, rfl, rfl⟩
  refine S.op (S.q (q_move rfl) rfl rfl ?_)
  refine S.op (S.q (q_extract rfl rfl) rfl rfl ?_)
  refine S.op (S.q (q_extract rfl rfl) rfl rfl ?_)
  refine S.op (S.q (q_assign rfl) rfl rfl ?_)
  refine S.op (S.q (q_assign rfl) rfl rfl ?_)
  first | with_reducible refine S.nilK ?_ | refine S.nil ?_
  refine hK3 _ _ ?_
  refine S.seq fun K4 hK4 => ?_
  refine S.region rfl ?_
  refine S.op (S.q (q_move rfl) rfl rfl ?_)
  refine S.op (S.q (q_move rfl) rfl rfl ?_)
  refine S.op (S.call Tryd.en46 (vs := [_, _]) ⟨rfl, rfl, trivial⟩ (rNew_S R N (by omega) (by omega) (by omega) (by omega)) rfl ?_)
  rintro v Θ ⟨c, rfl, rfl⟩
  refine S.op (S.q (q_move rfl) rfl rfl ?_)
  refine S.op (S.q (q_extract rfl rfl) rfl rfl ?_)
  refine S.op (S.q (q_extract rfl rfl) rfl rfl ?_)
  refine S.op (S.q (q_assign rfl) rfl rfl ?_)
  refine S.op (S.q (q_assign rfl) rfl rfl ?_)
  first | with_reducible refine S.nilK ?_ | refine S.nil ?_
  refine hK4 _ _ ?_
  refine S.seq fun K5 hK5 => ?_
  refine S.region rfl ?_
  refine S.op (S.q (q_assign rfl) rfl rfl ?_)
  first | with_reducible refine S.nilK ?_ | refine S.nil ?_
  refine hK5 _ _ ?_
  refine S.seq fun K6 hK6 => ?_
  refine S.region rfl ?_
  refine S.op (S.q (q_assign rfl) rfl rfl ?_)
  first | with_reducible refine S.nilK ?_ | refine S.nil ?_
  refine hK6 _ _ ?_
  refine S.seq fun K7 hK7 => ?_
  refine S.seq fun K8 hK8 => ?_
  refine S.region rfl ?_
  refine S.ent (Ent.ownNil 110 2) ?_
  refine S.ent (Ent.ownNil 111 2) ?_
  show S _ w0 _ (own SV.nil 111 2 ((cdUp l 0).flatMap cdC) :: own SV.nil 110 2 ((cdUp l 0).flatMap cdC) :: _) _
  refine S.op (S.q (q_move rfl) rfl rfl ?_)
  refine S.op (S.q (q_len Tryd.underlying22 rfl) rfl rfl ?_)
  refine S.op (S.q (q_move rfl) rfl rfl ?_)
  first | with_reducible refine S.nilK ?_ | refine S.nil ?_
  refine hK8 _ _ ?_
  refine S.cut (fun ρ' Γ' => ∃ (mm : Mx) (pa pb : SV), mm = stUp (mx0 R N) l (min l.length 40) ∧ mm.R = R ∧ mm.N = N ∧ pa.n = (cdR l).length ∧ pb.n = (cdR l).length ∧ ρ' = [(3, bsv d), (13, .int .i64 (N : Int)), (14, .pointer (some ⟨b, 0, none⟩)), (16, .pointer (some ⟨c, 0, none⟩)), (18, pa.v), (19, pb.v)] ∧   Γ' = own pb 111 2 ((cdR l).flatMap cdC) :: own pa 110 2 ((cdR l).flatMap cdC) :: RI c mm :: MI b mm :: old W :: Γ) ?_ ?_
  · refine S.block ?_
    refine S.loop (fun q ρ' Γ' => ∃ (i : Nat) (mm : Mx) (pa pb : SV) (al : List Cd), q = l.length - i ∧ i ≤ l.length ∧ i ≤ 40 ∧ mm = stUp (mx0 R N) l i ∧ mm.R = R ∧ mm.N = N ∧ al = cdUp l i ∧ pa.n = al.length ∧ pb.n = al.length ∧   ρ' = [(3, bsv d), (12, .int .i64 (R : Int)), (13, .int .i64 (N : Int)), (14, .pointer (some ⟨b, 0, none⟩)), (16, .pointer (some ⟨c, 0, none⟩)), (18, pa.v), (19, pb.v), (45, s.v), (46, .int .i64 s.n), (47, .int .i64 (i : Int))] ∧   Γ' = own pb 111 2 (al.flatMap cdC) :: own pa 110 2 (al.flatMap cdC) :: RI c mm :: MI b mm :: old W :: Γ) (m := _) (ρ0 := _) (Γ0 := _) (⟨0, mx0 R N, SV.nil, SV.nil, cdUp l 0, rfl, by omega, by omega, rfl, rfl, rfl, rfl, rfl, rfl, rfl, rfl⟩) (by repeat (first | exact trivial | refine ⟨rfl, ?_⟩)) Sub.ent ?_
    rintro q ρ' Γ' ⟨i, mm, pa, pb, al, hq, hi, hi40, hmm, hmR, hmN, hal, hpa, hpb, rfl, rfl⟩
    have hall := cdUp_len l i
    rw [← hal] at hall
    refine S.seq fun K9 hK9 => ?_
    refine S.region rfl ?_
    refine S.op (S.q (q_lt rfl rfl) rfl rfl ?_)
    first | with_reducible refine S.nilK ?_ | refine S.nil ?_
    refine hK9 _ _ ?_
    refine S.seq fun K10 hK10 => ?_
    refine S.condD rfl (fun h1 => ?_) (fun h1 => ?_)
    · refine S.miOk b mm fun hok => ?_
      obtain ⟨x, hx⟩ := getE (show i < l.length by omega)
      have hxr := hs.rng x (List.mem_of_getElem? hx)
      have hxd : l.getD i vd0 = x := by simp [List.getD, hx]
      obtain ⟨sb, so, hsa, hcell⟩ := slAt_some hs.at_ (by omega)
      have hN16 := hok.N16
      refine S.skip ?_
      with_reducible repeat (first | refine S.then_n ?_ | refine S.then_x ?_ | refine S.then_r ?_ | refine S.inBlock_n ?_ | refine S.inBlock_r ?_ | refine S.inBlock_x rfl ?_ | refine S.noGoto_r ?_ | refine S.noGoto_n ?_ | refine S.noGoto_x ?_)
      refine hK10 _ _ ?_
      refine S.seq fun K11 hK11 => ?_
      refine S.block ?_
      refine S.seq fun K12 hK12 => ?_
      refine S.region rfl ?_
      refine S.op (S.q (q_move rfl) rfl rfl ?_)
      refine S.op (S.q (q_indexO (i) Tryd.el22 rfl hsa rfl rfl (by omega)) rfl rfl ?_)
      refine S.op (S.q (q_loadWS (vdC x) Tryd.ag46 rfl rfl (fun i u hu => by rw [Nat.add_assoc]; exact hcell _ _ (flat_seg (enc := vdC) (sz := 4) (fun _ => rfl) hx i u hu))) rfl rfl ?_)
      refine S.op (S.alloc Tryd.z46 rfl ?_)
      intro b21
      refine S.op (S.q (q_assign rfl) rfl rfl ?_)
      refine S.op (S.storeS (cs' := [_, _, _, _]) Tryd.ag46 rfl rfl rfl rfl rfl rfl ?_)
      first | with_reducible refine S.nilK ?_ | refine S.nil ?_
      refine hK12 _ _ ?_
      refine S.seq fun K13 hK13 => ?_
      refine S.seq fun K14 hK14 => ?_
      refine S.region rfl ?_
      refine S.op (S.q (q_move rfl) rfl rfl ?_)
      refine S.op (S.q (q_ge rfl rfl) rfl rfl ?_)
      first | with_reducible refine S.nilK ?_ | refine S.nil ?_
      refine hK14 _ _ ?_
      refine S.condD rfl (fun h2 => ?_) (fun h2 => ?_)
      · have hmin : min l.length 40 = i := by omega
        refine S.exit ?_
        with_reducible repeat (first | refine S.then_n ?_ | refine S.then_x ?_ | refine S.then_r ?_ | refine S.inBlock_n ?_ | refine S.inBlock_r ?_ | refine S.inBlock_x rfl ?_ | refine S.noGoto_r ?_ | refine S.noGoto_n ?_ | refine S.noGoto_x ?_)
        with_reducible refine S.inBlock_s ?_
        with_reducible repeat (first | refine S.then_n ?_ | refine S.then_x ?_ | refine S.then_r ?_ | refine S.inBlock_n ?_ | refine S.inBlock_r ?_ | refine S.inBlock_x rfl ?_ | refine S.noGoto_r ?_ | refine S.noGoto_n ?_ | refine S.noGoto_x ?_)
        with_reducible repeat (first | refine S.then_n ?_ | refine S.then_x ?_ | refine S.then_r ?_ | refine S.inBlock_n ?_ | refine S.inBlock_r ?_ | refine S.inBlock_x rfl ?_ | refine S.noGoto_r ?_ | refine S.noGoto_n ?_ | refine S.noGoto_x ?_)
        have hcr : al = cdR l := by rw [cdR, hmin, hal]
        subst hcr
        exact S.meet ⟨mm, pa, pb, by rw [hmin]; exact hmm, hmR, hmN, hpa, hpb, rfl, rfl⟩ ⟨rfl, rfl, rfl, rfl, rfl, rfl, trivial⟩ Sub.ent
      · refine S.skip ?_
        with_reducible repeat (first | refine S.then_n ?_ | refine S.then_x ?_ | refine S.then_r ?_ | refine S.inBlock_n ?_ | refine S.inBlock_r ?_ | refine S.inBlock_x rfl ?_ | refine S.noGoto_r ?_ | refine S.noGoto_n ?_ | refine S.noGoto_x ?_)
        refine hK13 _ _ ?_
        refine S.seq fun K15 hK15 => ?_
        refine S.region rfl ?_
        refine S.op (S.q (q_assign rfl) rfl rfl ?_)
        first | with_reducible refine S.nilK ?_ | refine S.nil ?_
        refine hK15 _ _ ?_
        refine S.seq fun K16 hK16 => ?_
        refine S.seq fun K17 hK17 => ?_
        refine S.region rfl ?_
        refine S.ent (Ent.ownNil 3 1) ?_
        show S _ w0 _ (own SV.nil 3 1 (nds (bitU x.ns 0)) :: _) _
        refine S.op (S.q (q_move rfl) rfl rfl ?_)
        refine S.op (S.q (q_move rfl) rfl rfl ?_)
        first | with_reducible refine S.nilK ?_ | refine S.nil ?_
        refine hK17 _ _ ?_
        refine S.block ?_
        refine S.loop (fun q2 ρ' Γ' => ∃ (k : Nat) (sv : SV) (nl : List Nat), q2 = N - k ∧ k ≤ N ∧ nl = bitU x.ns k ∧ sv.n = nl.length ∧ ρ' = [(3, bsv d), (12, .int .i64 (R : Int)), (13, .int .i64 (N : Int)), (14, .pointer (some ⟨b, 0, none⟩)), (16, .pointer (some ⟨c, 0, none⟩)), (18, pa.v), (19, pb.v), (20, .int .i64 (i : Int)), (21, .pointer (some ⟨b21, 0, none⟩)), (22, sv.v), (45, s.v), (46, .int .i64 s.n), (47, .int .i64 (i : Int)), (54, .int .i64 (N : Int)), (55, .int .i64 (k : Int))] ∧   Γ' = own sv 3 1 (nds nl) :: blk b21 46 #[.int .u8 x.row, bsv x.ns, .int .u8 x.tier, .bool x.no] :: own pb 111 2 (al.flatMap cdC) :: own pa 110 2 (al.flatMap cdC) :: RI c mm :: MI b mm :: old W :: Γ) (m := _) (ρ0 := _) (Γ0 := _) (⟨0, SV.nil, bitU x.ns 0, rfl, by omega, rfl, rfl, rfl, rfl⟩) (by repeat (first | exact trivial | refine ⟨rfl, ?_⟩)) Sub.ent ?_
        rintro q2 ρ' Γ' ⟨k, sv, nl, hq2, hk, hnl, hsv, rfl, rfl⟩
        have hnlen := bitU_len x.ns k
        rw [← hnl] at hnlen
        refine S.seq fun K18 hK18 => ?_
        refine S.region rfl ?_
        refine S.op (S.q (q_lt rfl rfl) rfl rfl ?_)
        first | with_reducible refine S.nilK ?_ | refine S.nil ?_
        refine hK18 _ _ ?_
        refine S.seq fun K19 hK19 => ?_
        refine S.condD rfl (fun h3 => ?_) (fun h3 => ?_)
        · refine S.skip ?_
          with_reducible repeat (first | refine S.then_n ?_ | refine S.then_x ?_ | refine S.then_r ?_ | refine S.inBlock_n ?_ | refine S.inBlock_r ?_ | refine S.inBlock_x rfl ?_ | refine S.noGoto_r ?_ | refine S.noGoto_n ?_ | refine S.noGoto_x ?_)
          refine hK19 _ _ ?_
          refine S.seq fun K20 hK20 => ?_
          refine S.block ?_
          refine S.seq fun K21 hK21 => ?_
          refine S.region rfl ?_
          refine S.op (S.q (q_move rfl) rfl rfl ?_)
          refine S.op (S.q (q_assign rfl) rfl rfl ?_)
          first | with_reducible refine S.nilK ?_ | refine S.nil ?_
          refine hK21 _ _ ?_
          refine S.seq fun K22 hK22 => ?_
          refine S.region rfl ?_
          refine S.op (S.q (q_field Tryd.fo46_1 rfl) rfl rfl ?_)
          refine S.op (S.q (q_load Tryd.at23 rfl rfl) rfl rfl ?_)
          refine S.op (S.q (q_move rfl) rfl rfl ?_)
          refine S.op (S.q (q_shrB (x.ns) (k) rfl rfl rfl (rfl) (by omega)) rfl rfl ?_)
          refine S.op (S.q (q_andB (x.ns >>> k) (1#16) rfl rfl (rfl) (rfl)) rfl rfl ?_)
          refine S.op (S.q (q_eq rfl rfl) rfl rfl ?_)
          first | with_reducible refine S.nilK ?_ | refine S.nil ?_
          refine hK22 _ _ ?_
          refine S.condD rfl (fun h4 => ?_) (fun h4 => ?_)
          · have hb4 : x.ns.getLsbD k = true := by rw [← has_bit]; exact decide_eq_true h4
            have hnl2 : nl ++ [k] = bitU x.ns (k + 1) := by rw [bitU, if_pos hb4, hnl]
            have hd4 : nds nl ++ [.int .i64 (k : Int)] = nds (nl ++ [k]) := by simp
            refine S.region rfl ?_
            refine S.op (S.q (q_move rfl) rfl rfl ?_)
            refine S.op (S.q (q_move rfl) rfl rfl ?_)
            refine S.op (S.buildSlice (pvs := [(_, _)]) [_] Tryd.underlying47 Tryd.inf3 rfl rfl ⟨⟨rfl, rfl⟩, trivial⟩ rfl rfl ?_)
            intro b66
            refine S.op (S.appendOw (s := sv) (1) ([.int .i64 (k : Int)]) Tryd.underlying47 Tryd.inf3 rfl rfl rfl (blk_slAt (b := b66) rfl (by unfold maxLen; omega)) (by first | rfl | exact allOne_bcells _) (⟨by omega, by omega⟩) rfl ?_)
            intro sv2 hsv2
            refine S.op (S.q (q_assign rfl) rfl rfl ?_)
            first | with_reducible refine S.nilK ?_ | refine S.nil ?_
            with_reducible repeat (first | refine S.then_n ?_ | refine S.then_x ?_ | refine S.then_r ?_ | refine S.inBlock_n ?_ | refine S.inBlock_r ?_ | refine S.inBlock_x rfl ?_ | refine S.noGoto_r ?_ | refine S.noGoto_n ?_ | refine S.noGoto_x ?_)
            refine hK20 _ _ ?_
            refine S.region rfl ?_
            refine S.op (S.q (q_add rfl rfl (inI64 (by omega) (by omega))) rfl rfl ?_)
            refine S.op (S.q (q_move rfl) rfl rfl ?_)
            first | with_reducible refine S.nilK ?_ | refine S.nil ?_
            with_reducible repeat (first | refine S.then_n ?_ | refine S.then_x ?_ | refine S.then_r ?_ | refine S.inBlock_n ?_ | refine S.inBlock_r ?_ | refine S.inBlock_x rfl ?_ | refine S.noGoto_r ?_ | refine S.noGoto_n ?_ | refine S.noGoto_x ?_)
            first | (rw [hd4]; exact S.next (q2 - 1) ⟨k + 1, sv2, nl ++ [k], by omega, by omega, hnl2, by rw [List.length_append, List.length_singleton]; omega, rfl, rfl⟩ (by omega) (by repeat (first | exact trivial | refine ⟨rfl, ?_⟩)) Sub.ent) | exact S.next (q2 - 1) ⟨k + 1, sv, nl, by omega, by omega, hnl2, hsv, rfl, rfl⟩ (by omega) (by repeat (first | exact trivial | refine ⟨rfl, ?_⟩)) Sub.ent
          · have hb4 : x.ns.getLsbD k = false := by rw [← has_bit]; exact decide_eq_false h4
            have hnl2 : nl = bitU x.ns (k + 1) := by rw [bitU, if_neg (by rw [hb4]; simp), hnl]
            refine S.skip ?_
            with_reducible repeat (first | refine S.then_n ?_ | refine S.then_x ?_ | refine S.then_r ?_ | refine S.inBlock_n ?_ | refine S.inBlock_r ?_ | refine S.inBlock_x rfl ?_ | refine S.noGoto_r ?_ | refine S.noGoto_n ?_ | refine S.noGoto_x ?_)
            with_reducible repeat (first | refine S.then_n ?_ | refine S.then_x ?_ | refine S.then_r ?_ | refine S.inBlock_n ?_ | refine S.inBlock_r ?_ | refine S.inBlock_x rfl ?_ | refine S.noGoto_r ?_ | refine S.noGoto_n ?_ | refine S.noGoto_x ?_)
            refine hK20 _ _ ?_
            refine S.region rfl ?_
            refine S.op (S.q (q_add rfl rfl (inI64 (by omega) (by omega))) rfl rfl ?_)
            refine S.op (S.q (q_move rfl) rfl rfl ?_)
            first | with_reducible refine S.nilK ?_ | refine S.nil ?_
            with_reducible repeat (first | refine S.then_n ?_ | refine S.then_x ?_ | refine S.then_r ?_ | refine S.inBlock_n ?_ | refine S.inBlock_r ?_ | refine S.inBlock_x rfl ?_ | refine S.noGoto_r ?_ | refine S.noGoto_n ?_ | refine S.noGoto_x ?_)
            first | (rw [hd4]; exact S.next (q2 - 1) ⟨k + 1, sv2, nl ++ [k], by omega, by omega, hnl2, by rw [List.length_append, List.length_singleton]; omega, rfl, rfl⟩ (by omega) (by repeat (first | exact trivial | refine ⟨rfl, ?_⟩)) Sub.ent) | exact S.next (q2 - 1) ⟨k + 1, sv, nl, by omega, by omega, hnl2, hsv, rfl, rfl⟩ (by omega) (by repeat (first | exact trivial | refine ⟨rfl, ?_⟩)) Sub.ent
        · have hkN : k = N := by omega
          obtain ⟨t, ht⟩ : ∃ t : Nat, (t : Int) = x.row % (R : Int) := ⟨(x.row % (R : Int)).toNat, Int.toNat_of_nonneg (Int.emod_nonneg _ (by omega))⟩
          have htR : t < R := by have := Int.emod_lt_of_pos x.row (show (0 : Int) < R by omega); omega
          have hup := bitU_ok hok x.ns
          rw [hmN, ← hkN, ← hnl] at hup
          have hst : stUp (mx0 R N) l (i + 1) = (putR mm (i + 1) (x.row % (R : Int)) (casts nl)).2 := by
            rw [stUp, hxd, ← hmm, hnl, hkN]
            rfl
          obtain ⟨n1, _, n3⟩ := putR_N mm (i + 1) (x.row % (R : Int)) (casts nl)
          refine S.exit ?_
          with_reducible repeat (first | refine S.then_n ?_ | refine S.then_x ?_ | refine S.then_r ?_ | refine S.inBlock_n ?_ | refine S.inBlock_r ?_ | refine S.inBlock_x rfl ?_ | refine S.noGoto_r ?_ | refine S.noGoto_n ?_ | refine S.noGoto_x ?_)
          with_reducible refine S.inBlock_s ?_
          with_reducible repeat (first | refine S.then_n ?_ | refine S.then_x ?_ | refine S.then_r ?_ | refine S.inBlock_n ?_ | refine S.inBlock_r ?_ | refine S.inBlock_x rfl ?_ | refine S.noGoto_r ?_ | refine S.noGoto_n ?_ | refine S.noGoto_x ?_)
          refine hK16 _ _ ?_
          refine S.seq fun K23 hK23 => ?_
          refine S.region rfl ?_
          refine S.op (S.q (q_move rfl) rfl rfl ?_)
          refine S.op (S.q (q_move rfl) rfl rfl ?_)
          refine S.op (S.q (q_add rfl rfl (inI64 (by omega) (by omega))) rfl rfl ?_)
          refine S.op (S.q (q_conv Tryd.it44 (by rw [Tryd.underlying3]; rfl) rfl (inU32 (by omega) (by omega))) rfl rfl ?_)
          refine S.op (S.q (q_field Tryd.fo46_0 rfl) rfl rfl ?_)
          refine S.op (S.q (q_load Tryd.at5 rfl rfl) rfl rfl ?_)
          refine S.op (S.q (q_conv Tryd.it3 (by rw [Tryd.underlying5]; rfl) rfl (inI64 (by omega) (by omega))) rfl rfl ?_)
          refine S.op (S.q (q_move rfl) rfl rfl ?_)
          refine S.op (S.q (q_rem rfl rfl (⟨by omega, by omega⟩)) rfl rfl ?_)
          refine S.op (S.q (q_move rfl) rfl rfl ?_)
          refine S.op (S.call Tryd.en44 (vs := [_, _, _, _]) ⟨rfl, rfl, rfl, rfl, trivial⟩ (Put_S b mm (i + 1) (x.row % (R : Int)) (own sv 3 1 (nds nl)) sv (casts nl) (by rw [hsv, List.length_map]) (rdNds sv 3 nl) (by omega)) rfl ?_)
          rintro v Θ ⟨rfl, rfl⟩
          first | with_reducible refine S.nilK ?_ | refine S.nil ?_
          refine hK23 _ _ ?_
          refine S.seq fun K24 hK24 => ?_
          refine S.region rfl ?_
          refine S.op (S.q (q_move rfl) rfl rfl ?_)
          refine S.op (S.q (q_move rfl) rfl rfl ?_)
          refine S.op (S.q (q_add rfl rfl (inI64 (by omega) (by omega))) rfl rfl ?_)
          refine S.op (S.q (q_conv Tryd.it44 (by rw [Tryd.underlying3]; rfl) rfl (inU32 (by omega) (by omega))) rfl rfl ?_)
          refine S.op (S.q (q_field Tryd.fo46_0 rfl) rfl rfl ?_)
          refine S.op (S.q (q_load Tryd.at5 rfl rfl) rfl rfl ?_)
          refine S.op (S.q (q_conv Tryd.it3 (by rw [Tryd.underlying5]; rfl) rfl (inI64 (by omega) (by omega))) rfl rfl ?_)
          refine S.op (S.q (q_move rfl) rfl rfl ?_)
          refine S.op (S.q (q_rem rfl rfl (⟨by omega, by omega⟩)) rfl rfl ?_)
          refine S.op (S.q (q_move rfl) rfl rfl ?_)
          refine S.op (S.call Tryd.en49 (vs := [_, _, _, _]) ⟨rfl, rfl, rfl, rfl, trivial⟩ ((by rw [← ht]; exact rPut_S c mm (i + 1) t (own sv 3 1 (nds nl)) sv (casts nl) (by rw [hsv, List.length_map]) (rdNds sv 3 nl) (by omega) (by omega) (by omega) hup)) rfl ?_)
          rintro v Θ ⟨rfl, rfl⟩
          rw [ht]
          first | with_reducible refine S.nilK ?_ | refine S.nil ?_
          refine hK24 _ _ ?_
          refine S.seq fun K25 hK25 => ?_
          refine S.region rfl ?_
          obtain ⟨no, hno⟩ : ∃ no, no = x.no := ⟨_, rfl⟩
          rw [← hno]
          refine S.op (S.q (q_field Tryd.fo46_3 rfl) rfl rfl ?_)
          refine S.op (S.q (q_load Tryd.at4 rfl rfl) rfl rfl ?_)
          refine S.op (S.q (q_not rfl) rfl rfl ?_)
          first | with_reducible refine S.nilK ?_ | refine S.nil ?_
          refine hK25 _ _ ?_
          refine S.cond rfl (fun h5 => ?_) (fun h5 => ?_)
          · have hal2 : al ++ [(i + 1, x.tier)] = cdUp l (i + 1) := by rw [cdUp, hxd, ← hno, show no = false by simpa using h5, hal]; rfl
            refine S.seq fun K26 hK26 => ?_
            refine S.region rfl ?_
            refine S.op (S.q (q_move rfl) rfl rfl ?_)
            refine S.op (S.q (q_move rfl) rfl rfl ?_)
            refine S.op (S.q (q_add rfl rfl (inI64 (by omega) (by omega))) rfl rfl ?_)
            refine S.op (S.q (q_conv Tryd.it44 (by rw [Tryd.underlying3]; rfl) rfl (inU32 (by omega) (by omega))) rfl rfl ?_)
            refine S.op (S.q (q_field Tryd.fo46_2 rfl) rfl rfl ?_)
            refine S.op (S.q (q_load Tryd.at5 rfl rfl) rfl rfl ?_)
            refine S.op (S.q (q_build (pvs := [(_, _), (_, _)]) [_, _] Tryd.z110 Tryd.p110 ⟨⟨rfl, rfl⟩, ⟨rfl, rfl⟩, trivial⟩ rfl) rfl rfl ?_)
            refine S.op (S.buildSlice (pvs := [(_, _)]) [_, _] Tryd.underlying27 Tryd.inf110 rfl rfl ⟨⟨rfl, rfl⟩, trivial⟩ rfl rfl ?_)
            intro b101
            refine S.op (S.appendOw (s := pa) (1) (cdC (i + 1, x.tier)) Tryd.underlying27 Tryd.inf110 rfl rfl rfl (blk_slAt (b := b101) rfl (by unfold maxLen; omega)) (by first | rfl | exact allOne_bcells _) (⟨by omega, by omega⟩) rfl ?_)
            intro pa2 hpa2
            refine S.op (S.q (q_assign rfl) rfl rfl ?_)
            first | with_reducible refine S.nilK ?_ | refine S.nil ?_
            refine hK26 _ _ ?_
            refine S.region rfl ?_
            refine S.op (S.q (q_move rfl) rfl rfl ?_)
            refine S.op (S.q (q_move rfl) rfl rfl ?_)
            refine S.op (S.q (q_add rfl rfl (inI64 (by omega) (by omega))) rfl rfl ?_)
            refine S.op (S.q (q_conv Tryd.it44 (by rw [Tryd.underlying3]; rfl) rfl (inU32 (by omega) (by omega))) rfl rfl ?_)
            refine S.op (S.q (q_field Tryd.fo46_2 rfl) rfl rfl ?_)
            refine S.op (S.q (q_load Tryd.at5 rfl rfl) rfl rfl ?_)
            refine S.op (S.q (q_build (pvs := [(_, _), (_, _)]) [_, _] Tryd.z111 Tryd.p111 ⟨⟨rfl, rfl⟩, ⟨rfl, rfl⟩, trivial⟩ rfl) rfl rfl ?_)
            refine S.op (S.buildSlice (pvs := [(_, _)]) [_, _] Tryd.underlying28 Tryd.inf111 rfl rfl ⟨⟨rfl, rfl⟩, trivial⟩ rfl rfl ?_)
            intro b110
            refine S.op (S.appendOw (s := pb) (1) (cdC (i + 1, x.tier)) Tryd.underlying28 Tryd.inf111 rfl rfl rfl (blk_slAt (b := b110) rfl (by unfold maxLen; omega)) (by first | rfl | exact allOne_bcells _) (⟨by omega, by omega⟩) rfl ?_)
            intro pb2 hpb2
            refine S.op (S.q (q_assign rfl) rfl rfl ?_)
            first | with_reducible refine S.nilK ?_ | refine S.nil ?_
            with_reducible repeat (first | refine S.then_n ?_ | refine S.then_x ?_ | refine S.then_r ?_ | refine S.inBlock_n ?_ | refine S.inBlock_r ?_ | refine S.inBlock_x rfl ?_ | refine S.noGoto_r ?_ | refine S.noGoto_n ?_ | refine S.noGoto_x ?_)
            refine hK11 _ _ ?_
            refine S.region rfl ?_
            refine S.op (S.q (q_add rfl rfl (inI64 (by omega) (by omega))) rfl rfl ?_)
            refine S.op (S.q (q_move rfl) rfl rfl ?_)
            first | with_reducible refine S.nilK ?_ | refine S.nil ?_
            with_reducible repeat (first | refine S.then_n ?_ | refine S.then_x ?_ | refine S.then_r ?_ | refine S.inBlock_n ?_ | refine S.inBlock_r ?_ | refine S.inBlock_x rfl ?_ | refine S.noGoto_r ?_ | refine S.noGoto_n ?_ | refine S.noGoto_x ?_)
            first | (rw [flat_snoc cdC al (i + 1, x.tier)]; exact S.next (q - 1) ⟨i + 1, (putR mm (i + 1) (x.row % (R : Int)) (casts nl)).2, pa2, pb2, al ++ [(i + 1, x.tier)], by omega, by omega, by omega, hst.symm, by omega, by omega, hal2, by rw [List.length_append, List.length_singleton]; omega, by rw [List.length_append, List.length_singleton]; omega, rfl, rfl⟩ (by omega) (by repeat (first | exact trivial | refine ⟨rfl, ?_⟩)) Sub.ent) | exact S.next (q - 1) ⟨i + 1, (putR mm (i + 1) (x.row % (R : Int)) (casts nl)).2, pa, pb, al, by omega, by omega, by omega, hst.symm, by omega, by omega, hal2, hpa, hpb, rfl, rfl⟩ (by omega) (by repeat (first | exact trivial | refine ⟨rfl, ?_⟩)) Sub.ent
          · have hal2 : al = cdUp l (i + 1) := by rw [cdUp, hxd, ← hno, show no = true by simpa using h5, hal]; rfl
            refine S.skip ?_
            with_reducible repeat (first | refine S.then_n ?_ | refine S.then_x ?_ | refine S.then_r ?_ | refine S.inBlock_n ?_ | refine S.inBlock_r ?_ | refine S.inBlock_x rfl ?_ | refine S.noGoto_r ?_ | refine S.noGoto_n ?_ | refine S.noGoto_x ?_)
            with_reducible repeat (first | refine S.then_n ?_ | refine S.then_x ?_ | refine S.then_r ?_ | refine S.inBlock_n ?_ | refine S.inBlock_r ?_ | refine S.inBlock_x rfl ?_ | refine S.noGoto_r ?_ | refine S.noGoto_n ?_ | refine S.noGoto_x ?_)
            refine hK11 _ _ ?_
            refine S.region rfl ?_
            refine S.op (S.q (q_add rfl rfl (inI64 (by omega) (by omega))) rfl rfl ?_)
            refine S.op (S.q (q_move rfl) rfl rfl ?_)
            first | with_reducible refine S.nilK ?_ | refine S.nil ?_
            with_reducible repeat (first | refine S.then_n ?_ | refine S.then_x ?_ | refine S.then_r ?_ | refine S.inBlock_n ?_ | refine S.inBlock_r ?_ | refine S.inBlock_x rfl ?_ | refine S.noGoto_r ?_ | refine S.noGoto_n ?_ | refine S.noGoto_x ?_)
            first | (rw [flat_snoc cdC al (i + 1, x.tier)]; exact S.next (q - 1) ⟨i + 1, (putR mm (i + 1) (x.row % (R : Int)) (casts nl)).2, pa2, pb2, al ++ [(i + 1, x.tier)], by omega, by omega, by omega, hst.symm, by omega, by omega, hal2, by rw [List.length_append, List.length_singleton]; omega, by rw [List.length_append, List.length_singleton]; omega, rfl, rfl⟩ (by omega) (by repeat (first | exact trivial | refine ⟨rfl, ?_⟩)) Sub.ent) | exact S.next (q - 1) ⟨i + 1, (putR mm (i + 1) (x.row % (R : Int)) (casts nl)).2, pa, pb, al, by omega, by omega, by omega, hst.symm, by omega, by omega, hal2, hpa, hpb, rfl, rfl⟩ (by omega) (by repeat (first | exact trivial | refine ⟨rfl, ?_⟩)) Sub.ent
    · have hmin : min l.length 40 = i := by omega
      refine S.exit ?_
      with_reducible repeat (first | refine S.then_n ?_ | refine S.then_x ?_ | refine S.then_r ?_ | refine S.inBlock_n ?_ | refine S.inBlock_r ?_ | refine S.inBlock_x rfl ?_ | refine S.noGoto_r ?_ | refine S.noGoto_n ?_ | refine S.noGoto_x ?_)
      with_reducible refine S.inBlock_s ?_
      with_reducible repeat (first | refine S.then_n ?_ | refine S.then_x ?_ | refine S.then_r ?_ | refine S.inBlock_n ?_ | refine S.inBlock_r ?_ | refine S.inBlock_x rfl ?_ | refine S.noGoto_r ?_ | refine S.noGoto_n ?_ | refine S.noGoto_x ?_)
      with_reducible repeat (first | refine S.then_n ?_ | refine S.then_x ?_ | refine S.then_r ?_ | refine S.inBlock_n ?_ | refine S.inBlock_r ?_ | refine S.inBlock_x rfl ?_ | refine S.noGoto_r ?_ | refine S.noGoto_n ?_ | refine S.noGoto_x ?_)
      have hcr : al = cdR l := by rw [cdR, hmin, hal]
      subst hcr
      exact S.meet ⟨mm, pa, pb, by rw [hmin]; exact hmm, hmR, hmN, hpa, hpb, rfl, rfl⟩ ⟨rfl, rfl, rfl, rfl, rfl, rfl, trivial⟩ Sub.ent
  · rintro ρ' Γ' ⟨mm, pa, pb, hmm, hmR, hmN, hpa, hpb, rfl, rfl⟩
    refine hK7 _ _ ?_
    refine S.seq fun K27 hK27 => ?_
    refine S.seq fun K28 hK28 => ?_
    refine S.region rfl ?_
    refine S.op (S.q (q_move rfl) rfl rfl ?_)
    refine S.op (S.q (q_move rfl) rfl rfl ?_)
    first | with_reducible refine S.nilK ?_ | refine S.nil ?_
    refine hK28 _ _ ?_
    refine S.block ?_
    refine S.loop (fun q ρ' Γ' => ∃ (k : Nat) (m2 : Mx), q = N - k ∧ k ≤ N ∧ m2 = dnUp mm d k ∧ m2.N = N ∧ ρ' = [(3, bsv d), (14, .pointer (some ⟨b, 0, none⟩)), (16, .pointer (some ⟨c, 0, none⟩)), (18, pa.v), (19, pb.v), (113, .int .i64 (N : Int)), (114, .int .i64 (k : Int))] ∧ Γ' = own pb 111 2 ((cdR l).flatMap cdC) :: own pa 110 2 ((cdR l).flatMap cdC) :: RI c m2 :: MI b m2 :: old W :: Γ) (m := _) (ρ0 := _) (Γ0 := _) (⟨0, mm, rfl, by omega, rfl, hmN, rfl, rfl⟩) (by repeat (first | exact trivial | refine ⟨rfl, ?_⟩)) Sub.ent ?_
    rintro q ρ' Γ' ⟨k, m2, hq, hk, hm2, hm2N, rfl, rfl⟩
    refine S.miOk b m2 fun hok => ?_
    have hN16 := hok.N16
    refine S.seq fun K29 hK29 => ?_
    refine S.region rfl ?_
    refine S.op (S.q (q_lt rfl rfl) rfl rfl ?_)
    first | with_reducible refine S.nilK ?_ | refine S.nil ?_
    refine hK29 _ _ ?_
    refine S.seq fun K30 hK30 => ?_
    refine S.condD rfl (fun h6 => ?_) (fun h6 => ?_)
    · refine S.skip ?_
      with_reducible repeat (first | refine S.then_n ?_ | refine S.then_x ?_ | refine S.then_r ?_ | refine S.inBlock_n ?_ | refine S.inBlock_r ?_ | refine S.inBlock_x rfl ?_ | refine S.noGoto_r ?_ | refine S.noGoto_n ?_ | refine S.noGoto_x ?_)
      refine hK30 _ _ ?_
      refine S.seq fun K31 hK31 => ?_
      refine S.block ?_
      refine S.seq fun K32 hK32 => ?_
      refine S.region rfl ?_
      refine S.op (S.q (q_move rfl) rfl rfl ?_)
      refine S.op (S.q (q_assign rfl) rfl rfl ?_)
      first | with_reducible refine S.nilK ?_ | refine S.nil ?_
      refine hK32 _ _ ?_
      refine S.seq fun K33 hK33 => ?_
      refine S.region rfl ?_
      refine S.op (S.q (q_move rfl) rfl rfl ?_)
      refine S.op (S.q (q_move rfl) rfl rfl ?_)
      refine S.op (S.q (q_shrB (d) (k) rfl rfl rfl (rfl) (by omega)) rfl rfl ?_)
      refine S.op (S.q (q_andB (d >>> k) (1#16) rfl rfl (rfl) (rfl)) rfl rfl ?_)
      refine S.op (S.q (q_eq rfl rfl) rfl rfl ?_)
      first | with_reducible refine S.nilK ?_ | refine S.nil ?_
      refine hK33 _ _ ?_
      refine S.condD rfl (fun h7 => ?_) (fun h7 => ?_)
      · have hb6 : d.getLsbD k = true := by rw [← has_bit]; exact decide_eq_true h7
        have hur : upR m2 k false = (0, m2.setUp k false) := by rw [upR, if_pos (nodeB_iff.2 ⟨by omega, by omega⟩), Int.toNat_natCast]
        have hdn : m2.setUp k false = dnUp mm d (k + 1) := by rw [dnUp, if_pos hb6, ← hm2, hur]
        refine S.seq fun K34 hK34 => ?_
        refine S.region rfl ?_
        refine S.op (S.q (q_move rfl) rfl rfl ?_)
        refine S.op (S.q (q_move rfl) rfl rfl ?_)
        refine S.op (S.call Tryd.en39 (vs := [_, _, _]) ⟨rfl, rfl, rfl, trivial⟩ (Up_S b m2 k false) rfl ?_)
        rintro v Θ ⟨rfl, rfl⟩
        rw [hur]
        refine S.riOpen c m2 fun cs us rs hri => ?_
        have hun := hri.un
        refine S.ownSome us (by omega) fun ub uo hua _ _ _ => ?_
        first | with_reducible refine S.nilK ?_ | refine S.nil ?_
        refine hK34 _ _ ?_
        refine S.region rfl ?_
        refine S.op (S.q (q_move rfl) rfl rfl ?_)
        refine S.op (S.q (q_nilCheck rfl) rfl rfl ?_)
        refine S.op (S.q (q_field Tryd.fo65_1 rfl) rfl rfl ?_)
        refine S.op (S.q (q_load Tryd.at63 rfl rfl) rfl rfl ?_)
        refine S.op (S.q (q_move rfl) rfl rfl ?_)
        refine S.op (S.q (q_indexO (k) Tryd.el63 rfl hua rfl rfl (by omega)) rfl rfl ?_)
        refine S.op (S.storeOw (us) (k) Tryd.at4 rfl rfl rfl hua (by first | rfl | exact Nat.add_assoc _ _ _ | omega) (by simp; omega) (upC_set hN16 (by omega)) ?_)
        first | with_reducible refine S.nilK ?_ | refine S.nil ?_
        with_reducible repeat (first | refine S.then_n ?_ | refine S.then_x ?_ | refine S.then_r ?_ | refine S.inBlock_n ?_ | refine S.inBlock_r ?_ | refine S.inBlock_x rfl ?_ | refine S.noGoto_r ?_ | refine S.noGoto_n ?_ | refine S.noGoto_x ?_)
        refine hK31 _ _ ?_
        refine S.region rfl ?_
        refine S.op (S.q (q_add rfl rfl (inI64 (by omega) (by omega))) rfl rfl ?_)
        refine S.op (S.q (q_move rfl) rfl rfl ?_)
        first | with_reducible refine S.nilK ?_ | refine S.nil ?_
        with_reducible repeat (first | refine S.then_n ?_ | refine S.then_x ?_ | refine S.then_r ?_ | refine S.inBlock_n ?_ | refine S.inBlock_r ?_ | refine S.inBlock_x rfl ?_ | refine S.noGoto_r ?_ | refine S.noGoto_n ?_ | refine S.noGoto_x ?_)
        first | (refine S.riClose c (m2.setUp k false) cs us rs (hri.setUp (by omega)) ?_; exact S.next (q - 1) ⟨k + 1, m2.setUp k false, by omega, by omega, hdn, hm2N, rfl, rfl⟩ (by omega) (by repeat (first | exact trivial | refine ⟨rfl, ?_⟩)) Sub.ent) | exact S.next (q - 1) ⟨k + 1, m2, by omega, by omega, hdn, hm2N, rfl, rfl⟩ (by omega) (by repeat (first | exact trivial | refine ⟨rfl, ?_⟩)) Sub.ent
      · have hb6 : d.getLsbD k = false := by rw [← has_bit]; exact decide_eq_false h7
        have hdn : m2 = dnUp mm d (k + 1) := by rw [dnUp, if_neg (by rw [hb6]; simp), ← hm2]
        refine S.skip ?_
        with_reducible repeat (first | refine S.then_n ?_ | refine S.then_x ?_ | refine S.then_r ?_ | refine S.inBlock_n ?_ | refine S.inBlock_r ?_ | refine S.inBlock_x rfl ?_ | refine S.noGoto_r ?_ | refine S.noGoto_n ?_ | refine S.noGoto_x ?_)
        with_reducible repeat (first | refine S.then_n ?_ | refine S.then_x ?_ | refine S.then_r ?_ | refine S.inBlock_n ?_ | refine S.inBlock_r ?_ | refine S.inBlock_x rfl ?_ | refine S.noGoto_r ?_ | refine S.noGoto_n ?_ | refine S.noGoto_x ?_)
        refine hK31 _ _ ?_
        refine S.region rfl ?_
        refine S.op (S.q (q_add rfl rfl (inI64 (by omega) (by omega))) rfl rfl ?_)
        refine S.op (S.q (q_move rfl) rfl rfl ?_)
        first | with_reducible refine S.nilK ?_ | refine S.nil ?_
        with_reducible repeat (first | refine S.then_n ?_ | refine S.then_x ?_ | refine S.then_r ?_ | refine S.inBlock_n ?_ | refine S.inBlock_r ?_ | refine S.inBlock_x rfl ?_ | refine S.noGoto_r ?_ | refine S.noGoto_n ?_ | refine S.noGoto_x ?_)
        first | (refine S.riClose c (m2.setUp k false) cs us rs (hri.setUp (by omega)) ?_; exact S.next (q - 1) ⟨k + 1, m2.setUp k false, by omega, by omega, hdn, hm2N, rfl, rfl⟩ (by omega) (by repeat (first | exact trivial | refine ⟨rfl, ?_⟩)) Sub.ent) | exact S.next (q - 1) ⟨k + 1, m2, by omega, by omega, hdn, hm2N, rfl, rfl⟩ (by omega) (by repeat (first | exact trivial | refine ⟨rfl, ?_⟩)) Sub.ent
    · have hfin : bldR r n l d = m2 := by rw [hbR, ← hmm, hm2, show k = N by omega]
      rw [← hfin]
      refine S.exit ?_
      with_reducible repeat (first | refine S.then_n ?_ | refine S.then_x ?_ | refine S.then_r ?_ | refine S.inBlock_n ?_ | refine S.inBlock_r ?_ | refine S.inBlock_x rfl ?_ | refine S.noGoto_r ?_ | refine S.noGoto_n ?_ | refine S.noGoto_x ?_)
      with_reducible refine S.inBlock_s ?_
      with_reducible repeat (first | refine S.then_n ?_ | refine S.then_x ?_ | refine S.then_r ?_ | refine S.inBlock_n ?_ | refine S.inBlock_r ?_ | refine S.inBlock_x rfl ?_ | refine S.noGoto_r ?_ | refine S.noGoto_n ?_ | refine S.noGoto_x ?_)
      refine hK27 _ _ ?_
      refine S.seq fun K35 hK35 => ?_
      refine S.region rfl ?_
      refine S.op (S.q (q_move rfl) rfl rfl ?_)
      refine S.op (S.q (q_move rfl) rfl rfl ?_)
      refine S.op (S.q (q_move rfl) rfl rfl ?_)
      refine S.op (S.q (q_move rfl) rfl rfl ?_)
      refine S.op (S.q (q_assign rfl) rfl rfl ?_)
      refine S.op (S.q (q_assign rfl) rfl rfl ?_)
      refine S.op (S.q (q_assign rfl) rfl rfl ?_)
      refine S.op (S.q (q_assign rfl) rfl rfl ?_)
      first | with_reducible refine S.nilK ?_ | refine S.nil ?_
      refine hK35 _ _ ?_
      refine S.ret ?_
      with_reducible repeat (first | refine S.then_n ?_ | refine S.then_x ?_ | refine S.then_r ?_ | refine S.inBlock_n ?_ | refine S.inBlock_r ?_ | refine S.inBlock_x rfl ?_ | refine S.noGoto_r ?_ | refine S.noGoto_n ?_ | refine S.noGoto_x ?_)
      exact S.fin (rs := [_, _, _, _]) (vs := [_, _, _, _]) Tryd.results14 (⟨rfl, rfl, rfl, rfl, trivial⟩)  (⟨b, c, pa, pb, rfl, hpa, hpb, rfl⟩) Sub.ent
end Go.Proofs.YtmhdapbfpenjpaaDoor
/- The laws of victim: awake; who is chosen. -/
namespace Go.Proofs.YtmhdapbfpenjpaaDoor
open Go.RowKit
set_option maxRecDepth 20000
def vw1 : Mx := (putR (mx0 1 3) 1 0 [0, 1]).2
def vw2 : Mx := (putR vw1 2 0 [2]).2
def vwL : List Cd := [(1, 0), (2, 1)]
theorem vwf : freeR vw2 (0 : Nat) = 0 ∧ lesUp vw2 (0 : Nat) 2 vwL 2 = vwL ∧ lesUp vw2 (0 : Nat) 0 vwL 2 = [] ∧ vicUp vw2 vwL 0 1 3 = some 1 ∧ vicUp vw2 vwL 0 3 3 = some 2 ∧ vicUp vw2 [] 0 1 1 = none ∧ vw2.R = 1 :=
  ⟨by kernel_rfl, by kernel_rfl, by kernel_rfl, by kernel_rfl, by kernel_rfl, by kernel_rfl, by kernel_rfl⟩
theorem choR_one {m : Mx} (h : m.R = 1) (tier k : Int) (l : List Cd) : choR m tier k l = if (ofV m (0 : Nat) tier k l).2 = true then ((ofV m (0 : Nat) tier k l).1, 0, true) else ([], 0, false) := by
  rw [choR, h, chUp, chUp]
  simp
theorem vw_sorted : lesR vw2 (0 : Nat) 2 vwL = vwL := by
  rw [lesR, show vwL.length = 2 from rfl, vwf.2.1]
  exact (srtC_eq (by unfold vwL; decide) (.refl _) (by unfold vwL; decide)).symm
theorem vw_none : lesR vw2 (0 : Nat) 0 vwL = [] := by
  rw [lesR, show vwL.length = 2 from rfl, vwf.2.2.1]
  exact List.eq_nil_of_length_eq_zero (srtC_perm []).length_eq
theorem vw_a : choR vw2 2 1 vwL = ([(1, 0)], 0, true) ∧ choR vw2 2 3 vwL = (vwL, 0, true) ∧ choR vw2 0 1 vwL = ([], 0, false) := by
  obtain ⟨f1, _, _, f4, f5, f6, f7⟩ := vwf
  have a1 : ofV vw2 (0 : Nat) 2 1 vwL = ([(1, 0)], true) := by
    rw [ofV, if_neg (by rw [f7]; decide), vw_sorted, f1, show vwL.length + 1 = 3 from rfl, f4]; rfl
  have a2 : ofV vw2 (0 : Nat) 2 3 vwL = (vwL, true) := by
    rw [ofV, if_neg (by rw [f7]; decide), vw_sorted, f1, show vwL.length + 1 = 3 from rfl, f5]; rfl
  have a3 : ofV vw2 (0 : Nat) 0 1 vwL = ([], false) := by
    rw [ofV, if_neg (by rw [f7]; decide), vw_none, f1, show ([] : List Cd).length + 1 = 1 from rfl, f6]
  exact ⟨by rw [choR_one f7, a1]; rfl, by rw [choR_one f7, a2]; rfl, by rw [choR_one f7, a3]; rfl⟩
theorem awake_S {W : World} (hW : TabW W) : Spec Tryd.prog 13 [] [old W] fun Γ v Θ => v = .bool true ∧ Θ = old W :: Γ := by
  refine Spec.of_body Tryd.func13 rfl Tryd.ntmps13 rfl ?_
  intro w0 Γ
  obtain ⟨f1, f2, f3⟩ := vw_a
  have ht : ∀ x ∈ vwL, 0 ≤ x.2 ∧ x.2 ≤ 255 := by unfold vwL; decide
  show S _ w0 [] (old W :: Γ) _
  refine S.seq fun K1 hK1 => ?_
  refine S.region rfl ?_
  refine S.op (S.q (q_assign rfl) rfl rfl ?_)
  first | with_reducible refine S.nilK ?_ | refine S.nil ?_
  refine hK1 _ _ ?_
  refine S.seq fun K2 hK2 => ?_
  refine S.region rfl ?_
  refine S.op (S.call Tryd.en45 (vs := [_, _]) ⟨rfl, rfl, trivial⟩ (New_S 1 3 (by omega) (by omega) (by omega) (by omega)) rfl ?_)
  rintro v Θ ⟨b, rfl, rfl⟩
  refine S.op (S.q (q_move rfl) rfl rfl ?_)
  refine S.op (S.q (q_extract rfl rfl) rfl rfl ?_)
  refine S.op (S.q (q_extract rfl rfl) rfl rfl ?_)
  refine S.op (S.q (q_assign rfl) rfl rfl ?_)
  refine S.op (S.q (q_assign rfl) rfl rfl ?_)
  first | with_reducible refine S.nilK ?_ | refine S.nil ?_
  refine hK2 _ _ ?_
  refine S.seq fun K3 hK3 => ?_
  refine S.region rfl ?_
  refine S.op (S.q (q_move rfl) rfl rfl ?_)
  refine S.op (S.buildSlice (pvs := [(_, _), (_, _)]) [_, _] Tryd.underlying47 Tryd.inf3 rfl rfl ⟨⟨rfl, rfl⟩, ⟨rfl, rfl⟩, trivial⟩ rfl rfl ?_)
  intro b15
  refine S.op (S.call Tryd.en44 (vs := [_, _, _, _]) ⟨rfl, rfl, rfl, rfl, trivial⟩ (Put_S b (mx0 1 3) 1 0 (blk b15 3 #[.int .i64 0, .int .i64 1]) ⟨some ⟨b15, 0, none⟩, 2, 2⟩ [0, 1] rfl (rdBlk (cs := [.int .i64 0, .int .i64 1]) rfl (by unfold maxLen; omega)) (by omega)) rfl ?_)
  rintro v Θ ⟨rfl, rfl⟩
  rw [show (putR (mx0 1 3) 1 0 [0, 1]).2 = vw1 from rfl]
  first | with_reducible refine S.nilK ?_ | refine S.nil ?_
  refine hK3 _ _ ?_
  refine S.seq fun K4 hK4 => ?_
  refine S.region rfl ?_
  refine S.op (S.q (q_move rfl) rfl rfl ?_)
  refine S.op (S.buildSlice (pvs := [(_, _)]) [_] Tryd.underlying47 Tryd.inf3 rfl rfl ⟨⟨rfl, rfl⟩, trivial⟩ rfl rfl ?_)
  intro b18
  refine S.op (S.call Tryd.en44 (vs := [_, _, _, _]) ⟨rfl, rfl, rfl, rfl, trivial⟩ (Put_S b vw1 2 0 (blk b18 3 #[.int .i64 2]) ⟨some ⟨b18, 0, none⟩, 1, 1⟩ [2] rfl (rdBlk (cs := [.int .i64 2]) rfl (by unfold maxLen; omega)) (by omega)) rfl ?_)
  rintro v Θ ⟨rfl, rfl⟩
  rw [show (putR vw1 2 0 [2]).2 = vw2 from rfl]
  first | with_reducible refine S.nilK ?_ | refine S.nil ?_
  refine hK4 _ _ ?_
  refine S.seq fun K5 hK5 => ?_
  refine S.region rfl ?_
  refine S.op (S.q (q_build (pvs := [(_, _)]) [_, _] Tryd.z110 Tryd.p110 ⟨⟨rfl, rfl⟩, trivial⟩ rfl) rfl rfl ?_)
  refine S.op (S.q (q_build (pvs := [(_, _), (_, _)]) [_, _] Tryd.z110 Tryd.p110 ⟨⟨rfl, rfl⟩, ⟨rfl, rfl⟩, trivial⟩ rfl) rfl rfl ?_)
  refine S.op (S.buildSlice (pvs := [(_, _), (_, _)]) [_, _, _, _] Tryd.underlying27 Tryd.inf110 rfl rfl ⟨⟨rfl, rfl⟩, ⟨rfl, rfl⟩, trivial⟩ rfl rfl ?_)
  intro b22
  refine S.op (S.q (q_assign rfl) rfl rfl ?_)
  first | with_reducible refine S.nilK ?_ | refine S.nil ?_
  refine hK5 _ _ ?_
  refine S.seq fun K6 hK6 => ?_
  refine S.region rfl ?_
  have hR : RdS (blk b22 110 #[.int .u32 1, .int .u8 0, .int .u32 2, .int .u8 1]) ⟨some ⟨b22, 0, none⟩, 2, 2⟩ 2 2 (vwL.flatMap cdC) := rdBlk (cs := [.int .u32 1, .int .u8 0, .int .u32 2, .int .u8 1]) rfl (by unfold maxLen; omega)
  refine S.op (S.q (q_move rfl) rfl rfl ?_)
  refine S.op (S.q (q_move rfl) rfl rfl ?_)
  refine S.op (S.call Tryd.en15 (vs := [_, _, _, _]) ⟨rfl, rfl, rfl, rfl, trivial⟩ (Choose_S b vw2 2 1 (blk b22 110 #[.int .u32 1, .int .u8 0, .int .u32 2, .int .u8 1]) ⟨some ⟨b22, 0, none⟩, 2, 2⟩ vwL rfl (by decide) ht hR hW) rfl ?_)
  rintro v Θ ⟨u1, rfl, hu1, rfl⟩
  rw [f1] at hu1 ⊢
  simp only at hu1 ⊢
  rw [show jobsR [((1 : Nat), (0 : Int))] = [1] from rfl]
  refine S.op (S.q (q_move rfl) rfl rfl ?_)
  refine S.op (S.q (q_extract rfl rfl) rfl rfl ?_)
  refine S.op (S.q (q_extract rfl rfl) rfl rfl ?_)
  refine S.op (S.alloc Tryd.z33 rfl ?_)
  intro b4
  refine S.op (S.storeS (cs' := [_, _]) Tryd.ag33 rfl rfl rfl rfl rfl rfl ?_)
  refine S.op (S.q (q_assign rfl) rfl rfl ?_)
  first | with_reducible refine S.nilK ?_ | refine S.nil ?_
  refine hK6 _ _ ?_
  refine S.seq fun K7 hK7 => ?_
  refine S.region rfl ?_
  refine S.op (S.q (q_move rfl) rfl rfl ?_)
  refine S.op (S.q (q_move rfl) rfl rfl ?_)
  refine S.op (S.call Tryd.en15 (vs := [_, _, _, _]) ⟨rfl, rfl, rfl, rfl, trivial⟩ (Choose_S b vw2 2 3 (blk b22 110 #[.int .u32 1, .int .u8 0, .int .u32 2, .int .u8 1]) ⟨some ⟨b22, 0, none⟩, 2, 2⟩ vwL rfl (by decide) ht hR hW) rfl ?_)
  rintro v Θ ⟨u2, rfl, hu2, rfl⟩
  rw [f2] at hu2 ⊢
  simp only at hu2 ⊢
  rw [show jobsR vwL = [1, 2] from rfl]
  refine S.op (S.q (q_move rfl) rfl rfl ?_)
  refine S.op (S.q (q_extract rfl rfl) rfl rfl ?_)
  refine S.op (S.q (q_extract rfl rfl) rfl rfl ?_)
  refine S.op (S.alloc Tryd.z33 rfl ?_)
  intro b6
  refine S.op (S.storeS (cs' := [_, _]) Tryd.ag33 rfl rfl rfl rfl rfl rfl ?_)
  refine S.op (S.q (q_assign rfl) rfl rfl ?_)
  first | with_reducible refine S.nilK ?_ | refine S.nil ?_
  refine hK7 _ _ ?_
  refine S.seq fun K8 hK8 => ?_
  refine S.region rfl ?_
  refine S.op (S.q (q_move rfl) rfl rfl ?_)
  refine S.op (S.q (q_move rfl) rfl rfl ?_)
  refine S.op (S.call Tryd.en15 (vs := [_, _, _, _]) ⟨rfl, rfl, rfl, rfl, trivial⟩ (Choose_S b vw2 0 1 (blk b22 110 #[.int .u32 1, .int .u8 0, .int .u32 2, .int .u8 1]) ⟨some ⟨b22, 0, none⟩, 2, 2⟩ vwL rfl (by decide) ht hR hW) rfl ?_)
  rintro v Θ ⟨u3, rfl, hu3, rfl⟩
  rw [f3] at hu3 ⊢
  simp only at hu3 ⊢
  refine S.op (S.q (q_move rfl) rfl rfl ?_)
  refine S.op (S.q (q_extract rfl rfl) rfl rfl ?_)
  refine S.op (S.q (q_extract rfl rfl) rfl rfl ?_)
  refine S.op (S.alloc Tryd.z33 rfl ?_)
  intro b8
  refine S.op (S.storeS (cs' := [_, _]) Tryd.ag33 rfl rfl rfl rfl rfl rfl ?_)
  refine S.op (S.q (q_assign rfl) rfl rfl ?_)
  first | with_reducible refine S.nilK ?_ | refine S.nil ?_
  refine hK8 _ _ ?_
  refine S.seq fun K9 hK9 => ?_
  refine S.regionG ?_
  refine S.g_op rfl (S.q (q_move rfl) rfl rfl ?_)
  refine S.g_op rfl (S.q (q_move rfl) rfl rfl ?_)
  refine S.g_yes rfl rfl rfl (rfl) (S.q (q_move rfl) rfl rfl ?_)
  refine S.g_op rfl (S.q (q_pickT rfl (rfl) rfl) rfl rfl ?_)
  refine S.g_op rfl (S.q (q_move rfl) rfl rfl ?_)
  refine S.g_yes rfl rfl rfl (rfl) (S.q (q_move rfl) rfl rfl ?_)
  refine S.g_yes rfl rfl rfl (rfl) (S.q (q_not rfl) rfl rfl ?_)
  refine S.g_op rfl (S.q (q_pickT rfl (rfl) rfl) rfl rfl ?_)
  refine S.g_op rfl (S.q (q_move rfl) rfl rfl ?_)
  refine S.g_yes rfl rfl rfl (rfl) (S.q (q_field Tryd.fo33_1 rfl) rfl rfl ?_)
  refine S.g_yes rfl rfl rfl (rfl) (S.q (q_load Tryd.at31 rfl rfl) rfl rfl ?_)
  refine S.g_yes rfl rfl rfl (rfl) (S.buildSlice (pvs := [(_, _)]) [_] Tryd.underlying31 Tryd.inf44 rfl rfl ⟨⟨rfl, rfl⟩, trivial⟩ rfl rfl ?_)
  intro b52
  refine S.g_yes rfl rfl rfl (rfl) (S.call Tryd.en19 (vs := [_, _]) ⟨rfl, rfl, trivial⟩ (Same_S (own u1 44 1 (idsV [1])) (blk b52 44 #[.int .u32 1]) u1 ⟨some ⟨b52, 0, none⟩, 1, 1⟩ (casts [1]) [1] (rdIds u1 44 [1]) (rdBlk (cs := [.int .u32 1]) rfl (by unfold maxLen; omega)) hu1 rfl) rfl ?_)
  rintro v Θ ⟨rfl, rfl⟩
  refine S.g_op rfl (S.q (q_pickT rfl (rfl) rfl) rfl rfl ?_)
  refine S.g_op rfl (S.q (q_move rfl) rfl rfl ?_)
  refine S.g_yes rfl rfl rfl ((decide_eq_true rfl)) (S.q (q_field Tryd.fo33_1 rfl) rfl rfl ?_)
  refine S.g_yes rfl rfl rfl ((decide_eq_true rfl)) (S.q (q_load Tryd.at31 rfl rfl) rfl rfl ?_)
  refine S.g_yes rfl rfl rfl ((decide_eq_true rfl)) (S.buildSlice (pvs := [(_, _), (_, _)]) [_, _] Tryd.underlying31 Tryd.inf44 rfl rfl ⟨⟨rfl, rfl⟩, ⟨rfl, rfl⟩, trivial⟩ rfl rfl ?_)
  intro b58
  refine S.g_yes rfl rfl rfl ((decide_eq_true rfl)) (S.call Tryd.en19 (vs := [_, _]) ⟨rfl, rfl, trivial⟩ (Same_S (own u2 44 1 (idsV [1, 2])) (blk b58 44 #[.int .u32 1, .int .u32 2]) u2 ⟨some ⟨b58, 0, none⟩, 2, 2⟩ (casts [1, 2]) [1, 2] (rdIds u2 44 [1, 2]) (rdBlk (cs := [.int .u32 1, .int .u32 2]) rfl (by unfold maxLen; omega)) hu2 rfl) rfl ?_)
  rintro v Θ ⟨rfl, rfl⟩
  refine S.g_op rfl (S.q (q_pickT rfl ((decide_eq_true rfl)) rfl) rfl rfl ?_)
  refine S.g_op rfl (S.q (q_assign rfl) rfl rfl ?_)
  first | with_reducible refine S.g_nilK ?_ | refine S.g_nil ?_
  refine hK9 _ _ ?_
  refine S.ret ?_
  with_reducible repeat (first | refine S.then_n ?_ | refine S.then_x ?_ | refine S.then_r ?_ | refine S.inBlock_n ?_ | refine S.inBlock_r ?_ | refine S.inBlock_x rfl ?_ | refine S.noGoto_r ?_ | refine S.noGoto_n ?_ | refine S.noGoto_x ?_)
  exact S.fin (rs := [_]) (vs := [_]) Tryd.results13 (⟨rfl, trivial⟩)  (⟨rfl, rfl⟩) Sub.ent
/-- What is true of who is chosen. -/
theorem chUp_inv (m : Mx) (tier k : Int) (l : List Cd) : ∀ i, ((chUp m tier k l i).2.2 = true → (chUp m tier k l i).2.1 < i ∧ ofV m ((chUp m tier k l i).2.1 : Nat) tier k l = ((chUp m tier k l i).1, true)) ∧ ((chUp m tier k l i).2.2 = false → (chUp m tier k l i).1 = [] ∧ ∀ r, r < i → (ofV m (r : Nat) tier k l).2 = false)
  | 0 => ⟨fun h => (by cases h), fun _ => ⟨rfl, fun r hr => by omega⟩⟩
  | i + 1 => by
    obtain ⟨h1, h2⟩ := chUp_inv m tier k l i
    rw [chUp]
    by_cases h : ((ofV m (i : Nat) tier k l).2 && (!(chUp m tier k l i).2.2 || decide (cmpV (ofV m (i : Nat) tier k l).1 (chUp m tier k l i).1 < 0))) = true
    · rw [if_pos h]
      rw [Bool.and_eq_true] at h
      refine ⟨fun _ => ⟨by show i < i + 1; omega, ?_⟩, fun h => by cases h⟩
      show ofV m (i : Nat) tier k l = ((ofV m (i : Nat) tier k l).1, true)
      rw [← h.1]
    · rw [if_neg h]
      refine ⟨fun hf => ⟨by have := (h1 hf).1; omega, (h1 hf).2⟩, fun hf => ⟨(h2 hf).1, fun r hr => ?_⟩⟩
      by_cases e : r = i
      · subst e
        rw [hf] at h
        simpa using h
      · exact (h2 hf).2 r (by omega)
theorem ofV_free {m : Mx} {row tier k : Int} {l : List Cd} (hk : 1 ≤ k) (hr : 0 ≤ row ∧ row < m.R) (h : k ≤ (freeR m row : Nat)) : ofV m row tier k l = ([], true) := by
  have hv : vicUp m (lesR m row tier l) (freeR m row) k 1 = some 0 := by rw [vicUp, vicUp]; exact if_pos h
  rw [ofV, if_neg (by omega), vicUp_mono hv (by omega)]
  rfl
theorem vicUp_some {m : Mx} {al : List Cd} {h0 : Nat} {k : Int} {r : Nat} : ∀ {i : Nat}, vicUp m al h0 k i = some r → r < i ∧ k ≤ (haveUp m al h0 r : Nat)
  | 0, h => by cases h
  | i + 1, h => by
    rw [vicUp] at h
    cases hv : vicUp m al h0 k i with
    | some q =>
      rw [hv] at h
      simp only [Option.some.injEq] at h
      subst h
      have := vicUp_some hv
      exact ⟨by omega, this.2⟩
    | none =>
      rw [hv] at h
      simp only at h
      by_cases e : k ≤ (haveUp m al h0 i : Nat)
      · rw [if_pos e] at h
        cases h
        exact ⟨by omega, e⟩
      · rw [if_neg e] at h; cases h
theorem ofV_true {m : Mx} {row tier k : Int} {l v : List Cd} (h : ofV m row tier k l = (v, true)) : ∃ i, v = (lesR m row tier l).take i ∧ i ≤ (lesR m row tier l).length ∧ k ≤ (haveUp m (lesR m row tier l) (freeR m row) i : Nat) ∧ (1 ≤ k ∧ 0 ≤ row ∧ row < m.R) := by
  unfold ofV at h
  by_cases h1 : k < 1 ∨ row < 0 ∨ (m.R : Int) ≤ row
  · rw [if_pos h1] at h; cases h
  · rw [if_neg h1] at h
    cases hv : vicUp m (lesR m row tier l) (freeR m row) k ((lesR m row tier l).length + 1) with
    | none => rw [hv] at h; cases h
    | some i =>
      rw [hv] at h
      simp only [Prod.mk.injEq, and_true] at h
      obtain ⟨q1, q2⟩ := vicUp_some hv
      exact ⟨i, h.symm, by omega, q2, by omega⟩
theorem ofV_nil {m : Mx} {row tier k : Int} {l : List Cd} (h : ofV m row tier k l = ([], true)) : k ≤ (freeR m row : Nat) := by
  obtain ⟨i, h1, h2, h3, _⟩ := ofV_true h
  have : i = 0 := by
    have h5 := congrArg List.length h1
    rw [List.length_take] at h5
    have h6 : min i (lesR m row tier l).length = 0 := h5.symm
    omega
  subst this
  exact h3
theorem cmpV_nil (v : List Cd) : ¬ cmpV v [] < 0 := by
  unfold cmpV orI orI orI cmpI
  cases v with
  | nil => simp [topR]
  | cons a l => simp; omega
theorem cmpV_less {v w : List Cd} (h : v.length < w.length) : cmpV v w < 0 := by
  unfold cmpV orI cmpI
  rw [if_pos (show (v.length : Int) < w.length by omega)]
  simp
/-- Where there is room nobody has to go. -/
theorem chUp_free {m : Mx} {tier k : Int} {l : List Cd} (hk : 1 ≤ k) : ∀ i, i ≤ m.R → (∃ r, r < i ∧ k ≤ (freeR m (r : Nat) : Nat)) → (chUp m tier k l i).2.2 = true ∧ (chUp m tier k l i).1 = []
  | 0, _, h => by obtain ⟨r, hr, _⟩ := h; omega
  | i + 1, hi, h => by
    obtain ⟨i1, i2⟩ := chUp_inv m tier k l i
    rw [chUp]
    by_cases h0 : ∃ r, r < i ∧ k ≤ (freeR m (r : Nat) : Nat)
    · obtain ⟨f1, f2⟩ := chUp_free hk i (by omega) h0
      rw [if_neg]
      · exact ⟨f1, f2⟩
      · rw [f1, f2, decide_eq_false (cmpV_nil _)]
        simp
    · obtain ⟨r, hr, hfr⟩ := h
      have hri : r = i := by
        by_cases e : r = i
        · exact e
        · exact absurd ⟨r, by omega, hfr⟩ h0
      subst hri
      have hv := ofV_free (m := m) (row := (r : Nat)) (tier := tier) (l := l) hk ⟨by omega, by omega⟩ hfr
      rw [if_pos]
      · rw [hv]; exact ⟨rfl, rfl⟩
      · rw [hv]
        cases hf : (chUp m tier k l r).2.2 with
        | false => rfl
        | true =>
          obtain ⟨q1, q2⟩ := i1 hf
          have hne : 0 < (chUp m tier k l r).1.length := by
            rcases Nat.eq_zero_or_pos (chUp m tier k l r).1.length with e | e
            · exfalso
              rw [List.eq_nil_of_length_eq_zero e] at q2
              exact h0 ⟨_, q1, ofV_nil q2⟩
            · exact e
          rw [decide_eq_true (cmpV_less (v := []) hne)]
          rfl
def rmUp (m : Mx) (k : Int) : Nat → Bool
  | 0 => false
  | i + 1 => rmUp m k i || decide (k ≤ (freeR m (i : Nat) : Nat))
theorem rmUp_ex {m : Mx} {k : Int} : ∀ {i : Nat}, rmUp m k i = true → ∃ r, r < i ∧ k ≤ (freeR m (r : Nat) : Nat)
  | 0, h => by cases h
  | i + 1, h => by
    rw [rmUp, Bool.or_eq_true, decide_eq_true_eq] at h
    rcases h with h | h
    · obtain ⟨r, h1, h2⟩ := rmUp_ex h
      exact ⟨r, by omega, h2⟩
    · exact ⟨i, by omega, h⟩
end Go.Proofs.YtmhdapbfpenjpaaDoor
/- Once a job is gone its nodes that are up are free. Of no program. -/
namespace Go.Proofs.YtmhdapbfpenjpaaDoor
open Go.RowKit
set_option maxRecDepth 20000
theorem count_or {α : Type} (p q r : α → Bool) (l : List α) (h : ∀ x ∈ l, r x = (p x || q x) ∧ (p x && q x) = false) : (l.filter r).length = (l.filter p).length + (l.filter q).length := by
  induction l with
  | nil => rfl
  | cons x l ih =>
    have h1 := ih fun y hy => h y (List.mem_cons_of_mem _ hy)
    obtain ⟨h2, h3⟩ := h x (List.mem_cons_self ..)
    rw [List.filter_cons, List.filter_cons, List.filter_cons, h2]
    cases hp : p x <;> cases hq : q x <;> simp [h1] <;> (try omega)
    rw [hp, hq] at h3
    cases h3
theorem lst_or {s a b : Bs} (h1 : ∀ i, s.getLsbD i = (a.getLsbD i || b.getLsbD i)) (h2 : ∀ i, (a.getLsbD i && b.getLsbD i) = false) : (lst s).length = (lst a).length + (lst b).length :=
  count_or _ _ _ _ fun i _ => ⟨h1 i, h2 i⟩
theorem upN_filter (m : Mx) (l : List Nat) : ∀ q, q ≤ l.length → upN m l q = ((l.take q).filter fun i => isUpB m (i : Nat)).length
  | 0, _ => rfl
  | q + 1, hq => by
    have hx := List.getElem?_eq_getElem (show q < l.length by omega)
    have hg : l.getD q 0 = l[q] := by simp [List.getD, hx]
    rw [upN, upN_filter m l q (by omega), hg, List.take_add_one, hx, List.filter_append, List.length_append]
    cases hb : isUpB m (l[q] : Nat) <;> simp [hb]
theorem givR_eq {m : Mx} (hm : MxOk m) {j : Nat} {x : Jb} (h : look m.js j = some x) : givR m j = (lst (m.up &&& x.ns)).length := by
  obtain ⟨h1, _⟩ := look_some h
  unfold givR
  rw [ofR_some h]
  show upN m (lst x.ns) (lst x.ns).length = _
  rw [upN_filter m _ _ (Nat.le_refl _), List.take_length]
  unfold lst
  rw [List.filter_filter]
  congr 1
  refine List.filter_congr fun i _ => ?_
  rw [BitVec.getLsbD_and, isUpB, Int.toNat_natCast]
  cases hb : x.ns.getLsbD i with
  | false => simp
  | true => rw [nodeB_iff.2 ⟨by omega, by have := hm.ns x h1 i hb; omega⟩]; simp
theorem freeR_del {m : Mx} (hm : MxOk m) {j : Nat} {x : Jb} (h : look m.js j = some x) : freeR (m.del j) (x.row : Nat) = freeR m (x.row : Nat) + givR m j := by
  obtain ⟨h1, h2⟩ := look_some h
  have hr := hm.row x h1
  rw [givR_eq hm h]
  have e1 : freeR (m.del j) (x.row : Nat) = (lst ((m.del j).free x.row)).length := by rw [freeR, rowB_iff.2 ⟨by omega, by show ((x.row : Nat) : Int) < m.R; omega⟩, Int.toNat_natCast]; rfl
  have e2 : freeR m (x.row : Nat) = (lst (m.free x.row)).length := by rw [freeR, rowB_iff.2 ⟨by omega, by omega⟩, Int.toNat_natCast]; rfl
  rw [e1, e2]
  have e3 : tk (m.del j).js x.row = tk m.js x.row &&& ~~~x.ns := by
    show tk (delJ j m.js) x.row = _
    rw [← h2, tk_delJ hm h1, if_pos rfl]
  have hsub : ∀ i, x.ns.getLsbD i = true → (tk m.js x.row).getLsbD i = true := fun i hi => (tk_bit _ _ _).2 ⟨x, h1, rfl, hi⟩
  have hlt : ∀ i, m.up.getLsbD i = true → i < 16 := fun i hi => BitVec.lt_of_getLsbD hi
  refine lst_or (fun i => ?_) fun i => ?_
  · rw [Mx.free, Mx.free, e3]
    show (m.up &&& ~~~(tk m.js x.row &&& ~~~x.ns)).getLsbD i = _
    simp only [BitVec.getLsbD_and, BitVec.getLsbD_not]
    have h3 := hsub i
    have h4 := hlt i
    cases hu : m.up.getLsbD i <;> cases ht : (tk m.js x.row).getLsbD i <;> cases hn : x.ns.getLsbD i <;> simp [hu, ht, hn] at h3 h4 ⊢ <;> omega
  · rw [Mx.free]
    simp only [BitVec.getLsbD_and, BitVec.getLsbD_not]
    have h3 := hsub i
    cases hu : m.up.getLsbD i <;> cases ht : (tk m.js x.row).getLsbD i <;> cases hn : x.ns.getLsbD i <;> simp [ht, hn] at h3 ⊢
end Go.Proofs.YtmhdapbfpenjpaaDoor
/- Those that are chosen go, one by one: what is free then. Of no program. -/
namespace Go.Proofs.YtmhdapbfpenjpaaDoor
open Go.RowKit
set_option maxRecDepth 20000
theorem vicUp_least {m : Mx} {al : List Cd} {h0 : Nat} {k : Int} {r : Nat} : ∀ {i : Nat}, vicUp m al h0 k i = some r → ∀ q, q < r → ((haveUp m al h0 q : Nat) : Int) < k
  | 0, h, _, _ => by cases h
  | i + 1, h, q, hq => by
    rw [vicUp] at h
    cases hv : vicUp m al h0 k i with
    | some p =>
      rw [hv] at h
      simp only [Option.some.injEq] at h
      subst h
      exact vicUp_least hv q hq
    | none =>
      rw [hv] at h
      simp only at h
      by_cases e : k ≤ (haveUp m al h0 i : Nat)
      · rw [if_pos e] at h
        cases h
        exact vicUp_none hv q hq
      · rw [if_neg e] at h; cases h
where vicUp_none {m : Mx} {al : List Cd} {h0 : Nat} {k : Int} : ∀ {i : Nat}, vicUp m al h0 k i = none → ∀ q, q < i → ((haveUp m al h0 q : Nat) : Int) < k
  | 0, _, q, hq => by omega
  | i + 1, h, q, hq => by
    rw [vicUp] at h
    cases hv : vicUp m al h0 k i with
    | some p => rw [hv] at h; cases h
    | none =>
      rw [hv] at h
      simp only at h
      by_cases e : k ≤ (haveUp m al h0 i : Nat)
      · rw [if_pos e] at h; cases h
      · by_cases e2 : q = i
        · subst e2; omega
        · exact vicUp_none hv q (by omega)
theorem look_del {js : List Jb} {a j : Nat} (h : j ≠ a) : look (delJ a js) j = look js j := by
  induction js with
  | nil => rfl
  | cons x l ih =>
    unfold look delJ at *
    rw [List.filter_cons]
    by_cases e : x.id = a
    · rw [if_neg (by simp [e]), List.find?_cons_of_neg (by simp; omega)]
      exact ih
    · rw [if_pos (by simp [e]), List.find?_cons, List.find?_cons]
      split
      · rfl
      · exact ih
/-- The matrix without the first i of a list. -/
def goUp (m : Mx) (al : List Cd) : Nat → Mx
  | 0 => m
  | i + 1 => (goUp m al i).del (al.getD i (0, 0)).1
theorem goUp_I {m : Mx} (hm : MxOk m) {al : List Cd} {r : Nat} (hnd : al.Pairwise (fun a b => a.1 ≠ b.1)) (hin : ∀ x ∈ al, ∃ y, look m.js x.1 = some y ∧ y.row = r) : ∀ i, i ≤ al.length → MxOk (goUp m al i) ∧ (goUp m al i).up = m.up ∧ (∀ q x, i ≤ q → al[q]? = some x → look (goUp m al i).js x.1 = look m.js x.1) ∧ freeR (goUp m al i) (r : Nat) = haveUp m al (freeR m (r : Nat)) i
  | 0, _ => ⟨hm, rfl, fun _ _ _ _ => rfl, rfl⟩
  | i + 1, hi => by
    obtain ⟨h1, h2, h3, h4⟩ := goUp_I hm hnd hin i (by omega)
    have hx := List.getElem?_eq_getElem (show i < al.length by omega)
    have hg : al.getD i (0, 0) = al[i] := by simp [List.getD, hx]
    obtain ⟨y, hy, hyr⟩ := hin al[i] (List.getElem_mem _)
    have hly := (h3 i _ (Nat.le_refl _) hx).trans hy
    have hfree := freeR_del h1 hly
    rw [hyr, h4, givR_eq h1 hly, h2, ← givR_eq hm hy] at hfree
    rw [goUp, haveUp, hg]
    refine ⟨h1.del _, h2, fun q x hq hxq => ?_, hfree⟩
    have hne : x.1 ≠ al[i].1 := by
      have hq2 := (List.getElem?_eq_some_iff.1 hxq)
      have := List.pairwise_iff_getElem.1 hnd i q (by omega) hq2.1 (by omega)
      rw [hq2.2] at this
      exact this.symm
    exact (look_del hne).trans (h3 q x (by omega) hxq)
end Go.Proofs.YtmhdapbfpenjpaaDoor
/- VictimFair: nobody goes for his equal; once they are gone there is room; without the last of them there isn't. -/
namespace Go.Proofs.YtmhdapbfpenjpaaDoor
open Go.RowKit
set_option maxRecDepth 20000
theorem lesUp_test {m : Mx} {row tier : Int} {l : List Cd} {x : Cd} : ∀ {i : Nat}, x ∈ lesUp m row tier l i → ((ofR m x.1).2.2 && decide ((ofR m x.1).1 = row) && decide (x.2 < tier)) = true
  | 0, h => by cases h
  | i + 1, h => by
    rw [lesUp] at h
    split at h
    · exact lesUp_test h
    · split at h
      · rename_i hb
        rcases List.mem_append.1 h with h | h
        · exact lesUp_test h
        · rw [List.mem_singleton] at h
          rw [h]
          exact hb
      · exact lesUp_test h
theorem haveUp_take {m : Mx} {al : List Cd} {h0 p : Nat} : ∀ q, q ≤ p → haveUp m (al.take p) h0 q = haveUp m al h0 q
  | 0, _ => rfl
  | q + 1, hq => by
    rw [haveUp, haveUp, haveUp_take q (by omega)]
    have e : (al.take p).getD q (0, 0) = al.getD q (0, 0) := by simp only [List.getD, List.getElem?_take_of_lt (show q < p by omega)]
    rw [e]
theorem ofV_best {m : Mx} {row tier k : Int} {l v : List Cd} (h : ofV m row tier k l = (v, true)) : (∀ q, q < v.length → ((haveUp m v (freeR m row) q : Nat) : Int) < k) ∧ k ≤ (haveUp m v (freeR m row) v.length : Nat) ∧ v.Pairwise (fun a b => a.1 ≠ b.1) ∧ ∀ x ∈ v, (ofR m x.1).2.2 = true ∧ (ofR m x.1).1 = row ∧ x.2 < tier := by
  unfold ofV at h
  by_cases h1 : k < 1 ∨ row < 0 ∨ (m.R : Int) ≤ row
  · rw [if_pos h1] at h; cases h
  · rw [if_neg h1] at h
    cases hv : vicUp m (lesR m row tier l) (freeR m row) k ((lesR m row tier l).length + 1) with
    | none => rw [hv] at h; cases h
    | some i =>
      rw [hv] at h
      simp only [Prod.mk.injEq, and_true] at h
      obtain ⟨q1, q2⟩ := vicUp_some hv
      have hl : v.length = i := by rw [← h, List.length_take]; omega
      refine ⟨fun q hq => ?_, ?_, ?_, fun x hx => ?_⟩
      · rw [← h, haveUp_take q (by omega)]
        exact vicUp_least hv q (by omega)
      · rw [hl, ← h, haveUp_take i (Nat.le_refl _)]
        exact q2
      · rw [← h]
        refine List.Pairwise.sublist (List.take_sublist _ _) ?_
        have hn : ((lesR m row tier l).map (·.1)).Nodup := ((srtC_perm (lesUp m row tier l l.length)).map (·.1)).nodup_iff.2 (List.pairwise_map.2 (lesUp_nd (Nat.le_refl _)))
        exact List.pairwise_map.1 hn
      · rw [← h] at hx
        have h2 := lesUp_test ((srtC_perm _).mem_iff.1 (List.mem_of_mem_take hx))
        rw [Bool.and_eq_true, Bool.and_eq_true, decide_eq_true_eq, decide_eq_true_eq] at h2
        exact ⟨h2.1.1, h2.1.2, h2.2⟩
theorem cdUp_at {l : List Vd} {x : Cd} : ∀ {i : Nat}, i ≤ l.length → x ∈ cdUp l i → ∃ j y, j < i ∧ x.1 = j + 1 ∧ l[j]? = some y ∧ y.no = false ∧ x.2 = y.tier
  | 0, _, h => by cases h
  | i + 1, hi, h => by
    have hy := List.getElem?_eq_getElem (show i < l.length by omega)
    have hg : l.getD i vd0 = l[i] := by simp [List.getD, hy]
    rw [cdUp, hg] at h
    split at h
    · obtain ⟨j, y, h1, h2⟩ := cdUp_at (by omega) h
      exact ⟨j, y, by omega, h2⟩
    · rename_i hn
      rcases List.mem_append.1 h with h | h
      · obtain ⟨j, y, h1, h2⟩ := cdUp_at (by omega) h
        exact ⟨j, y, by omega, h2⟩
      · rw [List.mem_singleton] at h
        rw [h]
        exact ⟨i, l[i], by omega, rfl, hy, by simpa using hn, rfl⟩
set_option maxHeartbeats 1000000 in
theorem VictimFair_S (r n t k : Int) (d : Bs) (l : List Vd) (s : SV) (hr : 0 ≤ r ∧ r ≤ 255) (hn : 0 ≤ n ∧ n ≤ 255) (hk : 0 ≤ k ∧ k ≤ 255) {W : World} (hW : TabW W) (hs : VW W s l) : LawS 4 [.int .u8 r, .int .u8 n, s.v, bsv d, .int .u8 t, .int .u8 k] W := by
  refine Spec.of_body Tryd.func4 rfl Tryd.ntmps4 rfl ?_
  intro w0 Γ
  show S _ w0 [(0, .int .u8 r), (1, .int .u8 n), (2, s.v), (3, bsv d), (4, .int .u8 t), (5, .int .u8 k)] (old W :: Γ) _
  have hsl := hs.len
  have hRs : RdS (old W) s s.n 4 (l.flatMap vdC) := by rw [hsl]; exact RdS.old hs.at_
  refine S.rCap hRs fun _ hc1 hc2 => ?_
  obtain ⟨m, hm⟩ : ∃ m, m = bldR r n l d := ⟨_, rfl⟩
  obtain ⟨hok, hmR⟩ := bldR_ok r n l d
  rw [← hm] at hok hmR
  have hR8 := hok.R8
  obtain ⟨ask, hask⟩ : ∃ ask, ask = 1 + k % 16 := ⟨_, rfl⟩
  have hask1 : 1 ≤ ask ∧ ask ≤ 16 := by omega
  obtain ⟨cl, hcl⟩ : ∃ cl, cl = cdR l := ⟨_, rfl⟩
  have hcl40 : cl.length ≤ 40 := by rw [hcl, cdR]; have := cdUp_len l (min l.length 40); omega
  have hcl2 : ∀ x ∈ cl, x ∈ cdUp l (min l.length 40) := fun x hx => by rw [hcl] at hx; exact hx
  have hct : ∀ x ∈ cl, 0 ≤ x.2 ∧ x.2 ≤ 255 := by rw [hcl]; exact cdUp_tier hs.rng _ (by omega)
  obtain ⟨best, row, found, hch⟩ : ∃ best row found, choR m t ask cl = (best, row, found) := ⟨_, _, _, rfl⟩
  have hch2 : chUp m t ask cl m.R = (best, row, found) := hch
  obtain ⟨i1, i2⟩ := chUp_inv m t ask cl m.R
  rw [hch2] at i1 i2
  simp only at i1 i2
  refine S.seq fun K1 hK1 => ?_
  refine S.region rfl ?_
  refine S.op (S.q (q_assign rfl) rfl rfl ?_)
  first | with_reducible refine S.nilK ?_ | refine S.nil ?_
  refine hK1 _ _ ?_
  refine S.seq fun K2 hK2 => ?_
  refine S.seq fun K3 hK3 => ?_
  refine S.region rfl ?_
  refine S.op (S.call Tryd.en13 (vs := []) trivial (awake_S hW) rfl ?_)
  rintro v Θ ⟨rfl, rfl⟩
  refine S.op (S.q (q_not rfl) rfl rfl ?_)
  first | with_reducible refine S.nilK ?_ | refine S.nil ?_
  refine hK3 _ _ ?_
  refine S.condF rfl ?_
  refine S.skip ?_
  with_reducible repeat (first | refine S.then_n ?_ | refine S.then_x ?_ | refine S.then_r ?_ | refine S.inBlock_n ?_ | refine S.inBlock_r ?_ | refine S.inBlock_x rfl ?_ | refine S.noGoto_r ?_ | refine S.noGoto_n ?_ | refine S.noGoto_x ?_)
  refine hK2 _ _ ?_
  refine S.seq fun K4 hK4 => ?_
  refine S.region rfl ?_
  refine S.op (S.q (q_move rfl) rfl rfl ?_)
  refine S.op (S.q (q_move rfl) rfl rfl ?_)
  refine S.op (S.q (q_move rfl) rfl rfl ?_)
  refine S.op (S.q (q_move rfl) rfl rfl ?_)
  refine S.op (S.call Tryd.en14 (vs := [_, _, _, _]) ⟨rfl, rfl, rfl, rfl, trivial⟩ (build_S r n l d s hr hn hs) rfl ?_)
  rintro v Θ ⟨b, c, p, q, rfl, hp, hq, rfl⟩
  rw [← hm, ← hcl] at *
  refine S.op (S.q (q_move rfl) rfl rfl ?_)
  refine S.op (S.q (q_extract rfl rfl) rfl rfl ?_)
  refine S.op (S.q (q_extract rfl rfl) rfl rfl ?_)
  refine S.op (S.q (q_extract rfl rfl) rfl rfl ?_)
  refine S.op (S.q (q_extract rfl rfl) rfl rfl ?_)
  refine S.op (S.q (q_assign rfl) rfl rfl ?_)
  refine S.op (S.q (q_assign rfl) rfl rfl ?_)
  refine S.op (S.q (q_assign rfl) rfl rfl ?_)
  refine S.op (S.q (q_assign rfl) rfl rfl ?_)
  first | with_reducible refine S.nilK ?_ | refine S.nil ?_
  refine hK4 _ _ ?_
  refine S.seq fun K5 hK5 => ?_
  refine S.region rfl ?_
  refine S.op (S.q (q_move rfl) rfl rfl ?_)
  refine S.op (S.q (q_rem rfl rfl (⟨by omega, by omega⟩)) rfl rfl ?_)
  refine S.op (S.q (q_conv Tryd.it3 (by rw [Tryd.underlying5]; rfl) rfl (inI64 (by omega) (by omega))) rfl rfl ?_)
  refine S.op (S.q (q_add rfl rfl (inI64 (by omega) (by omega))) rfl rfl ?_)
  refine S.op (S.q (q_assign rfl) rfl rfl ?_)
  first | with_reducible refine S.nilK ?_ | refine S.nil ?_
  refine hK5 _ _ ?_
  refine S.seq fun K6 hK6 => ?_
  refine S.region rfl ?_
  rw [← hask]
  refine S.op (S.q (q_move rfl) rfl rfl ?_)
  refine S.op (S.q (q_move rfl) rfl rfl ?_)
  refine S.op (S.q (q_move rfl) rfl rfl ?_)
  refine S.op (S.q (q_move rfl) rfl rfl ?_)
  refine S.op (S.call Tryd.en15 (vs := [_, _, _, _]) ⟨rfl, rfl, rfl, rfl, trivial⟩ (Choose_S b m t ask (own p 110 2 (cl.flatMap cdC)) p cl hp (by omega) hct RdS.own hW) rfl ?_)
  rintro v Θ ⟨u, rfl, hu, rfl⟩
  rw [hch] at hu ⊢
  simp only at hu ⊢
  refine S.op (S.q (q_move rfl) rfl rfl ?_)
  refine S.op (S.q (q_extract rfl rfl) rfl rfl ?_)
  refine S.op (S.q (q_extract rfl rfl) rfl rfl ?_)
  refine S.op (S.alloc Tryd.z33 rfl ?_)
  intro b18
  refine S.op (S.storeS (cs' := [_, _]) Tryd.ag33 rfl rfl rfl rfl rfl rfl ?_)
  refine S.op (S.q (q_assign rfl) rfl rfl ?_)
  first | with_reducible refine S.nilK ?_ | refine S.nil ?_
  refine hK6 _ _ ?_
  refine S.seq fun K7 hK7 => ?_
  refine S.seq fun K8 hK8 => ?_
  refine S.region rfl ?_
  refine S.op (S.q (q_move rfl) rfl rfl ?_)
  refine S.op (S.q (q_not rfl) rfl rfl ?_)
  first | with_reducible refine S.nilK ?_ | refine S.nil ?_
  refine hK8 _ _ ?_
  refine S.cond rfl (fun h2 => ?_) (fun h2 => ?_)
  · have hf : found = false := by simpa using h2
    obtain ⟨_, hno⟩ := i2 hf
    refine S.seq fun K9 hK9 => ?_
    refine S.seq fun K10 hK10 => ?_
    refine S.region rfl ?_
    refine S.op (S.q (q_move rfl) rfl rfl ?_)
    refine S.op (S.q (q_rem rfl rfl (⟨by omega, by omega⟩)) rfl rfl ?_)
    refine S.op (S.q (q_conv Tryd.it3 (by rw [Tryd.underlying5]; rfl) rfl (inI64 (by omega) (by omega))) rfl rfl ?_)
    refine S.op (S.q (q_add rfl rfl (inI64 (by omega) (by omega))) rfl rfl ?_)
    rw [show 1 + r % 8 = (m.R : Int) by omega]
    refine S.op (S.q (q_move rfl) rfl rfl ?_)
    first | with_reducible refine S.nilK ?_ | refine S.nil ?_
    refine hK10 _ _ ?_
    refine S.block ?_
    refine S.loop (fun q ρ' Γ' => ∃ i : Nat, q = m.R - i ∧ i ≤ m.R ∧ ρ' = [(13, .pointer (some ⟨b, 0, none⟩)), (17, .int .i64 ask), (55, .int .i64 (m.R : Int)), (56, .int .i64 (i : Int))] ∧ Γ' = MI b m :: old W :: Γ) (m := _) (ρ0 := _) (Γ0 := _) (⟨0, rfl, by omega, rfl, rfl⟩) (by repeat (first | exact trivial | refine ⟨rfl, ?_⟩)) Sub.ent ?_
    rintro q' ρ' Γ' ⟨i, hq', hi, rfl, rfl⟩
    refine S.seq fun K11 hK11 => ?_
    refine S.region rfl ?_
    refine S.op (S.q (q_lt rfl rfl) rfl rfl ?_)
    first | with_reducible refine S.nilK ?_ | refine S.nil ?_
    refine hK11 _ _ ?_
    refine S.seq fun K12 hK12 => ?_
    refine S.condD rfl (fun h3 => ?_) (fun h3 => ?_)
    · refine S.skip ?_
      with_reducible repeat (first | refine S.then_n ?_ | refine S.then_x ?_ | refine S.then_r ?_ | refine S.inBlock_n ?_ | refine S.inBlock_r ?_ | refine S.inBlock_x rfl ?_ | refine S.noGoto_r ?_ | refine S.noGoto_n ?_ | refine S.noGoto_x ?_)
      refine hK12 _ _ ?_
      refine S.seq fun K13 hK13 => ?_
      refine S.block ?_
      refine S.seq fun K14 hK14 => ?_
      refine S.region rfl ?_
      refine S.op (S.q (q_move rfl) rfl rfl ?_)
      refine S.op (S.q (q_assign rfl) rfl rfl ?_)
      first | with_reducible refine S.nilK ?_ | refine S.nil ?_
      refine hK14 _ _ ?_
      refine S.seq fun K15 hK15 => ?_
      refine S.region rfl ?_
      refine S.op (S.q (q_move rfl) rfl rfl ?_)
      refine S.op (S.q (q_move rfl) rfl rfl ?_)
      refine S.op (S.call Tryd.en20 (vs := [_, _]) ⟨rfl, rfl, trivial⟩ (Free_S b m i) rfl ?_)
      rintro v Θ ⟨rfl, rfl⟩
      refine S.op (S.q (q_move rfl) rfl rfl ?_)
      refine S.op (S.q (q_ge rfl rfl) rfl rfl ?_)
      first | with_reducible refine S.nilK ?_ | refine S.nil ?_
      refine hK15 _ _ ?_
      refine S.condD rfl (fun h4 => ?_) (fun h4 => ?_)
      · have h9 := ofV_free (m := m) (row := (i : Nat)) (tier := t) (l := cl) hask1.1 ⟨by omega, by omega⟩ h4
        have h8 := hno i (by omega)
        rw [h9] at h8
        cases h8
      · refine S.skip ?_
        with_reducible repeat (first | refine S.then_n ?_ | refine S.then_x ?_ | refine S.then_r ?_ | refine S.inBlock_n ?_ | refine S.inBlock_r ?_ | refine S.inBlock_x rfl ?_ | refine S.noGoto_r ?_ | refine S.noGoto_n ?_ | refine S.noGoto_x ?_)
        with_reducible repeat (first | refine S.then_n ?_ | refine S.then_x ?_ | refine S.then_r ?_ | refine S.inBlock_n ?_ | refine S.inBlock_r ?_ | refine S.inBlock_x rfl ?_ | refine S.noGoto_r ?_ | refine S.noGoto_n ?_ | refine S.noGoto_x ?_)
        refine hK13 _ _ ?_
        refine S.region rfl ?_
        refine S.op (S.q (q_add rfl rfl (inI64 (by omega) (by omega))) rfl rfl ?_)
        refine S.op (S.q (q_move rfl) rfl rfl ?_)
        first | with_reducible refine S.nilK ?_ | refine S.nil ?_
        with_reducible repeat (first | refine S.then_n ?_ | refine S.then_x ?_ | refine S.then_r ?_ | refine S.inBlock_n ?_ | refine S.inBlock_r ?_ | refine S.inBlock_x rfl ?_ | refine S.noGoto_r ?_ | refine S.noGoto_n ?_ | refine S.noGoto_x ?_)
        exact S.next (q' - 1) (⟨i + 1, by omega, by omega, rfl, rfl⟩) (by omega) (by repeat (first | exact trivial | refine ⟨rfl, ?_⟩)) Sub.ent
    · refine S.exit ?_
      with_reducible repeat (first | refine S.then_n ?_ | refine S.then_x ?_ | refine S.then_r ?_ | refine S.inBlock_n ?_ | refine S.inBlock_r ?_ | refine S.inBlock_x rfl ?_ | refine S.noGoto_r ?_ | refine S.noGoto_n ?_ | refine S.noGoto_x ?_)
      with_reducible refine S.inBlock_s ?_
      with_reducible repeat (first | refine S.then_n ?_ | refine S.then_x ?_ | refine S.then_r ?_ | refine S.inBlock_n ?_ | refine S.inBlock_r ?_ | refine S.inBlock_x rfl ?_ | refine S.noGoto_r ?_ | refine S.noGoto_n ?_ | refine S.noGoto_x ?_)
      refine hK9 _ _ ?_
      refine S.seq fun K16 hK16 => ?_
      refine S.region rfl ?_
      refine S.op (S.q (q_assign rfl) rfl rfl ?_)
      first | with_reducible refine S.nilK ?_ | refine S.nil ?_
      refine hK16 _ _ ?_
      refine S.ret ?_
      with_reducible repeat (first | refine S.then_n ?_ | refine S.then_x ?_ | refine S.then_r ?_ | refine S.inBlock_n ?_ | refine S.inBlock_r ?_ | refine S.inBlock_x rfl ?_ | refine S.noGoto_r ?_ | refine S.noGoto_n ?_ | refine S.noGoto_x ?_)
      exact S.fin (rs := [_]) (vs := [_]) Tryd.results4 (⟨rfl, trivial⟩)  (⟨rfl, rfl⟩) Sub.ent
  · have hf : found = true := by simpa using h2
    obtain ⟨hrow, hofv⟩ := i1 hf
    obtain ⟨b1, b2, b3, b4⟩ := ofV_best hofv
    have hbl : best.length ≤ 40 := by
      have h9 := ofV_len m (row : Nat) t ask cl
      rw [hofv] at h9
      have h9 : best.length ≤ cl.length := h9
      omega
    have hbm : ∀ x ∈ best, ∃ y, look m.js x.1 = some y ∧ y.row = row := fun x hx => by
      obtain ⟨o1, o2, _⟩ := b4 x hx
      cases hl : look m.js x.1 with
      | none => rw [ofR_none hl] at o1; cases o1
      | some y => rw [ofR_some hl] at o2; exact ⟨y, rfl, by have o2 : ((y.row : Nat) : Int) = (row : Nat) := o2; omega⟩
    have hbc : ∀ x ∈ best, ∃ j y, x.1 = j + 1 ∧ l[j]? = some y ∧ y.no = false ∧ x.2 = y.tier := fun x hx => by
      have hxc : x ∈ cl := ofV_mem (m := m) (row := (row : Nat)) (tier := t) (k := ask) (by rw [hofv]; exact hx)
      obtain ⟨j, y, _, h9⟩ := cdUp_at (l := l) (i := min l.length 40) (by omega) (hcl2 x hxc)
      exact ⟨j, y, h9⟩
    have hgo := goUp_I hok b3 hbm
    rw [show MI b m = MI b (goUp m best 0) from rfl]
    refine S.skip ?_
    with_reducible repeat (first | refine S.then_n ?_ | refine S.then_x ?_ | refine S.then_r ?_ | refine S.inBlock_n ?_ | refine S.inBlock_r ?_ | refine S.inBlock_x rfl ?_ | refine S.noGoto_r ?_ | refine S.noGoto_n ?_ | refine S.noGoto_x ?_)
    refine hK7 _ _ ?_
    refine S.seq fun K17 hK17 => ?_
    refine S.seq fun K18 hK18 => ?_
    refine S.region rfl ?_
    refine S.op (S.q (q_field Tryd.fo33_1 rfl) rfl rfl ?_)
    refine S.op (S.q (q_load Tryd.at31 rfl rfl) rfl rfl ?_)
    refine S.op (S.q (q_len Tryd.underlying31 rfl) rfl rfl ?_)
    refine S.op (S.q (q_move rfl) rfl rfl ?_)
    first | with_reducible refine S.nilK ?_ | refine S.nil ?_
    refine hK18 _ _ ?_
    refine S.block ?_
    refine S.loop (fun q ρ' Γ' => ∃ i : Nat, q = best.length - i ∧ i ≤ best.length ∧ ρ' = [(2, s.v), (4, .int .u8 t), (13, .pointer (some ⟨b, 0, none⟩)), (17, .int .i64 ask), (18, .pointer (some ⟨b18, 0, none⟩)), (66, u.v), (67, .int .i64 u.n), (68, .int .i64 (i : Int))] ∧   Γ' = own u 44 1 (idsV (jobsR best)) :: blk b18 33 #[.int .i64 (row : Int), u.v] :: MI b (goUp m best i) :: old W :: Γ) (m := _) (ρ0 := _) (Γ0 := _) (⟨0, rfl, by omega, rfl, rfl⟩) (by repeat (first | exact trivial | refine ⟨rfl, ?_⟩)) Sub.ent ?_
    rintro q' ρ' Γ' ⟨i, hq', hi, rfl, rfl⟩
    obtain ⟨g1, g2, g3, g4⟩ := hgo i hi
    refine S.seq fun K19 hK19 => ?_
    refine S.region rfl ?_
    refine S.op (S.q (q_lt rfl rfl) rfl rfl ?_)
    first | with_reducible refine S.nilK ?_ | refine S.nil ?_
    refine hK19 _ _ ?_
    refine S.seq fun K20 hK20 => ?_
    refine S.condD rfl (fun h5 => ?_) (fun h5 => ?_)
    · refine S.ownSome u (by omega) fun ub uo hua _ _ _ => ?_
      obtain ⟨x, hx⟩ := getE (show i < best.length by omega)
      have hxm := List.mem_of_getElem? hx
      have hxd : best.getD i (0, 0) = x := by simp [List.getD, hx]
      obtain ⟨o1, o2, o3⟩ := b4 x hxm
      obtain ⟨y, hly, hyr⟩ := hbm x hxm
      obtain ⟨j, z, hj, hlz, hzn, hzt⟩ := hbc x hxm
      have hly2 := (g3 i x (Nat.le_refl _) hx).trans hly
      have hof : ofR (goUp m best i) x.1 = ((row : Int), lst y.ns, true) := by rw [ofR_some hly2, hyr]
      have hnot := b1 i (by omega)
      have hjl := (List.getElem?_eq_some_iff.1 hlz).1
      obtain ⟨sb, so, hsa, hcell⟩ := slAt_some hs.at_ (by omega)
      have hx32 : x.1 ≤ 4294967295 := by
        obtain ⟨w1, w2⟩ := look_some hly
        rw [← w2]
        exact hok.id2 y w1
      have hgo2 : goUp m best (i + 1) = (goUp m best i).del x.1 := by rw [goUp, hxd]
      refine S.skip ?_
      with_reducible repeat (first | refine S.then_n ?_ | refine S.then_x ?_ | refine S.then_r ?_ | refine S.inBlock_n ?_ | refine S.inBlock_r ?_ | refine S.inBlock_x rfl ?_ | refine S.noGoto_r ?_ | refine S.noGoto_n ?_ | refine S.noGoto_x ?_)
      refine hK20 _ _ ?_
      refine S.seq fun K21 hK21 => ?_
      refine S.block ?_
      refine S.seq fun K22 hK22 => ?_
      refine S.region rfl ?_
      refine S.op (S.q (q_move rfl) rfl rfl ?_)
      refine S.op (S.q (q_indexO (i) Tryd.el31 rfl hua rfl rfl (by omega)) rfl rfl ?_)
      refine S.op (S.q (q_loadOw (u) (i) Tryd.at44 rfl hua (by first | rfl | exact Nat.add_assoc _ _ _ | omega) (idsV_get (x := x.1) (by rw [List.getElem?_map, hx]; rfl))) rfl rfl ?_)
      refine S.op (S.q (q_assign rfl) rfl rfl ?_)
      refine S.op (S.q (q_assign rfl) rfl rfl ?_)
      first | with_reducible refine S.nilK ?_ | refine S.nil ?_
      refine hK22 _ _ ?_
      refine S.seq fun K23 hK23 => ?_
      refine S.seq fun K24 hK24 => ?_
      refine S.regionG ?_
      refine S.g_op rfl (S.q (q_move rfl) rfl rfl ?_)
      refine S.g_op rfl (S.q (q_field Tryd.fo33_0 rfl) rfl rfl ?_)
      refine S.g_op rfl (S.q (q_load Tryd.at3 rfl rfl) rfl rfl ?_)
      refine S.g_op rfl (S.call Tryd.en20 (vs := [_, _]) ⟨rfl, rfl, trivial⟩ (Free_S b (goUp m best i) (row : Nat)) rfl ?_)
      rintro v Θ ⟨rfl, rfl⟩
      refine S.g_op rfl (S.q (q_move rfl) rfl rfl ?_)
      refine S.g_op rfl (S.q (q_ge rfl rfl) rfl rfl ?_)
      refine S.g_op rfl (S.q (q_move rfl) rfl rfl ?_)
      refine S.g_yes rfl rfl rfl ((decide_eq_false (by rw [g4]; omega))) (S.q (q_move rfl) rfl rfl ?_)
      refine S.g_yes rfl rfl rfl ((decide_eq_false (by rw [g4]; omega))) (S.q (q_move rfl) rfl rfl ?_)
      refine S.g_yes rfl rfl rfl ((decide_eq_false (by rw [g4]; omega))) (S.q (q_sub rfl rfl (inU32 (by omega) (by omega))) rfl rfl ?_)
      refine S.g_yes rfl rfl rfl ((decide_eq_false (by rw [g4]; omega))) (S.q (q_indexO (j) Tryd.el22 rfl hsa rfl (by omega) (by omega)) rfl rfl ?_)
      refine S.g_yes rfl rfl rfl ((decide_eq_false (by rw [g4]; omega))) (S.q (q_field Tryd.fo46_2 rfl) rfl rfl ?_)
      refine S.g_yes rfl rfl rfl ((decide_eq_false (by rw [g4]; omega))) (S.q (q_loadW Tryd.at5 rfl (by rw [Nat.add_assoc]; exact hcell _ _ (flat_get (enc := vdC) (sz := 4) (k := 2) (v := .int .u8 z.tier) (fun _ => rfl) hlz rfl))) rfl rfl ?_)
      refine S.g_yes rfl rfl rfl ((decide_eq_false (by rw [g4]; omega))) (S.q (q_move rfl) rfl rfl ?_)
      refine S.g_yes rfl rfl rfl ((decide_eq_false (by rw [g4]; omega))) (S.q (q_ge rfl rfl) rfl rfl ?_)
      refine S.g_op rfl (S.q (q_pickF rfl ((decide_eq_false (by rw [g4]; omega))) rfl) rfl rfl ?_)
      refine S.g_op rfl (S.q (q_move rfl) rfl rfl ?_)
      refine S.g_yes rfl rfl rfl ((decide_eq_false (by omega))) (S.q (q_move rfl) rfl rfl ?_)
      refine S.g_yes rfl rfl rfl ((decide_eq_false (by omega))) (S.q (q_move rfl) rfl rfl ?_)
      refine S.g_yes rfl rfl rfl ((decide_eq_false (by omega))) (S.q (q_sub rfl rfl (inU32 (by omega) (by omega))) rfl rfl ?_)
      refine S.g_yes rfl rfl rfl ((decide_eq_false (by omega))) (S.q (q_indexO (j) Tryd.el22 rfl hsa rfl (by omega) (by omega)) rfl rfl ?_)
      refine S.g_yes rfl rfl rfl ((decide_eq_false (by omega))) (S.q (q_field Tryd.fo46_3 rfl) rfl rfl ?_)
      refine S.g_yes rfl rfl rfl ((decide_eq_false (by omega))) (S.q (q_loadW Tryd.at4 rfl (by rw [Nat.add_assoc]; exact hcell _ _ (flat_get (enc := vdC) (sz := 4) (k := 3) (v := .bool z.no) (fun _ => rfl) hlz rfl))) rfl rfl ?_)
      refine S.g_op rfl (S.q (q_pickF rfl ((decide_eq_false (by omega))) rfl) rfl rfl ?_)
      first | with_reducible refine S.g_nilK ?_ | refine S.g_nil ?_
      refine hK24 _ _ ?_
      refine S.cond rfl (fun h6 => ?_) (fun h6 => ?_)
      · rw [hzn] at h6; cases h6
      · refine S.skip ?_
        with_reducible repeat (first | refine S.then_n ?_ | refine S.then_x ?_ | refine S.then_r ?_ | refine S.inBlock_n ?_ | refine S.inBlock_r ?_ | refine S.inBlock_x rfl ?_ | refine S.noGoto_r ?_ | refine S.noGoto_n ?_ | refine S.noGoto_x ?_)
        refine hK23 _ _ ?_
        refine S.seq fun K25 hK25 => ?_
        refine S.seq fun K26 hK26 => ?_
        refine S.region rfl ?_
        refine S.op (S.q (q_move rfl) rfl rfl ?_)
        refine S.op (S.q (q_move rfl) rfl rfl ?_)
        refine S.op (S.call Tryd.en21 (vs := [_, _]) ⟨rfl, rfl, trivial⟩ (Of_S b (goUp m best i) x.1 hW) rfl ?_)
        rintro v Θ ⟨sv, rfl, _, rfl⟩
        rw [hof]
        simp only
        refine S.op (S.q (q_move rfl) rfl rfl ?_)
        refine S.op (S.q (q_extract rfl rfl) rfl rfl ?_)
        refine S.op (S.q (q_extract rfl rfl) rfl rfl ?_)
        refine S.op (S.q (q_extract rfl rfl) rfl rfl ?_)
        refine S.op (S.q (q_assign rfl) rfl rfl ?_)
        refine S.op (S.q (q_assign rfl) rfl rfl ?_)
        refine S.op (S.q (q_assign rfl) rfl rfl ?_)
        first | with_reducible refine S.nilK ?_ | refine S.nil ?_
        refine hK26 _ _ ?_
        refine S.seq fun K27 hK27 => ?_
        refine S.regionG ?_
        refine S.g_op rfl (S.q (q_move rfl) rfl rfl ?_)
        refine S.g_op rfl (S.q (q_not rfl) rfl rfl ?_)
        refine S.g_op rfl (S.q (q_move rfl) rfl rfl ?_)
        refine S.g_yes rfl rfl rfl (rfl) (S.q (q_move rfl) rfl rfl ?_)
        refine S.g_yes rfl rfl rfl (rfl) (S.q (q_field Tryd.fo33_0 rfl) rfl rfl ?_)
        refine S.g_yes rfl rfl rfl (rfl) (S.q (q_load Tryd.at3 rfl rfl) rfl rfl ?_)
        refine S.g_yes rfl rfl rfl (rfl) (S.q (q_ne rfl rfl) rfl rfl ?_)
        refine S.g_op rfl (S.q (q_pickF rfl (rfl) rfl) rfl rfl ?_)
        refine S.g_op rfl (S.q (q_move rfl) rfl rfl ?_)
        refine S.g_yes rfl rfl rfl ((decide_eq_false (fun h => h rfl))) (S.q (q_move rfl) rfl rfl ?_)
        refine S.g_yes rfl rfl rfl ((decide_eq_false (fun h => h rfl))) (S.q (q_gt rfl rfl) rfl rfl ?_)
        refine S.g_op rfl (S.q (q_pickF rfl ((decide_eq_false (fun h => h rfl))) rfl) rfl rfl ?_)
        first | with_reducible refine S.g_nilK ?_ | refine S.g_nil ?_
        refine hK27 _ _ ?_
        refine S.condD rfl (fun h7 => ?_) (fun h7 => ?_)
        · omega
        · refine S.skip ?_
          with_reducible repeat (first | refine S.then_n ?_ | refine S.then_x ?_ | refine S.then_r ?_ | refine S.inBlock_n ?_ | refine S.inBlock_r ?_ | refine S.inBlock_x rfl ?_ | refine S.noGoto_r ?_ | refine S.noGoto_n ?_ | refine S.noGoto_x ?_)
          refine hK25 _ _ ?_
          refine S.seq fun K28 hK28 => ?_
          refine S.region rfl ?_
          refine S.op (S.q (q_move rfl) rfl rfl ?_)
          refine S.op (S.q (q_move rfl) rfl rfl ?_)
          refine S.op (S.call Tryd.en22 (vs := [_, _]) ⟨rfl, rfl, trivial⟩ (Remove_S b (goUp m best i) x.1) rfl ?_)
          rintro v Θ ⟨rfl, rfl⟩
          rw [removeR_some hly2]
          simp only
          refine S.op (S.q (q_ne rfl rfl) rfl rfl ?_)
          first | with_reducible refine S.nilK ?_ | refine S.nil ?_
          refine hK28 _ _ ?_
          refine S.condD rfl (fun h8 => ?_) (fun h8 => ?_)
          · exact absurd rfl h8
          · refine S.skip ?_
            with_reducible repeat (first | refine S.then_n ?_ | refine S.then_x ?_ | refine S.then_r ?_ | refine S.inBlock_n ?_ | refine S.inBlock_r ?_ | refine S.inBlock_x rfl ?_ | refine S.noGoto_r ?_ | refine S.noGoto_n ?_ | refine S.noGoto_x ?_)
            with_reducible repeat (first | refine S.then_n ?_ | refine S.then_x ?_ | refine S.then_r ?_ | refine S.inBlock_n ?_ | refine S.inBlock_r ?_ | refine S.inBlock_x rfl ?_ | refine S.noGoto_r ?_ | refine S.noGoto_n ?_ | refine S.noGoto_x ?_)
            refine hK21 _ _ ?_
            refine S.region rfl ?_
            refine S.op (S.q (q_add rfl rfl (inI64 (by omega) (by omega))) rfl rfl ?_)
            refine S.op (S.q (q_move rfl) rfl rfl ?_)
            first | with_reducible refine S.nilK ?_ | refine S.nil ?_
            with_reducible repeat (first | refine S.then_n ?_ | refine S.then_x ?_ | refine S.then_r ?_ | refine S.inBlock_n ?_ | refine S.inBlock_r ?_ | refine S.inBlock_x rfl ?_ | refine S.noGoto_r ?_ | refine S.noGoto_n ?_ | refine S.noGoto_x ?_)
            rw [← hgo2]
            exact S.next (q' - 1) (⟨i + 1, by omega, by omega, rfl, rfl⟩) (by omega) (by repeat (first | exact trivial | refine ⟨rfl, ?_⟩)) Sub.ent
    · have hib : i = best.length := by omega
      rw [hib] at g4 ⊢
      refine S.exit ?_
      with_reducible repeat (first | refine S.then_n ?_ | refine S.then_x ?_ | refine S.then_r ?_ | refine S.inBlock_n ?_ | refine S.inBlock_r ?_ | refine S.inBlock_x rfl ?_ | refine S.noGoto_r ?_ | refine S.noGoto_n ?_ | refine S.noGoto_x ?_)
      with_reducible refine S.inBlock_s ?_
      with_reducible repeat (first | refine S.then_n ?_ | refine S.then_x ?_ | refine S.then_r ?_ | refine S.inBlock_n ?_ | refine S.inBlock_r ?_ | refine S.inBlock_x rfl ?_ | refine S.noGoto_r ?_ | refine S.noGoto_n ?_ | refine S.noGoto_x ?_)
      refine hK17 _ _ ?_
      refine S.seq fun K29 hK29 => ?_
      refine S.region rfl ?_
      refine S.op (S.q (q_move rfl) rfl rfl ?_)
      refine S.op (S.q (q_field Tryd.fo33_0 rfl) rfl rfl ?_)
      refine S.op (S.q (q_load Tryd.at3 rfl rfl) rfl rfl ?_)
      refine S.op (S.call Tryd.en20 (vs := [_, _]) ⟨rfl, rfl, trivial⟩ (Free_S b (goUp m best best.length) (row : Nat)) rfl ?_)
      rintro v Θ ⟨rfl, rfl⟩
      refine S.op (S.q (q_move rfl) rfl rfl ?_)
      refine S.op (S.q (q_ge rfl rfl) rfl rfl ?_)
      refine S.op (S.q (q_assign rfl) rfl rfl ?_)
      first | with_reducible refine S.nilK ?_ | refine S.nil ?_
      refine hK29 _ _ ?_
      refine S.ret ?_
      with_reducible repeat (first | refine S.then_n ?_ | refine S.then_x ?_ | refine S.then_r ?_ | refine S.inBlock_n ?_ | refine S.inBlock_r ?_ | refine S.inBlock_x rfl ?_ | refine S.noGoto_r ?_ | refine S.noGoto_n ?_ | refine S.noGoto_x ?_)
      exact S.fin (rs := [_]) (vs := [_]) Tryd.results4 (⟨rfl, trivial⟩)  (⟨by simp only [resV]; rw [g4, decide_eq_true b2], rfl⟩) Sub.ent
open Go.ChangeShapes Go.WideShapes Go.ChangeAt
theorem VictimFair_law {H : Type} (enc : TypeId × Value → H) : LawWalkT enc Rows.victimFairRow.laid 4 Tryd.f4 := by
  intro W base args ds before hval hA _ _ hL
  rw [Tryd.params4] at hA hval
  obtain ⟨v0, vs0, d0, ds0, p0, q0, hargs, rfl, rfl, h0, r0⟩ := trodAll_cons hA
  obtain ⟨v1, vs1, d1, ds1, p1, q1, rfl, rfl, rfl, h1, r1⟩ := trodAll_cons r0
  obtain ⟨v2, vs2, d2, ds2, p2, q2, rfl, rfl, rfl, h2, r2⟩ := trodAll_cons r1
  obtain ⟨v3, vs3, d3, ds3, p3, q3, rfl, rfl, rfl, h3, r3⟩ := trodAll_cons r2
  obtain ⟨v4, vs4, d4, ds4, p4, q4, rfl, rfl, rfl, h4, r4⟩ := trodAll_cons r3
  obtain ⟨v5, vs5, d5, ds5, p5, q5, rfl, rfl, rfl, h5, r5⟩ := trodAll_cons r4
  obtain ⟨rfl, rfl, rfl⟩ := trodAll_nil r5
  obtain rfl : args = #[v0, v1, v2, v3, v4, v5] := by cases args; simp_all
  obtain ⟨r, rfl, hr⟩ := arg_int Tryd.underlying5 (hval 0 5 v0 rfl rfl) h0
  obtain ⟨n, rfl, hn⟩ := arg_int Tryd.underlying5 (hval 1 5 v1 rfl rfl) h1
  obtain ⟨s, l, e2, hs⟩ := rd_vds (arg_slice 7 Tryd.underlying22 (by kernel_rfl) (hval 2 22 v2 rfl rfl) h2)
  simp only [List.cons.injEq, and_true] at e2
  subst e2
  obtain ⟨d, rfl, hd⟩ := arg_int Tryd.underlying23 (hval 3 23 v3 rfl rfl) h3
  obtain ⟨t, rfl, _⟩ := arg_int Tryd.underlying5 (hval 4 5 v4 rfl rfl) h4
  obtain ⟨k, rfl, hk⟩ := arg_int Tryd.underlying5 (hval 5 5 v5 rfl rfl) h5
  have hd2 := u16_rng hd
  have ed : ((BitVec.ofNat 16 d.toNat).toNat : Int) = d := by
    rw [BitVec.toNat_ofNat, Nat.mod_eq_of_lt (by omega)]
    omega
  have hlaw := VictimFair_S r n t k (BitVec.ofNat 16 d.toNat) l s (u8_rng hr) (u8_rng hn) (u8_rng hk) (tabW_of rfl hL) hs
  rw [show bsv (BitVec.ofNat 16 d.toNat) = .int .u16 d by rw [bsv, ed]] at hlaw
  exact law_run hlaw
set_option maxRecDepth 100000 in
theorem VictimFair_met (os : Os) (args : Array Value) : laidMetH Tryd.prog Rows.victimFairRow.laid ((World.doorLaid Tryd.prog 14 os).forCall (fun _ _ => 0) ⟨#[], args, []⟩).memory :=
  laidMetH_of_parts3 (fuel := 8) (laidMet_of_run' 8 (by kernel_rfl) (by kernel_rfl)) (by kernel_rfl) (by kernel_rfl)
set_option maxRecDepth 100000 in
theorem VictimFair_lifted (os : Os) (started : os.Started) (H : Type) (enc : TypeId × Value → H) :
    ReturnsInHanded {} Tryd.checked os 4 .any (fun w args => (Rows.victimFairSpec.pre enc Tryd.prog Tryd.f4 [] false w args ∧ laidMetH Tryd.prog Rows.victimFairRow.laid w) ∧ sizedMet enc Tryd.prog Tryd.f4 (OpenSpec.ofChange Rows.victimFairSpec) false w args) (Rows.victimFairSpec.post enc Tryd.prog Tryd.f4 false true false false) :=
  lift_trueT started Tryd.func4 (by kernel_rfl)
    (ChangeSpec.witness_shaped (enc := enc) (C := Tryd.checked) (os := os) (X := fun w _ => laidMetH Tryd.prog Rows.victimFairRow.laid w) false (World.doorLaid Tryd.prog 14 os) #[.int .u8 0, .int .u8 0, .slice none 0 0, .int .u16 0, .int .u8 0, .int .u8 0] 8 rfl (World.shaped_of_RefB (by kernel_rfl) (by kernel_rfl)) (by kernel_rfl) (by kernel_rfl) (by kernel_rfl) (VictimFair_met os _))
    rfl rfl (by kernel_rfl) (fun ds h => by match ds, h with | [a0, a1, a2, a3, a4, a5], _ => rfl) (VictimFair_law enc)
theorem VictimFair_over : Rows.victimFairRow.holds Tryd.pinned (OpenSpec.ofChange Rows.victimFairSpec) :=
  OpenClaim.holds_of_wide 4 Tryd.f4 rfl rfl rfl rfl rfl rfl rfl ⟨rfl, rfl, rfl, rfl, rfl⟩ rfl rfl rfl rfl rfl (by kernel_rfl) Tryd.func4 (by kernel_rfl)
    (of_decide_eq_true (by kernel_rfl)) (by unfold Func.isWrapper; first | (rw [if_pos (by decide +kernel)]; kernel_rfl) | (rw [if_neg (by decide +kernel)]; exact ⟨rfl, rfl⟩))
    (fun os started H enc _ => VictimFair_lifted os started H enc)
theorem VictimFair_holds : Rows.VictimFairCardSaid :=
  Claim7.holds_tied_plain_at .later [] [.data] true (true, "21aec34ea999ad6b65f709c9daebdd010d0ae6c2425dde88f7cd8918f57ba87f") true
    VictimFair_over (fun _ h => by cases h) (by kernel_rfl) (fun _ h => by cases h) victimFair_row_tie rfl ⟨rfl, rfl⟩ (by kernel_rfl) rfl
    (fun f fn hf hfn => by
      obtain rfl : f = 4 := Option.some.inj ((show Tryd.prog.funcNamed "quadrille/quadrillelaw15.VictimFair" = some 4 by kernel_rfl).symm.trans hf) |>.symm
      obtain rfl : fn = Tryd.f4 := (Option.some.inj (Tryd.func4.symm.trans hfn)).symm
      exact ⟨by kernel_rfl, fun j t ht => by
        rw [Tryd.params4] at ht
        have hm : t ∈ [5, 5, 22, 23, 5, 5] := by simpa using Array.mem_of_getElem? ht
        have hall : ([5, 5, 22, 23, 5, 5].all fun u => !Tryd.prog.wantsStandIn u) = true := by kernel_rfl
        exact (show Tryd.prog.wantsStandIn t = false by simpa using List.all_eq_true.1 hall t hm)⟩)
    (by kernel_rfl)
#print axioms VictimFair_holds
end Go.Proofs.YtmhdapbfpenjpaaDoor
