/- The laws of victim: what both sides build; awake. -/
import Derived.Test.YtbhnbnecaejjiaaDoorVicD
namespace Go.Proofs.YtbhnbnecaejjiaaDoor
open Go.RowKit
set_option maxRecDepth 20000
structure Vd where
  row : Int
  ns : Bs
  tier : Int
  no : Bool
instance : Inhabited Vd := ⟨⟨0, 0#16, 0, false⟩⟩
abbrev vdC (x : Vd) : List Value := [.int .u8 x.row, bsv x.ns, .int .u8 x.tier, .bool x.no]
def vd0 : Vd := ⟨0, 0#16, 0, false⟩
structure VW (W : World) (s : SV) (l : List Vd) : Prop where
  at_ : SlAt W s.v l.length 4 (l.flatMap vdC)
  len : s.n = l.length
  rng : ∀ x ∈ l, (0 ≤ x.row ∧ x.row ≤ 255) ∧ 0 ≤ x.tier ∧ x.tier ≤ 255
theorem rd_vd {W : World} {cs : List Value} (h : Rd W (.cat 1 (.int .u8) (.cat 1 (.int .u16) (.cat 1 (.int .u8) (.cat 1 .bool .nil)))) cs) : ∃ x : Vd, cs = vdC x ∧ (0 ≤ x.row ∧ x.row ≤ 255) ∧ 0 ≤ x.tier ∧ x.tier ≤ 255 := by
  obtain ⟨_, _, rfl, _, ⟨a, rfl, ha⟩, _, _, rfl, _, ⟨b, rfl, hb⟩, _, _, rfl, _, ⟨c, rfl, hc⟩, _, _, rfl, _, ⟨d, rfl⟩, rfl⟩ := h
  have h1 := u8_rng ha
  have h2 := u16_rng hb
  have h3 := u8_rng hc
  refine ⟨⟨a, BitVec.ofNat 16 b.toNat, c, d⟩, ?_, h1, h3⟩
  have e : ((BitVec.ofNat 16 b.toNat).toNat : Int) = b := by
    rw [BitVec.toNat_ofNat, Nat.mod_eq_of_lt (by omega)]
    omega
  show [Value.int .u8 a] ++ ([Value.int .u16 b] ++ ([Value.int .u8 c] ++ ([Value.bool d] ++ []))) = _
  simp only [vdC, bsv, e]
  rfl
theorem rd_vds {W : World} {cs : List Value} (h : Rd W (.slice 4 (.cat 1 (.int .u8) (.cat 1 (.int .u16) (.cat 1 (.int .u8) (.cat 1 .bool .nil))))) cs) : ∃ (s : SV) (l : List Vd), cs = [s.v] ∧ VW W s l := by
  obtain ⟨s, l, h1, h2, h3, h4, _⟩ := rd_slice (α := Vd) (encA := vdC) (p := fun x => (0 ≤ x.row ∧ x.row ≤ 255) ∧ 0 ≤ x.tier ∧ x.tier ≤ 255) (fun cs hr _ => by
    obtain ⟨x, rfl, hx⟩ := rd_vd hr
    exact ⟨x, rfl, hx⟩) h (by omega)
  exact ⟨s, l, h1, h3, h2, h4⟩
def stUp (m : Mx) (l : List Vd) : Nat → Mx
  | 0 => m
  | i + 1 => (putR (stUp m l i) (i + 1) ((l.getD i vd0).row % (m.R : Int)) (casts (bitU (l.getD i vd0).ns m.N))).2
def dnUp (m : Mx) (d : Bs) : Nat → Mx
  | 0 => m
  | k + 1 => if d.getLsbD k then (upR (dnUp m d k) k false).2 else dnUp m d k
/-- Who may have to go. -/
def cdUp (l : List Vd) : Nat → List Cd
  | 0 => []
  | i + 1 => if (l.getD i vd0).no then cdUp l i else cdUp l i ++ [(i + 1, (l.getD i vd0).tier)]
theorem cdUp_len (l : List Vd) : ∀ i, (cdUp l i).length ≤ i
  | 0 => Nat.le_refl _
  | i + 1 => by
    have := cdUp_len l i
    rw [cdUp]
    split
    · omega
    · rw [List.length_append, List.length_singleton]; omega
theorem cdUp_tier {l : List Vd} (h : ∀ x ∈ l, (0 ≤ x.row ∧ x.row ≤ 255) ∧ 0 ≤ x.tier ∧ x.tier ≤ 255) : ∀ i, i ≤ l.length → ∀ x ∈ cdUp l i, 0 ≤ x.2 ∧ x.2 ≤ 255
  | 0, _, x, hx => by cases hx
  | i + 1, hi, x, hx => by
    have hy := List.getElem?_eq_getElem (show i < l.length by omega)
    have hg : l.getD i vd0 = l[i] := by simp [List.getD, hy]
    rw [cdUp] at hx
    split at hx
    · exact cdUp_tier h i (by omega) x hx
    · rcases List.mem_append.1 hx with h9 | h9
      · exact cdUp_tier h i (by omega) x h9
      · rw [List.mem_singleton] at h9
        subst h9
        rw [hg]
        exact (h _ (List.getElem_mem _)).2
def bldR (r n : Int) (l : List Vd) (d : Bs) : Mx := dnUp (stUp (mx0 (1 + r % 8).toNat (1 + n % 16).toNat) l (min l.length 40)) d (1 + n % 16).toNat
def cdR (l : List Vd) : List Cd := cdUp l (min l.length 40)
theorem stUp_ok {m : Mx} (hm : MxOk m) (l : List Vd) : ∀ i, i ≤ 40 → MxOk (stUp m l i) ∧ (stUp m l i).R = m.R
  | 0, _ => ⟨hm, rfl⟩
  | i + 1, h => by
    obtain ⟨h1, h2⟩ := stUp_ok hm l i (by omega)
    exact ⟨putR_ok h1 (by omega) _ _, (putR_N _ _ _ _).2.2.trans h2⟩
theorem dnUp_ok {m : Mx} (hm : MxOk m) (d : Bs) : ∀ k, MxOk (dnUp m d k) ∧ (dnUp m d k).R = m.R
  | 0 => ⟨hm, rfl⟩
  | k + 1 => by
    obtain ⟨h1, h2⟩ := dnUp_ok hm d k
    rw [dnUp]
    split
    · exact ⟨upR_ok h1 _ _, (upR_N _ _ _).2.trans h2⟩
    · exact ⟨h1, h2⟩
theorem bldR_ok (r n : Int) (l : List Vd) (d : Bs) : MxOk (bldR r n l d) ∧ (bldR r n l d).R = (1 + r % 8).toNat := by
  obtain ⟨h1, h2⟩ := stUp_ok (mx0_ok (R := (1 + r % 8).toNat) (N := (1 + n % 16).toNat) (by omega) (by omega) (by omega) (by omega)) l (min l.length 40) (by omega)
  obtain ⟨h3, h4⟩ := dnUp_ok h1 d (1 + n % 16).toNat
  exact ⟨h3, h4.trans h2⟩
set_option maxHeartbeats 1000000 in
theorem build_S (r n : Int) (l : List Vd) (d : Bs) (s : SV) (hr : 0 ≤ r ∧ r ≤ 255) (hn : 0 ≤ n ∧ n ≤ 255) {W : World} (hs : VW W s l) : Spec Tryd.prog 32 [.int .u8 r, .int .u8 n, s.v, bsv d] [old W] fun Γ v Θ => ∃ (b c : Nat) (p q : SV), v = .tuple #[.pointer (some ⟨b, 0, none⟩), .pointer (some ⟨c, 0, none⟩), p.v, q.v] ∧ p.n = (cdR l).length ∧ q.n = (cdR l).length ∧
    Θ = MI b (bldR r n l d) :: RI c (bldR r n l d) :: own p 75 2 ((cdR l).flatMap cdC) :: own q 120 2 ((cdR l).flatMap cdC) :: old W :: Γ := by
  refine Spec.of_body Tryd.func32 rfl Tryd.ntmps32 rfl ?_
  intro w0 Γ
  show S _ w0 [(0, .int .u8 r), (1, .int .u8 n), (2, s.v), (3, bsv d)] (old W :: Γ) _
  have hsl := hs.len
  have hRs : RdS (old W) s s.n 4 (l.flatMap vdC) := by rw [hsl]; exact RdS.old hs.at_
  refine S.rCap hRs fun _ hc1 hc2 => ?_
  obtain ⟨R, hR⟩ : ∃ R : Nat, (R : Int) = 1 + r % 8 := ⟨(1 + r % 8).toNat, by omega⟩
  obtain ⟨N, hN⟩ : ∃ N : Nat, (N : Int) = 1 + n % 16 := ⟨(1 + n % 16).toNat, by omega⟩
  have hbR : bldR r n l d = dnUp (stUp (mx0 R N) l (min l.length 40)) d N := by rw [bldR, ← hN, ← hR, Int.toNat_natCast, Int.toNat_natCast]
  refine S.seq fun K1 hK1 => ?_
  refine S.region rfl ?_
  refine S.op (S.q (q_assign rfl) rfl rfl ?_)
  refine S.op (S.q (q_assign rfl) rfl rfl ?_)
  refine S.op (S.q (q_assign rfl) rfl rfl ?_)
  refine S.op (S.q (q_assign rfl) rfl rfl ?_)
  first | with_reducible refine S.nilK ?_ | refine S.nil ?_
  refine hK1 _ _ ?_
  refine S.seq fun K2 hK2 => ?_
  refine S.region rfl ?_
  refine S.op (S.q (q_move rfl) rfl rfl ?_)
  refine S.op (S.q (q_rem rfl rfl (⟨by omega, by omega⟩)) rfl rfl ?_)
  refine S.op (S.q (q_conv Tryd.it3 (by rw [Tryd.underlying5]; rfl) rfl (inI64 (by omega) (by omega))) rfl rfl ?_)
  refine S.op (S.q (q_add rfl rfl (inI64 (by omega) (by omega))) rfl rfl ?_)
  refine S.op (S.q (q_move rfl) rfl rfl ?_)
  refine S.op (S.q (q_rem rfl rfl (⟨by omega, by omega⟩)) rfl rfl ?_)
  refine S.op (S.q (q_conv Tryd.it3 (by rw [Tryd.underlying5]; rfl) rfl (inI64 (by omega) (by omega))) rfl rfl ?_)
  refine S.op (S.q (q_add rfl rfl (inI64 (by omega) (by omega))) rfl rfl ?_)
  refine S.op (S.q (q_assign rfl) rfl rfl ?_)
  refine S.op (S.q (q_assign rfl) rfl rfl ?_)
  first | with_reducible refine S.nilK ?_ | refine S.nil ?_
  refine hK2 _ _ ?_
  refine S.seq fun K3 hK3 => ?_
  refine S.region rfl ?_
  rw [← hR, ← hN]
  refine S.op (S.q (q_move rfl) rfl rfl ?_)
  refine S.op (S.q (q_move rfl) rfl rfl ?_)
  refine S.op (S.call Tryd.en38 (vs := [_, _]) ⟨rfl, rfl, trivial⟩ (New_S R N (by omega) (by omega) (by omega) (by omega)) rfl ?_)
  rintro v Θ ⟨b, rfl, rfl⟩
  refine S.op (S.q (q_move rfl) rfl rfl ?_)
  refine S.op (S.q (q_extract rfl rfl) rfl rfl ?_)
  refine S.op (S.q (q_extract rfl rfl) rfl rfl ?_)
  refine S.op (S.q (q_assign rfl) rfl rfl ?_)
  refine S.op (S.q (q_assign rfl) rfl rfl ?_)
  first | with_reducible refine S.nilK ?_ | refine S.nil ?_
  refine hK3 _ _ ?_
  refine S.seq fun K4 hK4 => ?_
  refine S.region rfl ?_
  refine S.op (S.q (q_move rfl) rfl rfl ?_)
  refine S.op (S.q (q_move rfl) rfl rfl ?_)
  refine S.op (S.call Tryd.en39 (vs := [_, _]) ⟨rfl, rfl, trivial⟩ (rNew_S R N (by omega) (by omega) (by omega) (by omega)) rfl ?_)
  rintro v Θ ⟨c, rfl, rfl⟩
  refine S.op (S.q (q_move rfl) rfl rfl ?_)
  refine S.op (S.q (q_extract rfl rfl) rfl rfl ?_)
  refine S.op (S.q (q_extract rfl rfl) rfl rfl ?_)
  refine S.op (S.q (q_assign rfl) rfl rfl ?_)
  refine S.op (S.q (q_assign rfl) rfl rfl ?_)
  first | with_reducible refine S.nilK ?_ | refine S.nil ?_
  refine hK4 _ _ ?_
  refine S.seq fun K5 hK5 => ?_
  refine S.region rfl ?_
  refine S.op (S.q (q_assign rfl) rfl rfl ?_)
  first | with_reducible refine S.nilK ?_ | refine S.nil ?_
  refine hK5 _ _ ?_
  refine S.seq fun K6 hK6 => ?_
  refine S.region rfl ?_
  refine S.op (S.q (q_assign rfl) rfl rfl ?_)
  first | with_reducible refine S.nilK ?_ | refine S.nil ?_
  refine hK6 _ _ ?_
  refine S.seq fun K7 hK7 => ?_
  refine S.seq fun K8 hK8 => ?_
  refine S.region rfl ?_
  refine S.ent (Ent.ownNil 75 2) ?_
  refine S.ent (Ent.ownNil 120 2) ?_
  show S _ w0 _ (own SV.nil 120 2 ((cdUp l 0).flatMap cdC) :: own SV.nil 75 2 ((cdUp l 0).flatMap cdC) :: _) _
  refine S.op (S.q (q_move rfl) rfl rfl ?_)
  refine S.op (S.q (q_len Tryd.underlying63 rfl) rfl rfl ?_)
  refine S.op (S.q (q_move rfl) rfl rfl ?_)
  first | with_reducible refine S.nilK ?_ | refine S.nil ?_
  refine hK8 _ _ ?_
  refine S.cut (fun ρ' Γ' => ∃ (mm : Mx) (pa pb : SV), mm = stUp (mx0 R N) l (min l.length 40) ∧ mm.R = R ∧ mm.N = N ∧ pa.n = (cdR l).length ∧ pb.n = (cdR l).length ∧ ρ' = [(3, bsv d), (13, .int .i64 (N : Int)), (14, .pointer (some ⟨b, 0, none⟩)), (16, .pointer (some ⟨c, 0, none⟩)), (18, pa.v), (19, pb.v)] ∧   Γ' = own pb 120 2 ((cdR l).flatMap cdC) :: own pa 75 2 ((cdR l).flatMap cdC) :: RI c mm :: MI b mm :: old W :: Γ) ?_ ?_
  · refine S.block ?_
    refine S.loop (fun q ρ' Γ' => ∃ (i : Nat) (mm : Mx) (pa pb : SV) (al : List Cd), q = l.length - i ∧ i ≤ l.length ∧ i ≤ 40 ∧ mm = stUp (mx0 R N) l i ∧ mm.R = R ∧ mm.N = N ∧ al = cdUp l i ∧ pa.n = al.length ∧ pb.n = al.length ∧   ρ' = [(3, bsv d), (12, .int .i64 (R : Int)), (13, .int .i64 (N : Int)), (14, .pointer (some ⟨b, 0, none⟩)), (16, .pointer (some ⟨c, 0, none⟩)), (18, pa.v), (19, pb.v), (45, s.v), (46, .int .i64 s.n), (47, .int .i64 (i : Int))] ∧   Γ' = own pb 120 2 (al.flatMap cdC) :: own pa 75 2 (al.flatMap cdC) :: RI c mm :: MI b mm :: old W :: Γ) (m := _) (ρ0 := _) (Γ0 := _) (⟨0, mx0 R N, SV.nil, SV.nil, cdUp l 0, rfl, by omega, by omega, rfl, rfl, rfl, rfl, rfl, rfl, rfl, rfl⟩) (by repeat (first | exact trivial | refine ⟨rfl, ?_⟩)) Sub.ent ?_
    rintro q ρ' Γ' ⟨i, mm, pa, pb, al, hq, hi, hi40, hmm, hmR, hmN, hal, hpa, hpb, rfl, rfl⟩
    have hall := cdUp_len l i
    rw [← hal] at hall
    refine S.seq fun K9 hK9 => ?_
    refine S.region rfl ?_
    refine S.op (S.q (q_lt rfl rfl) rfl rfl ?_)
    first | with_reducible refine S.nilK ?_ | refine S.nil ?_
    refine hK9 _ _ ?_
    refine S.seq fun K10 hK10 => ?_
    refine S.condD rfl (fun h1 => ?_) (fun h1 => ?_)
    · refine S.miOk b mm fun hok => ?_
      obtain ⟨x, hx⟩ := getE (show i < l.length by omega)
      have hxr := hs.rng x (List.mem_of_getElem? hx)
      have hxd : l.getD i vd0 = x := by simp [List.getD, hx]
      obtain ⟨sb, so, hsa, hcell⟩ := slAt_some hs.at_ (by omega)
      have hN16 := hok.N16
      refine S.skip ?_
      with_reducible repeat (first | refine S.then_n ?_ | refine S.then_x ?_ | refine S.then_r ?_ | refine S.inBlock_n ?_ | refine S.inBlock_r ?_ | refine S.inBlock_x rfl ?_ | refine S.noGoto_r ?_ | refine S.noGoto_n ?_ | refine S.noGoto_x ?_)
      refine hK10 _ _ ?_
      refine S.seq fun K11 hK11 => ?_
      refine S.block ?_
      refine S.seq fun K12 hK12 => ?_
      refine S.region rfl ?_
      refine S.op (S.q (q_move rfl) rfl rfl ?_)
      refine S.op (S.q (q_indexO (i) Tryd.el63 rfl hsa rfl rfl (by omega)) rfl rfl ?_)
      refine S.op (S.q (q_loadWS (vdC x) Tryd.ag84 rfl rfl (fun i u hu => by rw [Nat.add_assoc]; exact hcell _ _ (flat_seg (enc := vdC) (sz := 4) (fun _ => rfl) hx i u hu))) rfl rfl ?_)
      refine S.op (S.alloc Tryd.z84 rfl ?_)
      intro b21
      refine S.op (S.q (q_assign rfl) rfl rfl ?_)
      refine S.op (S.storeS (cs' := [_, _, _, _]) Tryd.ag84 rfl rfl rfl rfl rfl rfl ?_)
      first | with_reducible refine S.nilK ?_ | refine S.nil ?_
      refine hK12 _ _ ?_
      refine S.seq fun K13 hK13 => ?_
      refine S.seq fun K14 hK14 => ?_
      refine S.region rfl ?_
      refine S.op (S.q (q_move rfl) rfl rfl ?_)
      refine S.op (S.q (q_ge rfl rfl) rfl rfl ?_)
      first | with_reducible refine S.nilK ?_ | refine S.nil ?_
      refine hK14 _ _ ?_
      refine S.condD rfl (fun h2 => ?_) (fun h2 => ?_)
      · have hmin : min l.length 40 = i := by omega
        refine S.exit ?_
        with_reducible repeat (first | refine S.then_n ?_ | refine S.then_x ?_ | refine S.then_r ?_ | refine S.inBlock_n ?_ | refine S.inBlock_r ?_ | refine S.inBlock_x rfl ?_ | refine S.noGoto_r ?_ | refine S.noGoto_n ?_ | refine S.noGoto_x ?_)
        with_reducible refine S.inBlock_s ?_
        with_reducible repeat (first | refine S.then_n ?_ | refine S.then_x ?_ | refine S.then_r ?_ | refine S.inBlock_n ?_ | refine S.inBlock_r ?_ | refine S.inBlock_x rfl ?_ | refine S.noGoto_r ?_ | refine S.noGoto_n ?_ | refine S.noGoto_x ?_)
        with_reducible repeat (first | refine S.then_n ?_ | refine S.then_x ?_ | refine S.then_r ?_ | refine S.inBlock_n ?_ | refine S.inBlock_r ?_ | refine S.inBlock_x rfl ?_ | refine S.noGoto_r ?_ | refine S.noGoto_n ?_ | refine S.noGoto_x ?_)
        have hcr : al = cdR l := by rw [cdR, hmin, hal]
        subst hcr
        exact S.meet ⟨mm, pa, pb, by rw [hmin]; exact hmm, hmR, hmN, hpa, hpb, rfl, rfl⟩ ⟨rfl, rfl, rfl, rfl, rfl, rfl, trivial⟩ Sub.ent
      · refine S.skip ?_
        with_reducible repeat (first | refine S.then_n ?_ | refine S.then_x ?_ | refine S.then_r ?_ | refine S.inBlock_n ?_ | refine S.inBlock_r ?_ | refine S.inBlock_x rfl ?_ | refine S.noGoto_r ?_ | refine S.noGoto_n ?_ | refine S.noGoto_x ?_)
        refine hK13 _ _ ?_
        refine S.seq fun K15 hK15 => ?_
        refine S.region rfl ?_
        refine S.op (S.q (q_assign rfl) rfl rfl ?_)
        first | with_reducible refine S.nilK ?_ | refine S.nil ?_
        refine hK15 _ _ ?_
        refine S.seq fun K16 hK16 => ?_
        refine S.seq fun K17 hK17 => ?_
        refine S.region rfl ?_
        refine S.ent (Ent.ownNil 3 1) ?_
        show S _ w0 _ (own SV.nil 3 1 (nds (bitU x.ns 0)) :: _) _
        refine S.op (S.q (q_move rfl) rfl rfl ?_)
        refine S.op (S.q (q_move rfl) rfl rfl ?_)
        first | with_reducible refine S.nilK ?_ | refine S.nil ?_
        refine hK17 _ _ ?_
        refine S.block ?_
        refine S.loop (fun q2 ρ' Γ' => ∃ (k : Nat) (sv : SV) (nl : List Nat), q2 = N - k ∧ k ≤ N ∧ nl = bitU x.ns k ∧ sv.n = nl.length ∧ ρ' = [(3, bsv d), (12, .int .i64 (R : Int)), (13, .int .i64 (N : Int)), (14, .pointer (some ⟨b, 0, none⟩)), (16, .pointer (some ⟨c, 0, none⟩)), (18, pa.v), (19, pb.v), (20, .int .i64 (i : Int)), (21, .pointer (some ⟨b21, 0, none⟩)), (22, sv.v), (45, s.v), (46, .int .i64 s.n), (47, .int .i64 (i : Int)), (54, .int .i64 (N : Int)), (55, .int .i64 (k : Int))] ∧   Γ' = own sv 3 1 (nds nl) :: blk b21 84 #[.int .u8 x.row, bsv x.ns, .int .u8 x.tier, .bool x.no] :: own pb 120 2 (al.flatMap cdC) :: own pa 75 2 (al.flatMap cdC) :: RI c mm :: MI b mm :: old W :: Γ) (m := _) (ρ0 := _) (Γ0 := _) (⟨0, SV.nil, bitU x.ns 0, rfl, by omega, rfl, rfl, rfl, rfl⟩) (by repeat (first | exact trivial | refine ⟨rfl, ?_⟩)) Sub.ent ?_
        rintro q2 ρ' Γ' ⟨k, sv, nl, hq2, hk, hnl, hsv, rfl, rfl⟩
        have hnlen := bitU_len x.ns k
        rw [← hnl] at hnlen
        refine S.seq fun K18 hK18 => ?_
        refine S.region rfl ?_
        refine S.op (S.q (q_lt rfl rfl) rfl rfl ?_)
        first | with_reducible refine S.nilK ?_ | refine S.nil ?_
        refine hK18 _ _ ?_
        refine S.seq fun K19 hK19 => ?_
        refine S.condD rfl (fun h3 => ?_) (fun h3 => ?_)
        · refine S.skip ?_
          with_reducible repeat (first | refine S.then_n ?_ | refine S.then_x ?_ | refine S.then_r ?_ | refine S.inBlock_n ?_ | refine S.inBlock_r ?_ | refine S.inBlock_x rfl ?_ | refine S.noGoto_r ?_ | refine S.noGoto_n ?_ | refine S.noGoto_x ?_)
          refine hK19 _ _ ?_
          refine S.seq fun K20 hK20 => ?_
          refine S.block ?_
          refine S.seq fun K21 hK21 => ?_
          refine S.region rfl ?_
          refine S.op (S.q (q_move rfl) rfl rfl ?_)
          refine S.op (S.q (q_assign rfl) rfl rfl ?_)
          first | with_reducible refine S.nilK ?_ | refine S.nil ?_
          refine hK21 _ _ ?_
          refine S.seq fun K22 hK22 => ?_
          refine S.region rfl ?_
          refine S.op (S.q (q_field Tryd.fo84_1 rfl) rfl rfl ?_)
          refine S.op (S.q (q_load Tryd.at28 rfl rfl) rfl rfl ?_)
          refine S.op (S.q (q_move rfl) rfl rfl ?_)
          refine S.op (S.q (q_shrB (x.ns) (k) rfl rfl rfl (rfl) (by omega)) rfl rfl ?_)
          refine S.op (S.q (q_andB (x.ns >>> k) (1#16) rfl rfl (rfl) (rfl)) rfl rfl ?_)
          refine S.op (S.q (q_eq rfl rfl) rfl rfl ?_)
          first | with_reducible refine S.nilK ?_ | refine S.nil ?_
          refine hK22 _ _ ?_
          refine S.condD rfl (fun h4 => ?_) (fun h4 => ?_)
          · have hb4 : x.ns.getLsbD k = true := by rw [← has_bit]; exact decide_eq_true h4
            have hnl2 : nl ++ [k] = bitU x.ns (k + 1) := by rw [bitU, if_pos hb4, hnl]
            have hd4 : nds nl ++ [.int .i64 (k : Int)] = nds (nl ++ [k]) := by simp
            refine S.region rfl ?_
            refine S.op (S.q (q_move rfl) rfl rfl ?_)
            refine S.op (S.q (q_move rfl) rfl rfl ?_)
            refine S.op (S.buildSlice (pvs := [(_, _)]) [_] Tryd.underlying52 Tryd.inf3 rfl rfl ⟨⟨rfl, rfl⟩, trivial⟩ rfl rfl ?_)
            intro b66
            refine S.op (S.appendOw (s := sv) (1) ([.int .i64 (k : Int)]) Tryd.underlying52 Tryd.inf3 rfl rfl rfl (blk_slAt (b := b66) rfl (by unfold maxLen; omega)) (by first | rfl | exact allOne_bcells _) (⟨by omega, by omega⟩) rfl ?_)
            intro sv2 hsv2
            refine S.op (S.q (q_assign rfl) rfl rfl ?_)
            first | with_reducible refine S.nilK ?_ | refine S.nil ?_
            with_reducible repeat (first | refine S.then_n ?_ | refine S.then_x ?_ | refine S.then_r ?_ | refine S.inBlock_n ?_ | refine S.inBlock_r ?_ | refine S.inBlock_x rfl ?_ | refine S.noGoto_r ?_ | refine S.noGoto_n ?_ | refine S.noGoto_x ?_)
            refine hK20 _ _ ?_
            refine S.region rfl ?_
            refine S.op (S.q (q_add rfl rfl (inI64 (by omega) (by omega))) rfl rfl ?_)
            refine S.op (S.q (q_move rfl) rfl rfl ?_)
            first | with_reducible refine S.nilK ?_ | refine S.nil ?_
            with_reducible repeat (first | refine S.then_n ?_ | refine S.then_x ?_ | refine S.then_r ?_ | refine S.inBlock_n ?_ | refine S.inBlock_r ?_ | refine S.inBlock_x rfl ?_ | refine S.noGoto_r ?_ | refine S.noGoto_n ?_ | refine S.noGoto_x ?_)
            first | (rw [hd4]; exact S.next (q2 - 1) ⟨k + 1, sv2, nl ++ [k], by omega, by omega, hnl2, by rw [List.length_append, List.length_singleton]; omega, rfl, rfl⟩ (by omega) (by repeat (first | exact trivial | refine ⟨rfl, ?_⟩)) Sub.ent) | exact S.next (q2 - 1) ⟨k + 1, sv, nl, by omega, by omega, hnl2, hsv, rfl, rfl⟩ (by omega) (by repeat (first | exact trivial | refine ⟨rfl, ?_⟩)) Sub.ent
          · have hb4 : x.ns.getLsbD k = false := by rw [← has_bit]; exact decide_eq_false h4
            have hnl2 : nl = bitU x.ns (k + 1) := by rw [bitU, if_neg (by rw [hb4]; simp), hnl]
            refine S.skip ?_
            with_reducible repeat (first | refine S.then_n ?_ | refine S.then_x ?_ | refine S.then_r ?_ | refine S.inBlock_n ?_ | refine S.inBlock_r ?_ | refine S.inBlock_x rfl ?_ | refine S.noGoto_r ?_ | refine S.noGoto_n ?_ | refine S.noGoto_x ?_)
            with_reducible repeat (first | refine S.then_n ?_ | refine S.then_x ?_ | refine S.then_r ?_ | refine S.inBlock_n ?_ | refine S.inBlock_r ?_ | refine S.inBlock_x rfl ?_ | refine S.noGoto_r ?_ | refine S.noGoto_n ?_ | refine S.noGoto_x ?_)
            refine hK20 _ _ ?_
            refine S.region rfl ?_
            refine S.op (S.q (q_add rfl rfl (inI64 (by omega) (by omega))) rfl rfl ?_)
            refine S.op (S.q (q_move rfl) rfl rfl ?_)
            first | with_reducible refine S.nilK ?_ | refine S.nil ?_
            with_reducible repeat (first | refine S.then_n ?_ | refine S.then_x ?_ | refine S.then_r ?_ | refine S.inBlock_n ?_ | refine S.inBlock_r ?_ | refine S.inBlock_x rfl ?_ | refine S.noGoto_r ?_ | refine S.noGoto_n ?_ | refine S.noGoto_x ?_)
            first | (rw [hd4]; exact S.next (q2 - 1) ⟨k + 1, sv2, nl ++ [k], by omega, by omega, hnl2, by rw [List.length_append, List.length_singleton]; omega, rfl, rfl⟩ (by omega) (by repeat (first | exact trivial | refine ⟨rfl, ?_⟩)) Sub.ent) | exact S.next (q2 - 1) ⟨k + 1, sv, nl, by omega, by omega, hnl2, hsv, rfl, rfl⟩ (by omega) (by repeat (first | exact trivial | refine ⟨rfl, ?_⟩)) Sub.ent
        · have hkN : k = N := by omega
          obtain ⟨t, ht⟩ : ∃ t : Nat, (t : Int) = x.row % (R : Int) := ⟨(x.row % (R : Int)).toNat, Int.toNat_of_nonneg (Int.emod_nonneg _ (by omega))⟩
          have htR : t < R := by have := Int.emod_lt_of_pos x.row (show (0 : Int) < R by omega); omega
          have hup := bitU_ok hok x.ns
          rw [hmN, ← hkN, ← hnl] at hup
          have hst : stUp (mx0 R N) l (i + 1) = (putR mm (i + 1) (x.row % (R : Int)) (casts nl)).2 := by
            rw [stUp, hxd, ← hmm, hnl, hkN]
            rfl
          obtain ⟨n1, _, n3⟩ := putR_N mm (i + 1) (x.row % (R : Int)) (casts nl)
          refine S.exit ?_
          with_reducible repeat (first | refine S.then_n ?_ | refine S.then_x ?_ | refine S.then_r ?_ | refine S.inBlock_n ?_ | refine S.inBlock_r ?_ | refine S.inBlock_x rfl ?_ | refine S.noGoto_r ?_ | refine S.noGoto_n ?_ | refine S.noGoto_x ?_)
          with_reducible refine S.inBlock_s ?_
          with_reducible repeat (first | refine S.then_n ?_ | refine S.then_x ?_ | refine S.then_r ?_ | refine S.inBlock_n ?_ | refine S.inBlock_r ?_ | refine S.inBlock_x rfl ?_ | refine S.noGoto_r ?_ | refine S.noGoto_n ?_ | refine S.noGoto_x ?_)
          refine hK16 _ _ ?_
          refine S.seq fun K23 hK23 => ?_
          refine S.region rfl ?_
          refine S.op (S.q (q_move rfl) rfl rfl ?_)
          refine S.op (S.q (q_move rfl) rfl rfl ?_)
          refine S.op (S.q (q_add rfl rfl (inI64 (by omega) (by omega))) rfl rfl ?_)
          refine S.op (S.q (q_conv Tryd.it36 (by rw [Tryd.underlying3]; rfl) rfl (inU32 (by omega) (by omega))) rfl rfl ?_)
          refine S.op (S.q (q_field Tryd.fo84_0 rfl) rfl rfl ?_)
          refine S.op (S.q (q_load Tryd.at5 rfl rfl) rfl rfl ?_)
          refine S.op (S.q (q_conv Tryd.it3 (by rw [Tryd.underlying5]; rfl) rfl (inI64 (by omega) (by omega))) rfl rfl ?_)
          refine S.op (S.q (q_move rfl) rfl rfl ?_)
          refine S.op (S.q (q_rem rfl rfl (⟨by omega, by omega⟩)) rfl rfl ?_)
          refine S.op (S.q (q_move rfl) rfl rfl ?_)
          refine S.op (S.call Tryd.en30 (vs := [_, _, _, _]) ⟨rfl, rfl, rfl, rfl, trivial⟩ (Put_S b mm (i + 1) (x.row % (R : Int)) (own sv 3 1 (nds nl)) sv (casts nl) (by rw [hsv, List.length_map]) (rdNds sv 3 nl) (by omega)) rfl ?_)
          rintro v Θ ⟨rfl, rfl⟩
          first | with_reducible refine S.nilK ?_ | refine S.nil ?_
          refine hK23 _ _ ?_
          refine S.seq fun K24 hK24 => ?_
          refine S.region rfl ?_
          refine S.op (S.q (q_move rfl) rfl rfl ?_)
          refine S.op (S.q (q_move rfl) rfl rfl ?_)
          refine S.op (S.q (q_add rfl rfl (inI64 (by omega) (by omega))) rfl rfl ?_)
          refine S.op (S.q (q_conv Tryd.it36 (by rw [Tryd.underlying3]; rfl) rfl (inU32 (by omega) (by omega))) rfl rfl ?_)
          refine S.op (S.q (q_field Tryd.fo84_0 rfl) rfl rfl ?_)
          refine S.op (S.q (q_load Tryd.at5 rfl rfl) rfl rfl ?_)
          refine S.op (S.q (q_conv Tryd.it3 (by rw [Tryd.underlying5]; rfl) rfl (inI64 (by omega) (by omega))) rfl rfl ?_)
          refine S.op (S.q (q_move rfl) rfl rfl ?_)
          refine S.op (S.q (q_rem rfl rfl (⟨by omega, by omega⟩)) rfl rfl ?_)
          refine S.op (S.q (q_move rfl) rfl rfl ?_)
          refine S.op (S.call Tryd.en40 (vs := [_, _, _, _]) ⟨rfl, rfl, rfl, rfl, trivial⟩ ((by rw [← ht]; exact rPut_S c mm (i + 1) t (own sv 3 1 (nds nl)) sv (casts nl) (by rw [hsv, List.length_map]) (rdNds sv 3 nl) (by omega) (by omega) (by omega) hup)) rfl ?_)
          rintro v Θ ⟨rfl, rfl⟩
          rw [ht]
          first | with_reducible refine S.nilK ?_ | refine S.nil ?_
          refine hK24 _ _ ?_
          refine S.seq fun K25 hK25 => ?_
          refine S.region rfl ?_
          obtain ⟨no, hno⟩ : ∃ no, no = x.no := ⟨_, rfl⟩
          rw [← hno]
          refine S.op (S.q (q_field Tryd.fo84_3 rfl) rfl rfl ?_)
          refine S.op (S.q (q_load Tryd.at4 rfl rfl) rfl rfl ?_)
          refine S.op (S.q (q_not rfl) rfl rfl ?_)
          first | with_reducible refine S.nilK ?_ | refine S.nil ?_
          refine hK25 _ _ ?_
          refine S.cond rfl (fun h5 => ?_) (fun h5 => ?_)
          · have hal2 : al ++ [(i + 1, x.tier)] = cdUp l (i + 1) := by rw [cdUp, hxd, ← hno, show no = false by simpa using h5, hal]; rfl
            refine S.seq fun K26 hK26 => ?_
            refine S.region rfl ?_
            refine S.op (S.q (q_move rfl) rfl rfl ?_)
            refine S.op (S.q (q_move rfl) rfl rfl ?_)
            refine S.op (S.q (q_add rfl rfl (inI64 (by omega) (by omega))) rfl rfl ?_)
            refine S.op (S.q (q_conv Tryd.it36 (by rw [Tryd.underlying3]; rfl) rfl (inU32 (by omega) (by omega))) rfl rfl ?_)
            refine S.op (S.q (q_field Tryd.fo84_2 rfl) rfl rfl ?_)
            refine S.op (S.q (q_load Tryd.at5 rfl rfl) rfl rfl ?_)
            refine S.op (S.q (q_build (pvs := [(_, _), (_, _)]) [_, _] Tryd.z75 Tryd.p75 ⟨⟨rfl, rfl⟩, ⟨rfl, rfl⟩, trivial⟩ rfl) rfl rfl ?_)
            refine S.op (S.buildSlice (pvs := [(_, _)]) [_, _] Tryd.underlying64 Tryd.inf75 rfl rfl ⟨⟨rfl, rfl⟩, trivial⟩ rfl rfl ?_)
            intro b101
            refine S.op (S.appendOw (s := pa) (1) (cdC (i + 1, x.tier)) Tryd.underlying64 Tryd.inf75 rfl rfl rfl (blk_slAt (b := b101) rfl (by unfold maxLen; omega)) (by first | rfl | exact allOne_bcells _) (⟨by omega, by omega⟩) rfl ?_)
            intro pa2 hpa2
            refine S.op (S.q (q_assign rfl) rfl rfl ?_)
            first | with_reducible refine S.nilK ?_ | refine S.nil ?_
            refine hK26 _ _ ?_
            refine S.region rfl ?_
            refine S.op (S.q (q_move rfl) rfl rfl ?_)
            refine S.op (S.q (q_move rfl) rfl rfl ?_)
            refine S.op (S.q (q_add rfl rfl (inI64 (by omega) (by omega))) rfl rfl ?_)
            refine S.op (S.q (q_conv Tryd.it36 (by rw [Tryd.underlying3]; rfl) rfl (inU32 (by omega) (by omega))) rfl rfl ?_)
            refine S.op (S.q (q_field Tryd.fo84_2 rfl) rfl rfl ?_)
            refine S.op (S.q (q_load Tryd.at5 rfl rfl) rfl rfl ?_)
            refine S.op (S.q (q_build (pvs := [(_, _), (_, _)]) [_, _] Tryd.z120 Tryd.p120 ⟨⟨rfl, rfl⟩, ⟨rfl, rfl⟩, trivial⟩ rfl) rfl rfl ?_)
            refine S.op (S.buildSlice (pvs := [(_, _)]) [_, _] Tryd.underlying65 Tryd.inf120 rfl rfl ⟨⟨rfl, rfl⟩, trivial⟩ rfl rfl ?_)
            intro b110
            refine S.op (S.appendOw (s := pb) (1) (cdC (i + 1, x.tier)) Tryd.underlying65 Tryd.inf120 rfl rfl rfl (blk_slAt (b := b110) rfl (by unfold maxLen; omega)) (by first | rfl | exact allOne_bcells _) (⟨by omega, by omega⟩) rfl ?_)
            intro pb2 hpb2
            refine S.op (S.q (q_assign rfl) rfl rfl ?_)
            first | with_reducible refine S.nilK ?_ | refine S.nil ?_
            with_reducible repeat (first | refine S.then_n ?_ | refine S.then_x ?_ | refine S.then_r ?_ | refine S.inBlock_n ?_ | refine S.inBlock_r ?_ | refine S.inBlock_x rfl ?_ | refine S.noGoto_r ?_ | refine S.noGoto_n ?_ | refine S.noGoto_x ?_)
            refine hK11 _ _ ?_
            refine S.region rfl ?_
            refine S.op (S.q (q_add rfl rfl (inI64 (by omega) (by omega))) rfl rfl ?_)
            refine S.op (S.q (q_move rfl) rfl rfl ?_)
            first | with_reducible refine S.nilK ?_ | refine S.nil ?_
            with_reducible repeat (first | refine S.then_n ?_ | refine S.then_x ?_ | refine S.then_r ?_ | refine S.inBlock_n ?_ | refine S.inBlock_r ?_ | refine S.inBlock_x rfl ?_ | refine S.noGoto_r ?_ | refine S.noGoto_n ?_ | refine S.noGoto_x ?_)
            first | (rw [flat_snoc cdC al (i + 1, x.tier)]; exact S.next (q - 1) ⟨i + 1, (putR mm (i + 1) (x.row % (R : Int)) (casts nl)).2, pa2, pb2, al ++ [(i + 1, x.tier)], by omega, by omega, by omega, hst.symm, by omega, by omega, hal2, by rw [List.length_append, List.length_singleton]; omega, by rw [List.length_append, List.length_singleton]; omega, rfl, rfl⟩ (by omega) (by repeat (first | exact trivial | refine ⟨rfl, ?_⟩)) Sub.ent) | exact S.next (q - 1) ⟨i + 1, (putR mm (i + 1) (x.row % (R : Int)) (casts nl)).2, pa, pb, al, by omega, by omega, by omega, hst.symm, by omega, by omega, hal2, hpa, hpb, rfl, rfl⟩ (by omega) (by repeat (first | exact trivial | refine ⟨rfl, ?_⟩)) Sub.ent
          · have hal2 : al = cdUp l (i + 1) := by rw [cdUp, hxd, ← hno, show no = true by simpa using h5, hal]; rfl
            refine S.skip ?_
            with_reducible repeat (first | refine S.then_n ?_ | refine S.then_x ?_ | refine S.then_r ?_ | refine S.inBlock_n ?_ | refine S.inBlock_r ?_ | refine S.inBlock_x rfl ?_ | refine S.noGoto_r ?_ | refine S.noGoto_n ?_ | refine S.noGoto_x ?_)
            with_reducible repeat (first | refine S.then_n ?_ | refine S.then_x ?_ | refine S.then_r ?_ | refine S.inBlock_n ?_ | refine S.inBlock_r ?_ | refine S.inBlock_x rfl ?_ | refine S.noGoto_r ?_ | refine S.noGoto_n ?_ | refine S.noGoto_x ?_)
            refine hK11 _ _ ?_
            refine S.region rfl ?_
            refine S.op (S.q (q_add rfl rfl (inI64 (by omega) (by omega))) rfl rfl ?_)
            refine S.op (S.q (q_move rfl) rfl rfl ?_)
            first | with_reducible refine S.nilK ?_ | refine S.nil ?_
            with_reducible repeat (first | refine S.then_n ?_ | refine S.then_x ?_ | refine S.then_r ?_ | refine S.inBlock_n ?_ | refine S.inBlock_r ?_ | refine S.inBlock_x rfl ?_ | refine S.noGoto_r ?_ | refine S.noGoto_n ?_ | refine S.noGoto_x ?_)
            first | (rw [flat_snoc cdC al (i + 1, x.tier)]; exact S.next (q - 1) ⟨i + 1, (putR mm (i + 1) (x.row % (R : Int)) (casts nl)).2, pa2, pb2, al ++ [(i + 1, x.tier)], by omega, by omega, by omega, hst.symm, by omega, by omega, hal2, by rw [List.length_append, List.length_singleton]; omega, by rw [List.length_append, List.length_singleton]; omega, rfl, rfl⟩ (by omega) (by repeat (first | exact trivial | refine ⟨rfl, ?_⟩)) Sub.ent) | exact S.next (q - 1) ⟨i + 1, (putR mm (i + 1) (x.row % (R : Int)) (casts nl)).2, pa, pb, al, by omega, by omega, by omega, hst.symm, by omega, by omega, hal2, hpa, hpb, rfl, rfl⟩ (by omega) (by repeat (first | exact trivial | refine ⟨rfl, ?_⟩)) Sub.ent
    · have hmin : min l.length 40 = i := by omega
      refine S.exit ?_
      with_reducible repeat (first | refine S.then_n ?_ | refine S.then_x ?_ | refine S.then_r ?_ | refine S.inBlock_n ?_ | refine S.inBlock_r ?_ | refine S.inBlock_x rfl ?_ | refine S.noGoto_r ?_ | refine S.noGoto_n ?_ | refine S.noGoto_x ?_)
      with_reducible refine S.inBlock_s ?_
      with_reducible repeat (first | refine S.then_n ?_ | refine S.then_x ?_ | refine S.then_r ?_ | refine S.inBlock_n ?_ | refine S.inBlock_r ?_ | refine S.inBlock_x rfl ?_ | refine S.noGoto_r ?_ | refine S.noGoto_n ?_ | refine S.noGoto_x ?_)
      with_reducible repeat (first | refine S.then_n ?_ | refine S.then_x ?_ | refine S.then_r ?_ | refine S.inBlock_n ?_ | refine S.inBlock_r ?_ | refine S.inBlock_x rfl ?_ | refine S.noGoto_r ?_ | refine S.noGoto_n ?_ | refine S.noGoto_x ?_)
      have hcr : al = cdR l := by rw [cdR, hmin, hal]
      subst hcr
      exact S.meet ⟨mm, pa, pb, by rw [hmin]; exact hmm, hmR, hmN, hpa, hpb, rfl, rfl⟩ ⟨rfl, rfl, rfl, rfl, rfl, rfl, trivial⟩ Sub.ent
  · rintro ρ' Γ' ⟨mm, pa, pb, hmm, hmR, hmN, hpa, hpb, rfl, rfl⟩
    refine hK7 _ _ ?_
    refine S.seq fun K27 hK27 => ?_
    refine S.seq fun K28 hK28 => ?_
    refine S.region rfl ?_
    refine S.op (S.q (q_move rfl) rfl rfl ?_)
    refine S.op (S.q (q_move rfl) rfl rfl ?_)
    first | with_reducible refine S.nilK ?_ | refine S.nil ?_
    refine hK28 _ _ ?_
    refine S.block ?_
    refine S.loop (fun q ρ' Γ' => ∃ (k : Nat) (m2 : Mx), q = N - k ∧ k ≤ N ∧ m2 = dnUp mm d k ∧ m2.N = N ∧ ρ' = [(3, bsv d), (14, .pointer (some ⟨b, 0, none⟩)), (16, .pointer (some ⟨c, 0, none⟩)), (18, pa.v), (19, pb.v), (113, .int .i64 (N : Int)), (114, .int .i64 (k : Int))] ∧ Γ' = own pb 120 2 ((cdR l).flatMap cdC) :: own pa 75 2 ((cdR l).flatMap cdC) :: RI c m2 :: MI b m2 :: old W :: Γ) (m := _) (ρ0 := _) (Γ0 := _) (⟨0, mm, rfl, by omega, rfl, hmN, rfl, rfl⟩) (by repeat (first | exact trivial | refine ⟨rfl, ?_⟩)) Sub.ent ?_
    rintro q ρ' Γ' ⟨k, m2, hq, hk, hm2, hm2N, rfl, rfl⟩
    refine S.miOk b m2 fun hok => ?_
    have hN16 := hok.N16
    refine S.seq fun K29 hK29 => ?_
    refine S.region rfl ?_
    refine S.op (S.q (q_lt rfl rfl) rfl rfl ?_)
    first | with_reducible refine S.nilK ?_ | refine S.nil ?_
    refine hK29 _ _ ?_
    refine S.seq fun K30 hK30 => ?_
    refine S.condD rfl (fun h6 => ?_) (fun h6 => ?_)
    · refine S.skip ?_
      with_reducible repeat (first | refine S.then_n ?_ | refine S.then_x ?_ | refine S.then_r ?_ | refine S.inBlock_n ?_ | refine S.inBlock_r ?_ | refine S.inBlock_x rfl ?_ | refine S.noGoto_r ?_ | refine S.noGoto_n ?_ | refine S.noGoto_x ?_)
      refine hK30 _ _ ?_
      refine S.seq fun K31 hK31 => ?_
      refine S.block ?_
      refine S.seq fun K32 hK32 => ?_
      refine S.region rfl ?_
      refine S.op (S.q (q_move rfl) rfl rfl ?_)
      refine S.op (S.q (q_assign rfl) rfl rfl ?_)
      first | with_reducible refine S.nilK ?_ | refine S.nil ?_
      refine hK32 _ _ ?_
      refine S.seq fun K33 hK33 => ?_
      refine S.region rfl ?_
      refine S.op (S.q (q_move rfl) rfl rfl ?_)
      refine S.op (S.q (q_move rfl) rfl rfl ?_)
      refine S.op (S.q (q_shrB (d) (k) rfl rfl rfl (rfl) (by omega)) rfl rfl ?_)
      refine S.op (S.q (q_andB (d >>> k) (1#16) rfl rfl (rfl) (rfl)) rfl rfl ?_)
      refine S.op (S.q (q_eq rfl rfl) rfl rfl ?_)
      first | with_reducible refine S.nilK ?_ | refine S.nil ?_
      refine hK33 _ _ ?_
      refine S.condD rfl (fun h7 => ?_) (fun h7 => ?_)
      · have hb6 : d.getLsbD k = true := by rw [← has_bit]; exact decide_eq_true h7
        have hur : upR m2 k false = (0, m2.setUp k false) := by rw [upR, if_pos (nodeB_iff.2 ⟨by omega, by omega⟩), Int.toNat_natCast]
        have hdn : m2.setUp k false = dnUp mm d (k + 1) := by rw [dnUp, if_pos hb6, ← hm2, hur]
        refine S.seq fun K34 hK34 => ?_
        refine S.region rfl ?_
        refine S.op (S.q (q_move rfl) rfl rfl ?_)
        refine S.op (S.q (q_move rfl) rfl rfl ?_)
        refine S.op (S.call Tryd.en41 (vs := [_, _, _]) ⟨rfl, rfl, rfl, trivial⟩ (Up_S b m2 k false) rfl ?_)
        rintro v Θ ⟨rfl, rfl⟩
        rw [hur]
        refine S.riOpen c m2 fun cs us rs hri => ?_
        have hun := hri.un
        refine S.ownSome us (by omega) fun ub uo hua _ _ _ => ?_
        first | with_reducible refine S.nilK ?_ | refine S.nil ?_
        refine hK34 _ _ ?_
        refine S.region rfl ?_
        refine S.op (S.q (q_move rfl) rfl rfl ?_)
        refine S.op (S.q (q_nilCheck rfl) rfl rfl ?_)
        refine S.op (S.q (q_field Tryd.fo45_1 rfl) rfl rfl ?_)
        refine S.op (S.q (q_load Tryd.at43 rfl rfl) rfl rfl ?_)
        refine S.op (S.q (q_move rfl) rfl rfl ?_)
        refine S.op (S.q (q_indexO (k) Tryd.el43 rfl hua rfl rfl (by omega)) rfl rfl ?_)
        refine S.op (S.storeOw (us) (k) Tryd.at4 rfl rfl rfl hua (by first | rfl | exact Nat.add_assoc _ _ _ | omega) (by simp; omega) (upC_set hN16 (by omega)) ?_)
        first | with_reducible refine S.nilK ?_ | refine S.nil ?_
        with_reducible repeat (first | refine S.then_n ?_ | refine S.then_x ?_ | refine S.then_r ?_ | refine S.inBlock_n ?_ | refine S.inBlock_r ?_ | refine S.inBlock_x rfl ?_ | refine S.noGoto_r ?_ | refine S.noGoto_n ?_ | refine S.noGoto_x ?_)
        refine hK31 _ _ ?_
        refine S.region rfl ?_
        refine S.op (S.q (q_add rfl rfl (inI64 (by omega) (by omega))) rfl rfl ?_)
        refine S.op (S.q (q_move rfl) rfl rfl ?_)
        first | with_reducible refine S.nilK ?_ | refine S.nil ?_
        with_reducible repeat (first | refine S.then_n ?_ | refine S.then_x ?_ | refine S.then_r ?_ | refine S.inBlock_n ?_ | refine S.inBlock_r ?_ | refine S.inBlock_x rfl ?_ | refine S.noGoto_r ?_ | refine S.noGoto_n ?_ | refine S.noGoto_x ?_)
        first | (refine S.riClose c (m2.setUp k false) cs us rs (hri.setUp (by omega)) ?_; exact S.next (q - 1) ⟨k + 1, m2.setUp k false, by omega, by omega, hdn, hm2N, rfl, rfl⟩ (by omega) (by repeat (first | exact trivial | refine ⟨rfl, ?_⟩)) Sub.ent) | exact S.next (q - 1) ⟨k + 1, m2, by omega, by omega, hdn, hm2N, rfl, rfl⟩ (by omega) (by repeat (first | exact trivial | refine ⟨rfl, ?_⟩)) Sub.ent
      · have hb6 : d.getLsbD k = false := by rw [← has_bit]; exact decide_eq_false h7
        have hdn : m2 = dnUp mm d (k + 1) := by rw [dnUp, if_neg (by rw [hb6]; simp), ← hm2]
        refine S.skip ?_
        with_reducible repeat (first | refine S.then_n ?_ | refine S.then_x ?_ | refine S.then_r ?_ | refine S.inBlock_n ?_ | refine S.inBlock_r ?_ | refine S.inBlock_x rfl ?_ | refine S.noGoto_r ?_ | refine S.noGoto_n ?_ | refine S.noGoto_x ?_)
        with_reducible repeat (first | refine S.then_n ?_ | refine S.then_x ?_ | refine S.then_r ?_ | refine S.inBlock_n ?_ | refine S.inBlock_r ?_ | refine S.inBlock_x rfl ?_ | refine S.noGoto_r ?_ | refine S.noGoto_n ?_ | refine S.noGoto_x ?_)
        refine hK31 _ _ ?_
        refine S.region rfl ?_
        refine S.op (S.q (q_add rfl rfl (inI64 (by omega) (by omega))) rfl rfl ?_)
        refine S.op (S.q (q_move rfl) rfl rfl ?_)
        first | with_reducible refine S.nilK ?_ | refine S.nil ?_
        with_reducible repeat (first | refine S.then_n ?_ | refine S.then_x ?_ | refine S.then_r ?_ | refine S.inBlock_n ?_ | refine S.inBlock_r ?_ | refine S.inBlock_x rfl ?_ | refine S.noGoto_r ?_ | refine S.noGoto_n ?_ | refine S.noGoto_x ?_)
        first | (refine S.riClose c (m2.setUp k false) cs us rs (hri.setUp (by omega)) ?_; exact S.next (q - 1) ⟨k + 1, m2.setUp k false, by omega, by omega, hdn, hm2N, rfl, rfl⟩ (by omega) (by repeat (first | exact trivial | refine ⟨rfl, ?_⟩)) Sub.ent) | exact S.next (q - 1) ⟨k + 1, m2, by omega, by omega, hdn, hm2N, rfl, rfl⟩ (by omega) (by repeat (first | exact trivial | refine ⟨rfl, ?_⟩)) Sub.ent
    · have hfin : bldR r n l d = m2 := by rw [hbR, ← hmm, hm2, show k = N by omega]
      rw [← hfin]
      refine S.exit ?_
      with_reducible repeat (first | refine S.then_n ?_ | refine S.then_x ?_ | refine S.then_r ?_ | refine S.inBlock_n ?_ | refine S.inBlock_r ?_ | refine S.inBlock_x rfl ?_ | refine S.noGoto_r ?_ | refine S.noGoto_n ?_ | refine S.noGoto_x ?_)
      with_reducible refine S.inBlock_s ?_
      with_reducible repeat (first | refine S.then_n ?_ | refine S.then_x ?_ | refine S.then_r ?_ | refine S.inBlock_n ?_ | refine S.inBlock_r ?_ | refine S.inBlock_x rfl ?_ | refine S.noGoto_r ?_ | refine S.noGoto_n ?_ | refine S.noGoto_x ?_)
      refine hK27 _ _ ?_
      refine S.seq fun K35 hK35 => ?_
      refine S.region rfl ?_
      refine S.op (S.q (q_move rfl) rfl rfl ?_)
      refine S.op (S.q (q_move rfl) rfl rfl ?_)
      refine S.op (S.q (q_move rfl) rfl rfl ?_)
      refine S.op (S.q (q_move rfl) rfl rfl ?_)
      refine S.op (S.q (q_assign rfl) rfl rfl ?_)
      refine S.op (S.q (q_assign rfl) rfl rfl ?_)
      refine S.op (S.q (q_assign rfl) rfl rfl ?_)
      refine S.op (S.q (q_assign rfl) rfl rfl ?_)
      first | with_reducible refine S.nilK ?_ | refine S.nil ?_
      refine hK35 _ _ ?_
      refine S.ret ?_
      with_reducible repeat (first | refine S.then_n ?_ | refine S.then_x ?_ | refine S.then_r ?_ | refine S.inBlock_n ?_ | refine S.inBlock_r ?_ | refine S.inBlock_x rfl ?_ | refine S.noGoto_r ?_ | refine S.noGoto_n ?_ | refine S.noGoto_x ?_)
      exact S.fin (rs := [_, _, _, _]) (vs := [_, _, _, _]) Tryd.results32 (⟨rfl, rfl, rfl, rfl, trivial⟩)  (⟨b, c, pa, pb, rfl, hpa, hpb, rfl⟩) Sub.ent
end Go.Proofs.YtbhnbnecaejjiaaDoor
