/- The document's matrix: Fill, Jobs, Copy. -/
import Derived.Test.YtegjmmocnffpiaaDoorMI4
/- The laws of victim: what both sides build; awake. -/
namespace Go.Proofs.YtegjmmocnffpiaaDoor
open Go.RowKit
set_option maxRecDepth 20000
structure Vd where
  row : Int
  ns : Bs
  tier : Int
  no : Bool
instance : Inhabited Vd := ⟨⟨0, 0#16, 0, false⟩⟩
abbrev vdC (x : Vd) : List Value := [.int .u8 x.row, bsv x.ns, .int .u8 x.tier, .bool x.no]
def vd0 : Vd := ⟨0, 0#16, 0, false⟩
structure VW (W : World) (s : SV) (l : List Vd) : Prop where
  at_ : SlAt W s.v l.length 4 (l.flatMap vdC)
  len : s.n = l.length
  rng : ∀ x ∈ l, (0 ≤ x.row ∧ x.row ≤ 255) ∧ 0 ≤ x.tier ∧ x.tier ≤ 255
theorem rd_vd {W : World} {cs : List Value} (h : Rd W (.cat 1 (.int .u8) (.cat 1 (.int .u16) (.cat 1 (.int .u8) (.cat 1 .bool .nil)))) cs) : ∃ x : Vd, cs = vdC x ∧ (0 ≤ x.row ∧ x.row ≤ 255) ∧ 0 ≤ x.tier ∧ x.tier ≤ 255 := by
  obtain ⟨_, _, rfl, _, ⟨a, rfl, ha⟩, _, _, rfl, _, ⟨b, rfl, hb⟩, _, _, rfl, _, ⟨c, rfl, hc⟩, _, _, rfl, _, ⟨d, rfl⟩, rfl⟩ := h
  have h1 := u8_rng ha
  have h2 := u16_rng hb
  have h3 := u8_rng hc
  refine ⟨⟨a, BitVec.ofNat 16 b.toNat, c, d⟩, ?_, h1, h3⟩
  have e : ((BitVec.ofNat 16 b.toNat).toNat : Int) = b := by
    rw [BitVec.toNat_ofNat, Nat.mod_eq_of_lt (by omega)]
    omega
  show [Value.int .u8 a] ++ ([Value.int .u16 b] ++ ([Value.int .u8 c] ++ ([Value.bool d] ++ []))) = _
  simp only [vdC, bsv, e]
  rfl
theorem rd_vds {W : World} {cs : List Value} (h : Rd W (.slice 4 (.cat 1 (.int .u8) (.cat 1 (.int .u16) (.cat 1 (.int .u8) (.cat 1 .bool .nil))))) cs) : ∃ (s : SV) (l : List Vd), cs = [s.v] ∧ VW W s l := by
  obtain ⟨s, l, h1, h2, h3, h4, _⟩ := rd_slice (α := Vd) (encA := vdC) (p := fun x => (0 ≤ x.row ∧ x.row ≤ 255) ∧ 0 ≤ x.tier ∧ x.tier ≤ 255) (fun cs hr _ => by
    obtain ⟨x, rfl, hx⟩ := rd_vd hr
    exact ⟨x, rfl, hx⟩) h (by omega)
  exact ⟨s, l, h1, h3, h2, h4⟩
def stUp (m : Mx) (l : List Vd) : Nat → Mx
  | 0 => m
  | i + 1 => (putR (stUp m l i) (i + 1) ((l.getD i vd0).row % (m.R : Int)) (casts (bitU (l.getD i vd0).ns m.N))).2
def dnUp (m : Mx) (d : Bs) : Nat → Mx
  | 0 => m
  | k + 1 => if d.getLsbD k then (upR (dnUp m d k) k false).2 else dnUp m d k
/-- Who may have to go. -/
def cdUp (l : List Vd) : Nat → List Cd
  | 0 => []
  | i + 1 => if (l.getD i vd0).no then cdUp l i else cdUp l i ++ [(i + 1, (l.getD i vd0).tier)]
theorem cdUp_len (l : List Vd) : ∀ i, (cdUp l i).length ≤ i
  | 0 => Nat.le_refl _
  | i + 1 => by
    have := cdUp_len l i
    rw [cdUp]
    split
    · omega
    · rw [List.length_append, List.length_singleton]; omega
theorem cdUp_tier {l : List Vd} (h : ∀ x ∈ l, (0 ≤ x.row ∧ x.row ≤ 255) ∧ 0 ≤ x.tier ∧ x.tier ≤ 255) : ∀ i, i ≤ l.length → ∀ x ∈ cdUp l i, 0 ≤ x.2 ∧ x.2 ≤ 255
  | 0, _, x, hx => by cases hx
  | i + 1, hi, x, hx => by
    have hy := List.getElem?_eq_getElem (show i < l.length by omega)
    have hg : l.getD i vd0 = l[i] := by simp [List.getD, hy]
    rw [cdUp] at hx
    split at hx
    · exact cdUp_tier h i (by omega) x hx
    · rcases List.mem_append.1 hx with h9 | h9
      · exact cdUp_tier h i (by omega) x h9
      · rw [List.mem_singleton] at h9
        subst h9
        rw [hg]
        exact (h _ (List.getElem_mem _)).2
def bldR (r n : Int) (l : List Vd) (d : Bs) : Mx := dnUp (stUp (mx0 (1 + r % 8).toNat (1 + n % 16).toNat) l (min l.length 40)) d (1 + n % 16).toNat
def cdR (l : List Vd) : List Cd := cdUp l (min l.length 40)
theorem stUp_ok {m : Mx} (hm : MxOk m) (l : List Vd) : ∀ i, i ≤ 40 → MxOk (stUp m l i) ∧ (stUp m l i).R = m.R
  | 0, _ => ⟨hm, rfl⟩
  | i + 1, h => by
    obtain ⟨h1, h2⟩ := stUp_ok hm l i (by omega)
    exact ⟨putR_ok h1 (by omega) _ _, (putR_N _ _ _ _).2.2.trans h2⟩
theorem dnUp_ok {m : Mx} (hm : MxOk m) (d : Bs) : ∀ k, MxOk (dnUp m d k) ∧ (dnUp m d k).R = m.R
  | 0 => ⟨hm, rfl⟩
  | k + 1 => by
    obtain ⟨h1, h2⟩ := dnUp_ok hm d k
    rw [dnUp]
    split
    · exact ⟨upR_ok h1 _ _, (upR_N _ _ _).2.trans h2⟩
    · exact ⟨h1, h2⟩
theorem bldR_ok (r n : Int) (l : List Vd) (d : Bs) : MxOk (bldR r n l d) ∧ (bldR r n l d).R = (1 + r % 8).toNat := by
  obtain ⟨h1, h2⟩ := stUp_ok (mx0_ok (R := (1 + r % 8).toNat) (N := (1 + n % 16).toNat) (by omega) (by omega) (by omega) (by omega)) l (min l.length 40) (by omega)
  obtain ⟨h3, h4⟩ := dnUp_ok h1 d (1 + n % 16).toNat
  exact ⟨h3, h4.trans h2⟩
set_option maxHeartbeats 1000000 in
theorem build_S (r n : Int) (l : List Vd) (d : Bs) (s : SV) (hr : 0 ≤ r ∧ r ≤ 255) (hn : 0 ≤ n ∧ n ≤ 255) {W : World} (hs : VW W s l) : Spec Tryd.prog 7 [.int .u8 r, .int .u8 n, s.v, bsv d] [old W] fun Γ v Θ => ∃ (b c : Nat) (p q : SV), v = .tuple #[.pointer (some ⟨b, 0, none⟩), .pointer (some ⟨c, 0, none⟩), p.v, q.v] ∧ p.n = (cdR l).length ∧ q.n = (cdR l).length ∧
    Θ = MI b (bldR r n l d) :: RI c (bldR r n l d) :: own p 86 2 ((cdR l).flatMap cdC) :: own q 89 2 ((cdR l).flatMap cdC) :: old W :: Γ := by
  refine Spec.of_body Tryd.func7 rfl Tryd.ntmps7 rfl ?_
  intro w0 Γ
  show S _ w0 [(0, .int .u8 r), (1, .int .u8 n), (2, s.v), (3, bsv d)] (old W :: Γ) _
  have hsl := hs.len
  have hRs : RdS (old W) s s.n 4 (l.flatMap vdC) := by rw [hsl]; exact RdS.old hs.at_
  refine S.rCap hRs fun _ hc1 hc2 => ?_
  obtain ⟨R, hR⟩ : ∃ R : Nat, (R : Int) = 1 + r % 8 := ⟨(1 + r % 8).toNat, by omega⟩
  obtain ⟨N, hN⟩ : ∃ N : Nat, (N : Int) = 1 + n % 16 := ⟨(1 + n % 16).toNat, by omega⟩
  have hbR : bldR r n l d = dnUp (stUp (mx0 R N) l (min l.length 40)) d N := by rw [bldR, ← hN, ← hR, Int.toNat_natCast, Int.toNat_natCast]
  refine S.seq fun K1 hK1 => ?_
  refine S.region rfl ?_
  refine S.op (S.q (q_assign rfl) rfl rfl ?_)
  refine S.op (S.q (q_assign rfl) rfl rfl ?_)
  refine S.op (S.q (q_assign rfl) rfl rfl ?_)
  refine S.op (S.q (q_assign rfl) rfl rfl ?_)
  first | with_reducible refine S.nilK ?_ | refine S.nil ?_
  refine hK1 _ _ ?_
  refine S.seq fun K2 hK2 => ?_
  refine S.region rfl ?_
  refine S.op (S.q (q_move rfl) rfl rfl ?_)
  refine S.op (S.q (q_rem rfl rfl (⟨by omega, by omega⟩)) rfl rfl ?_)
  refine S.op (S.q (q_conv Tryd.it3 (by rw [Tryd.underlying5]; rfl) rfl (inI64 (by omega) (by omega))) rfl rfl ?_)
  refine S.op (S.q (q_add rfl rfl (inI64 (by omega) (by omega))) rfl rfl ?_)
  refine S.op (S.q (q_move rfl) rfl rfl ?_)
  refine S.op (S.q (q_rem rfl rfl (⟨by omega, by omega⟩)) rfl rfl ?_)
  refine S.op (S.q (q_conv Tryd.it3 (by rw [Tryd.underlying5]; rfl) rfl (inI64 (by omega) (by omega))) rfl rfl ?_)
  refine S.op (S.q (q_add rfl rfl (inI64 (by omega) (by omega))) rfl rfl ?_)
  refine S.op (S.q (q_assign rfl) rfl rfl ?_)
  refine S.op (S.q (q_assign rfl) rfl rfl ?_)
  first | with_reducible refine S.nilK ?_ | refine S.nil ?_
  refine hK2 _ _ ?_
  refine S.seq fun K3 hK3 => ?_
  refine S.region rfl ?_
  rw [← hR, ← hN]
  refine S.op (S.q (q_move rfl) rfl rfl ?_)
  refine S.op (S.q (q_move rfl) rfl rfl ?_)
  refine S.op (S.call Tryd.en23 (vs := [_, _]) ⟨rfl, rfl, trivial⟩ (New_S R N (by omega) (by omega) (by omega) (by omega)) rfl ?_)
  rintro v Θ ⟨b, rfl, rfl⟩
  refine S.op (S.q (q_move rfl) rfl rfl ?_)
  refine S.op (S.q (q_extract rfl rfl) rfl rfl ?_)
  refine S.op (S.q (q_extract rfl rfl) rfl rfl ?_)
  refine S.op (S.q (q_assign rfl) rfl rfl ?_)
  refine S.op (S.q (q_assign rfl) rfl rfl ?_)
  first | with_reducible refine S.nilK ?_ | refine S.nil ?_
  refine hK3 _ _ ?_
  refine S.seq fun K4 hK4 => ?_
  refine S.region rfl ?_
  refine S.op (S.q (q_move rfl) rfl rfl ?_)
  refine S.op (S.q (q_move rfl) rfl rfl ?_)
  refine S.op (S.call Tryd.en24 (vs := [_, _]) ⟨rfl, rfl, trivial⟩ (rNew_S R N (by omega) (by omega) (by omega) (by omega)) rfl ?_)
  rintro v Θ ⟨c, rfl, rfl⟩
  refine S.op (S.q (q_move rfl) rfl rfl ?_)
  refine S.op (S.q (q_extract rfl rfl) rfl rfl ?_)
  refine S.op (S.q (q_extract rfl rfl) rfl rfl ?_)
  refine S.op (S.q (q_assign rfl) rfl rfl ?_)
  refine S.op (S.q (q_assign rfl) rfl rfl ?_)
  first | with_reducible refine S.nilK ?_ | refine S.nil ?_
  refine hK4 _ _ ?_
  refine S.seq fun K5 hK5 => ?_
  refine S.region rfl ?_
  refine S.op (S.q (q_assign rfl) rfl rfl ?_)
  first | with_reducible refine S.nilK ?_ | refine S.nil ?_
  refine hK5 _ _ ?_
  refine S.seq fun K6 hK6 => ?_
  refine S.region rfl ?_
  refine S.op (S.q (q_assign rfl) rfl rfl ?_)
  first | with_reducible refine S.nilK ?_ | refine S.nil ?_
  refine hK6 _ _ ?_
  refine S.seq fun K7 hK7 => ?_
  refine S.seq fun K8 hK8 => ?_
  refine S.region rfl ?_
  refine S.ent (Ent.ownNil 86 2) ?_
  refine S.ent (Ent.ownNil 89 2) ?_
  show S _ w0 _ (own SV.nil 89 2 ((cdUp l 0).flatMap cdC) :: own SV.nil 86 2 ((cdUp l 0).flatMap cdC) :: _) _
  refine S.op (S.q (q_move rfl) rfl rfl ?_)
  refine S.op (S.q (q_len Tryd.underlying22 rfl) rfl rfl ?_)
  refine S.op (S.q (q_move rfl) rfl rfl ?_)
  first | with_reducible refine S.nilK ?_ | refine S.nil ?_
  refine hK8 _ _ ?_
  refine S.cut (fun ρ' Γ' => ∃ (mm : Mx) (pa pb : SV), mm = stUp (mx0 R N) l (min l.length 40) ∧ mm.R = R ∧ mm.N = N ∧ pa.n = (cdR l).length ∧ pb.n = (cdR l).length ∧ ρ' = [(3, bsv d), (13, .int .i64 (N : Int)), (14, .pointer (some ⟨b, 0, none⟩)), (16, .pointer (some ⟨c, 0, none⟩)), (18, pa.v), (19, pb.v)] ∧   Γ' = own pb 89 2 ((cdR l).flatMap cdC) :: own pa 86 2 ((cdR l).flatMap cdC) :: RI c mm :: MI b mm :: old W :: Γ) ?_ ?_
  · refine S.block ?_
    refine S.loop (fun q ρ' Γ' => ∃ (i : Nat) (mm : Mx) (pa pb : SV) (al : List Cd), q = l.length - i ∧ i ≤ l.length ∧ i ≤ 40 ∧ mm = stUp (mx0 R N) l i ∧ mm.R = R ∧ mm.N = N ∧ al = cdUp l i ∧ pa.n = al.length ∧ pb.n = al.length ∧   ρ' = [(3, bsv d), (12, .int .i64 (R : Int)), (13, .int .i64 (N : Int)), (14, .pointer (some ⟨b, 0, none⟩)), (16, .pointer (some ⟨c, 0, none⟩)), (18, pa.v), (19, pb.v), (45, s.v), (46, .int .i64 s.n), (47, .int .i64 (i : Int))] ∧   Γ' = own pb 89 2 (al.flatMap cdC) :: own pa 86 2 (al.flatMap cdC) :: RI c mm :: MI b mm :: old W :: Γ) (m := _) (ρ0 := _) (Γ0 := _) (⟨0, mx0 R N, SV.nil, SV.nil, cdUp l 0, rfl, by omega, by omega, rfl, rfl, rfl, rfl, rfl, rfl, rfl, rfl⟩) (by repeat (first | exact trivial | refine ⟨rfl, ?_⟩)) Sub.ent ?_
    rintro q ρ' Γ' ⟨i, mm, pa, pb, al, hq, hi, hi40, hmm, hmR, hmN, hal, hpa, hpb, rfl, rfl⟩
    have hall := cdUp_len l i
    rw [← hal] at hall
    refine S.seq fun K9 hK9 => ?_
    refine S.region rfl ?_
    refine S.op (S.q (q_lt rfl rfl) rfl rfl ?_)
    first | with_reducible refine S.nilK ?_ | refine S.nil ?_
    refine hK9 _ _ ?_
    refine S.seq fun K10 hK10 => ?_
    refine S.condD rfl (fun h1 => ?_) (fun h1 => ?_)
    · refine S.miOk b mm fun hok => ?_
      obtain ⟨x, hx⟩ := getE (show i < l.length by omega)
      have hxr := hs.rng x (List.mem_of_getElem? hx)
      have hxd : l.getD i vd0 = x := by simp [List.getD, hx]
      obtain ⟨sb, so, hsa, hcell⟩ := slAt_some hs.at_ (by omega)
      have hN16 := hok.N16
      refine S.skip ?_
      with_reducible repeat (first | refine S.then_n ?_ | refine S.then_x ?_ | refine S.then_r ?_ | refine S.inBlock_n ?_ | refine S.inBlock_r ?_ | refine S.inBlock_x rfl ?_ | refine S.noGoto_r ?_ | refine S.noGoto_n ?_ | refine S.noGoto_x ?_)
      refine hK10 _ _ ?_
      refine S.seq fun K11 hK11 => ?_
      refine S.block ?_
      refine S.seq fun K12 hK12 => ?_
      refine S.region rfl ?_
      refine S.op (S.q (q_move rfl) rfl rfl ?_)
      refine S.op (S.q (q_indexO (i) Tryd.el22 rfl hsa rfl rfl (by omega)) rfl rfl ?_)
      refine S.op (S.q (q_loadWS (vdC x) Tryd.ag88 rfl rfl (fun i u hu => by rw [Nat.add_assoc]; exact hcell _ _ (flat_seg (enc := vdC) (sz := 4) (fun _ => rfl) hx i u hu))) rfl rfl ?_)
      refine S.op (S.alloc Tryd.z88 rfl ?_)
      intro b21
      refine S.op (S.q (q_assign rfl) rfl rfl ?_)
      refine S.op (S.storeS (cs' := [_, _, _, _]) Tryd.ag88 rfl rfl rfl rfl rfl rfl ?_)
      first | with_reducible refine S.nilK ?_ | refine S.nil ?_
      refine hK12 _ _ ?_
      refine S.seq fun K13 hK13 => ?_
      refine S.seq fun K14 hK14 => ?_
      refine S.region rfl ?_
      refine S.op (S.q (q_move rfl) rfl rfl ?_)
      refine S.op (S.q (q_ge rfl rfl) rfl rfl ?_)
      first | with_reducible refine S.nilK ?_ | refine S.nil ?_
      refine hK14 _ _ ?_
      refine S.condD rfl (fun h2 => ?_) (fun h2 => ?_)
      · have hmin : min l.length 40 = i := by omega
        refine S.exit ?_
        with_reducible repeat (first | refine S.then_n ?_ | refine S.then_x ?_ | refine S.then_r ?_ | refine S.inBlock_n ?_ | refine S.inBlock_r ?_ | refine S.inBlock_x rfl ?_ | refine S.noGoto_r ?_ | refine S.noGoto_n ?_ | refine S.noGoto_x ?_)
        with_reducible refine S.inBlock_s ?_
        with_reducible repeat (first | refine S.then_n ?_ | refine S.then_x ?_ | refine S.then_r ?_ | refine S.inBlock_n ?_ | refine S.inBlock_r ?_ | refine S.inBlock_x rfl ?_ | refine S.noGoto_r ?_ | refine S.noGoto_n ?_ | refine S.noGoto_x ?_)
        with_reducible repeat (first | refine S.then_n ?_ | refine S.then_x ?_ | refine S.then_r ?_ | refine S.inBlock_n ?_ | refine S.inBlock_r ?_ | refine S.inBlock_x rfl ?_ | refine S.noGoto_r ?_ | refine S.noGoto_n ?_ | refine S.noGoto_x ?_)
        have hcr : al = cdR l := by rw [cdR, hmin, hal]
        subst hcr
        exact S.meet ⟨mm, pa, pb, by rw [hmin]; exact hmm, hmR, hmN, hpa, hpb, rfl, rfl⟩ ⟨rfl, rfl, rfl, rfl, rfl, rfl, trivial⟩ Sub.ent
      · refine S.skip ?_
        with_reducible repeat (first | refine S.then_n ?_ | refine S.then_x ?_ | refine S.then_r ?_ | refine S.inBlock_n ?_ | refine S.inBlock_r ?_ | refine S.inBlock_x rfl ?_ | refine S.noGoto_r ?_ | refine S.noGoto_n ?_ | refine S.noGoto_x ?_)
        refine hK13 _ _ ?_
        refine S.seq fun K15 hK15 => ?_
        refine S.region rfl ?_
        refine S.op (S.q (q_assign rfl) rfl rfl ?_)
        first | with_reducible refine S.nilK ?_ | refine S.nil ?_
        refine hK15 _ _ ?_
        refine S.seq fun K16 hK16 => ?_
        refine S.seq fun K17 hK17 => ?_
        refine S.region rfl ?_
        refine S.ent (Ent.ownNil 3 1) ?_
        show S _ w0 _ (own SV.nil 3 1 (nds (bitU x.ns 0)) :: _) _
        refine S.op (S.q (q_move rfl) rfl rfl ?_)
        refine S.op (S.q (q_move rfl) rfl rfl ?_)
        first | with_reducible refine S.nilK ?_ | refine S.nil ?_
        refine hK17 _ _ ?_
        refine S.block ?_
        refine S.loop (fun q2 ρ' Γ' => ∃ (k : Nat) (sv : SV) (nl : List Nat), q2 = N - k ∧ k ≤ N ∧ nl = bitU x.ns k ∧ sv.n = nl.length ∧ ρ' = [(3, bsv d), (12, .int .i64 (R : Int)), (13, .int .i64 (N : Int)), (14, .pointer (some ⟨b, 0, none⟩)), (16, .pointer (some ⟨c, 0, none⟩)), (18, pa.v), (19, pb.v), (20, .int .i64 (i : Int)), (21, .pointer (some ⟨b21, 0, none⟩)), (22, sv.v), (45, s.v), (46, .int .i64 s.n), (47, .int .i64 (i : Int)), (54, .int .i64 (N : Int)), (55, .int .i64 (k : Int))] ∧   Γ' = own sv 3 1 (nds nl) :: blk b21 88 #[.int .u8 x.row, bsv x.ns, .int .u8 x.tier, .bool x.no] :: own pb 89 2 (al.flatMap cdC) :: own pa 86 2 (al.flatMap cdC) :: RI c mm :: MI b mm :: old W :: Γ) (m := _) (ρ0 := _) (Γ0 := _) (⟨0, SV.nil, bitU x.ns 0, rfl, by omega, rfl, rfl, rfl, rfl⟩) (by repeat (first | exact trivial | refine ⟨rfl, ?_⟩)) Sub.ent ?_
        rintro q2 ρ' Γ' ⟨k, sv, nl, hq2, hk, hnl, hsv, rfl, rfl⟩
        have hnlen := bitU_len x.ns k
        rw [← hnl] at hnlen
        refine S.seq fun K18 hK18 => ?_
        refine S.region rfl ?_
        refine S.op (S.q (q_lt rfl rfl) rfl rfl ?_)
        first | with_reducible refine S.nilK ?_ | refine S.nil ?_
        refine hK18 _ _ ?_
        refine S.seq fun K19 hK19 => ?_
        refine S.condD rfl (fun h3 => ?_) (fun h3 => ?_)
        · refine S.skip ?_
          with_reducible repeat (first | refine S.then_n ?_ | refine S.then_x ?_ | refine S.then_r ?_ | refine S.inBlock_n ?_ | refine S.inBlock_r ?_ | refine S.inBlock_x rfl ?_ | refine S.noGoto_r ?_ | refine S.noGoto_n ?_ | refine S.noGoto_x ?_)
          refine hK19 _ _ ?_
          refine S.seq fun K20 hK20 => ?_
          refine S.block ?_
          refine S.seq fun K21 hK21 => ?_
          refine S.region rfl ?_
          refine S.op (S.q (q_move rfl) rfl rfl ?_)
          refine S.op (S.q (q_assign rfl) rfl rfl ?_)
          first | with_reducible refine S.nilK ?_ | refine S.nil ?_
          refine hK21 _ _ ?_
          refine S.seq fun K22 hK22 => ?_
          refine S.region rfl ?_
          refine S.op (S.q (q_field Tryd.fo88_1 rfl) rfl rfl ?_)
          refine S.op (S.q (q_load Tryd.at23 rfl rfl) rfl rfl ?_)
          refine S.op (S.q (q_move rfl) rfl rfl ?_)
          refine S.op (S.q (q_shrB (x.ns) (k) rfl rfl rfl (rfl) (by omega)) rfl rfl ?_)
          refine S.op (S.q (q_andB (x.ns >>> k) (1#16) rfl rfl (rfl) (rfl)) rfl rfl ?_)
          refine S.op (S.q (q_eq rfl rfl) rfl rfl ?_)
          first | with_reducible refine S.nilK ?_ | refine S.nil ?_
          refine hK22 _ _ ?_
          refine S.condD rfl (fun h4 => ?_) (fun h4 => ?_)
          · have hb4 : x.ns.getLsbD k = true := by rw [← has_bit]; exact decide_eq_true h4
            have hnl2 : nl ++ [k] = bitU x.ns (k + 1) := by rw [bitU, if_pos hb4, hnl]
            have hd4 : nds nl ++ [.int .i64 (k : Int)] = nds (nl ++ [k]) := by simp
            refine S.region rfl ?_
            refine S.op (S.q (q_move rfl) rfl rfl ?_)
            refine S.op (S.q (q_move rfl) rfl rfl ?_)
            refine S.op (S.buildSlice (pvs := [(_, _)]) [_] Tryd.underlying69 Tryd.inf3 rfl rfl ⟨⟨rfl, rfl⟩, trivial⟩ rfl rfl ?_)
            intro b66
            refine S.op (S.appendOw (s := sv) (1) ([.int .i64 (k : Int)]) Tryd.underlying69 Tryd.inf3 rfl rfl rfl (blk_slAt (b := b66) rfl (by unfold maxLen; omega)) (by first | rfl | exact allOne_bcells _) (⟨by omega, by omega⟩) rfl ?_)
            intro sv2 hsv2
            refine S.op (S.q (q_assign rfl) rfl rfl ?_)
            first | with_reducible refine S.nilK ?_ | refine S.nil ?_
            with_reducible repeat (first | refine S.then_n ?_ | refine S.then_x ?_ | refine S.then_r ?_ | refine S.inBlock_n ?_ | refine S.inBlock_r ?_ | refine S.inBlock_x rfl ?_ | refine S.noGoto_r ?_ | refine S.noGoto_n ?_ | refine S.noGoto_x ?_)
            refine hK20 _ _ ?_
            refine S.region rfl ?_
            refine S.op (S.q (q_add rfl rfl (inI64 (by omega) (by omega))) rfl rfl ?_)
            refine S.op (S.q (q_move rfl) rfl rfl ?_)
            first | with_reducible refine S.nilK ?_ | refine S.nil ?_
            with_reducible repeat (first | refine S.then_n ?_ | refine S.then_x ?_ | refine S.then_r ?_ | refine S.inBlock_n ?_ | refine S.inBlock_r ?_ | refine S.inBlock_x rfl ?_ | refine S.noGoto_r ?_ | refine S.noGoto_n ?_ | refine S.noGoto_x ?_)
            first | (rw [hd4]; exact S.next (q2 - 1) ⟨k + 1, sv2, nl ++ [k], by omega, by omega, hnl2, by rw [List.length_append, List.length_singleton]; omega, rfl, rfl⟩ (by omega) (by repeat (first | exact trivial | refine ⟨rfl, ?_⟩)) Sub.ent) | exact S.next (q2 - 1) ⟨k + 1, sv, nl, by omega, by omega, hnl2, hsv, rfl, rfl⟩ (by omega) (by repeat (first | exact trivial | refine ⟨rfl, ?_⟩)) Sub.ent
          · have hb4 : x.ns.getLsbD k = false := by rw [← has_bit]; exact decide_eq_false h4
            have hnl2 : nl = bitU x.ns (k + 1) := by rw [bitU, if_neg (by rw [hb4]; simp), hnl]
            refine S.skip ?_
            with_reducible repeat (first | refine S.then_n ?_ | refine S.then_x ?_ | refine S.then_r ?_ | refine S.inBlock_n ?_ | refine S.inBlock_r ?_ | refine S.inBlock_x rfl ?_ | refine S.noGoto_r ?_ | refine S.noGoto_n ?_ | refine S.noGoto_x ?_)
            with_reducible repeat (first | refine S.then_n ?_ | refine S.then_x ?_ | refine S.then_r ?_ | refine S.inBlock_n ?_ | refine S.inBlock_r ?_ | refine S.inBlock_x rfl ?_ | refine S.noGoto_r ?_ | refine S.noGoto_n ?_ | refine S.noGoto_x ?_)
            refine hK20 _ _ ?_
            refine S.region rfl ?_
            refine S.op (S.q (q_add rfl rfl (inI64 (by omega) (by omega))) rfl rfl ?_)
            refine S.op (S.q (q_move rfl) rfl rfl ?_)
            first | with_reducible refine S.nilK ?_ | refine S.nil ?_
            with_reducible repeat (first | refine S.then_n ?_ | refine S.then_x ?_ | refine S.then_r ?_ | refine S.inBlock_n ?_ | refine S.inBlock_r ?_ | refine S.inBlock_x rfl ?_ | refine S.noGoto_r ?_ | refine S.noGoto_n ?_ | refine S.noGoto_x ?_)
            first | (rw [hd4]; exact S.next (q2 - 1) ⟨k + 1, sv2, nl ++ [k], by omega, by omega, hnl2, by rw [List.length_append, List.length_singleton]; omega, rfl, rfl⟩ (by omega) (by repeat (first | exact trivial | refine ⟨rfl, ?_⟩)) Sub.ent) | exact S.next (q2 - 1) ⟨k + 1, sv, nl, by omega, by omega, hnl2, hsv, rfl, rfl⟩ (by omega) (by repeat (first | exact trivial | refine ⟨rfl, ?_⟩)) Sub.ent
        · have hkN : k = N := by omega
          obtain ⟨t, ht⟩ : ∃ t : Nat, (t : Int) = x.row % (R : Int) := ⟨(x.row % (R : Int)).toNat, Int.toNat_of_nonneg (Int.emod_nonneg _ (by omega))⟩
          have htR : t < R := by have := Int.emod_lt_of_pos x.row (show (0 : Int) < R by omega); omega
          have hup := bitU_ok hok x.ns
          rw [hmN, ← hkN, ← hnl] at hup
          have hst : stUp (mx0 R N) l (i + 1) = (putR mm (i + 1) (x.row % (R : Int)) (casts nl)).2 := by
            rw [stUp, hxd, ← hmm, hnl, hkN]
            rfl
          obtain ⟨n1, _, n3⟩ := putR_N mm (i + 1) (x.row % (R : Int)) (casts nl)
          refine S.exit ?_
          with_reducible repeat (first | refine S.then_n ?_ | refine S.then_x ?_ | refine S.then_r ?_ | refine S.inBlock_n ?_ | refine S.inBlock_r ?_ | refine S.inBlock_x rfl ?_ | refine S.noGoto_r ?_ | refine S.noGoto_n ?_ | refine S.noGoto_x ?_)
          with_reducible refine S.inBlock_s ?_
          with_reducible repeat (first | refine S.then_n ?_ | refine S.then_x ?_ | refine S.then_r ?_ | refine S.inBlock_n ?_ | refine S.inBlock_r ?_ | refine S.inBlock_x rfl ?_ | refine S.noGoto_r ?_ | refine S.noGoto_n ?_ | refine S.noGoto_x ?_)
          refine hK16 _ _ ?_
          refine S.seq fun K23 hK23 => ?_
          refine S.region rfl ?_
          refine S.op (S.q (q_move rfl) rfl rfl ?_)
          refine S.op (S.q (q_move rfl) rfl rfl ?_)
          refine S.op (S.q (q_add rfl rfl (inI64 (by omega) (by omega))) rfl rfl ?_)
          refine S.op (S.q (q_conv Tryd.it68 (by rw [Tryd.underlying3]; rfl) rfl (inU32 (by omega) (by omega))) rfl rfl ?_)
          refine S.op (S.q (q_field Tryd.fo88_0 rfl) rfl rfl ?_)
          refine S.op (S.q (q_load Tryd.at5 rfl rfl) rfl rfl ?_)
          refine S.op (S.q (q_conv Tryd.it3 (by rw [Tryd.underlying5]; rfl) rfl (inI64 (by omega) (by omega))) rfl rfl ?_)
          refine S.op (S.q (q_move rfl) rfl rfl ?_)
          refine S.op (S.q (q_rem rfl rfl (⟨by omega, by omega⟩)) rfl rfl ?_)
          refine S.op (S.q (q_move rfl) rfl rfl ?_)
          refine S.op (S.call Tryd.en30 (vs := [_, _, _, _]) ⟨rfl, rfl, rfl, rfl, trivial⟩ (Put_S b mm (i + 1) (x.row % (R : Int)) (own sv 3 1 (nds nl)) sv (casts nl) (by rw [hsv, List.length_map]) (rdNds sv 3 nl) (by omega)) rfl ?_)
          rintro v Θ ⟨rfl, rfl⟩
          first | with_reducible refine S.nilK ?_ | refine S.nil ?_
          refine hK23 _ _ ?_
          refine S.seq fun K24 hK24 => ?_
          refine S.region rfl ?_
          refine S.op (S.q (q_move rfl) rfl rfl ?_)
          refine S.op (S.q (q_move rfl) rfl rfl ?_)
          refine S.op (S.q (q_add rfl rfl (inI64 (by omega) (by omega))) rfl rfl ?_)
          refine S.op (S.q (q_conv Tryd.it68 (by rw [Tryd.underlying3]; rfl) rfl (inU32 (by omega) (by omega))) rfl rfl ?_)
          refine S.op (S.q (q_field Tryd.fo88_0 rfl) rfl rfl ?_)
          refine S.op (S.q (q_load Tryd.at5 rfl rfl) rfl rfl ?_)
          refine S.op (S.q (q_conv Tryd.it3 (by rw [Tryd.underlying5]; rfl) rfl (inI64 (by omega) (by omega))) rfl rfl ?_)
          refine S.op (S.q (q_move rfl) rfl rfl ?_)
          refine S.op (S.q (q_rem rfl rfl (⟨by omega, by omega⟩)) rfl rfl ?_)
          refine S.op (S.q (q_move rfl) rfl rfl ?_)
          refine S.op (S.call Tryd.en31 (vs := [_, _, _, _]) ⟨rfl, rfl, rfl, rfl, trivial⟩ ((by rw [← ht]; exact rPut_S c mm (i + 1) t (own sv 3 1 (nds nl)) sv (casts nl) (by rw [hsv, List.length_map]) (rdNds sv 3 nl) (by omega) (by omega) (by omega) hup)) rfl ?_)
          rintro v Θ ⟨rfl, rfl⟩
          rw [ht]
          first | with_reducible refine S.nilK ?_ | refine S.nil ?_
          refine hK24 _ _ ?_
          refine S.seq fun K25 hK25 => ?_
          refine S.region rfl ?_
          obtain ⟨no, hno⟩ : ∃ no, no = x.no := ⟨_, rfl⟩
          rw [← hno]
          refine S.op (S.q (q_field Tryd.fo88_3 rfl) rfl rfl ?_)
          refine S.op (S.q (q_load Tryd.at4 rfl rfl) rfl rfl ?_)
          refine S.op (S.q (q_not rfl) rfl rfl ?_)
          first | with_reducible refine S.nilK ?_ | refine S.nil ?_
          refine hK25 _ _ ?_
          refine S.cond rfl (fun h5 => ?_) (fun h5 => ?_)
          · have hal2 : al ++ [(i + 1, x.tier)] = cdUp l (i + 1) := by rw [cdUp, hxd, ← hno, show no = false by simpa using h5, hal]; rfl
            refine S.seq fun K26 hK26 => ?_
            refine S.region rfl ?_
            refine S.op (S.q (q_move rfl) rfl rfl ?_)
            refine S.op (S.q (q_move rfl) rfl rfl ?_)
            refine S.op (S.q (q_add rfl rfl (inI64 (by omega) (by omega))) rfl rfl ?_)
            refine S.op (S.q (q_conv Tryd.it68 (by rw [Tryd.underlying3]; rfl) rfl (inU32 (by omega) (by omega))) rfl rfl ?_)
            refine S.op (S.q (q_field Tryd.fo88_2 rfl) rfl rfl ?_)
            refine S.op (S.q (q_load Tryd.at5 rfl rfl) rfl rfl ?_)
            refine S.op (S.q (q_build (pvs := [(_, _), (_, _)]) [_, _] Tryd.z86 Tryd.p86 ⟨⟨rfl, rfl⟩, ⟨rfl, rfl⟩, trivial⟩ rfl) rfl rfl ?_)
            refine S.op (S.buildSlice (pvs := [(_, _)]) [_, _] Tryd.underlying27 Tryd.inf86 rfl rfl ⟨⟨rfl, rfl⟩, trivial⟩ rfl rfl ?_)
            intro b101
            refine S.op (S.appendOw (s := pa) (1) (cdC (i + 1, x.tier)) Tryd.underlying27 Tryd.inf86 rfl rfl rfl (blk_slAt (b := b101) rfl (by unfold maxLen; omega)) (by first | rfl | exact allOne_bcells _) (⟨by omega, by omega⟩) rfl ?_)
            intro pa2 hpa2
            refine S.op (S.q (q_assign rfl) rfl rfl ?_)
            first | with_reducible refine S.nilK ?_ | refine S.nil ?_
            refine hK26 _ _ ?_
            refine S.region rfl ?_
            refine S.op (S.q (q_move rfl) rfl rfl ?_)
            refine S.op (S.q (q_move rfl) rfl rfl ?_)
            refine S.op (S.q (q_add rfl rfl (inI64 (by omega) (by omega))) rfl rfl ?_)
            refine S.op (S.q (q_conv Tryd.it68 (by rw [Tryd.underlying3]; rfl) rfl (inU32 (by omega) (by omega))) rfl rfl ?_)
            refine S.op (S.q (q_field Tryd.fo88_2 rfl) rfl rfl ?_)
            refine S.op (S.q (q_load Tryd.at5 rfl rfl) rfl rfl ?_)
            refine S.op (S.q (q_build (pvs := [(_, _), (_, _)]) [_, _] Tryd.z89 Tryd.p89 ⟨⟨rfl, rfl⟩, ⟨rfl, rfl⟩, trivial⟩ rfl) rfl rfl ?_)
            refine S.op (S.buildSlice (pvs := [(_, _)]) [_, _] Tryd.underlying28 Tryd.inf89 rfl rfl ⟨⟨rfl, rfl⟩, trivial⟩ rfl rfl ?_)
            intro b110
            refine S.op (S.appendOw (s := pb) (1) (cdC (i + 1, x.tier)) Tryd.underlying28 Tryd.inf89 rfl rfl rfl (blk_slAt (b := b110) rfl (by unfold maxLen; omega)) (by first | rfl | exact allOne_bcells _) (⟨by omega, by omega⟩) rfl ?_)
            intro pb2 hpb2
            refine S.op (S.q (q_assign rfl) rfl rfl ?_)
            first | with_reducible refine S.nilK ?_ | refine S.nil ?_
            with_reducible repeat (first | refine S.then_n ?_ | refine S.then_x ?_ | refine S.then_r ?_ | refine S.inBlock_n ?_ | refine S.inBlock_r ?_ | refine S.inBlock_x rfl ?_ | refine S.noGoto_r ?_ | refine S.noGoto_n ?_ | refine S.noGoto_x ?_)
            refine hK11 _ _ ?_
            refine S.region rfl ?_
            refine S.op (S.q (q_add rfl rfl (inI64 (by omega) (by omega))) rfl rfl ?_)
            refine S.op (S.q (q_move rfl) rfl rfl ?_)
            first | with_reducible refine S.nilK ?_ | refine S.nil ?_
            with_reducible repeat (first | refine S.then_n ?_ | refine S.then_x ?_ | refine S.then_r ?_ | refine S.inBlock_n ?_ | refine S.inBlock_r ?_ | refine S.inBlock_x rfl ?_ | refine S.noGoto_r ?_ | refine S.noGoto_n ?_ | refine S.noGoto_x ?_)
            first | (rw [flat_snoc cdC al (i + 1, x.tier)]; exact S.next (q - 1) ⟨i + 1, (putR mm (i + 1) (x.row % (R : Int)) (casts nl)).2, pa2, pb2, al ++ [(i + 1, x.tier)], by omega, by omega, by omega, hst.symm, by omega, by omega, hal2, by rw [List.length_append, List.length_singleton]; omega, by rw [List.length_append, List.length_singleton]; omega, rfl, rfl⟩ (by omega) (by repeat (first | exact trivial | refine ⟨rfl, ?_⟩)) Sub.ent) | exact S.next (q - 1) ⟨i + 1, (putR mm (i + 1) (x.row % (R : Int)) (casts nl)).2, pa, pb, al, by omega, by omega, by omega, hst.symm, by omega, by omega, hal2, hpa, hpb, rfl, rfl⟩ (by omega) (by repeat (first | exact trivial | refine ⟨rfl, ?_⟩)) Sub.ent
          · have hal2 : al = cdUp l (i + 1) := by rw [cdUp, hxd, ← hno, show no = true by simpa using h5, hal]; rfl
            refine S.skip ?_
            with_reducible repeat (first | refine S.then_n ?_ | refine S.then_x ?_ | refine S.then_r ?_ | refine S.inBlock_n ?_ | refine S.inBlock_r ?_ | refine S.inBlock_x rfl ?_ | refine S.noGoto_r ?_ | refine S.noGoto_n ?_ | refine S.noGoto_x ?_)
            with_reducible repeat (first | refine S.then_n ?_ | refine S.then_x ?_ | refine S.then_r ?_ | refine S.inBlock_n ?_ | refine S.inBlock_r ?_ | refine S.inBlock_x rfl ?_ | refine S.noGoto_r ?_ | refine S.noGoto_n ?_ | refine S.noGoto_x ?_)
            refine hK11 _ _ ?_
            refine S.region rfl ?_
            refine S.op (S.q (q_add rfl rfl (inI64 (by omega) (by omega))) rfl rfl ?_)
            refine S.op (S.q (q_move rfl) rfl rfl ?_)
            first | with_reducible refine S.nilK ?_ | refine S.nil ?_
            with_reducible repeat (first | refine S.then_n ?_ | refine S.then_x ?_ | refine S.then_r ?_ | refine S.inBlock_n ?_ | refine S.inBlock_r ?_ | refine S.inBlock_x rfl ?_ | refine S.noGoto_r ?_ | refine S.noGoto_n ?_ | refine S.noGoto_x ?_)
            first | (rw [flat_snoc cdC al (i + 1, x.tier)]; exact S.next (q - 1) ⟨i + 1, (putR mm (i + 1) (x.row % (R : Int)) (casts nl)).2, pa2, pb2, al ++ [(i + 1, x.tier)], by omega, by omega, by omega, hst.symm, by omega, by omega, hal2, by rw [List.length_append, List.length_singleton]; omega, by rw [List.length_append, List.length_singleton]; omega, rfl, rfl⟩ (by omega) (by repeat (first | exact trivial | refine ⟨rfl, ?_⟩)) Sub.ent) | exact S.next (q - 1) ⟨i + 1, (putR mm (i + 1) (x.row % (R : Int)) (casts nl)).2, pa, pb, al, by omega, by omega, by omega, hst.symm, by omega, by omega, hal2, hpa, hpb, rfl, rfl⟩ (by omega) (by repeat (first | exact trivial | refine ⟨rfl, ?_⟩)) Sub.ent
    · have hmin : min l.length 40 = i := by omega
      refine S.exit ?_
      with_reducible repeat (first | refine S.then_n ?_ | refine S.then_x ?_ | refine S.then_r ?_ | refine S.inBlock_n ?_ | refine S.inBlock_r ?_ | refine S.inBlock_x rfl ?_ | refine S.noGoto_r ?_ | refine S.noGoto_n ?_ | refine S.noGoto_x ?_)
      with_reducible refine S.inBlock_s ?_
      with_reducible repeat (first | refine S.then_n ?_ | refine S.then_x ?_ | refine S.then_r ?_ | refine S.inBlock_n ?_ | refine S.inBlock_r ?_ | refine S.inBlock_x rfl ?_ | refine S.noGoto_r ?_ | refine S.noGoto_n ?_ | refine S.noGoto_x ?_)
      with_reducible repeat (first | refine S.then_n ?_ | refine S.then_x ?_ | refine S.then_r ?_ | refine S.inBlock_n ?_ | refine S.inBlock_r ?_ | refine S.inBlock_x rfl ?_ | refine S.noGoto_r ?_ | refine S.noGoto_n ?_ | refine S.noGoto_x ?_)
      have hcr : al = cdR l := by rw [cdR, hmin, hal]
      subst hcr
      exact S.meet ⟨mm, pa, pb, by rw [hmin]; exact hmm, hmR, hmN, hpa, hpb, rfl, rfl⟩ ⟨rfl, rfl, rfl, rfl, rfl, rfl, trivial⟩ Sub.ent
  · rintro ρ' Γ' ⟨mm, pa, pb, hmm, hmR, hmN, hpa, hpb, rfl, rfl⟩
    refine hK7 _ _ ?_
    refine S.seq fun K27 hK27 => ?_
    refine S.seq fun K28 hK28 => ?_
    refine S.region rfl ?_
    refine S.op (S.q (q_move rfl) rfl rfl ?_)
    refine S.op (S.q (q_move rfl) rfl rfl ?_)
    first | with_reducible refine S.nilK ?_ | refine S.nil ?_
    refine hK28 _ _ ?_
    refine S.block ?_
    refine S.loop (fun q ρ' Γ' => ∃ (k : Nat) (m2 : Mx), q = N - k ∧ k ≤ N ∧ m2 = dnUp mm d k ∧ m2.N = N ∧ ρ' = [(3, bsv d), (14, .pointer (some ⟨b, 0, none⟩)), (16, .pointer (some ⟨c, 0, none⟩)), (18, pa.v), (19, pb.v), (113, .int .i64 (N : Int)), (114, .int .i64 (k : Int))] ∧ Γ' = own pb 89 2 ((cdR l).flatMap cdC) :: own pa 86 2 ((cdR l).flatMap cdC) :: RI c m2 :: MI b m2 :: old W :: Γ) (m := _) (ρ0 := _) (Γ0 := _) (⟨0, mm, rfl, by omega, rfl, hmN, rfl, rfl⟩) (by repeat (first | exact trivial | refine ⟨rfl, ?_⟩)) Sub.ent ?_
    rintro q ρ' Γ' ⟨k, m2, hq, hk, hm2, hm2N, rfl, rfl⟩
    refine S.miOk b m2 fun hok => ?_
    have hN16 := hok.N16
    refine S.seq fun K29 hK29 => ?_
    refine S.region rfl ?_
    refine S.op (S.q (q_lt rfl rfl) rfl rfl ?_)
    first | with_reducible refine S.nilK ?_ | refine S.nil ?_
    refine hK29 _ _ ?_
    refine S.seq fun K30 hK30 => ?_
    refine S.condD rfl (fun h6 => ?_) (fun h6 => ?_)
    · refine S.skip ?_
      with_reducible repeat (first | refine S.then_n ?_ | refine S.then_x ?_ | refine S.then_r ?_ | refine S.inBlock_n ?_ | refine S.inBlock_r ?_ | refine S.inBlock_x rfl ?_ | refine S.noGoto_r ?_ | refine S.noGoto_n ?_ | refine S.noGoto_x ?_)
      refine hK30 _ _ ?_
      refine S.seq fun K31 hK31 => ?_
      refine S.block ?_
      refine S.seq fun K32 hK32 => ?_
      refine S.region rfl ?_
      refine S.op (S.q (q_move rfl) rfl rfl ?_)
      refine S.op (S.q (q_assign rfl) rfl rfl ?_)
      first | with_reducible refine S.nilK ?_ | refine S.nil ?_
      refine hK32 _ _ ?_
      refine S.seq fun K33 hK33 => ?_
      refine S.region rfl ?_
      refine S.op (S.q (q_move rfl) rfl rfl ?_)
      refine S.op (S.q (q_move rfl) rfl rfl ?_)
      refine S.op (S.q (q_shrB (d) (k) rfl rfl rfl (rfl) (by omega)) rfl rfl ?_)
      refine S.op (S.q (q_andB (d >>> k) (1#16) rfl rfl (rfl) (rfl)) rfl rfl ?_)
      refine S.op (S.q (q_eq rfl rfl) rfl rfl ?_)
      first | with_reducible refine S.nilK ?_ | refine S.nil ?_
      refine hK33 _ _ ?_
      refine S.condD rfl (fun h7 => ?_) (fun h7 => ?_)
      · have hb6 : d.getLsbD k = true := by rw [← has_bit]; exact decide_eq_true h7
        have hur : upR m2 k false = (0, m2.setUp k false) := by rw [upR, if_pos (nodeB_iff.2 ⟨by omega, by omega⟩), Int.toNat_natCast]
        have hdn : m2.setUp k false = dnUp mm d (k + 1) := by rw [dnUp, if_pos hb6, ← hm2, hur]
        refine S.seq fun K34 hK34 => ?_
        refine S.region rfl ?_
        refine S.op (S.q (q_move rfl) rfl rfl ?_)
        refine S.op (S.q (q_move rfl) rfl rfl ?_)
        refine S.op (S.call Tryd.en34 (vs := [_, _, _]) ⟨rfl, rfl, rfl, trivial⟩ (Up_S b m2 k false) rfl ?_)
        rintro v Θ ⟨rfl, rfl⟩
        rw [hur]
        refine S.riOpen c m2 fun cs us rs hri => ?_
        have hun := hri.un
        refine S.ownSome us (by omega) fun ub uo hua _ _ _ => ?_
        first | with_reducible refine S.nilK ?_ | refine S.nil ?_
        refine hK34 _ _ ?_
        refine S.region rfl ?_
        refine S.op (S.q (q_move rfl) rfl rfl ?_)
        refine S.op (S.q (q_nilCheck rfl) rfl rfl ?_)
        refine S.op (S.q (q_field Tryd.fo55_1 rfl) rfl rfl ?_)
        refine S.op (S.q (q_load Tryd.at53 rfl rfl) rfl rfl ?_)
        refine S.op (S.q (q_move rfl) rfl rfl ?_)
        refine S.op (S.q (q_indexO (k) Tryd.el53 rfl hua rfl rfl (by omega)) rfl rfl ?_)
        refine S.op (S.storeOw (us) (k) Tryd.at4 rfl rfl rfl hua (by first | rfl | exact Nat.add_assoc _ _ _ | omega) (by simp; omega) (upC_set hN16 (by omega)) ?_)
        first | with_reducible refine S.nilK ?_ | refine S.nil ?_
        with_reducible repeat (first | refine S.then_n ?_ | refine S.then_x ?_ | refine S.then_r ?_ | refine S.inBlock_n ?_ | refine S.inBlock_r ?_ | refine S.inBlock_x rfl ?_ | refine S.noGoto_r ?_ | refine S.noGoto_n ?_ | refine S.noGoto_x ?_)
        refine hK31 _ _ ?_
        refine S.region rfl ?_
        refine S.op (S.q (q_add rfl rfl (inI64 (by omega) (by omega))) rfl rfl ?_)
        refine S.op (S.q (q_move rfl) rfl rfl ?_)
        first | with_reducible refine S.nilK ?_ | refine S.nil ?_
        with_reducible repeat (first | refine S.then_n ?_ | refine S.then_x ?_ | refine S.then_r ?_ | refine S.inBlock_n ?_ | refine S.inBlock_r ?_ | refine S.inBlock_x rfl ?_ | refine S.noGoto_r ?_ | refine S.noGoto_n ?_ | refine S.noGoto_x ?_)
        first | (refine S.riClose c (m2.setUp k false) cs us rs (hri.setUp (by omega)) ?_; exact S.next (q - 1) ⟨k + 1, m2.setUp k false, by omega, by omega, hdn, hm2N, rfl, rfl⟩ (by omega) (by repeat (first | exact trivial | refine ⟨rfl, ?_⟩)) Sub.ent) | exact S.next (q - 1) ⟨k + 1, m2, by omega, by omega, hdn, hm2N, rfl, rfl⟩ (by omega) (by repeat (first | exact trivial | refine ⟨rfl, ?_⟩)) Sub.ent
      · have hb6 : d.getLsbD k = false := by rw [← has_bit]; exact decide_eq_false h7
        have hdn : m2 = dnUp mm d (k + 1) := by rw [dnUp, if_neg (by rw [hb6]; simp), ← hm2]
        refine S.skip ?_
        with_reducible repeat (first | refine S.then_n ?_ | refine S.then_x ?_ | refine S.then_r ?_ | refine S.inBlock_n ?_ | refine S.inBlock_r ?_ | refine S.inBlock_x rfl ?_ | refine S.noGoto_r ?_ | refine S.noGoto_n ?_ | refine S.noGoto_x ?_)
        with_reducible repeat (first | refine S.then_n ?_ | refine S.then_x ?_ | refine S.then_r ?_ | refine S.inBlock_n ?_ | refine S.inBlock_r ?_ | refine S.inBlock_x rfl ?_ | refine S.noGoto_r ?_ | refine S.noGoto_n ?_ | refine S.noGoto_x ?_)
        refine hK31 _ _ ?_
        refine S.region rfl ?_
        refine S.op (S.q (q_add rfl rfl (inI64 (by omega) (by omega))) rfl rfl ?_)
        refine S.op (S.q (q_move rfl) rfl rfl ?_)
        first | with_reducible refine S.nilK ?_ | refine S.nil ?_
        with_reducible repeat (first | refine S.then_n ?_ | refine S.then_x ?_ | refine S.then_r ?_ | refine S.inBlock_n ?_ | refine S.inBlock_r ?_ | refine S.inBlock_x rfl ?_ | refine S.noGoto_r ?_ | refine S.noGoto_n ?_ | refine S.noGoto_x ?_)
        first | (refine S.riClose c (m2.setUp k false) cs us rs (hri.setUp (by omega)) ?_; exact S.next (q - 1) ⟨k + 1, m2.setUp k false, by omega, by omega, hdn, hm2N, rfl, rfl⟩ (by omega) (by repeat (first | exact trivial | refine ⟨rfl, ?_⟩)) Sub.ent) | exact S.next (q - 1) ⟨k + 1, m2, by omega, by omega, hdn, hm2N, rfl, rfl⟩ (by omega) (by repeat (first | exact trivial | refine ⟨rfl, ?_⟩)) Sub.ent
    · have hfin : bldR r n l d = m2 := by rw [hbR, ← hmm, hm2, show k = N by omega]
      rw [← hfin]
      refine S.exit ?_
      with_reducible repeat (first | refine S.then_n ?_ | refine S.then_x ?_ | refine S.then_r ?_ | refine S.inBlock_n ?_ | refine S.inBlock_r ?_ | refine S.inBlock_x rfl ?_ | refine S.noGoto_r ?_ | refine S.noGoto_n ?_ | refine S.noGoto_x ?_)
      with_reducible refine S.inBlock_s ?_
      with_reducible repeat (first | refine S.then_n ?_ | refine S.then_x ?_ | refine S.then_r ?_ | refine S.inBlock_n ?_ | refine S.inBlock_r ?_ | refine S.inBlock_x rfl ?_ | refine S.noGoto_r ?_ | refine S.noGoto_n ?_ | refine S.noGoto_x ?_)
      refine hK27 _ _ ?_
      refine S.seq fun K35 hK35 => ?_
      refine S.region rfl ?_
      refine S.op (S.q (q_move rfl) rfl rfl ?_)
      refine S.op (S.q (q_move rfl) rfl rfl ?_)
      refine S.op (S.q (q_move rfl) rfl rfl ?_)
      refine S.op (S.q (q_move rfl) rfl rfl ?_)
      refine S.op (S.q (q_assign rfl) rfl rfl ?_)
      refine S.op (S.q (q_assign rfl) rfl rfl ?_)
      refine S.op (S.q (q_assign rfl) rfl rfl ?_)
      refine S.op (S.q (q_assign rfl) rfl rfl ?_)
      first | with_reducible refine S.nilK ?_ | refine S.nil ?_
      refine hK35 _ _ ?_
      refine S.ret ?_
      with_reducible repeat (first | refine S.then_n ?_ | refine S.then_x ?_ | refine S.then_r ?_ | refine S.inBlock_n ?_ | refine S.inBlock_r ?_ | refine S.inBlock_x rfl ?_ | refine S.noGoto_r ?_ | refine S.noGoto_n ?_ | refine S.noGoto_x ?_)
      exact S.fin (rs := [_, _, _, _]) (vs := [_, _, _, _]) Tryd.results7 (⟨rfl, rfl, rfl, rfl, trivial⟩)  (⟨b, c, pa, pb, rfl, hpa, hpb, rfl⟩) Sub.ent
end Go.Proofs.YtegjmmocnffpiaaDoor
/- The laws of victim: awake; who is chosen. -/
namespace Go.Proofs.YtegjmmocnffpiaaDoor
open Go.RowKit
set_option maxRecDepth 20000
def vw1 : Mx := (putR (mx0 1 3) 1 0 [0, 1]).2
def vw2 : Mx := (putR vw1 2 0 [2]).2
def vwL : List Cd := [(1, 0), (2, 1)]
theorem vwf : freeR vw2 (0 : Nat) = 0 ∧ lesUp vw2 (0 : Nat) 2 vwL 2 = vwL ∧ lesUp vw2 (0 : Nat) 0 vwL 2 = [] ∧ vicUp vw2 vwL 0 1 3 = some 1 ∧ vicUp vw2 vwL 0 3 3 = some 2 ∧ vicUp vw2 [] 0 1 1 = none ∧ vw2.R = 1 :=
  ⟨by kernel_rfl, by kernel_rfl, by kernel_rfl, by kernel_rfl, by kernel_rfl, by kernel_rfl, by kernel_rfl⟩
theorem choR_one {m : Mx} (h : m.R = 1) (tier k : Int) (l : List Cd) : choR m tier k l = if (ofV m (0 : Nat) tier k l).2 = true then ((ofV m (0 : Nat) tier k l).1, 0, true) else ([], 0, false) := by
  rw [choR, h, chUp, chUp]
  simp
theorem vw_sorted : lesR vw2 (0 : Nat) 2 vwL = vwL := by
  rw [lesR, show vwL.length = 2 from rfl, vwf.2.1]
  exact (srtC_eq (by unfold vwL; decide) (.refl _) (by unfold vwL; decide)).symm
theorem vw_none : lesR vw2 (0 : Nat) 0 vwL = [] := by
  rw [lesR, show vwL.length = 2 from rfl, vwf.2.2.1]
  exact List.eq_nil_of_length_eq_zero (srtC_perm []).length_eq
theorem vw_a : choR vw2 2 1 vwL = ([(1, 0)], 0, true) ∧ choR vw2 2 3 vwL = (vwL, 0, true) ∧ choR vw2 0 1 vwL = ([], 0, false) := by
  obtain ⟨f1, _, _, f4, f5, f6, f7⟩ := vwf
  have a1 : ofV vw2 (0 : Nat) 2 1 vwL = ([(1, 0)], true) := by
    rw [ofV, if_neg (by rw [f7]; decide), vw_sorted, f1, show vwL.length + 1 = 3 from rfl, f4]; rfl
  have a2 : ofV vw2 (0 : Nat) 2 3 vwL = (vwL, true) := by
    rw [ofV, if_neg (by rw [f7]; decide), vw_sorted, f1, show vwL.length + 1 = 3 from rfl, f5]; rfl
  have a3 : ofV vw2 (0 : Nat) 0 1 vwL = ([], false) := by
    rw [ofV, if_neg (by rw [f7]; decide), vw_none, f1, show ([] : List Cd).length + 1 = 1 from rfl, f6]
  exact ⟨by rw [choR_one f7, a1]; rfl, by rw [choR_one f7, a2]; rfl, by rw [choR_one f7, a3]; rfl⟩
theorem awake_S {W : World} (hW : TabW W) : Spec Tryd.prog 6 [] [old W] fun Γ v Θ => v = .bool true ∧ Θ = old W :: Γ := by
  refine Spec.of_body Tryd.func6 rfl Tryd.ntmps6 rfl ?_
  intro w0 Γ
  obtain ⟨f1, f2, f3⟩ := vw_a
  have ht : ∀ x ∈ vwL, 0 ≤ x.2 ∧ x.2 ≤ 255 := by unfold vwL; decide
  show S _ w0 [] (old W :: Γ) _
  refine S.seq fun K1 hK1 => ?_
  refine S.region rfl ?_
  refine S.op (S.q (q_assign rfl) rfl rfl ?_)
  first | with_reducible refine S.nilK ?_ | refine S.nil ?_
  refine hK1 _ _ ?_
  refine S.seq fun K2 hK2 => ?_
  refine S.region rfl ?_
  refine S.op (S.call Tryd.en23 (vs := [_, _]) ⟨rfl, rfl, trivial⟩ (New_S 1 3 (by omega) (by omega) (by omega) (by omega)) rfl ?_)
  rintro v Θ ⟨b, rfl, rfl⟩
  refine S.op (S.q (q_move rfl) rfl rfl ?_)
  refine S.op (S.q (q_extract rfl rfl) rfl rfl ?_)
  refine S.op (S.q (q_extract rfl rfl) rfl rfl ?_)
  refine S.op (S.q (q_assign rfl) rfl rfl ?_)
  refine S.op (S.q (q_assign rfl) rfl rfl ?_)
  first | with_reducible refine S.nilK ?_ | refine S.nil ?_
  refine hK2 _ _ ?_
  refine S.seq fun K3 hK3 => ?_
  refine S.region rfl ?_
  refine S.op (S.q (q_move rfl) rfl rfl ?_)
  refine S.op (S.buildSlice (pvs := [(_, _), (_, _)]) [_, _] Tryd.underlying69 Tryd.inf3 rfl rfl ⟨⟨rfl, rfl⟩, ⟨rfl, rfl⟩, trivial⟩ rfl rfl ?_)
  intro b15
  refine S.op (S.call Tryd.en30 (vs := [_, _, _, _]) ⟨rfl, rfl, rfl, rfl, trivial⟩ (Put_S b (mx0 1 3) 1 0 (blk b15 3 #[.int .i64 0, .int .i64 1]) ⟨some ⟨b15, 0, none⟩, 2, 2⟩ [0, 1] rfl (rdBlk (cs := [.int .i64 0, .int .i64 1]) rfl (by unfold maxLen; omega)) (by omega)) rfl ?_)
  rintro v Θ ⟨rfl, rfl⟩
  rw [show (putR (mx0 1 3) 1 0 [0, 1]).2 = vw1 from rfl]
  first | with_reducible refine S.nilK ?_ | refine S.nil ?_
  refine hK3 _ _ ?_
  refine S.seq fun K4 hK4 => ?_
  refine S.region rfl ?_
  refine S.op (S.q (q_move rfl) rfl rfl ?_)
  refine S.op (S.buildSlice (pvs := [(_, _)]) [_] Tryd.underlying69 Tryd.inf3 rfl rfl ⟨⟨rfl, rfl⟩, trivial⟩ rfl rfl ?_)
  intro b18
  refine S.op (S.call Tryd.en30 (vs := [_, _, _, _]) ⟨rfl, rfl, rfl, rfl, trivial⟩ (Put_S b vw1 2 0 (blk b18 3 #[.int .i64 2]) ⟨some ⟨b18, 0, none⟩, 1, 1⟩ [2] rfl (rdBlk (cs := [.int .i64 2]) rfl (by unfold maxLen; omega)) (by omega)) rfl ?_)
  rintro v Θ ⟨rfl, rfl⟩
  rw [show (putR vw1 2 0 [2]).2 = vw2 from rfl]
  first | with_reducible refine S.nilK ?_ | refine S.nil ?_
  refine hK4 _ _ ?_
  refine S.seq fun K5 hK5 => ?_
  refine S.region rfl ?_
  refine S.op (S.q (q_build (pvs := [(_, _)]) [_, _] Tryd.z86 Tryd.p86 ⟨⟨rfl, rfl⟩, trivial⟩ rfl) rfl rfl ?_)
  refine S.op (S.q (q_build (pvs := [(_, _), (_, _)]) [_, _] Tryd.z86 Tryd.p86 ⟨⟨rfl, rfl⟩, ⟨rfl, rfl⟩, trivial⟩ rfl) rfl rfl ?_)
  refine S.op (S.buildSlice (pvs := [(_, _), (_, _)]) [_, _, _, _] Tryd.underlying27 Tryd.inf86 rfl rfl ⟨⟨rfl, rfl⟩, ⟨rfl, rfl⟩, trivial⟩ rfl rfl ?_)
  intro b22
  refine S.op (S.q (q_assign rfl) rfl rfl ?_)
  first | with_reducible refine S.nilK ?_ | refine S.nil ?_
  refine hK5 _ _ ?_
  refine S.seq fun K6 hK6 => ?_
  refine S.region rfl ?_
  have hR : RdS (blk b22 86 #[.int .u32 1, .int .u8 0, .int .u32 2, .int .u8 1]) ⟨some ⟨b22, 0, none⟩, 2, 2⟩ 2 2 (vwL.flatMap cdC) := rdBlk (cs := [.int .u32 1, .int .u8 0, .int .u32 2, .int .u8 1]) rfl (by unfold maxLen; omega)
  refine S.op (S.q (q_move rfl) rfl rfl ?_)
  refine S.op (S.q (q_move rfl) rfl rfl ?_)
  refine S.op (S.call Tryd.en8 (vs := [_, _, _, _]) ⟨rfl, rfl, rfl, rfl, trivial⟩ (Choose_S b vw2 2 1 (blk b22 86 #[.int .u32 1, .int .u8 0, .int .u32 2, .int .u8 1]) ⟨some ⟨b22, 0, none⟩, 2, 2⟩ vwL rfl (by decide) ht hR hW) rfl ?_)
  rintro v Θ ⟨u1, rfl, hu1, rfl⟩
  rw [f1] at hu1 ⊢
  simp only at hu1 ⊢
  rw [show jobsR [((1 : Nat), (0 : Int))] = [1] from rfl]
  refine S.op (S.q (q_move rfl) rfl rfl ?_)
  refine S.op (S.q (q_extract rfl rfl) rfl rfl ?_)
  refine S.op (S.q (q_extract rfl rfl) rfl rfl ?_)
  refine S.op (S.alloc Tryd.z33 rfl ?_)
  intro b4
  refine S.op (S.storeS (cs' := [_, _]) Tryd.ag33 rfl rfl rfl rfl rfl rfl ?_)
  refine S.op (S.q (q_assign rfl) rfl rfl ?_)
  first | with_reducible refine S.nilK ?_ | refine S.nil ?_
  refine hK6 _ _ ?_
  refine S.seq fun K7 hK7 => ?_
  refine S.region rfl ?_
  refine S.op (S.q (q_move rfl) rfl rfl ?_)
  refine S.op (S.q (q_move rfl) rfl rfl ?_)
  refine S.op (S.call Tryd.en8 (vs := [_, _, _, _]) ⟨rfl, rfl, rfl, rfl, trivial⟩ (Choose_S b vw2 2 3 (blk b22 86 #[.int .u32 1, .int .u8 0, .int .u32 2, .int .u8 1]) ⟨some ⟨b22, 0, none⟩, 2, 2⟩ vwL rfl (by decide) ht hR hW) rfl ?_)
  rintro v Θ ⟨u2, rfl, hu2, rfl⟩
  rw [f2] at hu2 ⊢
  simp only at hu2 ⊢
  rw [show jobsR vwL = [1, 2] from rfl]
  refine S.op (S.q (q_move rfl) rfl rfl ?_)
  refine S.op (S.q (q_extract rfl rfl) rfl rfl ?_)
  refine S.op (S.q (q_extract rfl rfl) rfl rfl ?_)
  refine S.op (S.alloc Tryd.z33 rfl ?_)
  intro b6
  refine S.op (S.storeS (cs' := [_, _]) Tryd.ag33 rfl rfl rfl rfl rfl rfl ?_)
  refine S.op (S.q (q_assign rfl) rfl rfl ?_)
  first | with_reducible refine S.nilK ?_ | refine S.nil ?_
  refine hK7 _ _ ?_
  refine S.seq fun K8 hK8 => ?_
  refine S.region rfl ?_
  refine S.op (S.q (q_move rfl) rfl rfl ?_)
  refine S.op (S.q (q_move rfl) rfl rfl ?_)
  refine S.op (S.call Tryd.en8 (vs := [_, _, _, _]) ⟨rfl, rfl, rfl, rfl, trivial⟩ (Choose_S b vw2 0 1 (blk b22 86 #[.int .u32 1, .int .u8 0, .int .u32 2, .int .u8 1]) ⟨some ⟨b22, 0, none⟩, 2, 2⟩ vwL rfl (by decide) ht hR hW) rfl ?_)
  rintro v Θ ⟨u3, rfl, hu3, rfl⟩
  rw [f3] at hu3 ⊢
  simp only at hu3 ⊢
  refine S.op (S.q (q_move rfl) rfl rfl ?_)
  refine S.op (S.q (q_extract rfl rfl) rfl rfl ?_)
  refine S.op (S.q (q_extract rfl rfl) rfl rfl ?_)
  refine S.op (S.alloc Tryd.z33 rfl ?_)
  intro b8
  refine S.op (S.storeS (cs' := [_, _]) Tryd.ag33 rfl rfl rfl rfl rfl rfl ?_)
  refine S.op (S.q (q_assign rfl) rfl rfl ?_)
  first | with_reducible refine S.nilK ?_ | refine S.nil ?_
  refine hK8 _ _ ?_
  refine S.seq fun K9 hK9 => ?_
  refine S.regionG ?_
  refine S.g_op rfl (S.q (q_move rfl) rfl rfl ?_)
  refine S.g_op rfl (S.q (q_move rfl) rfl rfl ?_)
  refine S.g_yes rfl rfl rfl (rfl) (S.q (q_move rfl) rfl rfl ?_)
  refine S.g_op rfl (S.q (q_pickT rfl (rfl) rfl) rfl rfl ?_)
  refine S.g_op rfl (S.q (q_move rfl) rfl rfl ?_)
  refine S.g_yes rfl rfl rfl (rfl) (S.q (q_move rfl) rfl rfl ?_)
  refine S.g_yes rfl rfl rfl (rfl) (S.q (q_not rfl) rfl rfl ?_)
  refine S.g_op rfl (S.q (q_pickT rfl (rfl) rfl) rfl rfl ?_)
  refine S.g_op rfl (S.q (q_move rfl) rfl rfl ?_)
  refine S.g_yes rfl rfl rfl (rfl) (S.q (q_field Tryd.fo33_1 rfl) rfl rfl ?_)
  refine S.g_yes rfl rfl rfl (rfl) (S.q (q_load Tryd.at31 rfl rfl) rfl rfl ?_)
  refine S.g_yes rfl rfl rfl (rfl) (S.buildSlice (pvs := [(_, _)]) [_] Tryd.underlying31 Tryd.inf68 rfl rfl ⟨⟨rfl, rfl⟩, trivial⟩ rfl rfl ?_)
  intro b52
  refine S.g_yes rfl rfl rfl (rfl) (S.call Tryd.en12 (vs := [_, _]) ⟨rfl, rfl, trivial⟩ (Same_S (own u1 68 1 (idsV [1])) (blk b52 68 #[.int .u32 1]) u1 ⟨some ⟨b52, 0, none⟩, 1, 1⟩ (casts [1]) [1] (rdIds u1 68 [1]) (rdBlk (cs := [.int .u32 1]) rfl (by unfold maxLen; omega)) hu1 rfl) rfl ?_)
  rintro v Θ ⟨rfl, rfl⟩
  refine S.g_op rfl (S.q (q_pickT rfl (rfl) rfl) rfl rfl ?_)
  refine S.g_op rfl (S.q (q_move rfl) rfl rfl ?_)
  refine S.g_yes rfl rfl rfl ((decide_eq_true rfl)) (S.q (q_field Tryd.fo33_1 rfl) rfl rfl ?_)
  refine S.g_yes rfl rfl rfl ((decide_eq_true rfl)) (S.q (q_load Tryd.at31 rfl rfl) rfl rfl ?_)
  refine S.g_yes rfl rfl rfl ((decide_eq_true rfl)) (S.buildSlice (pvs := [(_, _), (_, _)]) [_, _] Tryd.underlying31 Tryd.inf68 rfl rfl ⟨⟨rfl, rfl⟩, ⟨rfl, rfl⟩, trivial⟩ rfl rfl ?_)
  intro b58
  refine S.g_yes rfl rfl rfl ((decide_eq_true rfl)) (S.call Tryd.en12 (vs := [_, _]) ⟨rfl, rfl, trivial⟩ (Same_S (own u2 68 1 (idsV [1, 2])) (blk b58 68 #[.int .u32 1, .int .u32 2]) u2 ⟨some ⟨b58, 0, none⟩, 2, 2⟩ (casts [1, 2]) [1, 2] (rdIds u2 68 [1, 2]) (rdBlk (cs := [.int .u32 1, .int .u32 2]) rfl (by unfold maxLen; omega)) hu2 rfl) rfl ?_)
  rintro v Θ ⟨rfl, rfl⟩
  refine S.g_op rfl (S.q (q_pickT rfl ((decide_eq_true rfl)) rfl) rfl rfl ?_)
  refine S.g_op rfl (S.q (q_assign rfl) rfl rfl ?_)
  first | with_reducible refine S.g_nilK ?_ | refine S.g_nil ?_
  refine hK9 _ _ ?_
  refine S.ret ?_
  with_reducible repeat (first | refine S.then_n ?_ | refine S.then_x ?_ | refine S.then_r ?_ | refine S.inBlock_n ?_ | refine S.inBlock_r ?_ | refine S.inBlock_x rfl ?_ | refine S.noGoto_r ?_ | refine S.noGoto_n ?_ | refine S.noGoto_x ?_)
  exact S.fin (rs := [_]) (vs := [_]) Tryd.results6 (⟨rfl, trivial⟩)  (⟨rfl, rfl⟩) Sub.ent
/-- What is true of who is chosen. -/
theorem chUp_inv (m : Mx) (tier k : Int) (l : List Cd) : ∀ i, ((chUp m tier k l i).2.2 = true → (chUp m tier k l i).2.1 < i ∧ ofV m ((chUp m tier k l i).2.1 : Nat) tier k l = ((chUp m tier k l i).1, true)) ∧ ((chUp m tier k l i).2.2 = false → (chUp m tier k l i).1 = [] ∧ ∀ r, r < i → (ofV m (r : Nat) tier k l).2 = false)
  | 0 => ⟨fun h => (by cases h), fun _ => ⟨rfl, fun r hr => by omega⟩⟩
  | i + 1 => by
    obtain ⟨h1, h2⟩ := chUp_inv m tier k l i
    rw [chUp]
    by_cases h : ((ofV m (i : Nat) tier k l).2 && (!(chUp m tier k l i).2.2 || decide (cmpV (ofV m (i : Nat) tier k l).1 (chUp m tier k l i).1 < 0))) = true
    · rw [if_pos h]
      rw [Bool.and_eq_true] at h
      refine ⟨fun _ => ⟨by show i < i + 1; omega, ?_⟩, fun h => by cases h⟩
      show ofV m (i : Nat) tier k l = ((ofV m (i : Nat) tier k l).1, true)
      rw [← h.1]
    · rw [if_neg h]
      refine ⟨fun hf => ⟨by have := (h1 hf).1; omega, (h1 hf).2⟩, fun hf => ⟨(h2 hf).1, fun r hr => ?_⟩⟩
      by_cases e : r = i
      · subst e
        rw [hf] at h
        simpa using h
      · exact (h2 hf).2 r (by omega)
theorem ofV_free {m : Mx} {row tier k : Int} {l : List Cd} (hk : 1 ≤ k) (hr : 0 ≤ row ∧ row < m.R) (h : k ≤ (freeR m row : Nat)) : ofV m row tier k l = ([], true) := by
  have hv : vicUp m (lesR m row tier l) (freeR m row) k 1 = some 0 := by rw [vicUp, vicUp]; exact if_pos h
  rw [ofV, if_neg (by omega), vicUp_mono hv (by omega)]
  rfl
theorem vicUp_some {m : Mx} {al : List Cd} {h0 : Nat} {k : Int} {r : Nat} : ∀ {i : Nat}, vicUp m al h0 k i = some r → r < i ∧ k ≤ (haveUp m al h0 r : Nat)
  | 0, h => by cases h
  | i + 1, h => by
    rw [vicUp] at h
    cases hv : vicUp m al h0 k i with
    | some q =>
      rw [hv] at h
      simp only [Option.some.injEq] at h
      subst h
      have := vicUp_some hv
      exact ⟨by omega, this.2⟩
    | none =>
      rw [hv] at h
      simp only at h
      by_cases e : k ≤ (haveUp m al h0 i : Nat)
      · rw [if_pos e] at h
        cases h
        exact ⟨by omega, e⟩
      · rw [if_neg e] at h; cases h
theorem ofV_true {m : Mx} {row tier k : Int} {l v : List Cd} (h : ofV m row tier k l = (v, true)) : ∃ i, v = (lesR m row tier l).take i ∧ i ≤ (lesR m row tier l).length ∧ k ≤ (haveUp m (lesR m row tier l) (freeR m row) i : Nat) ∧ (1 ≤ k ∧ 0 ≤ row ∧ row < m.R) := by
  unfold ofV at h
  by_cases h1 : k < 1 ∨ row < 0 ∨ (m.R : Int) ≤ row
  · rw [if_pos h1] at h; cases h
  · rw [if_neg h1] at h
    cases hv : vicUp m (lesR m row tier l) (freeR m row) k ((lesR m row tier l).length + 1) with
    | none => rw [hv] at h; cases h
    | some i =>
      rw [hv] at h
      simp only [Prod.mk.injEq, and_true] at h
      obtain ⟨q1, q2⟩ := vicUp_some hv
      exact ⟨i, h.symm, by omega, q2, by omega⟩
theorem ofV_nil {m : Mx} {row tier k : Int} {l : List Cd} (h : ofV m row tier k l = ([], true)) : k ≤ (freeR m row : Nat) := by
  obtain ⟨i, h1, h2, h3, _⟩ := ofV_true h
  have : i = 0 := by
    have h5 := congrArg List.length h1
    rw [List.length_take] at h5
    have h6 : min i (lesR m row tier l).length = 0 := h5.symm
    omega
  subst this
  exact h3
theorem cmpV_nil (v : List Cd) : ¬ cmpV v [] < 0 := by
  unfold cmpV orI orI orI cmpI
  cases v with
  | nil => simp [topR]
  | cons a l => simp; omega
theorem cmpV_less {v w : List Cd} (h : v.length < w.length) : cmpV v w < 0 := by
  unfold cmpV orI cmpI
  rw [if_pos (show (v.length : Int) < w.length by omega)]
  simp
/-- Where there is room nobody has to go. -/
theorem chUp_free {m : Mx} {tier k : Int} {l : List Cd} (hk : 1 ≤ k) : ∀ i, i ≤ m.R → (∃ r, r < i ∧ k ≤ (freeR m (r : Nat) : Nat)) → (chUp m tier k l i).2.2 = true ∧ (chUp m tier k l i).1 = []
  | 0, _, h => by obtain ⟨r, hr, _⟩ := h; omega
  | i + 1, hi, h => by
    obtain ⟨i1, i2⟩ := chUp_inv m tier k l i
    rw [chUp]
    by_cases h0 : ∃ r, r < i ∧ k ≤ (freeR m (r : Nat) : Nat)
    · obtain ⟨f1, f2⟩ := chUp_free hk i (by omega) h0
      rw [if_neg]
      · exact ⟨f1, f2⟩
      · rw [f1, f2, decide_eq_false (cmpV_nil _)]
        simp
    · obtain ⟨r, hr, hfr⟩ := h
      have hri : r = i := by
        by_cases e : r = i
        · exact e
        · exact absurd ⟨r, by omega, hfr⟩ h0
      subst hri
      have hv := ofV_free (m := m) (row := (r : Nat)) (tier := tier) (l := l) hk ⟨by omega, by omega⟩ hfr
      rw [if_pos]
      · rw [hv]; exact ⟨rfl, rfl⟩
      · rw [hv]
        cases hf : (chUp m tier k l r).2.2 with
        | false => rfl
        | true =>
          obtain ⟨q1, q2⟩ := i1 hf
          have hne : 0 < (chUp m tier k l r).1.length := by
            rcases Nat.eq_zero_or_pos (chUp m tier k l r).1.length with e | e
            · exfalso
              rw [List.eq_nil_of_length_eq_zero e] at q2
              exact h0 ⟨_, q1, ofV_nil q2⟩
            · exact e
          rw [decide_eq_true (cmpV_less (v := []) hne)]
          rfl
def rmUp (m : Mx) (k : Int) : Nat → Bool
  | 0 => false
  | i + 1 => rmUp m k i || decide (k ≤ (freeR m (i : Nat) : Nat))
theorem rmUp_ex {m : Mx} {k : Int} : ∀ {i : Nat}, rmUp m k i = true → ∃ r, r < i ∧ k ≤ (freeR m (r : Nat) : Nat)
  | 0, h => by cases h
  | i + 1, h => by
    rw [rmUp, Bool.or_eq_true, decide_eq_true_eq] at h
    rcases h with h | h
    · obtain ⟨r, h1, h2⟩ := rmUp_ex h
      exact ⟨r, by omega, h2⟩
    · exact ⟨i, by omega, h⟩
end Go.Proofs.YtegjmmocnffpiaaDoor
/- Once a job is gone its nodes that are up are free. Of no program. -/
namespace Go.Proofs.YtegjmmocnffpiaaDoor
open Go.RowKit
set_option maxRecDepth 20000
theorem count_or {α : Type} (p q r : α → Bool) (l : List α) (h : ∀ x ∈ l, r x = (p x || q x) ∧ (p x && q x) = false) : (l.filter r).length = (l.filter p).length + (l.filter q).length := by
  induction l with
  | nil => rfl
  | cons x l ih =>
    have h1 := ih fun y hy => h y (List.mem_cons_of_mem _ hy)
    obtain ⟨h2, h3⟩ := h x (List.mem_cons_self ..)
    rw [List.filter_cons, List.filter_cons, List.filter_cons, h2]
    cases hp : p x <;> cases hq : q x <;> simp [h1] <;> (try omega)
    rw [hp, hq] at h3
    cases h3
theorem lst_or {s a b : Bs} (h1 : ∀ i, s.getLsbD i = (a.getLsbD i || b.getLsbD i)) (h2 : ∀ i, (a.getLsbD i && b.getLsbD i) = false) : (lst s).length = (lst a).length + (lst b).length :=
  count_or _ _ _ _ fun i _ => ⟨h1 i, h2 i⟩
theorem upN_filter (m : Mx) (l : List Nat) : ∀ q, q ≤ l.length → upN m l q = ((l.take q).filter fun i => isUpB m (i : Nat)).length
  | 0, _ => rfl
  | q + 1, hq => by
    have hx := List.getElem?_eq_getElem (show q < l.length by omega)
    have hg : l.getD q 0 = l[q] := by simp [List.getD, hx]
    rw [upN, upN_filter m l q (by omega), hg, List.take_add_one, hx, List.filter_append, List.length_append]
    cases hb : isUpB m (l[q] : Nat) <;> simp [hb]
theorem givR_eq {m : Mx} (hm : MxOk m) {j : Nat} {x : Jb} (h : look m.js j = some x) : givR m j = (lst (m.up &&& x.ns)).length := by
  obtain ⟨h1, _⟩ := look_some h
  unfold givR
  rw [ofR_some h]
  show upN m (lst x.ns) (lst x.ns).length = _
  rw [upN_filter m _ _ (Nat.le_refl _), List.take_length]
  unfold lst
  rw [List.filter_filter]
  congr 1
  refine List.filter_congr fun i _ => ?_
  rw [BitVec.getLsbD_and, isUpB, Int.toNat_natCast]
  cases hb : x.ns.getLsbD i with
  | false => simp
  | true => rw [nodeB_iff.2 ⟨by omega, by have := hm.ns x h1 i hb; omega⟩]; simp
theorem freeR_del {m : Mx} (hm : MxOk m) {j : Nat} {x : Jb} (h : look m.js j = some x) : freeR (m.del j) (x.row : Nat) = freeR m (x.row : Nat) + givR m j := by
  obtain ⟨h1, h2⟩ := look_some h
  have hr := hm.row x h1
  rw [givR_eq hm h]
  have e1 : freeR (m.del j) (x.row : Nat) = (lst ((m.del j).free x.row)).length := by rw [freeR, rowB_iff.2 ⟨by omega, by show ((x.row : Nat) : Int) < m.R; omega⟩, Int.toNat_natCast]; rfl
  have e2 : freeR m (x.row : Nat) = (lst (m.free x.row)).length := by rw [freeR, rowB_iff.2 ⟨by omega, by omega⟩, Int.toNat_natCast]; rfl
  rw [e1, e2]
  have e3 : tk (m.del j).js x.row = tk m.js x.row &&& ~~~x.ns := by
    show tk (delJ j m.js) x.row = _
    rw [← h2, tk_delJ hm h1, if_pos rfl]
  have hsub : ∀ i, x.ns.getLsbD i = true → (tk m.js x.row).getLsbD i = true := fun i hi => (tk_bit _ _ _).2 ⟨x, h1, rfl, hi⟩
  have hlt : ∀ i, m.up.getLsbD i = true → i < 16 := fun i hi => BitVec.lt_of_getLsbD hi
  refine lst_or (fun i => ?_) fun i => ?_
  · rw [Mx.free, Mx.free, e3]
    show (m.up &&& ~~~(tk m.js x.row &&& ~~~x.ns)).getLsbD i = _
    simp only [BitVec.getLsbD_and, BitVec.getLsbD_not]
    have h3 := hsub i
    have h4 := hlt i
    cases hu : m.up.getLsbD i <;> cases ht : (tk m.js x.row).getLsbD i <;> cases hn : x.ns.getLsbD i <;> simp [hu, ht, hn] at h3 h4 ⊢ <;> omega
  · rw [Mx.free]
    simp only [BitVec.getLsbD_and, BitVec.getLsbD_not]
    have h3 := hsub i
    cases hu : m.up.getLsbD i <;> cases ht : (tk m.js x.row).getLsbD i <;> cases hn : x.ns.getLsbD i <;> simp [ht, hn] at h3 ⊢
end Go.Proofs.YtegjmmocnffpiaaDoor
/- Those that are chosen go, one by one: what is free then. Of no program. -/
namespace Go.Proofs.YtegjmmocnffpiaaDoor
open Go.RowKit
set_option maxRecDepth 20000
theorem vicUp_least {m : Mx} {al : List Cd} {h0 : Nat} {k : Int} {r : Nat} : ∀ {i : Nat}, vicUp m al h0 k i = some r → ∀ q, q < r → ((haveUp m al h0 q : Nat) : Int) < k
  | 0, h, _, _ => by cases h
  | i + 1, h, q, hq => by
    rw [vicUp] at h
    cases hv : vicUp m al h0 k i with
    | some p =>
      rw [hv] at h
      simp only [Option.some.injEq] at h
      subst h
      exact vicUp_least hv q hq
    | none =>
      rw [hv] at h
      simp only at h
      by_cases e : k ≤ (haveUp m al h0 i : Nat)
      · rw [if_pos e] at h
        cases h
        exact vicUp_none hv q hq
      · rw [if_neg e] at h; cases h
where vicUp_none {m : Mx} {al : List Cd} {h0 : Nat} {k : Int} : ∀ {i : Nat}, vicUp m al h0 k i = none → ∀ q, q < i → ((haveUp m al h0 q : Nat) : Int) < k
  | 0, _, q, hq => by omega
  | i + 1, h, q, hq => by
    rw [vicUp] at h
    cases hv : vicUp m al h0 k i with
    | some p => rw [hv] at h; cases h
    | none =>
      rw [hv] at h
      simp only at h
      by_cases e : k ≤ (haveUp m al h0 i : Nat)
      · rw [if_pos e] at h; cases h
      · by_cases e2 : q = i
        · subst e2; omega
        · exact vicUp_none hv q (by omega)
theorem look_del {js : List Jb} {a j : Nat} (h : j ≠ a) : look (delJ a js) j = look js j := by
  induction js with
  | nil => rfl
  | cons x l ih =>
    unfold look delJ at *
    rw [List.filter_cons]
    by_cases e : x.id = a
    · rw [if_neg (by simp [e]), List.find?_cons_of_neg (by simp; omega)]
      exact ih
    · rw [if_pos (by simp [e]), List.find?_cons, List.find?_cons]
      split
      · rfl
      · exact ih
/-- The matrix without the first i of a list. -/
def goUp (m : Mx) (al : List Cd) : Nat → Mx
  | 0 => m
  | i + 1 => (goUp m al i).del (al.getD i (0, 0)).1
theorem goUp_I {m : Mx} (hm : MxOk m) {al : List Cd} {r : Nat} (hnd : al.Pairwise (fun a b => a.1 ≠ b.1)) (hin : ∀ x ∈ al, ∃ y, look m.js x.1 = some y ∧ y.row = r) : ∀ i, i ≤ al.length → MxOk (goUp m al i) ∧ (goUp m al i).up = m.up ∧ (∀ q x, i ≤ q → al[q]? = some x → look (goUp m al i).js x.1 = look m.js x.1) ∧ freeR (goUp m al i) (r : Nat) = haveUp m al (freeR m (r : Nat)) i
  | 0, _ => ⟨hm, rfl, fun _ _ _ _ => rfl, rfl⟩
  | i + 1, hi => by
    obtain ⟨h1, h2, h3, h4⟩ := goUp_I hm hnd hin i (by omega)
    have hx := List.getElem?_eq_getElem (show i < al.length by omega)
    have hg : al.getD i (0, 0) = al[i] := by simp [List.getD, hx]
    obtain ⟨y, hy, hyr⟩ := hin al[i] (List.getElem_mem _)
    have hly := (h3 i _ (Nat.le_refl _) hx).trans hy
    have hfree := freeR_del h1 hly
    rw [hyr, h4, givR_eq h1 hly, h2, ← givR_eq hm hy] at hfree
    rw [goUp, haveUp, hg]
    refine ⟨h1.del _, h2, fun q x hq hxq => ?_, hfree⟩
    have hne : x.1 ≠ al[i].1 := by
      have hq2 := (List.getElem?_eq_some_iff.1 hxq)
      have := List.pairwise_iff_getElem.1 hnd i q (by omega) hq2.1 (by omega)
      rw [hq2.2] at this
      exact this.symm
    exact (look_del hne).trans (h3 q x (by omega) hxq)
end Go.Proofs.YtegjmmocnffpiaaDoor
/- Who the document picks: the least of a row's candidates, again and again: those that are sorted. Of no program. -/
namespace Go.Proofs.YtegjmmocnffpiaaDoor
open Go.RowKit
set_option maxRecDepth 20000
namespace VP
theorem getD_lt {α : Type} {l : List α} {i : Nat} {d : α} (h : i < l.length) : l.getD i d = l[i] := by simp [List.getD, List.getElem?_eq_getElem h]
/-- Is a candidate one of those? -/
def lesB (m : Mx) (row tier : Int) (x : Cd) : Bool := (ofR m x.1).2.2 && decide ((ofR m x.1).1 = row) && decide (x.2 < tier)
theorem lesUp_filter {m : Mx} {row tier : Int} {l : List Cd} (h : (l.map (·.1)).Nodup) : ∀ i, i ≤ l.length → lesUp m row tier l i = (l.take i).filter (lesB m row tier)
  | 0, _ => rfl
  | i + 1, hi => by
    have hx := List.getElem?_eq_getElem (show i < l.length by omega)
    have hg : l.getD i (0, 0) = l[i] := by simp [List.getD, hx]
    have hn : ¬ (l.getD i (0, 0)).1 ∈ (l.take i).map (·.1) := fun hm => by
      rw [hg] at hm
      obtain ⟨y, hy, e⟩ := List.mem_map.1 hm
      obtain ⟨j, hj, e2⟩ := List.mem_take_iff_getElem.1 hy
      have h1 := List.pairwise_iff_getElem.1 h j i (by rw [List.length_map]; omega) (by rw [List.length_map]; omega) (by omega)
      rw [List.getElem_map, List.getElem_map, e2] at h1
      exact h1 e
    rw [lesUp, if_neg hn, lesUp_filter h i (by omega), List.take_add_one, hx, List.filter_append, hg]
    show (if lesB m row tier l[i] = true then _ else _) = _
    cases hb : lesB m row tier l[i] <;> simp [hb]
theorem srtC_sorted (l : List Cd) : (srtC l).Pairwise (fun a b => bfC b a = false) := by
  have hs2 : (srtC l).Pairwise (fun a b => (!bfC b a) = true) := List.pairwise_mergeSort (fun a b c h1 h2 => by
      simp only [bfC, Bool.not_eq_true', decide_eq_false_iff_not] at *
      omega) (fun a b => by
      simp only [bfC, Bool.or_eq_true, Bool.not_eq_true', decide_eq_false_iff_not]
      omega) l
  exact hs2.imp fun h => by simpa using h
theorem cdUp_rise (l : List Vd) : ∀ i, (∀ x ∈ cdUp l i, x.1 ≤ i) ∧ ((cdUp l i).map (·.1)).Pairwise (· < ·)
  | 0 => ⟨fun x hx => (by cases hx), List.Pairwise.nil⟩
  | i + 1 => by
    obtain ⟨h1, h2⟩ := cdUp_rise l i
    rw [cdUp]
    split
    · exact ⟨fun x hx => by have := h1 x hx; omega, h2⟩
    · refine ⟨fun x hx => ?_, ?_⟩
      · rcases List.mem_append.1 hx with h | h
        · have := h1 x h; omega
        · rw [List.mem_singleton] at h; rw [h]; exact Nat.le_refl _
      · rw [List.map_append]
        refine List.pairwise_append.2 ⟨h2, List.pairwise_singleton _ _, fun a ha b hb => ?_⟩
        obtain ⟨x, hx, rfl⟩ := List.mem_map.1 ha
        simp only [List.map_cons, List.map_nil, List.mem_singleton] at hb
        have := h1 x hx
        omega
theorem cdUp_job (l : List Vd) (i : Nat) : ((cdUp l i).map (·.1)).Nodup := (cdUp_rise l i).2.imp fun h => Nat.ne_of_lt h
theorem mem_lesR {m : Mx} {row tier : Int} {l : List Cd} (h : (l.map (·.1)).Nodup) {x : Cd} : x ∈ lesR m row tier l ↔ x ∈ l ∧ lesB m row tier x = true := by
  rw [lesR, (srtC_perm _).mem_iff, lesUp_filter h _ (Nat.le_refl _), List.take_length, List.mem_filter]
theorem lesR_nd {m : Mx} {row tier : Int} {l : List Cd} (h : (l.map (·.1)).Nodup) : (lesR m row tier l).Pairwise (fun a b => a.1 ≠ b.1) := by
  rw [lesR]
  refine ((srtC_perm _).pairwise_iff fun {a b} (h : a.1 ≠ b.1) => h.symm).2 ?_
  rw [lesUp_filter h _ (Nat.le_refl _), List.take_length]
  exact (List.pairwise_map.1 h).filter _
/-- The tier of a job among candidates. -/
def tierR (l : List Cd) (j : Nat) : Int × Bool := match l.find? (fun c => decide (c.1 = j)) with
  | some c => (c.2, true)
  | none => (0, false)
theorem tierR_mem {l : List Cd} (h : (l.map (·.1)).Nodup) {x : Cd} (hx : x ∈ l) : tierR l x.1 = (x.2, true) := by
  unfold tierR
  induction l with
  | nil => cases hx
  | cons y l ih =>
    rw [List.map_cons, List.nodup_cons] at h
    rw [List.find?_cons]
    rcases List.mem_cons.1 hx with rfl | hx
    · simp
    · have hne : ¬ y.1 = x.1 := fun e => h.1 (List.mem_map.2 ⟨x, hx, e.symm⟩)
      rw [decide_eq_false hne]
      exact ih h.2 hx
theorem tierR_some {l : List Cd} {j : Nat} (h : (tierR l j).2 = true) : ∃ x ∈ l, x.1 = j ∧ (tierR l j).1 = x.2 := by
  unfold tierR at *
  cases hf : l.find? (fun c => decide (c.1 = j)) with
  | none => rw [hf] at h; cases h
  | some c =>
    have h9 := List.find?_some hf
    exact ⟨c, List.mem_of_find?_eq_some hf, of_decide_eq_true h9, rfl⟩
def tierUp (l : List Cd) (j : Nat) : Nat → Option Int
  | 0 => none
  | i + 1 => match tierUp l j i with
    | some t => some t
    | none => if (l.getD i (0, 0)).1 = j then some (l.getD i (0, 0)).2 else none
/-- The index of the least candidate of the first p that are left. -/
def pickUp (l : List Cd) (tier : Int) (left : List Nat) : Nat → Option Nat
  | 0 => none
  | p + 1 => if (!(tierR l (left.getD p 0)).2 || decide (tier ≤ (tierR l (left.getD p 0)).1)) = true then pickUp l tier left p else
    match pickUp l tier left p with
    | none => some p
    | some b => if (decide ((tierR l (left.getD b 0)).1 < (tierR l (left.getD p 0)).1) || (decide ((tierR l (left.getD b 0)).1 = (tierR l (left.getD p 0)).1) && decide (left.getD p 0 < left.getD b 0))) = true then some b else some p
theorem pick_inv {l : List Cd} {tier : Int} {left : List Nat} (h : (l.map (·.1)).Nodup) (hl : left.Nodup) : ∀ p, p ≤ left.length →
    (pickUp l tier left p = none → ∀ q, q < p → ∀ x ∈ l, x.1 = left.getD q 0 → ¬ x.2 < tier) ∧
    (∀ b, pickUp l tier left p = some b → b < p ∧ ∃ x ∈ l, x.1 = left.getD b 0 ∧ x.2 < tier ∧ ∀ q, q < p → q ≠ b → ∀ y ∈ l, y.1 = left.getD q 0 → y.2 < tier → bfC x y = true)
  | 0, _ => ⟨fun _ q hq => by omega, fun b hb => by cases hb⟩
  | p + 1, hp => by
    obtain ⟨i1, i2⟩ := pick_inv h hl p (by omega)
    rw [pickUp]
    by_cases hc : (!(tierR l (left.getD p 0)).2 || decide (tier ≤ (tierR l (left.getD p 0)).1)) = true
    · rw [if_pos hc]
      have hno : ∀ x ∈ l, x.1 = left.getD p 0 → ¬ x.2 < tier := fun x hx e => by
        rw [← e, tierR_mem h hx] at hc
        simpa using hc
      refine ⟨fun hn q hq x hx e => ?_, fun b hb => ?_⟩
      · by_cases e2 : q = p
        · subst e2; exact hno x hx e
        · exact i1 hn q (by omega) x hx e
      · obtain ⟨b1, x, x1, x2, x3, x4⟩ := i2 b hb
        refine ⟨by omega, x, x1, x2, x3, fun q hq hne y y1 y2 y3 => ?_⟩
        by_cases e2 : q = p
        · subst e2; exact absurd y3 (hno y y1 y2)
        · exact x4 q (by omega) hne y y1 y2 y3
    · rw [if_neg hc]
      rw [Bool.or_eq_true, not_or, Bool.not_eq_true', decide_eq_true_eq] at hc
      have hc1 : (tierR l (left.getD p 0)).2 = true := by
        rcases Bool.eq_false_or_eq_true (tierR l (left.getD p 0)).2 with h9 | h9
        · exact h9
        · exact absurd h9 hc.1
      obtain ⟨xp, xp1, xp2, xp3⟩ := tierR_some hc1
      have xp4 : xp.2 < tier := by omega
      have huniq : ∀ y ∈ l, y.1 = left.getD p 0 → y.2 = xp.2 := fun y hy e => by
        have e1 := tierR_mem h hy
        rw [e, ← xp2, tierR_mem h xp1] at e1
        exact (congrArg Prod.fst e1).symm
      cases hv : pickUp l tier left p with
      | none =>
        refine ⟨fun hn => (by cases hn), fun b hb => ?_⟩
        obtain rfl : p = b := Option.some.inj hb
        exact ⟨by omega, xp, xp1, xp2, xp4, fun q hq hne y y1 y2 y3 => absurd y3 (i1 hv q (by omega) y y1 y2)⟩
      | some b0 =>
        obtain ⟨b1, x, x1, x2, x3, x4⟩ := i2 b0 hv
        have htx : (tierR l (left.getD b0 0)).1 = x.2 := by rw [← x2, tierR_mem h x1]
        have hne : left.getD p 0 ≠ left.getD b0 0 := fun e => by
          rw [getD_lt (show p < left.length by omega), getD_lt (show b0 < left.length by omega)] at e
          have := (List.getElem_inj hl).1 e
          omega
        simp only
        refine ⟨fun hn => ?_, fun b hb => ?_⟩
        · split at hn <;> cases hn
        · split at hb
          · rename_i hk
            obtain rfl : b0 = b := Option.some.inj hb
            refine ⟨by omega, x, x1, x2, x3, fun q hq hneq y y1 y2 y3 => ?_⟩
            by_cases e2 : q = p
            · subst e2
              rw [htx, xp3] at hk
              have h7 := huniq y y1 y2
              simp only [Bool.or_eq_true, Bool.and_eq_true, decide_eq_true_eq] at hk
              exact decide_eq_true (by omega)
            · exact x4 q (by omega) hneq y y1 y2 y3
          · rename_i hk
            obtain rfl : p = b := Option.some.inj hb
            rw [htx, xp3] at hk
            simp only [Bool.or_eq_true, Bool.and_eq_true, decide_eq_true_eq] at hk
            have hpx : xp.2 < x.2 ∨ (xp.2 = x.2 ∧ x.1 < xp.1) := by omega
            refine ⟨by omega, xp, xp1, xp2, xp4, fun q hq hneq y y1 y2 y3 => ?_⟩
            by_cases e2 : q = b0
            · subst e2
              have e1 := tierR_mem h y1
              rw [y2, htx'' x1 x2 h] at e1
              have e1 := congrArg Prod.fst e1
              simp only at e1
              exact decide_eq_true (by omega)
            · have h8 := x4 q (by omega) e2 y y1 y2 y3
              simp only [bfC, decide_eq_true_eq] at h8
              exact decide_eq_true (by omega)
where htx'' {l : List Cd} {x : Cd} {j : Nat} (x1 : x ∈ l) (x2 : x.1 = j) (h : (l.map (·.1)).Nodup) : tierR l j = (x.2, true) := by rw [← x2, tierR_mem h x1]
/-- Who is left: those of the row but the first i of the list. -/
structure Left (m : Mx) (row : Nat) (al : List Cd) (i : Nat) (left : List Nat) : Prop where
  nd : left.Nodup
  mem : ∀ j, j ∈ left ↔ (∃ y ∈ m.js, y.row = row ∧ y.id = j) ∧ ¬ j ∈ (al.take i).map (·.1)
theorem lesB_iff {m : Mx} (hm : MxOk m) {row : Nat} {tier : Int} {x : Cd} : lesB m row tier x = true ↔ (∃ y ∈ m.js, y.row = row ∧ y.id = x.1) ∧ x.2 < tier := by
  rw [lesB, Bool.and_eq_true, Bool.and_eq_true, decide_eq_true_eq, decide_eq_true_eq]
  cases hl : look m.js x.1 with
  | none =>
    rw [ofR_none hl]
    refine ⟨fun h => (by cases h.1.1), fun ⟨⟨y, y1, y2, y3⟩, _⟩ => ?_⟩
    have := look_mem hm.srt y1
    rw [y3, hl] at this
    cases this
  | some z =>
    rw [ofR_some hl]
    obtain ⟨z1, z2⟩ := look_some hl
    refine ⟨fun h => ⟨⟨z, z1, by have : (z.row : Int) = row := h.1.2; omega, z2⟩, h.2⟩, fun ⟨⟨y, y1, y2, y3⟩, h⟩ => ⟨⟨rfl, ?_⟩, h⟩⟩
    have := look_mem hm.srt y1
    rw [y3, hl] at this
    obtain rfl : z = y := Option.some.inj this
    show (z.row : Int) = row
    omega
theorem pick_next {m : Mx} (hm : MxOk m) {row : Nat} {tier : Int} {l : List Cd} (h : (l.map (·.1)).Nodup) {i : Nat} {left : List Nat} (hi : i ≤ (lesR m row tier l).length) (hL : Left m row (lesR m row tier l) i left) :
    (pickUp l tier left left.length = none → i = (lesR m row tier l).length) ∧ ∀ b, pickUp l tier left left.length = some b → b < left.length ∧ i < (lesR m row tier l).length ∧ left.getD b 0 = ((lesR m row tier l).getD i (0, 0)).1 ∧ Left m row (lesR m row tier l) (i + 1) (left.eraseIdx b) := by
  obtain ⟨al, hal⟩ : ∃ al, al = lesR m row tier l := ⟨_, rfl⟩
  have hmem : ∀ x, x ∈ al ↔ x ∈ l ∧ lesB m row tier x = true := fun x => by rw [hal]; exact mem_lesR h
  have hnd : al.Pairwise (fun a b => a.1 ≠ b.1) := by rw [hal]; exact lesR_nd h
  have hsrt : al.Pairwise (fun a b => bfC b a = false) := by rw [hal, lesR]; exact srtC_sorted _
  rw [← hal] at hL hi ⊢
  obtain ⟨p1, p2⟩ := pick_inv (tier := tier) h hL.nd left.length (Nat.le_refl _)
  have hin : ∀ q, (hq : q < al.length) → i ≤ q → al[q].1 ∈ left := fun q hq hiq => by
    rw [hL.mem]
    refine ⟨((lesB_iff hm).1 ((hmem _).1 (List.getElem_mem hq)).2).1, fun hx => ?_⟩
    obtain ⟨y, hy, e⟩ := List.mem_map.1 hx
    obtain ⟨j, hj, e2⟩ := List.mem_take_iff_getElem.1 hy
    have h9 := List.pairwise_iff_getElem.1 hnd j q (by omega) hq (by omega)
    rw [e2] at h9
    exact h9 e
  refine ⟨fun hn => ?_, fun b hb => ?_⟩
  · rcases Nat.lt_or_ge i al.length with hlt | hge
    · exfalso
      obtain ⟨q, hq, e⟩ := List.getElem_of_mem (hin i hlt (Nat.le_refl _))
      have h1 := (hmem _).1 (List.getElem_mem hlt)
      exact p1 hn q hq _ h1.1 (by rw [getD_lt hq, e]) ((lesB_iff hm).1 h1.2).2
    · omega
  · obtain ⟨b1, x, x1, x2, x3, x4⟩ := p2 b hb
    have hbm : x.1 ∈ left := by rw [x2, getD_lt b1]; exact List.getElem_mem _
    obtain ⟨hrow, hnt⟩ := (hL.mem _).1 hbm
    have hxa : x ∈ al := (hmem _).2 ⟨x1, (lesB_iff hm).2 ⟨hrow, x3⟩⟩
    obtain ⟨q, hq, eq⟩ := List.getElem_of_mem hxa
    have hiq : i ≤ q := Nat.le_of_not_lt fun hlt => hnt (List.mem_map.2 ⟨x, List.mem_take_iff_getElem.2 ⟨q, by omega, eq⟩, rfl⟩)
    have hqi : q = i := Classical.byContradiction fun hne => by
      have hlt : i < al.length := by omega
      obtain ⟨q', hq', e⟩ := List.getElem_of_mem (hin i hlt (Nat.le_refl _))
      have h1 := (hmem _).1 (List.getElem_mem hlt)
      have h2 := List.pairwise_iff_getElem.1 hnd i q hlt hq (by omega)
      have h3 := List.pairwise_iff_getElem.1 hsrt i q hlt hq (by omega)
      rw [eq] at h2 h3
      have hne2 : q' ≠ b := fun e9 => by
        subst e9
        rw [getD_lt b1] at x2
        exact h2 (e.symm.trans x2.symm)
      have h4 := x4 q' hq' hne2 _ h1.1 (by rw [getD_lt hq', e]) ((lesB_iff hm).1 h1.2).2
      rw [h4] at h3
      cases h3
    subst hqi
    have hg : al.getD q (0, 0) = x := by rw [getD_lt hq, eq]
    refine ⟨b1, hq, by rw [hg, x2], ?_, fun j => ?_⟩
    · exact hL.nd.sublist (List.eraseIdx_sublist _ _)
    · have htk : (al.take (q + 1)).map (·.1) = (al.take q).map (·.1) ++ [x.1] := by
        rw [List.take_add_one, List.getElem?_eq_getElem hq, eq, List.map_append]
        rfl
      rw [htk, List.mem_append, List.mem_singleton, List.mem_eraseIdx_iff_getElem]
      constructor
      · rintro ⟨p, hp, hne, e⟩
        have hj : j ∈ left := e ▸ List.getElem_mem _
        obtain ⟨k1, k2⟩ := (hL.mem j).1 hj
        refine ⟨k1, fun h9 => h9.elim k2 fun e3 => ?_⟩
        rw [e3, x2, getD_lt b1] at e
        exact hne ((List.getElem_inj hL.nd).1 e)
      · rintro ⟨k1, k2⟩
        rw [not_or] at k2
        obtain ⟨p, hp, e⟩ := List.getElem_of_mem ((hL.mem j).2 ⟨k1, k2.1⟩)
        refine ⟨p, hp, fun e3 => k2.2 ?_, e⟩
        subst e3
        rw [x2, getD_lt b1, e]
theorem left_zero {m : Mx} (hm : MxOk m) {row : Nat} (hr : row < m.R) (al : List Cd) : Left m row al 0 (rowIds m row) := by
  have he : rowIds m row = (rowJ m row).map (·.id) := by rw [rowIds, if_pos (rowB_iff.2 ⟨by omega, by omega⟩), Int.toNat_natCast]
  rw [he]
  refine ⟨List.pairwise_map.2 (rowJ_srt.imp_of_mem fun {a b} ha hb h e => by rw [id_inj hm.srt ((mem_rowJ hm).1 ha).1 ((mem_rowJ hm).1 hb).1 e] at h; omega), fun j => ?_⟩
  rw [List.mem_map]
  constructor
  · rintro ⟨x, hx, e⟩
    exact ⟨⟨x, ((mem_rowJ hm).1 hx).1, ((mem_rowJ hm).1 hx).2, e⟩, fun h => by cases h⟩
  · rintro ⟨⟨x, h1, h2, e⟩, _⟩
    exact ⟨x, (mem_rowJ hm).2 ⟨h1, h2⟩, e⟩
end VP
end Go.Proofs.YtegjmmocnffpiaaDoor
/- The document's matrix: what its functions answer, and how a row is when a job goes. Of no program. -/
namespace Go.Proofs.YtegjmmocnffpiaaDoor
open Go.RowKit
set_option maxRecDepth 20000
theorem rowN_del {m : Mx} (hm : MxOk m) {x : Jb} (hx : x ∈ m.js) (o : Nat) : rowN (m.del x.id) o = if o = x.row then setAll (rowN m o) (lst x.ns) 0 else rowN m o := by
  have hm' := hm.del x.id
  have hat : ∀ i, atJ (m.del x.id).js o i = if o = x.row ∧ x.ns.getLsbD i = true then 0 else atJ m.js o i := fun i => by
    by_cases h : o = x.row ∧ x.ns.getLsbD i = true
    · rw [if_pos h]
      refine atJ_none fun y y1 y2 => ?_
      cases hb : y.ns.getLsbD i with
      | false => rfl
      | true =>
        obtain ⟨y3, y4⟩ := mem_delJ.1 y1
        exact (hm.dis y y3 x hx y4 (y2.trans h.1) i hb h.2).elim
    · rw [if_neg h]
      by_cases h2 : ∃ y ∈ m.js, y.row = o ∧ y.ns.getLsbD i = true
      · obtain ⟨y, y1, y2, y3⟩ := h2
        rw [atJ_some hm y1 y2 y3]
        refine atJ_some hm' (mem_delJ.2 ⟨y1, fun e => h ?_⟩) y2 y3
        have e2 := id_inj hm.srt y1 hx e
        rw [e2] at y2 y3
        exact ⟨y2.symm, y3⟩
      · have hno : ∀ y ∈ m.js, y.row = o → y.ns.getLsbD i = false := fun y y1 y2 => by cases hb : y.ns.getLsbD i with | false => rfl | true => exact absurd ⟨y, y1, y2, hb⟩ h2
        rw [atJ_none hno]
        exact atJ_none fun y y1 y2 => hno y (mem_delJ.1 y1).1 y2
  refine List.ext_getElem? fun i => ?_
  by_cases hi : i < m.N
  · have h1 : (rowN (m.del x.id) o)[i]? = some (atJ (m.del x.id).js o i) := rowN_get (m := m.del x.id) hi o
    rw [h1, hat]
    by_cases e : o = x.row
    · rw [if_pos e, setAll_get _ _ _ _ (by rw [rowN_len]; exact hi), rowN_get hi]
      by_cases e2 : x.ns.getLsbD i = true
      · rw [if_pos ⟨e, e2⟩, if_pos (mem_lst.2 e2)]
      · rw [if_neg (fun h => e2 h.2), if_neg (fun h => e2 (mem_lst.1 h))]
    · rw [if_neg e, if_neg (fun h => e h.1), rowN_get hi]
  · rw [List.getElem?_eq_none (by rw [rowN_len]; show m.N ≤ i; omega)]
    split
    · rw [List.getElem?_eq_none (by rw [setAll_len, rowN_len]; omega)]
    · rw [List.getElem?_eq_none (by rw [rowN_len]; omega)]
/-- A row's cells were changed. -/
theorem RiOk.set {m m' : Mx} {cs us : SV} {rs : List Rr} (h : RiOk m cs us rs) (hm' : MxOk m') (hR : m'.R = m.R) (hN : m'.N = m.N) {r : Nat} {p : Rr} {d : List Nat} (hp : rs[r]? = some p) (hd : d = rowN m' r) (ho : ∀ o, o ≠ r → rowN m' o = rowN m o) : RiOk m' cs us (rs.set r (p.1, d)) := by
  have hrl := h.rlen
  have hr : r < rs.length := (List.getElem?_eq_some_iff.1 hp).1
  refine ⟨hm', h.cn.trans hR.symm, h.un.trans hN.symm, ?_, fun p' hp' => ?_⟩
  · refine List.ext_getElem? fun k => ?_
    by_cases hk : k < m.R
    · rw [List.getElem?_map, List.getElem?_map, List.getElem?_range (show k < m'.R by omega), Option.map_some]
      by_cases e : r = k
      · subst e
        rw [List.getElem?_set_self (by omega), Option.map_some, hd]
      · rw [List.getElem?_set_ne e, ho k (fun h => e h.symm)]
        obtain ⟨p', hp', hpd', _⟩ := h.at_ hk
        rw [hp', Option.map_some, hpd']
    · rw [List.getElem?_eq_none (by rw [List.length_map, List.length_set]; omega), List.getElem?_eq_none (by rw [List.length_map, List.length_range]; omega)]
  · rw [hN]
    rcases List.mem_or_eq_of_mem_set hp' with h9 | h9
    · exact h.len p' h9
    · rw [h9]; exact h.len p (List.mem_of_getElem? hp)
theorem rrV_set {rs : List Rr} {r : Nat} {p : Rr} (hp : rs[r]? = some p) (d : List Nat) : (rs.set r (p.1, d)).map rrV = rs.map rrV := by
  have hr : r < rs.length := (List.getElem?_eq_some_iff.1 hp).1
  rw [List.map_set]
  refine List.ext_getElem? fun k => ?_
  by_cases e : r = k
  · subst e; rw [List.getElem?_set_self (by rw [List.length_map]; omega), List.getElem?_map, hp]; rfl
  · rw [List.getElem?_set_ne e]
theorem idsV_set (d : List Nat) (i j : Nat) : (idsV d).set i (.int .u32 (j : Int)) = idsV (d.set i j) := by
  show (d.map _).set _ _ = (d.set i j).map _
  rw [List.map_set]
/-! Free. -/
theorem free_atJ {m : Mx} (hm : MxOk m) {r i : Nat} (hi : i < 16) : (m.free r).getLsbD i = (decide (atJ m.js r i = 0) && m.up.getLsbD i) := by
  have h := busy_iff hm (r := r) (i := i)
  rw [Mx.free, BitVec.getLsbD_and, BitVec.getLsbD_not, decide_eq_true hi, Bool.true_and, Bool.and_comm]
  congr 1
  cases hb : (tk m.js r).getLsbD i with
  | false => rw [decide_eq_true (h.2 hb)]; rfl
  | true => rw [decide_eq_false (fun e => by rw [h.1 e] at hb; cases hb)]; rfl
theorem bitU_free {m : Mx} (hm : MxOk m) (r : Nat) : bitU (m.free r) m.N = lst (m.free r) := rise_ext (bitU_rise _ _) (lst_rise _) fun i => by
  rw [mem_bitU, mem_lst]
  exact ⟨fun h => h.2, fun h => ⟨hm.up i (free_bit h).1, h⟩⟩
def freeL (m : Mx) (z : Int) : List Nat := if rowB m z then lst (m.free z.toNat) else []
theorem freeL_len (m : Mx) (z : Int) : (freeL m z).length = freeR m z := by unfold freeL freeR; split <;> rfl
/-! Row. -/
def rowAt (m : Mx) (r i : Nat) : Option Jb := m.js.find? fun x => decide (x.row = r) && decide (tz x.ns = i)
def rowU (m : Mx) (r k : Nat) : List Nat := ((List.range k).filterMap (rowAt m r)).map (·.id)
theorem rowAt_none {m : Mx} {r i : Nat} (h : ∀ x ∈ m.js, x.row = r → tz x.ns ≠ i) : rowAt m r i = none := by
  refine List.find?_eq_none.2 fun x hx => ?_
  simp only [Bool.and_eq_true, decide_eq_true_eq, not_and]
  exact h x hx
theorem rowAt_some {m : Mx} (hm : MxOk m) {r i : Nat} {x : Jb} (hx : x ∈ m.js) (h1 : x.row = r) (h2 : tz x.ns = i) : rowAt m r i = some x := by
  cases h : rowAt m r i with
  | none =>
    have := List.find?_eq_none.1 h x hx
    simp [h1, h2] at this
  | some y =>
    have h3 := List.mem_of_find?_eq_some h
    have h4 := List.find?_some h
    simp only [Bool.and_eq_true, decide_eq_true_eq] at h4
    refine congrArg some (Classical.byContradiction fun hne => ?_)
    have hid : y.id ≠ x.id := fun e => hne (id_inj hm.srt h3 hx e)
    exact hm.dis y h3 x hx hid (h4.1.trans h1.symm) i (by rw [← h4.2]; exact mem_lst.1 (tz_mem (hm.some y h3))) (by rw [← h2]; exact mem_lst.1 (tz_mem (hm.some x hx)))
theorem rowU_succ (m : Mx) (r k : Nat) : rowU m r (k + 1) = rowU m r k ++ ((rowAt m r k).map (·.id)).toList := by
  unfold rowU
  rw [List.range_succ, List.filterMap_append, List.map_append]
  cases h : rowAt m r k with
  | none => simp [h]
  | some y => simp [h]
theorem rowU_len (m : Mx) (r : Nat) : ∀ k, (rowU m r k).length ≤ k
  | 0 => Nat.le_refl _
  | k + 1 => by
    have := rowU_len m r k
    rw [rowU_succ, List.length_append]
    cases rowAt m r k with
    | none => simp; omega
    | some y => simp; omega
theorem rowIds_eq0 {m : Mx} {r : Nat} (hr : r < m.R) : rowIds m r = (rowJ m r).map (·.id) := by rw [rowIds, if_pos (rowB_iff.2 ⟨by omega, by omega⟩), Int.toNat_natCast]
theorem rowU_all {m : Mx} (hm : MxOk m) {r : Nat} (hr : r < m.R) : rowU m r m.N = rowIds m r := by
  have key : ∀ d, m.N + d ≤ 16 → rowU m r (m.N + d) = rowU m r m.N := by
    intro d
    induction d with
    | zero => intro _; rfl
    | succ d ih =>
      intro hd
      rw [← Nat.add_assoc, rowU_succ, ih (by omega), rowAt_none fun x hx _ e => ?_]
      · simp
      · have := hm.ns x hx (tz x.ns) (mem_lst.1 (tz_mem (hm.some x hx)))
        omega
  have h16 := hm.N16
  have h := key (16 - m.N) (by omega)
  rw [show m.N + (16 - m.N) = 16 by omega] at h
  rw [← h, rowIds_eq0 hr]
  rfl
/-- What a cell tells: nobody, or a job whose least node it is or not. -/
theorem rowAt_cell {m : Mx} (hm : MxOk m) {r k : Nat} : (atJ m.js r k = 0 ∧ rowAt m r k = none) ∨ ∃ y, look m.js (atJ m.js r k) = some y ∧ y.id = atJ m.js r k ∧ y.row = r ∧ rowAt m r k = if tz y.ns = k then some y else none := by
  by_cases h : ∃ y ∈ m.js, y.row = r ∧ y.ns.getLsbD k = true
  · right
    obtain ⟨y, y1, y2, y3⟩ := h
    have ha := atJ_some hm y1 y2 y3
    refine ⟨y, by rw [ha]; exact look_mem hm.srt y1, ha.symm, y2, ?_⟩
    split
    · rename_i e; exact rowAt_some hm y1 y2 e
    · rename_i e
      refine rowAt_none fun x x1 x2 x3 => e ?_
      have hb : x.ns.getLsbD k = true := by rw [← x3]; exact mem_lst.1 (tz_mem (hm.some x x1))
      have hid : x.id = y.id := Classical.byContradiction fun hne => hm.dis x x1 y y1 hne (x2.trans y2.symm) k hb y3
      rw [← id_inj hm.srt x1 y1 hid]
      exact x3
  · left
    have hno : ∀ y ∈ m.js, y.row = r → y.ns.getLsbD k = false := fun y y1 y2 => by cases hb : y.ns.getLsbD k with | false => rfl | true => exact absurd ⟨y, y1, y2, hb⟩ h
    refine ⟨atJ_none hno, rowAt_none fun x x1 x2 x3 => ?_⟩
    have := hno x x1 x2
    rw [← x3, mem_lst.1 (tz_mem (hm.some x x1))] at this
    cases this
/-! Jobs: put in, one by one, in order. -/
def insU (j : Nat) (done : Bool) : List Nat → Nat → List Nat × Bool
  | _, 0 => ([], done)
  | l, k + 1 =>
    let r := insU j done l k
    let x := l.getD k 0
    if !r.2 && decide (j < x) then (r.1 ++ [j] ++ [x], true) else (r.1 ++ [x], r.2)
def insJ (j : Nat) (l : List Nat) : List Nat := if (insU j false l l.length).2 then (insU j false l l.length).1 else (insU j false l l.length).1 ++ [j]
theorem insU_t {j : Nat} {l : List Nat} {k : Nat} (h : (!(insU j false l k).2 && decide (j < l.getD k 0)) = true) : insU j false l (k + 1) = ((insU j false l k).1 ++ [j] ++ [l.getD k 0], true) := if_pos h
theorem insU_f {j : Nat} {l : List Nat} {k : Nat} (h : ¬ (!(insU j false l k).2 && decide (j < l.getD k 0)) = true) : insU j false l (k + 1) = ((insU j false l k).1 ++ [l.getD k 0], (insU j false l k).2) := if_neg h
theorem insU_len (j : Nat) (l : List Nat) : ∀ k, (insU j false l k).1.length = k + if (insU j false l k).2 then 1 else 0
  | 0 => rfl
  | k + 1 => by
    have ih := insU_len j l k
    by_cases h : (!(insU j false l k).2 && decide (j < l.getD k 0)) = true
    · rw [insU_t h]
      simp only [Bool.and_eq_true, Bool.not_eq_true'] at h
      rw [h.1] at ih
      simp [ih]
    · rw [insU_f h]
      simp only [List.length_append, ih, List.length_singleton]
      omega
theorem insU_perm (j : Nat) (l : List Nat) : ∀ k, k ≤ l.length → (insU j false l k).1.Perm (if (insU j false l k).2 then j :: l.take k else l.take k)
  | 0, _ => by simp [insU]
  | k + 1, hk => by
    have ih := insU_perm j l k (by omega)
    have hx := List.getElem?_eq_getElem (show k < l.length by omega)
    have ht : l.take (k + 1) = l.take k ++ [l.getD k 0] := by rw [List.take_add_one, hx]; simp [List.getD, hx]
    by_cases h : (!(insU j false l k).2 && decide (j < l.getD k 0)) = true
    · rw [insU_t h]
      simp only [Bool.and_eq_true, Bool.not_eq_true'] at h
      rw [h.1] at ih
      simp only [Bool.false_eq_true, if_false] at ih
      simp only [if_true, ht]
      refine ((ih.append_right _).append_right _).trans ?_
      exact (List.perm_append_comm.append_right _)
    · rw [insU_f h, ht]
      simp only
      by_cases h2 : (insU j false l k).2 = true
      · rw [if_pos h2] at ih ⊢
        exact ih.append_right _
      · rw [if_neg h2] at ih ⊢
        exact ih.append_right _
theorem insJ_perm (j : Nat) (l : List Nat) : (insJ j l).Perm (j :: l) := by
  have h := insU_perm j l l.length (Nat.le_refl _)
  rw [List.take_length] at h
  unfold insJ
  by_cases e : (insU j false l l.length).2 = true
  · rw [if_pos e] at h ⊢; exact h
  · rw [if_neg e] at h ⊢; exact (h.append_right _).trans List.perm_append_comm
theorem insU_rise {j : Nat} {l : List Nat} (hl : l.Pairwise (· < ·)) (hj : j ∉ l) : ∀ k, k ≤ l.length → (insU j false l k).1.Pairwise (· < ·) ∧ ((insU j false l k).2 = false → (insU j false l k).1 = l.take k ∧ ∀ x ∈ l.take k, x < j)
  | 0, _ => ⟨List.Pairwise.nil, fun _ => ⟨rfl, fun x hx => by cases hx⟩⟩
  | k + 1, hk => by
    obtain ⟨h1, h2⟩ := insU_rise hl hj k (by omega)
    have hk' : k < l.length := by omega
    have hx := List.getElem?_eq_getElem hk'
    have hg : l.getD k 0 = l[k] := by simp [List.getD, hx]
    have ht : l.take (k + 1) = l.take k ++ [l[k]] := by rw [List.take_add_one, hx]; rfl
    have hlt : ∀ x ∈ l.take k, x < l[k] := fun x hx' => by
      have h9 := hl
      rw [← List.take_append_drop k l, List.drop_eq_getElem_cons hk'] at h9
      exact (List.pairwise_append.1 h9).2.2 x hx' _ (List.mem_cons_self ..)
    have hperm := insU_perm j l k (by omega)
    by_cases h : (!(insU j false l k).2 && decide (j < l.getD k 0)) = true
    · rw [insU_t h]
      rw [hg] at h ⊢
      simp only [Bool.and_eq_true, Bool.not_eq_true', decide_eq_true_eq] at h
      obtain ⟨h3, h4⟩ := h2 h.1
      refine ⟨?_, fun e => by cases e⟩
      rw [h3]
      refine List.pairwise_append.2 ⟨List.pairwise_append.2 ⟨h3 ▸ h1, List.pairwise_singleton _ _, fun a ha b hb => ?_⟩, List.pairwise_singleton _ _, fun a ha b hb => ?_⟩
      · rw [List.mem_singleton] at hb
        rw [hb]
        exact h4 a ha
      · rw [List.mem_singleton] at hb
        rw [hb]
        rcases List.mem_append.1 ha with ha | ha
        · exact hlt a ha
        · rw [List.mem_singleton] at ha
          rw [ha]
          exact h.2
    · rw [insU_f h]
      rw [hg] at h ⊢
      simp only
      refine ⟨List.pairwise_append.2 ⟨h1, List.pairwise_singleton _ _, fun a ha b hb => ?_⟩, fun e => ?_⟩
      · rw [List.mem_singleton] at hb
        rw [hb]
        have ha' := hperm.mem_iff.1 ha
        by_cases h5 : (insU j false l k).2 = true
        · rw [if_pos h5] at ha'
          rcases List.mem_cons.1 ha' with rfl | ha'
          · have h6 := insU_less hl hj k (by omega) h5
            exact Nat.lt_trans h6.2 (hlt _ h6.1)
          · exact hlt a ha'
        · rw [if_neg h5] at ha'
          exact hlt a ha'
      · obtain ⟨h3, h4⟩ := h2 e
        rw [e] at h
        simp only [Bool.not_false, Bool.true_and, decide_eq_true_eq] at h
        refine ⟨by rw [h3, ht], fun x hx' => ?_⟩
        rw [ht, List.mem_append, List.mem_singleton] at hx'
        rcases hx' with hx' | rfl
        · exact h4 x hx'
        · have : j ≠ l[k] := fun e9 => hj (by rw [e9]; exact List.getElem_mem hk')
          omega
where
  insU_less {j : Nat} {l : List Nat} (hl : l.Pairwise (· < ·)) (hj : j ∉ l) : ∀ k, (hk : k ≤ l.length) → (insU j false l k).2 = true → (l.getD (k - 1) 0) ∈ l.take k ∧ j < l.getD (k - 1) 0
    | 0, _, h => by cases h
    | k + 1, hk, h => by
      have hk' : k < l.length := by omega
      have hx := List.getElem?_eq_getElem hk'
      have hg : l.getD k 0 = l[k] := by simp [List.getD, hx]
      have ht : l.take (k + 1) = l.take k ++ [l[k]] := by rw [List.take_add_one, hx]; rfl
      simp only [Nat.add_sub_cancel, hg]
      refine ⟨by rw [ht]; exact List.mem_append_right _ (List.mem_singleton.2 rfl), ?_⟩
      by_cases h2 : (!(insU j false l k).2 && decide (j < l.getD k 0)) = true
      · rw [hg] at h2
        simp only [Bool.and_eq_true, decide_eq_true_eq] at h2
        exact h2.2
      · rw [insU_f h2] at h
        obtain ⟨h3, h4⟩ := insU_less hl hj k (by omega) h
        have h9 := hl
        rw [← List.take_append_drop k l, List.drop_eq_getElem_cons hk'] at h9
        exact Nat.lt_trans h4 ((List.pairwise_append.1 h9).2.2 _ h3 _ (List.mem_cons_self ..))
theorem insJ_rise {j : Nat} {l : List Nat} (hl : l.Pairwise (· < ·)) (hj : j ∉ l) : (insJ j l).Pairwise (· < ·) := by
  obtain ⟨h1, h2⟩ := insU_rise hl hj l.length (Nat.le_refl _)
  unfold insJ
  by_cases e : (insU j false l l.length).2 = true
  · rw [if_pos e]; exact h1
  · rw [if_neg e]
    obtain ⟨h3, h4⟩ := h2 (by simpa using e)
    rw [List.take_length] at h3 h4
    rw [h3]
    refine List.pairwise_append.2 ⟨hl, List.pairwise_singleton _ _, fun a ha b hb => ?_⟩
    rw [List.mem_singleton] at hb
    rw [hb]
    exact h4 a ha
def insAll (l : List Nat) : List Nat → List Nat := fun js => js.foldl (fun a j => insJ j a) l
theorem insAll_ok : ∀ (js l : List Nat), l.Pairwise (· < ·) → (l ++ js).Nodup → (insAll l js).Perm (l ++ js) ∧ (insAll l js).Pairwise (· < ·)
  | [], l, hl, _ => ⟨by simp [insAll], hl⟩
  | j :: js, l, hl, hn => by
    have hj : j ∉ l := fun h => by
      have := (List.nodup_append.1 hn).2.2 j h j (List.mem_cons_self ..)
      exact this rfl
    have hp := insJ_perm j l
    have h1 := insJ_rise hl hj
    have hp2 : (insJ j l ++ js).Perm (l ++ j :: js) := (hp.append_right js).trans List.perm_middle.symm
    obtain ⟨h3, h4⟩ := insAll_ok js (insJ j l) h1 (hp2.nodup_iff.2 hn)
    exact ⟨h3.trans hp2, h4⟩
/-- All rows' jobs, one row behind the other. -/
def rowsIds (m : Mx) : Nat → List Nat
  | 0 => []
  | r + 1 => rowsIds m r ++ rowIds m r
theorem mem_rowsIds {m : Mx} (hm : MxOk m) {j : Nat} : ∀ {r : Nat}, r ≤ m.R → (j ∈ rowsIds m r ↔ ∃ x ∈ m.js, x.row < r ∧ x.id = j)
  | 0, _ => by simp [rowsIds]
  | r + 1, hr => by
    rw [rowsIds, List.mem_append, mem_rowsIds hm (by omega)]
    have h9 : j ∈ rowIds m r ↔ ∃ x ∈ m.js, x.row = r ∧ x.id = j := by
      rw [rowIds_eq0 (by omega), List.mem_map]
      constructor
      · rintro ⟨x, h1, h2⟩; exact ⟨x, ((mem_rowJ hm).1 h1).1, ((mem_rowJ hm).1 h1).2, h2⟩
      · rintro ⟨x, h1, h2, h3⟩; exact ⟨x, (mem_rowJ hm).2 ⟨h1, h2⟩, h3⟩
    rw [h9]
    constructor
    · rintro (⟨x, h1, h2, h3⟩ | ⟨x, h1, h2, h3⟩)
      · exact ⟨x, h1, by omega, h3⟩
      · exact ⟨x, h1, by omega, h3⟩
    · rintro ⟨x, h1, h2, h3⟩
      by_cases e : x.row = r
      · exact .inr ⟨x, h1, e, h3⟩
      · exact .inl ⟨x, h1, by omega, h3⟩
theorem rowsIds_nodup {m : Mx} (hm : MxOk m) : ∀ r, r ≤ m.R → (rowsIds m r).Nodup
  | 0, _ => List.nodup_nil
  | r + 1, hr => by
    rw [rowsIds]
    refine List.nodup_append.2 ⟨rowsIds_nodup hm r (by omega), ?_, fun a ha b hb e => ?_⟩
    · rw [rowIds_eq0 (by omega)]
      exact List.pairwise_map.2 (rowJ_srt.imp_of_mem fun {a b} ha hb h e => by rw [id_inj hm.srt ((mem_rowJ hm).1 ha).1 ((mem_rowJ hm).1 hb).1 e] at h; omega)
    · obtain ⟨x, x1, x2, x3⟩ := (mem_rowsIds hm (by omega)).1 ha
      rw [rowIds_eq0 (by omega)] at hb
      obtain ⟨y, y1, y2⟩ := List.mem_map.1 hb
      have h9 := (mem_rowJ hm).1 y1
      have h8 := id_inj hm.srt x1 h9.1 (by rw [x3, y2, e])
      rw [h8] at x2
      omega

theorem insAll_rows {m : Mx} (hm : MxOk m) : insAll [] (rowsIds m m.R) = m.js.map (·.id) := by
  obtain ⟨h1, h2⟩ := insAll_ok (rowsIds m m.R) [] List.Pairwise.nil (by simpa using rowsIds_nodup hm m.R (Nat.le_refl _))
  refine rise_ext h2 (List.pairwise_map.2 hm.srt) fun j => ?_
  rw [h1.mem_iff, List.nil_append, mem_rowsIds hm (Nat.le_refl _), List.mem_map]
  constructor
  · rintro ⟨x, x1, _, x3⟩; exact ⟨x, x1, x3⟩
  · rintro ⟨x, x1, x3⟩; exact ⟨x, x1, hm.row x x1, x3⟩
end Go.Proofs.YtegjmmocnffpiaaDoor
/- The document's matrix: Free, Row, Remove, Place, Next. -/
namespace Go.Proofs.YtegjmmocnffpiaaDoor
open Go.RowKit
set_option maxRecDepth 20000
theorem flat1 (l : List Nat) : l.flatMap (fun i : Nat => [nv i]) = nds l := by
  induction l with
  | nil => rfl
  | cons a l ih => rw [List.flatMap_cons, ih]; rfl
theorem ints_casts (l : List Nat) : ints (casts l) = nds l := by
  show (l.map _).map _ = l.map _
  rw [List.map_map]
  rfl
theorem rdTake {s : SV} {T : TypeId} {l : List Nat} {k : Nat} (hk : k ≤ s.n) : RdS (own s T 1 (nds l)) ⟨s.a, k, s.c⟩ k 1 (ints (casts (l.take k))) := by
  have h0 : RdS (own s T 1 (nds l)) s s.n 1 (l.flatMap fun i : Nat => [nv i]) := by rw [flat1]; exact RdS.own
  have h := RdS.take (enc := fun i : Nat => [nv i]) (sz := 1) (fun _ => rfl) (by omega) h0 hk
  rw [flat1] at h
  rw [ints_casts]
  exact h
theorem rowIds_zero {m : Mx} (hm : MxOk m) {f : Nat} (hf : f < m.R) : rowIds m f = [] ↔ tk m.js f = 0#16 := by
  have h9 : ∀ j, j ∈ rowIds m f ↔ ∃ x ∈ m.js, x.row = f ∧ x.id = j := fun j => by
    rw [rowIds_eq0 hf, List.mem_map]
    constructor
    · rintro ⟨x, h1, h2⟩; exact ⟨x, ((mem_rowJ hm).1 h1).1, ((mem_rowJ hm).1 h1).2, h2⟩
    · rintro ⟨x, h1, h2, h3⟩; exact ⟨x, (mem_rowJ hm).2 ⟨h1, h2⟩, h3⟩
  constructor
  · intro h
    refine BitVec.eq_of_getLsbD_eq fun i _ => ?_
    cases hb : (tk m.js f).getLsbD i with
    | false => simp
    | true =>
      obtain ⟨x, x1, x2, _⟩ := (tk_bit _ _ _).1 hb
      have := (h9 x.id).2 ⟨x, x1, x2, rfl⟩
      rw [h] at this
      cases this
  · intro h
    refine List.eq_nil_iff_forall_not_mem.2 fun j hj => ?_
    obtain ⟨x, x1, x2, _⟩ := (h9 j).1 hj
    have := (tk_bit m.js f (tz x.ns)).2 ⟨x, x1, x2, mem_lst.1 (tz_mem (hm.some x x1))⟩
    rw [h] at this
    simp at this
theorem rFree_S (b : Nat) (m : Mx) (z : Int) : Spec Tryd.prog 44 [.pointer (some ⟨b, 0, none⟩), .int .i64 z] [RI b m] fun Γ v Θ => ∃ sv : SV, v = sv.v ∧ sv.n = (freeL m z).length ∧ Θ = own sv 3 1 (nds (freeL m z)) :: RI b m :: Γ := by
  refine Spec.riOk fun hm => ?_
  refine Spec.of_body Tryd.func44 rfl Tryd.ntmps44 rfl ?_
  intro w0 Γ
  show S _ w0 [(0, .pointer (some ⟨b, 0, none⟩)), (1, .int .i64 z)] (RI b m :: Γ) _
  have hR8 := hm.R8
  have hN16 := hm.N16
  have hN1 := hm.N1
  refine S.riOpen b m fun cs us rs hri => ?_
  have hcn := hri.cn
  have hun := hri.un
  refine S.ownSome cs (by have := hm.R1; omega) fun cb co hca _ _ _ => ?_
  refine S.ownSome us (by omega) fun ub uo hua _ _ _ => ?_
  refine S.ent (Ent.ownNil 3 1) ?_
  show S _ w0 _ (own SV.nil 3 1 (nds []) :: riX b m cs us rs Γ) _
  refine S.seq fun K1 hK1 => ?_
  refine S.region rfl ?_
  refine S.op (S.q (q_assign rfl) rfl rfl ?_)
  first | with_reducible refine S.nilK ?_ | refine S.nil ?_
  refine hK1 _ _ ?_
  refine S.seq fun K2 hK2 => ?_
  refine S.region rfl ?_
  refine S.op (S.q (q_assign rfl) rfl rfl ?_)
  first | with_reducible refine S.nilK ?_ | refine S.nil ?_
  refine hK2 _ _ ?_
  refine S.seq fun K3 hK3 => ?_
  refine S.seq fun K4 hK4 => ?_
  refine S.cut (fun ρ' Γ' => ρ' = [(0, .pointer (some ⟨b, 0, none⟩)), (1, .int .i64 z), (5, SV.nil.v), (22, .bool (rowB m z))] ∧ Γ' = own SV.nil 3 1 (nds []) :: riX b m cs us rs Γ) ?_ ?_
  · refine S.regionG ?_
    refine S.g_op rfl (S.q (q_move rfl) rfl rfl ?_)
    refine S.g_op rfl (S.q (q_neN Tryd.underlying26 rfl rfl) rfl rfl ?_)
    refine S.g_op rfl (S.q (q_move rfl) rfl rfl ?_)
    refine S.g_yes rfl rfl rfl (rfl) (S.q (q_move rfl) rfl rfl ?_)
    refine S.g_yes rfl rfl rfl (rfl) (S.q (q_ge rfl rfl) rfl rfl ?_)
    refine S.g_op rfl (S.q (q_pickT rfl (rfl) rfl) rfl rfl ?_)
    refine S.g_op rfl (S.q (q_move rfl) rfl rfl ?_)
    by_cases hg2_6 : (0 : Int) ≤ z
    · refine S.g_yes rfl rfl rfl (decide_eq_true hg2_6) (S.q (q_move rfl) rfl rfl ?_)
      refine S.g_yes rfl rfl rfl (decide_eq_true hg2_6) (S.q (q_move rfl) rfl rfl ?_)
      refine S.g_yes rfl rfl rfl (decide_eq_true hg2_6) (S.q (q_nilCheck rfl) rfl rfl ?_)
      refine S.g_yes rfl rfl rfl (decide_eq_true hg2_6) (S.q (q_field Tryd.fo55_0 rfl) rfl rfl ?_)
      refine S.g_yes rfl rfl rfl (decide_eq_true hg2_6) (S.q (q_load Tryd.at52 rfl rfl) rfl rfl ?_)
      refine S.g_yes rfl rfl rfl (decide_eq_true hg2_6) (S.q (q_len Tryd.underlying52 rfl) rfl rfl ?_)
      refine S.g_yes rfl rfl rfl (decide_eq_true hg2_6) (S.q (q_lt rfl rfl) rfl rfl ?_)
      refine S.g_op rfl (S.q (q_pickT rfl (decide_eq_true hg2_6) rfl) rfl rfl ?_)
      first | with_reducible refine S.g_nilK ?_ | refine S.g_nil ?_
      with_reducible repeat (first | refine S.then_n ?_ | refine S.then_x ?_ | refine S.then_r ?_ | refine S.inBlock_n ?_ | refine S.inBlock_r ?_ | refine S.inBlock_x rfl ?_ | refine S.noGoto_r ?_ | refine S.noGoto_n ?_ | refine S.noGoto_x ?_)
      first | (rw [show rowB m z = false by rw [rowB, decide_eq_false hg2_6]; rfl]; exact S.meet ⟨rfl, rfl⟩ ⟨rfl, rfl, rfl, rfl, trivial⟩ Sub.ent) | (rw [show rowB m z = decide (z < (cs.n : Int)) by rw [rowB, decide_eq_true hg2_6, hcn]; rfl]; exact S.meet ⟨rfl, rfl⟩ ⟨rfl, rfl, rfl, rfl, trivial⟩ Sub.ent)
    · refine S.g_no rfl rfl rfl (decide_eq_false hg2_6) rfl rfl ?_
      refine S.g_no rfl rfl rfl (decide_eq_false hg2_6) rfl rfl ?_
      refine S.g_no rfl rfl rfl (decide_eq_false hg2_6) rfl rfl ?_
      refine S.g_no rfl rfl rfl (decide_eq_false hg2_6) rfl rfl ?_
      refine S.g_no rfl rfl rfl (decide_eq_false hg2_6) rfl rfl ?_
      refine S.g_no rfl rfl rfl (decide_eq_false hg2_6) rfl rfl ?_
      refine S.g_no rfl rfl rfl (decide_eq_false hg2_6) rfl rfl ?_
      refine S.g_op rfl (S.q (q_pickF rfl (decide_eq_false hg2_6) rfl) rfl rfl ?_)
      first | with_reducible refine S.g_nilK ?_ | refine S.g_nil ?_
      with_reducible repeat (first | refine S.then_n ?_ | refine S.then_x ?_ | refine S.then_r ?_ | refine S.inBlock_n ?_ | refine S.inBlock_r ?_ | refine S.inBlock_x rfl ?_ | refine S.noGoto_r ?_ | refine S.noGoto_n ?_ | refine S.noGoto_x ?_)
      first | (rw [show rowB m z = false by rw [rowB, decide_eq_false hg2_6]; rfl]; exact S.meet ⟨rfl, rfl⟩ ⟨rfl, rfl, rfl, rfl, trivial⟩ Sub.ent) | (rw [show rowB m z = decide (z < (cs.n : Int)) by rw [rowB, decide_eq_true hg2_6, hcn]; rfl]; exact S.meet ⟨rfl, rfl⟩ ⟨rfl, rfl, rfl, rfl, trivial⟩ Sub.ent)
  · rintro ρ' Γ' ⟨rfl, rfl⟩
    refine hK4 _ _ ?_
    refine S.cut (fun ρ' Γ' => ∃ sv : SV, sv.n = (freeL m z).length ∧ ρ' = [(5, sv.v)] ∧ Γ' = own sv 3 1 (nds (freeL m z)) :: riX b m cs us rs Γ) ?_ ?_
    · refine S.cond rfl (fun h1 => ?_) (fun h1 => ?_)
      · have hz := rowB_iff.1 h1
        obtain ⟨r, rfl⟩ : ∃ r : Nat, z = r := ⟨z.toNat, by omega⟩
        have hfl : freeL m r = lst (m.free r) := by rw [freeL, if_pos h1, Int.toNat_natCast]
        obtain ⟨p, hp, hpd, hpn⟩ := hri.at_ (show r < m.R by omega)
        have hRp : RdS (alls rs rrB) p.1 p.1.n 1 (idsV p.2) := RdS.alls hp RdS.own
        refine S.rSome hRp (by omega) fun pb po hpa => ?_
        refine S.seq fun K5 hK5 => ?_
        refine S.region rfl ?_
        refine S.op (S.q (q_move rfl) rfl rfl ?_)
        refine S.op (S.q (q_nilCheck rfl) rfl rfl ?_)
        refine S.op (S.q (q_field Tryd.fo55_0 rfl) rfl rfl ?_)
        refine S.op (S.q (q_load Tryd.at52 rfl rfl) rfl rfl ?_)
        refine S.op (S.q (q_move rfl) rfl rfl ?_)
        refine S.op (S.q (q_indexO (r) Tryd.el52 rfl hca rfl rfl (by omega)) rfl rfl ?_)
        refine S.op (S.q (q_loadOw (cs) (r) Tryd.at31 rfl hca (by first | rfl | exact Nat.add_assoc _ _ _ | omega) (by rw [List.getElem?_map, hp]; rfl)) rfl rfl ?_)
        refine S.op (S.q (q_len Tryd.underlying31 rfl) rfl rfl ?_)
        refine S.op (S.q (q_move rfl) rfl rfl ?_)
        first | with_reducible refine S.nilK ?_ | refine S.nil ?_
        refine hK5 _ _ ?_
        refine S.block ?_
        refine S.loop (fun q ρ' Γ' => ∃ (k : Nat) (sv : SV) (nl : List Nat), q = m.N - k ∧ k ≤ m.N ∧ nl = bitU (m.free r) k ∧ sv.n = nl.length ∧ ρ' = [(0, .pointer (some ⟨b, 0, none⟩)), (5, sv.v), (29, p.1.v), (30, .int .i64 p.1.n), (31, .int .i64 (k : Int))] ∧   Γ' = own sv 3 1 (nds nl) :: riX b m cs us rs Γ) (m := _) (ρ0 := _) (Γ0 := _) (⟨0, SV.nil, [], rfl, by omega, rfl, rfl, rfl, rfl⟩) (by repeat (first | exact trivial | refine ⟨rfl, ?_⟩)) Sub.ent ?_
        rintro q ρ' Γ' ⟨k, sv, nl, hq, hk, hnl, hsv, rfl, rfl⟩
        have hlen := bitU_len (m.free r) k
        rw [← hnl] at hlen
        refine S.seq fun K6 hK6 => ?_
        refine S.region rfl ?_
        refine S.op (S.q (q_lt rfl rfl) rfl rfl ?_)
        first | with_reducible refine S.nilK ?_ | refine S.nil ?_
        refine hK6 _ _ ?_
        refine S.seq fun K7 hK7 => ?_
        refine S.condD rfl (fun h2 => ?_) (fun h2 => ?_)
        · have hxa := rowN_get (m := m) (i := k) (by omega) r
          rw [← hpd] at hxa
          have hfr := free_atJ hm (r := r) (i := k) (by omega)
          have hup : (upC m)[k]? = some (.bool (m.up.getLsbD k)) := by rw [List.getElem?_map, List.getElem?_range (by omega)]; rfl
          refine S.skip ?_
          with_reducible repeat (first | refine S.then_n ?_ | refine S.then_x ?_ | refine S.then_r ?_ | refine S.inBlock_n ?_ | refine S.inBlock_r ?_ | refine S.inBlock_x rfl ?_ | refine S.noGoto_r ?_ | refine S.noGoto_n ?_ | refine S.noGoto_x ?_)
          refine hK7 _ _ ?_
          refine S.seq fun K8 hK8 => ?_
          refine S.block ?_
          refine S.seq fun K9 hK9 => ?_
          refine S.region rfl ?_
          refine S.op (S.q (q_move rfl) rfl rfl ?_)
          refine S.op (S.q (q_indexO (k) Tryd.el31 rfl hpa rfl rfl (by omega)) rfl rfl ?_)
          refine S.op (S.q (q_loadR hRp k Tryd.at68 rfl hpa (by omega) (by omega) (idsV_get hxa)) rfl rfl ?_)
          refine S.op (S.q (q_assign rfl) rfl rfl ?_)
          refine S.op (S.q (q_assign rfl) rfl rfl ?_)
          first | with_reducible refine S.nilK ?_ | refine S.nil ?_
          refine hK9 _ _ ?_
          refine S.seq fun K10 hK10 => ?_
          refine S.cut (fun ρ' Γ' => ρ' = [(0, .pointer (some ⟨b, 0, none⟩)), (5, sv.v), (6, .int .i64 (k : Int)), (29, p.1.v), (30, .int .i64 p.1.n), (31, .int .i64 (k : Int)), (46, .bool ((m.free r).getLsbD k))] ∧ Γ' = own sv 3 1 (nds nl) :: riX b m cs us rs Γ) ?_ ?_
          · refine S.regionG ?_
            refine S.g_op rfl (S.q (q_move rfl) rfl rfl ?_)
            refine S.g_op rfl (S.q (q_eq rfl rfl) rfl rfl ?_)
            refine S.g_op rfl (S.q (q_move rfl) rfl rfl ?_)
            by_cases hg6_2 : (atJ m.js r k : Int) = 0
            · refine S.g_yes rfl rfl rfl (decide_eq_true hg6_2) (S.q (q_move rfl) rfl rfl ?_)
              refine S.g_yes rfl rfl rfl (decide_eq_true hg6_2) (S.q (q_nilCheck rfl) rfl rfl ?_)
              refine S.g_yes rfl rfl rfl (decide_eq_true hg6_2) (S.q (q_field Tryd.fo55_1 rfl) rfl rfl ?_)
              refine S.g_yes rfl rfl rfl (decide_eq_true hg6_2) (S.q (q_load Tryd.at53 rfl rfl) rfl rfl ?_)
              refine S.g_yes rfl rfl rfl (decide_eq_true hg6_2) (S.q (q_move rfl) rfl rfl ?_)
              refine S.g_yes rfl rfl rfl (decide_eq_true hg6_2) (S.q (q_indexO (k) Tryd.el53 rfl hua rfl rfl (by omega)) rfl rfl ?_)
              refine S.g_yes rfl rfl rfl (decide_eq_true hg6_2) (S.q (q_loadOw (us) (k) Tryd.at4 rfl hua (by first | rfl | exact Nat.add_assoc _ _ _ | omega) (hup)) rfl rfl ?_)
              refine S.g_op rfl (S.q (q_pickT rfl (decide_eq_true hg6_2) rfl) rfl rfl ?_)
              first | with_reducible refine S.g_nilK ?_ | refine S.g_nil ?_
              with_reducible repeat (first | refine S.then_n ?_ | refine S.then_x ?_ | refine S.then_r ?_ | refine S.inBlock_n ?_ | refine S.inBlock_r ?_ | refine S.inBlock_x rfl ?_ | refine S.noGoto_r ?_ | refine S.noGoto_n ?_ | refine S.noGoto_x ?_)
              first | (rw [show (m.free r).getLsbD k = m.up.getLsbD k by rw [hfr, decide_eq_true (by omega)]; rfl]; exact S.meet ⟨rfl, rfl⟩ ⟨rfl, rfl, rfl, rfl, rfl, rfl, rfl, trivial⟩ Sub.ent) | (rw [show (m.free r).getLsbD k = false by rw [hfr, decide_eq_false (by omega)]; rfl]; exact S.meet ⟨rfl, rfl⟩ ⟨rfl, rfl, rfl, rfl, rfl, rfl, rfl, trivial⟩ Sub.ent)
            · refine S.g_no rfl rfl rfl (decide_eq_false hg6_2) rfl rfl ?_
              refine S.g_no rfl rfl rfl (decide_eq_false hg6_2) rfl rfl ?_
              refine S.g_no rfl rfl rfl (decide_eq_false hg6_2) rfl rfl ?_
              refine S.g_no rfl rfl rfl (decide_eq_false hg6_2) rfl rfl ?_
              refine S.g_no rfl rfl rfl (decide_eq_false hg6_2) rfl rfl ?_
              refine S.g_no rfl rfl rfl (decide_eq_false hg6_2) rfl rfl ?_
              refine S.g_no rfl rfl rfl (decide_eq_false hg6_2) rfl rfl ?_
              refine S.g_op rfl (S.q (q_pickF rfl (decide_eq_false hg6_2) rfl) rfl rfl ?_)
              first | with_reducible refine S.g_nilK ?_ | refine S.g_nil ?_
              with_reducible repeat (first | refine S.then_n ?_ | refine S.then_x ?_ | refine S.then_r ?_ | refine S.inBlock_n ?_ | refine S.inBlock_r ?_ | refine S.inBlock_x rfl ?_ | refine S.noGoto_r ?_ | refine S.noGoto_n ?_ | refine S.noGoto_x ?_)
              first | (rw [show (m.free r).getLsbD k = m.up.getLsbD k by rw [hfr, decide_eq_true (by omega)]; rfl]; exact S.meet ⟨rfl, rfl⟩ ⟨rfl, rfl, rfl, rfl, rfl, rfl, rfl, trivial⟩ Sub.ent) | (rw [show (m.free r).getLsbD k = false by rw [hfr, decide_eq_false (by omega)]; rfl]; exact S.meet ⟨rfl, rfl⟩ ⟨rfl, rfl, rfl, rfl, rfl, rfl, rfl, trivial⟩ Sub.ent)
          · rintro ρ' Γ' ⟨rfl, rfl⟩
            refine hK10 _ _ ?_
            refine S.cond rfl (fun h3 => ?_) (fun h3 => ?_)
            · have hs4 : nl ++ [k] = bitU (m.free r) (k + 1) := by rw [bitU, if_pos h3, hnl]
              have hl4 : (nl ++ [k]).length = nl.length + 1 := by simp
              have hd4 : nds nl ++ [.int .i64 (k : Int)] = nds (nl ++ [k]) := by simp
              refine S.region rfl ?_
              refine S.op (S.q (q_move rfl) rfl rfl ?_)
              refine S.op (S.q (q_move rfl) rfl rfl ?_)
              refine S.op (S.buildSlice (pvs := [(_, _)]) [_] Tryd.underlying69 Tryd.inf3 rfl rfl ⟨⟨rfl, rfl⟩, trivial⟩ rfl rfl ?_)
              intro b49
              refine S.op (S.appendOw (s := sv) (1) ([.int .i64 (k : Int)]) Tryd.underlying69 Tryd.inf3 rfl rfl rfl (blk_slAt (b := b49) rfl (by unfold maxLen; omega)) (by first | rfl | exact allOne_bcells _) (⟨by omega, by omega⟩) rfl ?_)
              intro sv2 hsv2
              refine S.op (S.q (q_assign rfl) rfl rfl ?_)
              first | with_reducible refine S.nilK ?_ | refine S.nil ?_
              with_reducible repeat (first | refine S.then_n ?_ | refine S.then_x ?_ | refine S.then_r ?_ | refine S.inBlock_n ?_ | refine S.inBlock_r ?_ | refine S.inBlock_x rfl ?_ | refine S.noGoto_r ?_ | refine S.noGoto_n ?_ | refine S.noGoto_x ?_)
              refine hK8 _ _ ?_
              refine S.region rfl ?_
              refine S.op (S.q (q_add rfl rfl (inI64 (by omega) (by omega))) rfl rfl ?_)
              refine S.op (S.q (q_move rfl) rfl rfl ?_)
              first | with_reducible refine S.nilK ?_ | refine S.nil ?_
              with_reducible repeat (first | refine S.then_n ?_ | refine S.then_x ?_ | refine S.then_r ?_ | refine S.inBlock_n ?_ | refine S.inBlock_r ?_ | refine S.inBlock_x rfl ?_ | refine S.noGoto_r ?_ | refine S.noGoto_n ?_ | refine S.noGoto_x ?_)
              first | (rw [hd4]; exact S.next (q - 1) ⟨k + 1, sv2, nl ++ [k], by omega, by omega, hs4, by omega, rfl, rfl⟩ (by omega) (by repeat (first | exact trivial | refine ⟨rfl, ?_⟩)) Sub.ent) | exact S.next (q - 1) ⟨k + 1, sv, nl, by omega, by omega, hs4, hsv, rfl, rfl⟩ (by omega) (by repeat (first | exact trivial | refine ⟨rfl, ?_⟩)) Sub.ent
            · have hs4 : nl = bitU (m.free r) (k + 1) := by rw [bitU, if_neg (by rw [h3]; decide), hnl]
              refine S.skip ?_
              with_reducible repeat (first | refine S.then_n ?_ | refine S.then_x ?_ | refine S.then_r ?_ | refine S.inBlock_n ?_ | refine S.inBlock_r ?_ | refine S.inBlock_x rfl ?_ | refine S.noGoto_r ?_ | refine S.noGoto_n ?_ | refine S.noGoto_x ?_)
              with_reducible repeat (first | refine S.then_n ?_ | refine S.then_x ?_ | refine S.then_r ?_ | refine S.inBlock_n ?_ | refine S.inBlock_r ?_ | refine S.inBlock_x rfl ?_ | refine S.noGoto_r ?_ | refine S.noGoto_n ?_ | refine S.noGoto_x ?_)
              refine hK8 _ _ ?_
              refine S.region rfl ?_
              refine S.op (S.q (q_add rfl rfl (inI64 (by omega) (by omega))) rfl rfl ?_)
              refine S.op (S.q (q_move rfl) rfl rfl ?_)
              first | with_reducible refine S.nilK ?_ | refine S.nil ?_
              with_reducible repeat (first | refine S.then_n ?_ | refine S.then_x ?_ | refine S.then_r ?_ | refine S.inBlock_n ?_ | refine S.inBlock_r ?_ | refine S.inBlock_x rfl ?_ | refine S.noGoto_r ?_ | refine S.noGoto_n ?_ | refine S.noGoto_x ?_)
              first | (rw [hd4]; exact S.next (q - 1) ⟨k + 1, sv2, nl ++ [k], by omega, by omega, hs4, by omega, rfl, rfl⟩ (by omega) (by repeat (first | exact trivial | refine ⟨rfl, ?_⟩)) Sub.ent) | exact S.next (q - 1) ⟨k + 1, sv, nl, by omega, by omega, hs4, hsv, rfl, rfl⟩ (by omega) (by repeat (first | exact trivial | refine ⟨rfl, ?_⟩)) Sub.ent
        · have hkN : k = m.N := by omega
          rw [hkN, bitU_free hm] at hnl
          refine S.exit ?_
          with_reducible repeat (first | refine S.then_n ?_ | refine S.then_x ?_ | refine S.then_r ?_ | refine S.inBlock_n ?_ | refine S.inBlock_r ?_ | refine S.inBlock_x rfl ?_ | refine S.noGoto_r ?_ | refine S.noGoto_n ?_ | refine S.noGoto_x ?_)
          with_reducible refine S.inBlock_s ?_
          with_reducible repeat (first | refine S.then_n ?_ | refine S.then_x ?_ | refine S.then_r ?_ | refine S.inBlock_n ?_ | refine S.inBlock_r ?_ | refine S.inBlock_x rfl ?_ | refine S.noGoto_r ?_ | refine S.noGoto_n ?_ | refine S.noGoto_x ?_)
          with_reducible repeat (first | refine S.then_n ?_ | refine S.then_x ?_ | refine S.then_r ?_ | refine S.inBlock_n ?_ | refine S.inBlock_r ?_ | refine S.inBlock_x rfl ?_ | refine S.noGoto_r ?_ | refine S.noGoto_n ?_ | refine S.noGoto_x ?_)
          first | (rw [hfl]; exact S.meet ⟨SV.nil, rfl, rfl, rfl⟩ ⟨rfl, trivial⟩ Sub.ent) | (rw [hfl, ← hnl]; exact S.meet ⟨sv, hsv, rfl, rfl⟩ ⟨rfl, trivial⟩ Sub.ent)
      · have hfl : freeL m z = [] := by rw [freeL, h1]; rfl
        refine S.skip ?_
        with_reducible repeat (first | refine S.then_n ?_ | refine S.then_x ?_ | refine S.then_r ?_ | refine S.inBlock_n ?_ | refine S.inBlock_r ?_ | refine S.inBlock_x rfl ?_ | refine S.noGoto_r ?_ | refine S.noGoto_n ?_ | refine S.noGoto_x ?_)
        with_reducible repeat (first | refine S.then_n ?_ | refine S.then_x ?_ | refine S.then_r ?_ | refine S.inBlock_n ?_ | refine S.inBlock_r ?_ | refine S.inBlock_x rfl ?_ | refine S.noGoto_r ?_ | refine S.noGoto_n ?_ | refine S.noGoto_x ?_)
        first | (rw [hfl]; exact S.meet ⟨SV.nil, rfl, rfl, rfl⟩ ⟨rfl, trivial⟩ Sub.ent) | (rw [hfl, ← hnl]; exact S.meet ⟨sv, hsv, rfl, rfl⟩ ⟨rfl, trivial⟩ Sub.ent)
    · rintro ρ' Γ' ⟨sv, hsv, rfl, rfl⟩
      refine hK3 _ _ ?_
      refine S.seq fun K11 hK11 => ?_
      refine S.region rfl ?_
      refine S.op (S.q (q_move rfl) rfl rfl ?_)
      refine S.op (S.q (q_assign rfl) rfl rfl ?_)
      first | with_reducible refine S.nilK ?_ | refine S.nil ?_
      refine hK11 _ _ ?_
      refine S.ret ?_
      with_reducible repeat (first | refine S.then_n ?_ | refine S.then_x ?_ | refine S.then_r ?_ | refine S.inBlock_n ?_ | refine S.inBlock_r ?_ | refine S.inBlock_x rfl ?_ | refine S.noGoto_r ?_ | refine S.noGoto_n ?_ | refine S.noGoto_x ?_)
      refine S.riClose b m cs us rs hri ?_
      exact S.fin (rs := [_]) (vs := [_]) Tryd.results44 (⟨rfl, trivial⟩)  (⟨sv, rfl, hsv, rfl⟩) Sub.ent
theorem rRow_S (b : Nat) (m : Mx) (z : Int) : Spec Tryd.prog 19 [.pointer (some ⟨b, 0, none⟩), .int .i64 z] [RI b m] fun Γ v Θ => ∃ sv : SV, v = sv.v ∧ sv.n = (rowIds m z).length ∧ Θ = own sv 68 1 (idsV (rowIds m z)) :: RI b m :: Γ := by
  refine Spec.riOk fun hm => ?_
  refine Spec.of_body Tryd.func19 rfl Tryd.ntmps19 rfl ?_
  intro w0 Γ
  show S _ w0 [(0, .pointer (some ⟨b, 0, none⟩)), (1, .int .i64 z)] (RI b m :: Γ) _
  have hR8 := hm.R8
  have hN16 := hm.N16
  have hN1 := hm.N1
  refine S.riOpen b m fun cs us rs hri => ?_
  have hcn := hri.cn
  refine S.ownSome cs (by have := hm.R1; omega) fun cb co hca _ _ _ => ?_
  refine S.ent (Ent.ownNil 68 1) ?_
  show S _ w0 _ (own SV.nil 68 1 (idsV []) :: riX b m cs us rs Γ) _
  refine S.seq fun K1 hK1 => ?_
  refine S.region rfl ?_
  refine S.op (S.q (q_assign rfl) rfl rfl ?_)
  first | with_reducible refine S.nilK ?_ | refine S.nil ?_
  refine hK1 _ _ ?_
  refine S.seq fun K2 hK2 => ?_
  refine S.region rfl ?_
  refine S.op (S.q (q_assign rfl) rfl rfl ?_)
  first | with_reducible refine S.nilK ?_ | refine S.nil ?_
  refine hK2 _ _ ?_
  refine S.seq fun K3 hK3 => ?_
  refine S.seq fun K4 hK4 => ?_
  refine S.cut (fun ρ' Γ' => ρ' = [(0, .pointer (some ⟨b, 0, none⟩)), (1, .int .i64 z), (5, SV.nil.v), (25, .bool (!rowB m z))] ∧ Γ' = own SV.nil 68 1 (idsV []) :: riX b m cs us rs Γ) ?_ ?_
  · refine S.regionG ?_
    refine S.g_op rfl (S.q (q_move rfl) rfl rfl ?_)
    refine S.g_op rfl (S.q (q_eqN Tryd.underlying26 rfl rfl) rfl rfl ?_)
    refine S.g_op rfl (S.q (q_move rfl) rfl rfl ?_)
    refine S.g_yes rfl rfl rfl (rfl) (S.q (q_move rfl) rfl rfl ?_)
    refine S.g_yes rfl rfl rfl (rfl) (S.q (q_lt rfl rfl) rfl rfl ?_)
    refine S.g_op rfl (S.q (q_pickF rfl (rfl) rfl) rfl rfl ?_)
    refine S.g_op rfl (S.q (q_move rfl) rfl rfl ?_)
    by_cases hg2_6 : z < (0 : Int)
    · refine S.g_no rfl rfl rfl (decide_eq_true hg2_6) rfl rfl ?_
      refine S.g_no rfl rfl rfl (decide_eq_true hg2_6) rfl rfl ?_
      refine S.g_no rfl rfl rfl (decide_eq_true hg2_6) rfl rfl ?_
      refine S.g_no rfl rfl rfl (decide_eq_true hg2_6) rfl rfl ?_
      refine S.g_no rfl rfl rfl (decide_eq_true hg2_6) rfl rfl ?_
      refine S.g_no rfl rfl rfl (decide_eq_true hg2_6) rfl rfl ?_
      refine S.g_no rfl rfl rfl (decide_eq_true hg2_6) rfl rfl ?_
      refine S.g_op rfl (S.q (q_pickT rfl (decide_eq_true hg2_6) rfl) rfl rfl ?_)
      first | with_reducible refine S.g_nilK ?_ | refine S.g_nil ?_
      with_reducible repeat (first | refine S.then_n ?_ | refine S.then_x ?_ | refine S.then_r ?_ | refine S.inBlock_n ?_ | refine S.inBlock_r ?_ | refine S.inBlock_x rfl ?_ | refine S.noGoto_r ?_ | refine S.noGoto_n ?_ | refine S.noGoto_x ?_)
      first | (rw [show rowB m z = false by rw [rowB, decide_eq_false (by omega)]; rfl]; exact S.meet ⟨rfl, rfl⟩ ⟨rfl, rfl, rfl, rfl, trivial⟩ Sub.ent) | (rw [show (!rowB m z) = decide ((cs.n : Int) ≤ z) by rw [rowB, decide_eq_true (by omega), hcn, Bool.true_and, ← decide_not]; exact decide_eq_decide.2 (by omega)]; exact S.meet ⟨rfl, rfl⟩ ⟨rfl, rfl, rfl, rfl, trivial⟩ Sub.ent)
    · refine S.g_yes rfl rfl rfl (decide_eq_false hg2_6) (S.q (q_move rfl) rfl rfl ?_)
      refine S.g_yes rfl rfl rfl (decide_eq_false hg2_6) (S.q (q_move rfl) rfl rfl ?_)
      refine S.g_yes rfl rfl rfl (decide_eq_false hg2_6) (S.q (q_nilCheck rfl) rfl rfl ?_)
      refine S.g_yes rfl rfl rfl (decide_eq_false hg2_6) (S.q (q_field Tryd.fo55_0 rfl) rfl rfl ?_)
      refine S.g_yes rfl rfl rfl (decide_eq_false hg2_6) (S.q (q_load Tryd.at52 rfl rfl) rfl rfl ?_)
      refine S.g_yes rfl rfl rfl (decide_eq_false hg2_6) (S.q (q_len Tryd.underlying52 rfl) rfl rfl ?_)
      refine S.g_yes rfl rfl rfl (decide_eq_false hg2_6) (S.q (q_ge rfl rfl) rfl rfl ?_)
      refine S.g_op rfl (S.q (q_pickF rfl (decide_eq_false hg2_6) rfl) rfl rfl ?_)
      first | with_reducible refine S.g_nilK ?_ | refine S.g_nil ?_
      with_reducible repeat (first | refine S.then_n ?_ | refine S.then_x ?_ | refine S.then_r ?_ | refine S.inBlock_n ?_ | refine S.inBlock_r ?_ | refine S.inBlock_x rfl ?_ | refine S.noGoto_r ?_ | refine S.noGoto_n ?_ | refine S.noGoto_x ?_)
      first | (rw [show rowB m z = false by rw [rowB, decide_eq_false (by omega)]; rfl]; exact S.meet ⟨rfl, rfl⟩ ⟨rfl, rfl, rfl, rfl, trivial⟩ Sub.ent) | (rw [show (!rowB m z) = decide ((cs.n : Int) ≤ z) by rw [rowB, decide_eq_true (by omega), hcn, Bool.true_and, ← decide_not]; exact decide_eq_decide.2 (by omega)]; exact S.meet ⟨rfl, rfl⟩ ⟨rfl, rfl, rfl, rfl, trivial⟩ Sub.ent)
  · rintro ρ' Γ' ⟨rfl, rfl⟩
    refine hK4 _ _ ?_
    refine S.cond rfl (fun h1 => ?_) (fun h1 => ?_)
    · have hfl : rowIds m z = [] := by rw [rowIds, show rowB m z = false by simpa using h1]; rfl
      refine S.seq fun K5 hK5 => ?_
      refine S.region rfl ?_
      refine S.op (S.q (q_assign rfl) rfl rfl ?_)
      first | with_reducible refine S.nilK ?_ | refine S.nil ?_
      refine hK5 _ _ ?_
      refine S.ret ?_
      with_reducible repeat (first | refine S.then_n ?_ | refine S.then_x ?_ | refine S.then_r ?_ | refine S.inBlock_n ?_ | refine S.inBlock_r ?_ | refine S.inBlock_x rfl ?_ | refine S.noGoto_r ?_ | refine S.noGoto_n ?_ | refine S.noGoto_x ?_)
      refine S.riClose b m cs us rs hri ?_
      exact S.fin (rs := [_]) (vs := [_]) Tryd.results19 (⟨rfl, trivial⟩)  (⟨SV.nil, rfl, by rw [hfl]; rfl, by rw [hfl]⟩) Sub.ent
    · have h1 : rowB m z = true := by simpa using h1
      have hz := rowB_iff.1 h1
      obtain ⟨r, rfl⟩ : ∃ r : Nat, z = r := ⟨z.toNat, by omega⟩
      obtain ⟨p, hp, hpd, hpn⟩ := hri.at_ (show r < m.R by omega)
      have hRp : RdS (alls rs rrB) p.1 p.1.n 1 (idsV p.2) := RdS.alls hp RdS.own
      refine S.rSome hRp (by omega) fun pb po hpa => ?_
      refine S.skip ?_
      with_reducible repeat (first | refine S.then_n ?_ | refine S.then_x ?_ | refine S.then_r ?_ | refine S.inBlock_n ?_ | refine S.inBlock_r ?_ | refine S.inBlock_x rfl ?_ | refine S.noGoto_r ?_ | refine S.noGoto_n ?_ | refine S.noGoto_x ?_)
      refine hK3 _ _ ?_
      refine S.seq fun K6 hK6 => ?_
      refine S.seq fun K7 hK7 => ?_
      refine S.region rfl ?_
      refine S.op (S.q (q_move rfl) rfl rfl ?_)
      refine S.op (S.q (q_nilCheck rfl) rfl rfl ?_)
      refine S.op (S.q (q_field Tryd.fo55_0 rfl) rfl rfl ?_)
      refine S.op (S.q (q_load Tryd.at52 rfl rfl) rfl rfl ?_)
      refine S.op (S.q (q_move rfl) rfl rfl ?_)
      refine S.op (S.q (q_indexO (r) Tryd.el52 rfl hca rfl rfl (by omega)) rfl rfl ?_)
      refine S.op (S.q (q_loadOw (cs) (r) Tryd.at31 rfl hca (by first | rfl | exact Nat.add_assoc _ _ _ | omega) (by rw [List.getElem?_map, hp]; rfl)) rfl rfl ?_)
      refine S.op (S.q (q_len Tryd.underlying31 rfl) rfl rfl ?_)
      refine S.op (S.q (q_move rfl) rfl rfl ?_)
      first | with_reducible refine S.nilK ?_ | refine S.nil ?_
      refine hK7 _ _ ?_
      refine S.block ?_
      refine S.loop (fun q ρ' Γ' => ∃ (k : Nat) (sv : SV) (nl : List Nat), q = m.N - k ∧ k ≤ m.N ∧ nl = rowU m r k ∧ sv.n = nl.length ∧ ρ' = [(0, .pointer (some ⟨b, 0, none⟩)), (5, sv.v), (32, p.1.v), (33, .int .i64 p.1.n), (34, .int .i64 (k : Int))] ∧   Γ' = own sv 68 1 (idsV nl) :: riX b m cs us rs Γ) (m := _) (ρ0 := _) (Γ0 := _) (⟨0, SV.nil, [], rfl, by omega, rfl, rfl, rfl, rfl⟩) (by repeat (first | exact trivial | refine ⟨rfl, ?_⟩)) Sub.ent ?_
      rintro q ρ' Γ' ⟨k, sv, nl, hq, hk, hnl, hsv, rfl, rfl⟩
      have hlen := rowU_len m r k
      rw [← hnl] at hlen
      refine S.seq fun K8 hK8 => ?_
      refine S.region rfl ?_
      refine S.op (S.q (q_lt rfl rfl) rfl rfl ?_)
      first | with_reducible refine S.nilK ?_ | refine S.nil ?_
      refine hK8 _ _ ?_
      refine S.seq fun K9 hK9 => ?_
      refine S.condD rfl (fun h2 => ?_) (fun h2 => ?_)
      · obtain ⟨x, hx⟩ : ∃ x, x = atJ m.js r k := ⟨_, rfl⟩
        have hxa := rowN_get (m := m) (i := k) (by omega) r
        have hcell := rowAt_cell hm (r := r) (k := k)
        rw [← hpd, ← hx] at hxa
        rw [← hx] at hcell
        have hsucc := rowU_succ m r k
        have hok : (ofR m x).2.2 = true → ∃ y, look m.js x = some y ∧ y.id = x ∧ rowAt m r k = (if tz y.ns = k then some y else none) ∧ lst y.ns ≠ [] := fun h => by
          rcases hcell with ⟨h0, _⟩ | ⟨y, h2, h3, _, h4⟩
          · rw [ofR_none (show look m.js x = none from (by
              cases e : look m.js x with
              | none => rfl
              | some y => have := look_some e; have := hm.id1 y this.1; omega))] at h
            cases h
          · exact ⟨y, h2, h3, h4, fun e => hm.some y (look_some h2).1 (lst_nil.1 e)⟩
        have hno : (ofR m x).2.2 = false → rowAt m r k = none := fun h => by
          rcases hcell with ⟨_, h0⟩ | ⟨y, h2, _, _, _⟩
          · exact h0
          · rw [ofR_some h2] at h; cases h
        refine S.skip ?_
        with_reducible repeat (first | refine S.then_n ?_ | refine S.then_x ?_ | refine S.then_r ?_ | refine S.inBlock_n ?_ | refine S.inBlock_r ?_ | refine S.inBlock_x rfl ?_ | refine S.noGoto_r ?_ | refine S.noGoto_n ?_ | refine S.noGoto_x ?_)
        refine hK9 _ _ ?_
        refine S.seq fun K10 hK10 => ?_
        refine S.block ?_
        refine S.seq fun K11 hK11 => ?_
        refine S.region rfl ?_
        refine S.op (S.q (q_move rfl) rfl rfl ?_)
        refine S.op (S.q (q_indexO (k) Tryd.el31 rfl hpa rfl rfl (by omega)) rfl rfl ?_)
        refine S.op (S.q (q_loadR hRp k Tryd.at68 rfl hpa (by omega) (by omega) (idsV_get hxa)) rfl rfl ?_)
        refine S.op (S.q (q_assign rfl) rfl rfl ?_)
        refine S.op (S.q (q_assign rfl) rfl rfl ?_)
        first | with_reducible refine S.nilK ?_ | refine S.nil ?_
        refine hK11 _ _ ?_
        refine S.seq fun K12 hK12 => ?_
        refine S.region rfl ?_
        refine S.op (S.q (q_move rfl) rfl rfl ?_)
        refine S.op (S.q (q_move rfl) rfl rfl ?_)
        refine S.op (S.call Tryd.en46 (vs := [_, _]) ⟨rfl, rfl, trivial⟩ (rOfX_S b m x cs us rs hri) rfl ?_)
        rintro v Θ ⟨nv1, rfl, hnv, rfl⟩
        refine S.op (S.q (q_move rfl) rfl rfl ?_)
        refine S.op (S.q (q_extract rfl rfl) rfl rfl ?_)
        refine S.op (S.q (q_extract rfl rfl) rfl rfl ?_)
        refine S.op (S.q (q_extract rfl rfl) rfl rfl ?_)
        refine S.op (S.q (q_assign rfl) rfl rfl ?_)
        refine S.op (S.q (q_assign rfl) rfl rfl ?_)
        refine S.op (S.q (q_assign rfl) rfl rfl ?_)
        first | with_reducible refine S.nilK ?_ | refine S.nil ?_
        refine hK12 _ _ ?_
        refine S.seq fun K13 hK13 => ?_
        refine S.cut (fun ρ' Γ' => ∃ bb : Bool, rowU m r (k + 1) = (if bb = true then nl ++ [x] else nl) ∧ ρ' = [(0, .pointer (some ⟨b, 0, none⟩)), (5, sv.v), (7, .int .u32 (x : Int)), (32, p.1.v), (33, .int .i64 p.1.n), (34, .int .i64 (k : Int)), (53, .bool bb)] ∧ Γ' = own sv 68 1 (idsV nl) :: riX b m cs us rs Γ) ?_ ?_
        · refine S.regionG ?_
          refine S.g_op rfl (S.q (q_move rfl) rfl rfl ?_)
          refine S.g_op rfl (S.q (q_move rfl) rfl rfl ?_)
          rcases Bool.eq_false_or_eq_true ((ofR m x).2.2) with hg8_1 | hg8_1
          · obtain ⟨y, hy1, hy2, hy3, hy4⟩ := hok hg8_1
            have hof := ofR_some hy1
            have hlp : 0 < (lst y.ns).length := List.length_pos_iff.2 hy4
            have hl0 : (lst y.ns)[0]? = some (tz y.ns) := by
              rw [tz]
              cases e : lst y.ns with
              | nil => exact absurd e hy4
              | cons t l => rfl
            rw [hof] at hnv hg8_1
            have hnv : nv1.n = (lst y.ns).length := hnv
            refine S.ownSome nv1 (by omega) fun nb no hna _ _ _ => ?_
            rw [hof]
            show S _ w0 _ (own nv1 3 1 (nds (lst y.ns)) :: _) _
            refine S.g_yes rfl rfl rfl (hg8_1) (S.q (q_move rfl) rfl rfl ?_)
            refine S.g_yes rfl rfl rfl (hg8_1) (S.q (q_indexO (0) Tryd.el69 rfl hna rfl rfl (by omega)) rfl rfl ?_)
            refine S.g_yes rfl rfl rfl (hg8_1) (S.q (q_loadOw (nv1) (0) Tryd.at3 rfl hna (by first | rfl | exact Nat.add_assoc _ _ _ | omega) (by rw [List.getElem?_map, hl0]; rfl)) rfl rfl ?_)
            refine S.g_yes rfl rfl rfl (hg8_1) (S.q (q_move rfl) rfl rfl ?_)
            refine S.g_yes rfl rfl rfl (hg8_1) (S.q (q_eq rfl rfl) rfl rfl ?_)
            refine S.g_op rfl (S.q (q_pickT rfl (hg8_1) rfl) rfl rfl ?_)
            first | with_reducible refine S.g_nilK ?_ | refine S.g_nil ?_
            with_reducible repeat (first | refine S.then_n ?_ | refine S.then_x ?_ | refine S.then_r ?_ | refine S.inBlock_n ?_ | refine S.inBlock_r ?_ | refine S.inBlock_x rfl ?_ | refine S.noGoto_r ?_ | refine S.noGoto_n ?_ | refine S.noGoto_x ?_)
            first | exact S.meet ⟨false, by rw [hsucc, hno hg8_1, hnl]; simp, rfl, rfl⟩ ⟨rfl, rfl, rfl, rfl, rfl, rfl, rfl, trivial⟩ Sub.ent | exact S.meet ⟨decide ((tz y.ns : Int) = (k : Int)), (by rw [hsucc, hy3, hnl]; by_cases e : tz y.ns = k <;> simp [e, hy2]; omega), rfl, rfl⟩ ⟨rfl, rfl, rfl, rfl, rfl, rfl, rfl, trivial⟩ Sub.ent
          · refine S.g_no rfl rfl rfl (hg8_1) rfl rfl ?_
            refine S.g_no rfl rfl rfl (hg8_1) rfl rfl ?_
            refine S.g_no rfl rfl rfl (hg8_1) rfl rfl ?_
            refine S.g_no rfl rfl rfl (hg8_1) rfl rfl ?_
            refine S.g_no rfl rfl rfl (hg8_1) rfl rfl ?_
            refine S.g_op rfl (S.q (q_pickF rfl (hg8_1) rfl) rfl rfl ?_)
            first | with_reducible refine S.g_nilK ?_ | refine S.g_nil ?_
            with_reducible repeat (first | refine S.then_n ?_ | refine S.then_x ?_ | refine S.then_r ?_ | refine S.inBlock_n ?_ | refine S.inBlock_r ?_ | refine S.inBlock_x rfl ?_ | refine S.noGoto_r ?_ | refine S.noGoto_n ?_ | refine S.noGoto_x ?_)
            first | exact S.meet ⟨false, by rw [hsucc, hno hg8_1, hnl]; simp, rfl, rfl⟩ ⟨rfl, rfl, rfl, rfl, rfl, rfl, rfl, trivial⟩ Sub.ent | exact S.meet ⟨decide ((tz y.ns : Int) = (k : Int)), (by rw [hsucc, hy3, hnl]; by_cases e : tz y.ns = k <;> simp [e, hy2]; omega), rfl, rfl⟩ ⟨rfl, rfl, rfl, rfl, rfl, rfl, rfl, trivial⟩ Sub.ent
        · rintro ρ' Γ' ⟨bb, hbb, rfl, rfl⟩
          clear hcell hok hno hsucc
          refine hK13 _ _ ?_
          refine S.cond rfl (fun h3 => ?_) (fun h3 => ?_)
          · rw [h3] at hbb
            have hs4 : nl ++ [x] = rowU m r (k + 1) := by rw [hbb]; rfl
            have hl4 : (nl ++ [x]).length = nl.length + 1 := by simp
            have hd4 : idsV nl ++ [.int .u32 (x : Int)] = idsV (nl ++ [x]) := by simp
            refine S.region rfl ?_
            refine S.op (S.q (q_move rfl) rfl rfl ?_)
            refine S.op (S.q (q_move rfl) rfl rfl ?_)
            refine S.op (S.buildSlice (pvs := [(_, _)]) [_] Tryd.underlying31 Tryd.inf68 rfl rfl ⟨⟨rfl, rfl⟩, trivial⟩ rfl rfl ?_)
            intro b56
            refine S.op (S.appendOw (s := sv) (1) ([.int .u32 (x : Int)]) Tryd.underlying31 Tryd.inf68 rfl rfl rfl (blk_slAt (b := b56) rfl (by unfold maxLen; omega)) (by first | rfl | exact allOne_bcells _) (⟨by omega, by omega⟩) rfl ?_)
            intro sv2 hsv2
            refine S.op (S.q (q_assign rfl) rfl rfl ?_)
            first | with_reducible refine S.nilK ?_ | refine S.nil ?_
            with_reducible repeat (first | refine S.then_n ?_ | refine S.then_x ?_ | refine S.then_r ?_ | refine S.inBlock_n ?_ | refine S.inBlock_r ?_ | refine S.inBlock_x rfl ?_ | refine S.noGoto_r ?_ | refine S.noGoto_n ?_ | refine S.noGoto_x ?_)
            refine hK10 _ _ ?_
            refine S.region rfl ?_
            refine S.op (S.q (q_add rfl rfl (inI64 (by omega) (by omega))) rfl rfl ?_)
            refine S.op (S.q (q_move rfl) rfl rfl ?_)
            first | with_reducible refine S.nilK ?_ | refine S.nil ?_
            with_reducible repeat (first | refine S.then_n ?_ | refine S.then_x ?_ | refine S.then_r ?_ | refine S.inBlock_n ?_ | refine S.inBlock_r ?_ | refine S.inBlock_x rfl ?_ | refine S.noGoto_r ?_ | refine S.noGoto_n ?_ | refine S.noGoto_x ?_)
            first | (rw [hd4]; exact S.next (q - 1) ⟨k + 1, sv2, nl ++ [x], by omega, by omega, hs4, by omega, rfl, rfl⟩ (by omega) (by repeat (first | exact trivial | refine ⟨rfl, ?_⟩)) Sub.ent) | exact S.next (q - 1) ⟨k + 1, sv, nl, by omega, by omega, hs4, hsv, rfl, rfl⟩ (by omega) (by repeat (first | exact trivial | refine ⟨rfl, ?_⟩)) Sub.ent
          · rw [h3] at hbb
            have hs4 : nl = rowU m r (k + 1) := by rw [hbb]; rfl
            refine S.skip ?_
            with_reducible repeat (first | refine S.then_n ?_ | refine S.then_x ?_ | refine S.then_r ?_ | refine S.inBlock_n ?_ | refine S.inBlock_r ?_ | refine S.inBlock_x rfl ?_ | refine S.noGoto_r ?_ | refine S.noGoto_n ?_ | refine S.noGoto_x ?_)
            with_reducible repeat (first | refine S.then_n ?_ | refine S.then_x ?_ | refine S.then_r ?_ | refine S.inBlock_n ?_ | refine S.inBlock_r ?_ | refine S.inBlock_x rfl ?_ | refine S.noGoto_r ?_ | refine S.noGoto_n ?_ | refine S.noGoto_x ?_)
            refine hK10 _ _ ?_
            refine S.region rfl ?_
            refine S.op (S.q (q_add rfl rfl (inI64 (by omega) (by omega))) rfl rfl ?_)
            refine S.op (S.q (q_move rfl) rfl rfl ?_)
            first | with_reducible refine S.nilK ?_ | refine S.nil ?_
            with_reducible repeat (first | refine S.then_n ?_ | refine S.then_x ?_ | refine S.then_r ?_ | refine S.inBlock_n ?_ | refine S.inBlock_r ?_ | refine S.inBlock_x rfl ?_ | refine S.noGoto_r ?_ | refine S.noGoto_n ?_ | refine S.noGoto_x ?_)
            first | (rw [hd4]; exact S.next (q - 1) ⟨k + 1, sv2, nl ++ [x], by omega, by omega, hs4, by omega, rfl, rfl⟩ (by omega) (by repeat (first | exact trivial | refine ⟨rfl, ?_⟩)) Sub.ent) | exact S.next (q - 1) ⟨k + 1, sv, nl, by omega, by omega, hs4, hsv, rfl, rfl⟩ (by omega) (by repeat (first | exact trivial | refine ⟨rfl, ?_⟩)) Sub.ent
      · have hkN : k = m.N := by omega
        rw [hkN, rowU_all hm (by omega)] at hnl
        subst hnl
        refine S.exit ?_
        with_reducible repeat (first | refine S.then_n ?_ | refine S.then_x ?_ | refine S.then_r ?_ | refine S.inBlock_n ?_ | refine S.inBlock_r ?_ | refine S.inBlock_x rfl ?_ | refine S.noGoto_r ?_ | refine S.noGoto_n ?_ | refine S.noGoto_x ?_)
        with_reducible refine S.inBlock_s ?_
        with_reducible repeat (first | refine S.then_n ?_ | refine S.then_x ?_ | refine S.then_r ?_ | refine S.inBlock_n ?_ | refine S.inBlock_r ?_ | refine S.inBlock_x rfl ?_ | refine S.noGoto_r ?_ | refine S.noGoto_n ?_ | refine S.noGoto_x ?_)
        refine hK6 _ _ ?_
        refine S.seq fun K14 hK14 => ?_
        refine S.region rfl ?_
        refine S.op (S.q (q_move rfl) rfl rfl ?_)
        refine S.op (S.q (q_assign rfl) rfl rfl ?_)
        first | with_reducible refine S.nilK ?_ | refine S.nil ?_
        refine hK14 _ _ ?_
        refine S.ret ?_
        with_reducible repeat (first | refine S.then_n ?_ | refine S.then_x ?_ | refine S.then_r ?_ | refine S.inBlock_n ?_ | refine S.inBlock_r ?_ | refine S.inBlock_x rfl ?_ | refine S.noGoto_r ?_ | refine S.noGoto_n ?_ | refine S.noGoto_x ?_)
        refine S.riClose b m cs us rs hri ?_
        exact S.fin (rs := [_]) (vs := [_]) Tryd.results19 (⟨rfl, trivial⟩)  (⟨sv, rfl, hsv, rfl⟩) Sub.ent
theorem rRemove_S (b : Nat) (m : Mx) (j : Nat) : Spec Tryd.prog 33 [.pointer (some ⟨b, 0, none⟩), .int .u32 (j : Int)] [RI b m] fun Γ v Θ => v = .int .i64 (removeR m j).1 ∧ Θ = RI b (removeR m j).2 :: Γ := by
  refine Spec.riOk fun hm => ?_
  refine Spec.of_body Tryd.func33 rfl Tryd.ntmps33 rfl ?_
  intro w0 Γ
  show S _ w0 [(0, .pointer (some ⟨b, 0, none⟩)), (1, .int .u32 (j : Int))] (RI b m :: Γ) _
  have hR8 := hm.R8
  have hN16 := hm.N16
  refine S.seq fun K1 hK1 => ?_
  refine S.region rfl ?_
  refine S.op (S.q (q_assign rfl) rfl rfl ?_)
  first | with_reducible refine S.nilK ?_ | refine S.nil ?_
  refine hK1 _ _ ?_
  refine S.seq fun K2 hK2 => ?_
  refine S.region rfl ?_
  refine S.op (S.q (q_move rfl) rfl rfl ?_)
  refine S.op (S.q (q_move rfl) rfl rfl ?_)
  refine S.op (S.call Tryd.en46 (vs := [_, _]) ⟨rfl, rfl, trivial⟩ (rOf_S b m j) rfl ?_)
  rintro v Θ ⟨sv, rfl, hsv, rfl⟩
  refine S.op (S.q (q_move rfl) rfl rfl ?_)
  refine S.op (S.q (q_extract rfl rfl) rfl rfl ?_)
  refine S.op (S.q (q_extract rfl rfl) rfl rfl ?_)
  refine S.op (S.q (q_extract rfl rfl) rfl rfl ?_)
  refine S.op (S.q (q_assign rfl) rfl rfl ?_)
  refine S.op (S.q (q_assign rfl) rfl rfl ?_)
  refine S.op (S.q (q_assign rfl) rfl rfl ?_)
  first | with_reducible refine S.nilK ?_ | refine S.nil ?_
  refine hK2 _ _ ?_
  refine S.seq fun K3 hK3 => ?_
  refine S.seq fun K4 hK4 => ?_
  refine S.region rfl ?_
  refine S.op (S.q (q_move rfl) rfl rfl ?_)
  refine S.op (S.q (q_not rfl) rfl rfl ?_)
  first | with_reducible refine S.nilK ?_ | refine S.nil ?_
  refine hK4 _ _ ?_
  refine S.cond rfl (fun h1 => ?_) (fun h1 => ?_)
  · have hlk : look m.js j = none := by
      cases h : look m.js j with
      | none => rfl
      | some x => rw [ofR_some h] at h1; cases h1
    have hrm := removeR_none hlk
    refine S.seq fun K5 hK5 => ?_
    refine S.region rfl ?_
    refine S.op (S.q (q_assign rfl) rfl rfl ?_)
    first | with_reducible refine S.nilK ?_ | refine S.nil ?_
    refine hK5 _ _ ?_
    refine S.ret ?_
    with_reducible repeat (first | refine S.then_n ?_ | refine S.then_x ?_ | refine S.then_r ?_ | refine S.inBlock_n ?_ | refine S.inBlock_r ?_ | refine S.inBlock_x rfl ?_ | refine S.noGoto_r ?_ | refine S.noGoto_n ?_ | refine S.noGoto_x ?_)
    exact S.fin (rs := [_]) (vs := [_]) Tryd.results33 (⟨rfl, trivial⟩)  (⟨by rw [hrm]; rfl, by rw [hrm]⟩) Sub.ent
  · obtain ⟨x, hlk⟩ : ∃ x, look m.js j = some x := by
      cases h : look m.js j with
      | none => rw [ofR_none h] at h1; cases h1
      | some x => exact ⟨x, rfl⟩
    obtain ⟨hx, hxj⟩ := look_some hlk
    have hrm := removeR_some hlk
    have hof := ofR_some hlk
    have hxr := hm.row x hx
    rw [hof] at hsv
    have hsv : sv.n = (lst x.ns).length := hsv
    rw [hof]
    show S _ w0 _ (own sv 3 1 (nds (lst x.ns)) :: RI b m :: Γ) _
    have hl16 := lst_len x.ns
    have hl1 : 0 < (lst x.ns).length := List.length_pos_iff.2 fun e => hm.some x hx (lst_nil.1 e)
    refine S.ownSome sv (by omega) fun sb so hsa _ _ _ => ?_
    refine S.riOpen b m fun cs us rs hri => ?_
    have hcn := hri.cn
    refine S.ownSome cs (by omega) fun cb co hca _ _ _ => ?_
    obtain ⟨p, hp, hpd, hpn⟩ := hri.at_ hxr
    refine S.rSome (RdS.alls (F := rrB) hp RdS.own) (by have := hm.N1; omega) fun pb po hpa => ?_
    refine S.conv (alls rs rrB) (Ent.allsAt rrB hp _) ?_
    show S _ w0 _ (own p.1 68 1 (idsV p.2) :: alls (rs.take x.row) rrB :: alls (rs.drop (x.row + 1)) rrB :: _) _
    refine S.skip ?_
    with_reducible repeat (first | refine S.then_n ?_ | refine S.then_x ?_ | refine S.then_r ?_ | refine S.inBlock_n ?_ | refine S.inBlock_r ?_ | refine S.inBlock_x rfl ?_ | refine S.noGoto_r ?_ | refine S.noGoto_n ?_ | refine S.noGoto_x ?_)
    refine hK3 _ _ ?_
    refine S.seq fun K6 hK6 => ?_
    refine S.seq fun K7 hK7 => ?_
    refine S.region rfl ?_
    refine S.op (S.q (q_move rfl) rfl rfl ?_)
    refine S.op (S.q (q_len Tryd.underlying69 rfl) rfl rfl ?_)
    refine S.op (S.q (q_move rfl) rfl rfl ?_)
    first | with_reducible refine S.nilK ?_ | refine S.nil ?_
    refine hK7 _ _ ?_
    refine S.block ?_
    refine S.loop (fun q ρ' Γ' => ∃ (i : Nat) (d : List Nat), q = (lst x.ns).length - i ∧ i ≤ (lst x.ns).length ∧ d = setAll p.2 ((lst x.ns).take i) 0 ∧ ρ' = [(0, .pointer (some ⟨b, 0, none⟩)), (5, .int .i64 (x.row : Int)), (19, sv.v), (20, .int .i64 sv.n), (21, .int .i64 (i : Int))] ∧   Γ' = own p.1 68 1 (idsV d) :: alls (rs.take x.row) rrB :: alls (rs.drop (x.row + 1)) rrB :: blk b 55 #[cs.v, us.v] :: own cs 31 1 (rs.map rrV) :: own us 4 1 (upC m) :: own sv 3 1 (nds (lst x.ns)) :: Γ) (m := _) (ρ0 := _) (Γ0 := _) (⟨0, p.2, rfl, by omega, rfl, rfl, rfl⟩) (by repeat (first | exact trivial | refine ⟨rfl, ?_⟩)) Sub.ent ?_
    rintro q ρ' Γ' ⟨i, d, hq, hi, hd, rfl, rfl⟩
    have hdl : d.length = m.N := by rw [hd, setAll_len, hpd, rowN_len]
    refine S.seq fun K8 hK8 => ?_
    refine S.region rfl ?_
    refine S.op (S.q (q_lt rfl rfl) rfl rfl ?_)
    first | with_reducible refine S.nilK ?_ | refine S.nil ?_
    refine hK8 _ _ ?_
    refine S.seq fun K9 hK9 => ?_
    refine S.condD rfl (fun h2 => ?_) (fun h2 => ?_)
    · have hg := List.getElem?_eq_getElem (show i < (lst x.ns).length by omega)
      obtain ⟨y, hy⟩ : ∃ y, (lst x.ns)[i]? = some y := ⟨_, hg⟩
      have hyN : y < m.N := hm.ns x hx y (mem_lst.1 (List.mem_of_getElem? hy))
      have hd2 : d.set y 0 = setAll p.2 ((lst x.ns).take (i + 1)) 0 := by rw [hd, ← setAll_snoc, List.take_add_one, hy]; rfl
      refine S.skip ?_
      with_reducible repeat (first | refine S.then_n ?_ | refine S.then_x ?_ | refine S.then_r ?_ | refine S.inBlock_n ?_ | refine S.inBlock_r ?_ | refine S.inBlock_x rfl ?_ | refine S.noGoto_r ?_ | refine S.noGoto_n ?_ | refine S.noGoto_x ?_)
      refine hK9 _ _ ?_
      refine S.seq fun K10 hK10 => ?_
      refine S.block ?_
      refine S.seq fun K11 hK11 => ?_
      refine S.region rfl ?_
      refine S.op (S.q (q_indexO (i) Tryd.el69 rfl hsa rfl rfl (by omega)) rfl rfl ?_)
      refine S.op (S.q (q_loadOw (sv) (i) Tryd.at3 rfl hsa (by first | rfl | exact Nat.add_assoc _ _ _ | omega) (by rw [List.getElem?_map, hy]; rfl)) rfl rfl ?_)
      refine S.op (S.q (q_assign rfl) rfl rfl ?_)
      first | with_reducible refine S.nilK ?_ | refine S.nil ?_
      refine hK11 _ _ ?_
      refine S.region rfl ?_
      refine S.op (S.q (q_move rfl) rfl rfl ?_)
      refine S.op (S.q (q_nilCheck rfl) rfl rfl ?_)
      refine S.op (S.q (q_field Tryd.fo55_0 rfl) rfl rfl ?_)
      refine S.op (S.q (q_load Tryd.at52 rfl rfl) rfl rfl ?_)
      refine S.op (S.q (q_move rfl) rfl rfl ?_)
      refine S.op (S.q (q_indexO (x.row) Tryd.el52 rfl hca rfl rfl (by omega)) rfl rfl ?_)
      refine S.op (S.q (q_loadOw (cs) (x.row) Tryd.at31 rfl hca (by first | rfl | exact Nat.add_assoc _ _ _ | omega) (by rw [List.getElem?_map, hp]; rfl)) rfl rfl ?_)
      refine S.op (S.q (q_move rfl) rfl rfl ?_)
      refine S.op (S.q (q_indexO (y) Tryd.el31 rfl hpa rfl rfl (by omega)) rfl rfl ?_)
      refine S.op (S.storeOw (p.1) (y) Tryd.at68 rfl rfl rfl hpa (by first | rfl | exact Nat.add_assoc _ _ _ | omega) (by rw [List.length_map]; omega) (idsV_set d y 0) ?_)
      first | with_reducible refine S.nilK ?_ | refine S.nil ?_
      with_reducible repeat (first | refine S.then_n ?_ | refine S.then_x ?_ | refine S.then_r ?_ | refine S.inBlock_n ?_ | refine S.inBlock_r ?_ | refine S.inBlock_x rfl ?_ | refine S.noGoto_r ?_ | refine S.noGoto_n ?_ | refine S.noGoto_x ?_)
      refine hK10 _ _ ?_
      refine S.region rfl ?_
      refine S.op (S.q (q_add rfl rfl (inI64 (by omega) (by omega))) rfl rfl ?_)
      refine S.op (S.q (q_move rfl) rfl rfl ?_)
      first | with_reducible refine S.nilK ?_ | refine S.nil ?_
      with_reducible repeat (first | refine S.then_n ?_ | refine S.then_x ?_ | refine S.then_r ?_ | refine S.inBlock_n ?_ | refine S.inBlock_r ?_ | refine S.inBlock_x rfl ?_ | refine S.noGoto_r ?_ | refine S.noGoto_n ?_ | refine S.noGoto_x ?_)
      exact S.next (q - 1) (⟨i + 1, d.set y 0, by omega, by omega, hd2, rfl, rfl⟩) (by omega) (by repeat (first | exact trivial | refine ⟨rfl, ?_⟩)) Sub.ent
    · have hie : i = (lst x.ns).length := by omega
      rw [hie, List.take_length] at hd
      have hok' := hm.del x.id
      have hri2 : RiOk (m.del x.id) cs us (rs.set x.row (p.1, d)) := hri.set hok' rfl rfl hp (by rw [hd, hpd, rowN_del hm hx, if_pos rfl]) (fun o ho => by rw [rowN_del hm hx, if_neg ho])
      refine S.conv3 (own p.1 68 1 (idsV d)) (alls (rs.take x.row) rrB) (alls (rs.drop (x.row + 1)) rrB) (Ent.allsBack rrB (x' := (p.1, d)) hp _) ?_
      rw [← rrV_set hp d, show upC m = upC (m.del x.id) from rfl]
      refine S.exit ?_
      with_reducible repeat (first | refine S.then_n ?_ | refine S.then_x ?_ | refine S.then_r ?_ | refine S.inBlock_n ?_ | refine S.inBlock_r ?_ | refine S.inBlock_x rfl ?_ | refine S.noGoto_r ?_ | refine S.noGoto_n ?_ | refine S.noGoto_x ?_)
      with_reducible refine S.inBlock_s ?_
      with_reducible repeat (first | refine S.then_n ?_ | refine S.then_x ?_ | refine S.then_r ?_ | refine S.inBlock_n ?_ | refine S.inBlock_r ?_ | refine S.inBlock_x rfl ?_ | refine S.noGoto_r ?_ | refine S.noGoto_n ?_ | refine S.noGoto_x ?_)
      refine hK6 _ _ ?_
      refine S.seq fun K12 hK12 => ?_
      refine S.region rfl ?_
      refine S.op (S.q (q_assign rfl) rfl rfl ?_)
      first | with_reducible refine S.nilK ?_ | refine S.nil ?_
      refine hK12 _ _ ?_
      refine S.ret ?_
      with_reducible repeat (first | refine S.then_n ?_ | refine S.then_x ?_ | refine S.then_r ?_ | refine S.inBlock_n ?_ | refine S.inBlock_r ?_ | refine S.inBlock_x rfl ?_ | refine S.noGoto_r ?_ | refine S.noGoto_n ?_ | refine S.noGoto_x ?_)
      refine S.riClose b (m.del x.id) cs us (rs.set x.row (p.1, d)) hri2 ?_
      exact S.fin (rs := [_]) (vs := [_]) Tryd.results33 (⟨rfl, trivial⟩)  (⟨by rw [hrm]; rfl, by rw [hrm, ← hxj]⟩) Sub.ent
theorem place_put {m : Mx} (hm : MxOk m) {j r k : Nat} (hlk : look m.js j = none) (hj : 1 ≤ j) (hr : r < m.R) (hk : 1 ≤ k) (hl : k ≤ (lst (m.free r)).length) : ((lst (m.free r)).take k).length = k ∧ okUp m (casts ((lst (m.free r)).take k)) (casts ((lst (m.free r)).take k)).length = true ∧ putR m j r (casts ((lst (m.free r)).take k)) = (0, m.add ⟨j, r, leastK (m.free r) k⟩) := by
  obtain ⟨g1, g2, g3⟩ := place_ok hm (r := r) (k := k) hk hl
  have hlk2 := lst_leastK (m.free r) k
  have hlen : ((lst (m.free r)).take k).length = k := by rw [List.length_take]; omega
  have hok2 : okUp m (casts ((lst (m.free r)).take k)) (casts ((lst (m.free r)).take k)).length = true := by
    rw [← hlk2, List.length_map]
    exact okUp_lst m _ g2 _ (Nat.le_refl _)
  have hnats : nats (casts ((lst (m.free r)).take k)) = (lst (m.free r)).take k := by rw [← hlk2]; exact nats_lst _
  have hof : ofL ((lst (m.free r)).take k) = leastK (m.free r) k := by rw [leastK]
  refine ⟨hlen, hok2, ?_⟩
  rw [putR, putOk, hok2, hlk, Int.toNat_natCast, hnats, hof, decide_eq_true (show ((j : Nat) : Int) ≠ 0 by omega), rowB_iff.2 ⟨by omega, by omega⟩, List.length_map, hlen, decide_eq_true (show ((k : Nat) : Int) > 0 by omega), if_neg (by decide), if_neg (by decide), if_neg (fun h => h g3)]
theorem place_yes {m : Mx} {j r : Nat} {k : Int} (h2 : ¬ ((j : Int) = 0 ∨ k < 1)) (hlk : look m.js j = none) (h4 : k ≤ m.N) (hr : r < m.R) (hn : placeRow m k.toNat r = none) (hl : k.toNat ≤ (lst (m.free r)).length) : placeR m j k = (((r : Int), (lst (m.free r)).take k.toNat, 0), m.add ⟨j, r, leastK (m.free r) k.toNat⟩) := by
  have hpr : placeRow m k.toNat (r + 1) = some r := by simp only [placeRow, hn]; rw [if_pos hl]
  have hpr2 := placeRow_mono hpr (show r + 1 ≤ m.R by omega)
  rw [placeR, if_neg (by omega), hlk, if_neg (by decide), if_neg (by omega), hpr2]
theorem place_no {m : Mx} {j : Nat} {k : Int} (h2 : ¬ ((j : Int) = 0 ∨ k < 1)) (hlk : look m.js j = none) (h4 : k ≤ m.N) (hn : placeRow m k.toNat m.R = none) : placeR m j k = ((0, [], 8), m) := by
  rw [placeR, if_neg (by omega), hlk, if_neg (by decide), if_neg (by omega), hn]
theorem placeRow_step {m : Mx} {k r : Nat} (hn : placeRow m k r = none) (h : ¬ k ≤ (lst (m.free r)).length) : placeRow m k (r + 1) = none := by
  simp only [placeRow, hn]
  rw [if_neg h]
theorem rPlace_S (b : Nat) (m : Mx) (j : Nat) (k : Int) (hj : j ≤ 4294967295) (hk : k ≤ 9223372036854775807) : Spec Tryd.prog 28 [.pointer (some ⟨b, 0, none⟩), .int .u32 (j : Int), .int .i64 k] [RI b m] fun Γ v Θ => ∃ sv : SV, v = .tuple #[.int .i64 (placeR m j k).1.1, sv.v, .int .i64 (placeR m j k).1.2.2] ∧ sv.n = (placeR m j k).1.2.1.length ∧
    Θ = own sv 3 1 (nds (placeR m j k).1.2.1) :: RI b (placeR m j k).2 :: Γ := by
  refine Spec.riOk fun hm => ?_
  refine Spec.of_body Tryd.func28 rfl Tryd.ntmps28 rfl ?_
  intro w0 Γ
  show S _ w0 [(0, .pointer (some ⟨b, 0, none⟩)), (1, .int .u32 (j : Int)), (2, .int .i64 k)] (RI b m :: Γ) _
  have hR8 := hm.R8
  have hN16 := hm.N16
  refine S.seq fun K1 hK1 => ?_
  refine S.region rfl ?_
  refine S.op (S.q (q_assign rfl) rfl rfl ?_)
  refine S.op (S.q (q_assign rfl) rfl rfl ?_)
  refine S.op (S.q (q_assign rfl) rfl rfl ?_)
  first | with_reducible refine S.nilK ?_ | refine S.nil ?_
  refine hK1 _ _ ?_
  refine S.seq fun K2 hK2 => ?_
  refine S.seq fun K3 hK3 => ?_
  refine S.region rfl ?_
  refine S.op (S.q (q_move rfl) rfl rfl ?_)
  refine S.op (S.q (q_eqN Tryd.underlying26 rfl rfl) rfl rfl ?_)
  first | with_reducible refine S.nilK ?_ | refine S.nil ?_
  refine hK3 _ _ ?_
  refine S.condF rfl ?_
  refine S.skip ?_
  with_reducible repeat (first | refine S.then_n ?_ | refine S.then_x ?_ | refine S.then_r ?_ | refine S.inBlock_n ?_ | refine S.inBlock_r ?_ | refine S.inBlock_x rfl ?_ | refine S.noGoto_r ?_ | refine S.noGoto_n ?_ | refine S.noGoto_x ?_)
  refine hK2 _ _ ?_
  refine S.seq fun K4 hK4 => ?_
  refine S.seq fun K5 hK5 => ?_
  refine S.cut (fun ρ' Γ' => ρ' = [(0, .pointer (some ⟨b, 0, none⟩)), (1, .int .u32 (j : Int)), (2, .int .i64 k), (21, .bool (decide ((j : Int) = 0 ∨ k < 1)))] ∧ Γ' = RI b m :: Γ) ?_ ?_
  · refine S.regionG ?_
    refine S.g_op rfl (S.q (q_move rfl) rfl rfl ?_)
    refine S.g_op rfl (S.q (q_eq rfl rfl) rfl rfl ?_)
    refine S.g_op rfl (S.q (q_move rfl) rfl rfl ?_)
    by_cases hg3_2 : (j : Int) = 0
    · refine S.g_no rfl rfl rfl (decide_eq_true hg3_2) rfl rfl ?_
      refine S.g_no rfl rfl rfl (decide_eq_true hg3_2) rfl rfl ?_
      refine S.g_op rfl (S.q (q_pickT rfl (decide_eq_true hg3_2) rfl) rfl rfl ?_)
      first | with_reducible refine S.g_nilK ?_ | refine S.g_nil ?_
      with_reducible repeat (first | refine S.then_n ?_ | refine S.then_x ?_ | refine S.then_r ?_ | refine S.inBlock_n ?_ | refine S.inBlock_r ?_ | refine S.inBlock_x rfl ?_ | refine S.noGoto_r ?_ | refine S.noGoto_n ?_ | refine S.noGoto_x ?_)
      first | (rw [show decide ((j : Int) = 0 ∨ k < 1) = true from decide_eq_true (.inl hg3_2)]; exact S.meet ⟨rfl, rfl⟩ ⟨rfl, rfl, rfl, rfl, trivial⟩ Sub.ent) | (rw [show decide ((j : Int) = 0 ∨ k < 1) = decide (k < 1) from decide_eq_decide.2 (by omega)]; exact S.meet ⟨rfl, rfl⟩ ⟨rfl, rfl, rfl, rfl, trivial⟩ Sub.ent)
    · refine S.g_yes rfl rfl rfl (decide_eq_false hg3_2) (S.q (q_move rfl) rfl rfl ?_)
      refine S.g_yes rfl rfl rfl (decide_eq_false hg3_2) (S.q (q_lt rfl rfl) rfl rfl ?_)
      refine S.g_op rfl (S.q (q_pickF rfl (decide_eq_false hg3_2) rfl) rfl rfl ?_)
      first | with_reducible refine S.g_nilK ?_ | refine S.g_nil ?_
      with_reducible repeat (first | refine S.then_n ?_ | refine S.then_x ?_ | refine S.then_r ?_ | refine S.inBlock_n ?_ | refine S.inBlock_r ?_ | refine S.inBlock_x rfl ?_ | refine S.noGoto_r ?_ | refine S.noGoto_n ?_ | refine S.noGoto_x ?_)
      first | (rw [show decide ((j : Int) = 0 ∨ k < 1) = true from decide_eq_true (.inl hg3_2)]; exact S.meet ⟨rfl, rfl⟩ ⟨rfl, rfl, rfl, rfl, trivial⟩ Sub.ent) | (rw [show decide ((j : Int) = 0 ∨ k < 1) = decide (k < 1) from decide_eq_decide.2 (by omega)]; exact S.meet ⟨rfl, rfl⟩ ⟨rfl, rfl, rfl, rfl, trivial⟩ Sub.ent)
  · rintro ρ' Γ' ⟨rfl, rfl⟩
    refine hK5 _ _ ?_
    refine S.condD rfl (fun h2 => ?_) (fun h2 => ?_)
    · have hpl : placeR m j k = ((0, [], 1), m) := by rw [placeR, if_pos (by omega)]
      refine S.seq fun K6 hK6 => ?_
      refine S.region rfl ?_
      refine S.op (S.q (q_assign rfl) rfl rfl ?_)
      refine S.op (S.q (q_assign rfl) rfl rfl ?_)
      refine S.op (S.q (q_assign rfl) rfl rfl ?_)
      first | with_reducible refine S.nilK ?_ | refine S.nil ?_
      refine hK6 _ _ ?_
      refine S.ret ?_
      with_reducible repeat (first | refine S.then_n ?_ | refine S.then_x ?_ | refine S.then_r ?_ | refine S.inBlock_n ?_ | refine S.inBlock_r ?_ | refine S.inBlock_x rfl ?_ | refine S.noGoto_r ?_ | refine S.noGoto_n ?_ | refine S.noGoto_x ?_)
      refine S.ent (Ent.ownNil 3 1) ?_
      show S _ w0 _ (own SV.nil 3 1 (nds []) :: RI b m :: Γ) _
      exact S.fin (rs := [_, _, _]) (vs := [_, _, _]) Tryd.results28 (⟨rfl, rfl, rfl, trivial⟩)  (⟨SV.nil, by rw [hpl]; rfl, by rw [hpl]; rfl, by rw [hpl]⟩) Sub.ent
    · refine S.skip ?_
      with_reducible repeat (first | refine S.then_n ?_ | refine S.then_x ?_ | refine S.then_r ?_ | refine S.inBlock_n ?_ | refine S.inBlock_r ?_ | refine S.inBlock_x rfl ?_ | refine S.noGoto_r ?_ | refine S.noGoto_n ?_ | refine S.noGoto_x ?_)
      refine hK4 _ _ ?_
      refine S.seq fun K7 hK7 => ?_
      refine S.seq fun K8 hK8 => ?_
      refine S.region rfl ?_
      refine S.op (S.q (q_move rfl) rfl rfl ?_)
      refine S.op (S.q (q_move rfl) rfl rfl ?_)
      refine S.op (S.call Tryd.en46 (vs := [_, _]) ⟨rfl, rfl, trivial⟩ (rOf_S b m j) rfl ?_)
      rintro v Θ ⟨sv0, rfl, _, rfl⟩
      refine S.op (S.q (q_move rfl) rfl rfl ?_)
      refine S.op (S.q (q_extract rfl rfl) rfl rfl ?_)
      refine S.op (S.q (q_extract rfl rfl) rfl rfl ?_)
      refine S.op (S.q (q_extract rfl rfl) rfl rfl ?_)
      refine S.op (S.q (q_assign rfl) rfl rfl ?_)
      refine S.op (S.q (q_assign rfl) rfl rfl ?_)
      refine S.op (S.q (q_assign rfl) rfl rfl ?_)
      first | with_reducible refine S.nilK ?_ | refine S.nil ?_
      refine hK8 _ _ ?_
      refine S.seq fun K9 hK9 => ?_
      refine S.region rfl ?_
      refine S.op (S.q (q_move rfl) rfl rfl ?_)
      first | with_reducible refine S.nilK ?_ | refine S.nil ?_
      refine hK9 _ _ ?_
      refine S.cond rfl (fun h3 => ?_) (fun h3 => ?_)
      · have hls : (look m.js j).isSome = true := by
          cases h : look m.js j with
          | none => rw [ofR_none h] at h3; cases h3
          | some x => rfl
        have hpl : placeR m j k = ((0, [], 7), m) := by rw [placeR, if_neg (by omega), if_pos hls]
        refine S.seq fun K10 hK10 => ?_
        refine S.region rfl ?_
        refine S.op (S.q (q_assign rfl) rfl rfl ?_)
        refine S.op (S.q (q_assign rfl) rfl rfl ?_)
        refine S.op (S.q (q_assign rfl) rfl rfl ?_)
        first | with_reducible refine S.nilK ?_ | refine S.nil ?_
        refine hK10 _ _ ?_
        refine S.ret ?_
        with_reducible repeat (first | refine S.then_n ?_ | refine S.then_x ?_ | refine S.then_r ?_ | refine S.inBlock_n ?_ | refine S.inBlock_r ?_ | refine S.inBlock_x rfl ?_ | refine S.noGoto_r ?_ | refine S.noGoto_n ?_ | refine S.noGoto_x ?_)
        refine S.ent (Ent.ownNil 3 1) ?_
        show S _ w0 _ (own SV.nil 3 1 (nds []) :: _) _
        exact S.fin (rs := [_, _, _]) (vs := [_, _, _]) Tryd.results28 (⟨rfl, rfl, rfl, trivial⟩)  (⟨SV.nil, by rw [hpl]; rfl, by rw [hpl]; rfl, by rw [hpl]⟩) Sub.ent
      · have hlk : look m.js j = none := by
          cases h : look m.js j with
          | none => rfl
          | some x => rw [ofR_some h] at h3; cases h3
        refine S.riOpen b m fun cs us rs hri => ?_
        have hcn := hri.cn
        have hun := hri.un
        refine S.skip ?_
        with_reducible repeat (first | refine S.then_n ?_ | refine S.then_x ?_ | refine S.then_r ?_ | refine S.inBlock_n ?_ | refine S.inBlock_r ?_ | refine S.inBlock_x rfl ?_ | refine S.noGoto_r ?_ | refine S.noGoto_n ?_ | refine S.noGoto_x ?_)
        refine hK7 _ _ ?_
        refine S.seq fun K11 hK11 => ?_
        refine S.seq fun K12 hK12 => ?_
        refine S.region rfl ?_
        refine S.op (S.q (q_move rfl) rfl rfl ?_)
        refine S.op (S.q (q_move rfl) rfl rfl ?_)
        refine S.op (S.q (q_nilCheck rfl) rfl rfl ?_)
        refine S.op (S.q (q_field Tryd.fo55_1 rfl) rfl rfl ?_)
        refine S.op (S.q (q_load Tryd.at53 rfl rfl) rfl rfl ?_)
        refine S.op (S.q (q_len Tryd.underlying53 rfl) rfl rfl ?_)
        refine S.op (S.q (q_gt rfl rfl) rfl rfl ?_)
        first | with_reducible refine S.nilK ?_ | refine S.nil ?_
        refine hK12 _ _ ?_
        refine S.condD rfl (fun h4 => ?_) (fun h4 => ?_)
        · have hpl : placeR m j k = ((0, [], 9), m) := by rw [placeR, if_neg (by omega), hlk, if_neg (by decide), if_pos (by omega)]
          refine S.seq fun K13 hK13 => ?_
          refine S.region rfl ?_
          refine S.op (S.q (q_assign rfl) rfl rfl ?_)
          refine S.op (S.q (q_assign rfl) rfl rfl ?_)
          refine S.op (S.q (q_assign rfl) rfl rfl ?_)
          first | with_reducible refine S.nilK ?_ | refine S.nil ?_
          refine hK13 _ _ ?_
          refine S.ret ?_
          with_reducible repeat (first | refine S.then_n ?_ | refine S.then_x ?_ | refine S.then_r ?_ | refine S.inBlock_n ?_ | refine S.inBlock_r ?_ | refine S.inBlock_x rfl ?_ | refine S.noGoto_r ?_ | refine S.noGoto_n ?_ | refine S.noGoto_x ?_)
          refine S.riClose b m cs us rs hri ?_
          refine S.ent (Ent.ownNil 3 1) ?_
          show S _ w0 _ (own SV.nil 3 1 (nds []) :: RI b m :: _) _
          exact S.fin (rs := [_, _, _]) (vs := [_, _, _]) Tryd.results28 (⟨rfl, rfl, rfl, trivial⟩)  (⟨SV.nil, by rw [hpl]; rfl, by rw [hpl]; rfl, by rw [hpl]⟩) Sub.ent
        · obtain ⟨kn, hkn⟩ : ∃ kn : Nat, kn = k.toNat := ⟨_, rfl⟩
          refine S.skip ?_
          with_reducible repeat (first | refine S.then_n ?_ | refine S.then_x ?_ | refine S.then_r ?_ | refine S.inBlock_n ?_ | refine S.inBlock_r ?_ | refine S.inBlock_x rfl ?_ | refine S.noGoto_r ?_ | refine S.noGoto_n ?_ | refine S.noGoto_x ?_)
          refine hK11 _ _ ?_
          refine S.seq fun K14 hK14 => ?_
          refine S.seq fun K15 hK15 => ?_
          refine S.region rfl ?_
          refine S.op (S.q (q_move rfl) rfl rfl ?_)
          refine S.op (S.q (q_nilCheck rfl) rfl rfl ?_)
          refine S.op (S.q (q_field Tryd.fo55_0 rfl) rfl rfl ?_)
          refine S.op (S.q (q_load Tryd.at52 rfl rfl) rfl rfl ?_)
          refine S.op (S.q (q_len Tryd.underlying52 rfl) rfl rfl ?_)
          refine S.riClose b m cs us rs hri ?_
          refine S.op (S.q (q_move rfl) rfl rfl ?_)
          first | with_reducible refine S.nilK ?_ | refine S.nil ?_
          refine hK15 _ _ ?_
          refine S.block ?_
          refine S.loop (fun q ρ' Γ' => ∃ r : Nat, q = m.R - r ∧ r ≤ m.R ∧ placeRow m kn r = none ∧ ρ' = [(0, .pointer (some ⟨b, 0, none⟩)), (1, .int .u32 (j : Int)), (2, .int .i64 k), (41, .int .i64 (cs.n : Int)), (42, .int .i64 (r : Int))] ∧ Γ' = RI b m :: Γ) (m := _) (ρ0 := _) (Γ0 := _) (⟨0, rfl, by omega, rfl, rfl, rfl⟩) (by repeat (first | exact trivial | refine ⟨rfl, ?_⟩)) Sub.ent ?_
          rintro q ρ' Γ' ⟨r, hq, hr, hnone, rfl, rfl⟩
          refine S.seq fun K16 hK16 => ?_
          refine S.region rfl ?_
          refine S.op (S.q (q_lt rfl rfl) rfl rfl ?_)
          first | with_reducible refine S.nilK ?_ | refine S.nil ?_
          refine hK16 _ _ ?_
          refine S.seq fun K17 hK17 => ?_
          refine S.condD rfl (fun h5 => ?_) (fun h5 => ?_)
          · have hfl : freeL m r = lst (m.free r) := by rw [freeL, if_pos (rowB_iff.2 ⟨by omega, by omega⟩), Int.toNat_natCast]
            refine S.skip ?_
            with_reducible repeat (first | refine S.then_n ?_ | refine S.then_x ?_ | refine S.then_r ?_ | refine S.inBlock_n ?_ | refine S.inBlock_r ?_ | refine S.inBlock_x rfl ?_ | refine S.noGoto_r ?_ | refine S.noGoto_n ?_ | refine S.noGoto_x ?_)
            refine hK17 _ _ ?_
            refine S.seq fun K18 hK18 => ?_
            refine S.block ?_
            refine S.seq fun K19 hK19 => ?_
            refine S.region rfl ?_
            refine S.op (S.q (q_move rfl) rfl rfl ?_)
            refine S.op (S.q (q_assign rfl) rfl rfl ?_)
            first | with_reducible refine S.nilK ?_ | refine S.nil ?_
            refine hK19 _ _ ?_
            refine S.seq fun K20 hK20 => ?_
            refine S.region rfl ?_
            refine S.op (S.q (q_move rfl) rfl rfl ?_)
            refine S.op (S.q (q_move rfl) rfl rfl ?_)
            refine S.op (S.call Tryd.en44 (vs := [_, _]) ⟨rfl, rfl, trivial⟩ (rFree_S b m r) rfl ?_)
            rintro v Θ ⟨fv, rfl, hfv, rfl⟩
            rw [hfl] at hfv ⊢
            obtain ⟨fl, hfe⟩ : ∃ fl, fl = lst (m.free r) := ⟨_, rfl⟩
            rw [← hfe] at hfv ⊢
            refine S.op (S.q (q_assign rfl) rfl rfl ?_)
            first | with_reducible refine S.nilK ?_ | refine S.nil ?_
            refine hK20 _ _ ?_
            refine S.seq fun K21 hK21 => ?_
            refine S.region rfl ?_
            refine S.op (S.q (q_move rfl) rfl rfl ?_)
            refine S.op (S.q (q_len Tryd.underlying69 rfl) rfl rfl ?_)
            refine S.op (S.q (q_move rfl) rfl rfl ?_)
            refine S.op (S.q (q_ge rfl rfl) rfl rfl ?_)
            first | with_reducible refine S.nilK ?_ | refine S.nil ?_
            refine hK21 _ _ ?_
            refine S.condD rfl (fun h6 => ?_) (fun h6 => ?_)
            · have hpl2 : placeR m j k = (((r : Int), fl.take kn, 0), m.add ⟨j, r, leastK (m.free r) kn⟩) := by rw [hkn] at hnone ⊢; rw [hfe]; exact place_yes h2 hlk (by omega) (by omega) hnone (by rw [← hfe]; omega)
              obtain ⟨hlen, hok2, hput⟩ := place_put hm hlk (j := j) (r := r) (k := kn) (by omega) (by omega) (by omega) (by rw [← hfe]; omega)
              rw [← hfe] at hlen hok2 hput
              refine S.ownLen fv fun hfl1 hfl2 hfl3 => ?_
              refine S.seq fun K22 hK22 => ?_
              refine S.region rfl ?_
              with_reducible refine S.opH fun KH15_0 hKH15_0 => ?_
              refine  (S.q (q_move rfl) rfl rfl ?_)
              refine hKH15_0 _ _ ?_
              with_reducible refine S.opH fun KH15_1 hKH15_1 => ?_
              refine  (S.q (q_move rfl) rfl rfl ?_)
              refine hKH15_1 _ _ ?_
              with_reducible refine S.opH fun KH15_2 hKH15_2 => ?_
              refine  (S.q (q_move rfl) rfl rfl ?_)
              refine hKH15_2 _ _ ?_
              with_reducible refine S.opH fun KH15_3 hKH15_3 => ?_
              refine  (S.q (q_move rfl) rfl rfl ?_)
              refine hKH15_3 _ _ ?_
              with_reducible refine S.opH fun KH15_4 hKH15_4 => ?_
              refine  (S.q (q_move rfl) rfl rfl ?_)
              refine hKH15_4 _ _ ?_
              refine S.op (S.q (q_sliceTo (kn) Tryd.el69 rfl rfl (by omega) (by omega)) rfl rfl ?_)
              refine S.op (S.call Tryd.en31 (vs := [_, _, _, _]) ⟨rfl, rfl, rfl, rfl, trivial⟩ (rPut_S b m j r (own fv 3 1 (nds fl)) ⟨fv.a, kn, fv.c⟩ (casts (fl.take kn)) (by rw [List.length_map, hlen]) (rdTake (by omega)) hj (by omega) (by omega) hok2) rfl ?_)
              rintro v Θ ⟨rfl, rfl⟩
              rw [hput]
              first | with_reducible refine S.nilK ?_ | refine S.nil ?_
              refine hK22 _ _ ?_
              refine S.seq fun K23 hK23 => ?_
              refine S.draw ([]) [] Tryd.mixed ?_
              refine S.dr_take 0 [] rfl (by kernel_rfl) rfl rfl rfl (q_move rfl) Sub.ent ?_
              refine S.dr_take 1 [] rfl (by kernel_rfl) rfl rfl rfl (q_move rfl) Sub.ent ?_
              refine S.dr_take 2 [] rfl (by kernel_rfl) rfl rfl rfl (q_move rfl) Sub.ent ?_
              refine S.dr_take 3 [] rfl (by kernel_rfl) rfl rfl rfl (q_sliceTo (kn) Tryd.el69 rfl rfl (by omega) (by omega)) Sub.ent ?_
              refine S.dr_take 4 [] rfl (by kernel_rfl) rfl rfl rfl (q_assign rfl) Sub.ent ?_
              refine S.dr_take 5 [] rfl (by kernel_rfl) rfl rfl rfl (q_assign rfl) Sub.ent ?_
              refine S.dr_take 6 [] rfl (by kernel_rfl) rfl rfl rfl (q_assign rfl) Sub.ent ?_
              first | with_reducible refine S.dr_doneK (by kernel_rfl) ?_ | refine S.dr_done (by kernel_rfl) ?_
              refine hK23 _ _ ?_
              refine S.ret ?_
              with_reducible repeat (first | refine S.then_n ?_ | refine S.then_x ?_ | refine S.then_r ?_ | refine S.inBlock_n ?_ | refine S.inBlock_r ?_ | refine S.inBlock_x rfl ?_ | refine S.noGoto_r ?_ | refine S.noGoto_n ?_ | refine S.noGoto_x ?_)
              refine S.conv (own fv 3 1 (nds fl)) (Ent.ownTake fv 3 1 (nds fl) (k := kn) (by omega) _) ?_
              rw [show (nds fl).take (kn * 1) = nds (fl.take kn) by rw [Nat.mul_one]; show (fl.map nv).take kn = (fl.take kn).map nv; rw [List.map_take]]
              exact S.fin (rs := [_, _, _]) (vs := [_, _, _]) Tryd.results28 (⟨rfl, rfl, rfl, trivial⟩)  (⟨⟨fv.a, kn, fv.c⟩, by rw [hpl2]; rfl, by rw [hpl2]; exact hlen.symm, by rw [hpl2]⟩) Sub.ent
            · have hn2 : placeRow m kn (r + 1) = none := placeRow_step hnone (by rw [← hfe]; omega)
              refine S.skip ?_
              with_reducible repeat (first | refine S.then_n ?_ | refine S.then_x ?_ | refine S.then_r ?_ | refine S.inBlock_n ?_ | refine S.inBlock_r ?_ | refine S.inBlock_x rfl ?_ | refine S.noGoto_r ?_ | refine S.noGoto_n ?_ | refine S.noGoto_x ?_)
              with_reducible repeat (first | refine S.then_n ?_ | refine S.then_x ?_ | refine S.then_r ?_ | refine S.inBlock_n ?_ | refine S.inBlock_r ?_ | refine S.inBlock_x rfl ?_ | refine S.noGoto_r ?_ | refine S.noGoto_n ?_ | refine S.noGoto_x ?_)
              refine hK18 _ _ ?_
              refine S.region rfl ?_
              refine S.op (S.q (q_add rfl rfl (inI64 (by omega) (by omega))) rfl rfl ?_)
              refine S.op (S.q (q_move rfl) rfl rfl ?_)
              first | with_reducible refine S.nilK ?_ | refine S.nil ?_
              with_reducible repeat (first | refine S.then_n ?_ | refine S.then_x ?_ | refine S.then_r ?_ | refine S.inBlock_n ?_ | refine S.inBlock_r ?_ | refine S.inBlock_x rfl ?_ | refine S.noGoto_r ?_ | refine S.noGoto_n ?_ | refine S.noGoto_x ?_)
              exact S.next (q - 1) (⟨r + 1, by omega, by omega, hn2, rfl, rfl⟩) (by omega) (by repeat (first | exact trivial | refine ⟨rfl, ?_⟩)) Sub.ent
          · have hpl2 : placeR m j k = ((0, [], 8), m) := by rw [show r = m.R by omega, hkn] at hnone; exact place_no h2 hlk (by omega) hnone
            refine S.exit ?_
            with_reducible repeat (first | refine S.then_n ?_ | refine S.then_x ?_ | refine S.then_r ?_ | refine S.inBlock_n ?_ | refine S.inBlock_r ?_ | refine S.inBlock_x rfl ?_ | refine S.noGoto_r ?_ | refine S.noGoto_n ?_ | refine S.noGoto_x ?_)
            with_reducible refine S.inBlock_s ?_
            with_reducible repeat (first | refine S.then_n ?_ | refine S.then_x ?_ | refine S.then_r ?_ | refine S.inBlock_n ?_ | refine S.inBlock_r ?_ | refine S.inBlock_x rfl ?_ | refine S.noGoto_r ?_ | refine S.noGoto_n ?_ | refine S.noGoto_x ?_)
            refine hK14 _ _ ?_
            refine S.seq fun K24 hK24 => ?_
            refine S.region rfl ?_
            refine S.op (S.q (q_assign rfl) rfl rfl ?_)
            refine S.op (S.q (q_assign rfl) rfl rfl ?_)
            refine S.op (S.q (q_assign rfl) rfl rfl ?_)
            first | with_reducible refine S.nilK ?_ | refine S.nil ?_
            refine hK24 _ _ ?_
            refine S.ret ?_
            with_reducible repeat (first | refine S.then_n ?_ | refine S.then_x ?_ | refine S.then_r ?_ | refine S.inBlock_n ?_ | refine S.inBlock_r ?_ | refine S.inBlock_x rfl ?_ | refine S.noGoto_r ?_ | refine S.noGoto_n ?_ | refine S.noGoto_x ?_)
            refine S.ent (Ent.ownNil 3 1) ?_
            show S _ w0 _ (own SV.nil 3 1 (nds []) :: RI b m :: _) _
            exact S.fin (rs := [_, _, _]) (vs := [_, _, _]) Tryd.results28 (⟨rfl, rfl, rfl, trivial⟩)  (⟨SV.nil, by rw [hpl2]; rfl, by rw [hpl2]; rfl, by rw [hpl2]⟩) Sub.ent
theorem rNext_S (b : Nat) (m : Mx) (z : Int) : Spec Tryd.prog 70 [.pointer (some ⟨b, 0, none⟩), .int .i64 z] [RI b m] fun Γ v Θ => v = .tuple #[.int .i64 (nextR m z).1, .bool (nextR m z).2] ∧ Θ = RI b m :: Γ := by
  refine Spec.riOk fun hm => ?_
  refine Spec.of_body Tryd.func70 rfl Tryd.ntmps70 rfl ?_
  intro w0 Γ
  show S _ w0 [(0, .pointer (some ⟨b, 0, none⟩)), (1, .int .i64 z)] (RI b m :: Γ) _
  have hR8 := hm.R8
  have hR1 := hm.R1
  obtain ⟨z', hz'⟩ : ∃ z', z' = if rowB m z then z else -1 := ⟨_, rfl⟩
  refine S.riOpen b m fun cs us rs hri => ?_
  have hcn := hri.cn
  refine S.seq fun K1 hK1 => ?_
  refine S.region rfl ?_
  refine S.op (S.q (q_assign rfl) rfl rfl ?_)
  refine S.op (S.q (q_assign rfl) rfl rfl ?_)
  first | with_reducible refine S.nilK ?_ | refine S.nil ?_
  refine hK1 _ _ ?_
  refine S.seq fun K2 hK2 => ?_
  refine S.seq fun K3 hK3 => ?_
  refine S.region rfl ?_
  refine S.op (S.q (q_move rfl) rfl rfl ?_)
  refine S.op (S.q (q_eqN Tryd.underlying26 rfl rfl) rfl rfl ?_)
  first | with_reducible refine S.nilK ?_ | refine S.nil ?_
  refine hK3 _ _ ?_
  refine S.condF rfl ?_
  refine S.skip ?_
  with_reducible repeat (first | refine S.then_n ?_ | refine S.then_x ?_ | refine S.then_r ?_ | refine S.inBlock_n ?_ | refine S.inBlock_r ?_ | refine S.inBlock_x rfl ?_ | refine S.noGoto_r ?_ | refine S.noGoto_n ?_ | refine S.noGoto_x ?_)
  refine hK2 _ _ ?_
  refine S.seq fun K4 hK4 => ?_
  refine S.region rfl ?_
  refine S.op (S.q (q_move rfl) rfl rfl ?_)
  refine S.op (S.q (q_nilCheck rfl) rfl rfl ?_)
  refine S.op (S.q (q_field Tryd.fo55_0 rfl) rfl rfl ?_)
  refine S.op (S.q (q_load Tryd.at52 rfl rfl) rfl rfl ?_)
  refine S.op (S.q (q_len Tryd.underlying52 rfl) rfl rfl ?_)
  refine S.op (S.q (q_assign rfl) rfl rfl ?_)
  first | with_reducible refine S.nilK ?_ | refine S.nil ?_
  refine hK4 _ _ ?_
  refine S.seq fun K5 hK5 => ?_
  refine S.seq fun K6 hK6 => ?_
  refine S.cut (fun ρ' Γ' => ρ' = [(0, .pointer (some ⟨b, 0, none⟩)), (1, .int .i64 z), (6, .int .i64 (cs.n : Int)), (22, .bool (!rowB m z))] ∧ Γ' = RI b m :: Γ) ?_ ?_
  · refine S.regionG ?_
    refine S.riClose b m cs us rs hri ?_
    refine S.g_op rfl (S.q (q_move rfl) rfl rfl ?_)
    refine S.g_op rfl (S.q (q_lt rfl rfl) rfl rfl ?_)
    refine S.g_op rfl (S.q (q_move rfl) rfl rfl ?_)
    by_cases hg4_2 : z < (0 : Int)
    · refine S.g_no rfl rfl rfl (decide_eq_true hg4_2) rfl rfl ?_
      refine S.g_no rfl rfl rfl (decide_eq_true hg4_2) rfl rfl ?_
      refine S.g_no rfl rfl rfl (decide_eq_true hg4_2) rfl rfl ?_
      refine S.g_op rfl (S.q (q_pickT rfl (decide_eq_true hg4_2) rfl) rfl rfl ?_)
      first | with_reducible refine S.g_nilK ?_ | refine S.g_nil ?_
      with_reducible repeat (first | refine S.then_n ?_ | refine S.then_x ?_ | refine S.then_r ?_ | refine S.inBlock_n ?_ | refine S.inBlock_r ?_ | refine S.inBlock_x rfl ?_ | refine S.noGoto_r ?_ | refine S.noGoto_n ?_ | refine S.noGoto_x ?_)
      first | (rw [show rowB m z = false by rw [rowB, decide_eq_false (by omega)]; rfl]; exact S.meet ⟨rfl, rfl⟩ ⟨rfl, rfl, rfl, rfl, trivial⟩ Sub.ent) | (rw [show (!rowB m z) = decide ((cs.n : Int) ≤ z) by rw [rowB, decide_eq_true (by omega), hcn, Bool.true_and, ← decide_not]; exact decide_eq_decide.2 (by omega)]; exact S.meet ⟨rfl, rfl⟩ ⟨rfl, rfl, rfl, rfl, trivial⟩ Sub.ent)
    · refine S.g_yes rfl rfl rfl (decide_eq_false hg4_2) (S.q (q_move rfl) rfl rfl ?_)
      refine S.g_yes rfl rfl rfl (decide_eq_false hg4_2) (S.q (q_move rfl) rfl rfl ?_)
      refine S.g_yes rfl rfl rfl (decide_eq_false hg4_2) (S.q (q_ge rfl rfl) rfl rfl ?_)
      refine S.g_op rfl (S.q (q_pickF rfl (decide_eq_false hg4_2) rfl) rfl rfl ?_)
      first | with_reducible refine S.g_nilK ?_ | refine S.g_nil ?_
      with_reducible repeat (first | refine S.then_n ?_ | refine S.then_x ?_ | refine S.then_r ?_ | refine S.inBlock_n ?_ | refine S.inBlock_r ?_ | refine S.inBlock_x rfl ?_ | refine S.noGoto_r ?_ | refine S.noGoto_n ?_ | refine S.noGoto_x ?_)
      first | (rw [show rowB m z = false by rw [rowB, decide_eq_false (by omega)]; rfl]; exact S.meet ⟨rfl, rfl⟩ ⟨rfl, rfl, rfl, rfl, trivial⟩ Sub.ent) | (rw [show (!rowB m z) = decide ((cs.n : Int) ≤ z) by rw [rowB, decide_eq_true (by omega), hcn, Bool.true_and, ← decide_not]; exact decide_eq_decide.2 (by omega)]; exact S.meet ⟨rfl, rfl⟩ ⟨rfl, rfl, rfl, rfl, trivial⟩ Sub.ent)
  · rintro ρ' Γ' ⟨rfl, rfl⟩
    refine hK6 _ _ ?_
    refine S.cut (fun ρ' Γ' => ∃ zz : Int, (0 ≤ zz ∧ zz < m.R) ∧ (zz = z' ∨ (zz = m.R - 1 ∧ z' = -1)) ∧ z' = (if rowB m z then z else -1) ∧ ρ' = [(0, .pointer (some ⟨b, 0, none⟩)), (1, .int .i64 zz), (6, .int .i64 (cs.n : Int))] ∧ Γ' = RI b m :: Γ) ?_ ?_
    · refine S.cond rfl (fun h2 => ?_) (fun h2 => ?_)
      · rw [show rowB m z = false by simpa using h2, if_neg (by decide)] at hz'
        refine S.region rfl ?_
        refine S.op (S.q (q_move rfl) rfl rfl ?_)
        refine S.op (S.q (q_sub rfl rfl (inI64 (by omega) (by omega))) rfl rfl ?_)
        refine S.op (S.q (q_assign rfl) rfl rfl ?_)
        first | with_reducible refine S.nilK ?_ | refine S.nil ?_
        with_reducible repeat (first | refine S.then_n ?_ | refine S.then_x ?_ | refine S.then_r ?_ | refine S.inBlock_n ?_ | refine S.inBlock_r ?_ | refine S.inBlock_x rfl ?_ | refine S.noGoto_r ?_ | refine S.noGoto_n ?_ | refine S.noGoto_x ?_)
        first | exact S.meet ⟨(cs.n : Int) - 1, by omega, .inr ⟨by omega, hz'⟩, by rw [hz', show rowB m z = false by simpa using h2]; rfl, rfl, rfl⟩ ⟨rfl, rfl, rfl, trivial⟩ Sub.ent | exact S.meet ⟨z, by omega, .inl hz'.symm, by rw [hz', show rowB m z = true by simpa using h2]; rfl, rfl, rfl⟩ ⟨rfl, rfl, rfl, trivial⟩ Sub.ent
      · rw [show rowB m z = true by simpa using h2, if_pos rfl] at hz'
        have hzb := rowB_iff.1 (show rowB m z = true by simpa using h2)
        refine S.skip ?_
        with_reducible repeat (first | refine S.then_n ?_ | refine S.then_x ?_ | refine S.then_r ?_ | refine S.inBlock_n ?_ | refine S.inBlock_r ?_ | refine S.inBlock_x rfl ?_ | refine S.noGoto_r ?_ | refine S.noGoto_n ?_ | refine S.noGoto_x ?_)
        with_reducible repeat (first | refine S.then_n ?_ | refine S.then_x ?_ | refine S.then_r ?_ | refine S.inBlock_n ?_ | refine S.inBlock_r ?_ | refine S.inBlock_x rfl ?_ | refine S.noGoto_r ?_ | refine S.noGoto_n ?_ | refine S.noGoto_x ?_)
        first | exact S.meet ⟨(cs.n : Int) - 1, by omega, .inr ⟨by omega, hz'⟩, by rw [hz', show rowB m z = false by simpa using h2]; rfl, rfl, rfl⟩ ⟨rfl, rfl, rfl, trivial⟩ Sub.ent | exact S.meet ⟨z, by omega, .inl hz'.symm, by rw [hz', show rowB m z = true by simpa using h2]; rfl, rfl, rfl⟩ ⟨rfl, rfl, rfl, trivial⟩ Sub.ent
    · rintro ρ' Γ' ⟨zz, hzz, hzz2, hz', rfl, rfl⟩
      refine hK5 _ _ ?_
      refine S.seq fun K7 hK7 => ?_
      refine S.seq fun K8 hK8 => ?_
      refine S.region rfl ?_
      refine S.op (S.q (q_assign rfl) rfl rfl ?_)
      first | with_reducible refine S.nilK ?_ | refine S.nil ?_
      refine hK8 _ _ ?_
      refine S.block ?_
      refine S.loop (fun k ρ' Γ' => ∃ i : Nat, k = m.R - i ∧ i ≤ m.R ∧ nextUp m z' i = none ∧ ρ' = [(0, .pointer (some ⟨b, 0, none⟩)), (1, .int .i64 zz), (6, .int .i64 (cs.n : Int)), (7, .int .i64 ((i : Int) + 1))] ∧ Γ' = RI b m :: Γ) (m := _) (ρ0 := _) (Γ0 := _) (⟨0, rfl, by omega, rfl, rfl, rfl⟩) (by repeat (first | exact trivial | refine ⟨rfl, ?_⟩)) Sub.ent ?_
      rintro k ρ' Γ' ⟨i, hik, hiR, hnu, rfl, rfl⟩
      refine S.seq fun K9 hK9 => ?_
      refine S.seq fun K10 hK10 => ?_
      refine S.region rfl ?_
      refine S.op (S.q (q_move rfl) rfl rfl ?_)
      refine S.op (S.q (q_move rfl) rfl rfl ?_)
      refine S.op (S.q (q_le rfl rfl) rfl rfl ?_)
      first | with_reducible refine S.nilK ?_ | refine S.nil ?_
      refine hK10 _ _ ?_
      refine S.condD rfl (fun h3 => ?_) (fun h3 => ?_)
      · have hmod : (((z' + 1 + i) % m.R).toNat : Int) = (z' + 1 + i) % m.R := Int.toNat_of_nonneg (Int.emod_nonneg _ (by omega))
        have hmlt : ((z' + 1 + i) % m.R) < m.R := Int.emod_lt_of_pos _ (by omega)
        have hsame : (zz + ((i : Int) + 1)) % (cs.n : Int) = (z' + 1 + i) % m.R := by
          rw [hcn]
          rcases hzz2 with e | ⟨e1, e2⟩
          · rw [e]; congr 1; omega
          · rw [e1, e2, show (m.R : Int) - 1 + ((i : Int) + 1) = i + m.R by omega, Int.add_emod_right]; congr 1; omega
        refine S.skip ?_
        with_reducible repeat (first | refine S.then_n ?_ | refine S.then_x ?_ | refine S.then_r ?_ | refine S.inBlock_n ?_ | refine S.inBlock_r ?_ | refine S.inBlock_x rfl ?_ | refine S.noGoto_r ?_ | refine S.noGoto_n ?_ | refine S.noGoto_x ?_)
        refine hK9 _ _ ?_
        refine S.seq fun K11 hK11 => ?_
        refine S.block ?_
        refine S.seq fun K12 hK12 => ?_
        refine S.region rfl ?_
        refine S.op (S.q (q_move rfl) rfl rfl ?_)
        refine S.op (S.q (q_move rfl) rfl rfl ?_)
        refine S.op (S.q (q_add rfl rfl (inI64 (by omega) (by omega))) rfl rfl ?_)
        refine S.op (S.q (q_move rfl) rfl rfl ?_)
        refine S.op (S.q (q_rem rfl rfl (⟨by omega, by omega⟩)) rfl rfl ?_)
        refine S.op (S.q (q_assign rfl) rfl rfl ?_)
        first | with_reducible refine S.nilK ?_ | refine S.nil ?_
        refine hK12 _ _ ?_
        refine S.seq fun K13 hK13 => ?_
        refine S.region rfl ?_
        rw [hsame]
        refine S.op (S.q (q_move rfl) rfl rfl ?_)
        refine S.op (S.q (q_move rfl) rfl rfl ?_)
        refine S.op (S.call Tryd.en19 (vs := [_, _]) ⟨rfl, rfl, trivial⟩ (rRow_S b m ((z' + 1 + i) % m.R)) rfl ?_)
        rintro v Θ ⟨rv, rfl, hrv, rfl⟩
        have hrn : rowIds m ((z' + 1 + i) % m.R) = rowIds m (((z' + 1 + i) % m.R).toNat : Nat) := by rw [hmod]
        have hrz := rowIds_zero hm (show ((z' + 1 + i) % m.R).toNat < m.R by omega)
        rw [← hrn] at hrz
        refine S.op (S.q (q_len Tryd.underlying31 rfl) rfl rfl ?_)
        refine S.op (S.q (q_gt rfl rfl) rfl rfl ?_)
        first | with_reducible refine S.nilK ?_ | refine S.nil ?_
        refine hK13 _ _ ?_
        refine S.condD rfl (fun h4 => ?_) (fun h4 => ?_)
        · have hu : nextUp m z' (i + 1) = some ((z' + 1 + i) % m.R).toNat := by
            rw [nextUp, hnu]
            exact if_neg fun e => by rw [hrz.2 e] at hrv; simp at hrv; omega
          have hfin : nextR m z = ((z' + 1 + i) % m.R, true) := by
            unfold nextR
            rw [← hz', nextUp_mono hu (show i + 1 ≤ m.R by omega)]
            exact congrArg (fun q : Int => (q, true)) hmod
          refine S.seq fun K14 hK14 => ?_
          refine S.region rfl ?_
          refine S.op (S.q (q_move rfl) rfl rfl ?_)
          refine S.op (S.q (q_assign rfl) rfl rfl ?_)
          refine S.op (S.q (q_assign rfl) rfl rfl ?_)
          first | with_reducible refine S.nilK ?_ | refine S.nil ?_
          refine hK14 _ _ ?_
          refine S.ret ?_
          with_reducible repeat (first | refine S.then_n ?_ | refine S.then_x ?_ | refine S.then_r ?_ | refine S.inBlock_n ?_ | refine S.inBlock_r ?_ | refine S.inBlock_x rfl ?_ | refine S.noGoto_r ?_ | refine S.noGoto_n ?_ | refine S.noGoto_x ?_)
          exact S.fin (rs := [_, _]) (vs := [_, _]) Tryd.results70 (⟨rfl, rfl, trivial⟩)  (⟨by rw [hfin]; rfl, rfl⟩) Sub.ent
        · have hu : nextUp m z' (i + 1) = none := by
            rw [nextUp, hnu]
            exact if_pos (hrz.1 (List.length_eq_zero_iff.1 (by omega)))
          refine S.skip ?_
          with_reducible repeat (first | refine S.then_n ?_ | refine S.then_x ?_ | refine S.then_r ?_ | refine S.inBlock_n ?_ | refine S.inBlock_r ?_ | refine S.inBlock_x rfl ?_ | refine S.noGoto_r ?_ | refine S.noGoto_n ?_ | refine S.noGoto_x ?_)
          with_reducible repeat (first | refine S.then_n ?_ | refine S.then_x ?_ | refine S.then_r ?_ | refine S.inBlock_n ?_ | refine S.inBlock_r ?_ | refine S.inBlock_x rfl ?_ | refine S.noGoto_r ?_ | refine S.noGoto_n ?_ | refine S.noGoto_x ?_)
          refine hK11 _ _ ?_
          refine S.region rfl ?_
          refine S.op (S.q (q_move rfl) rfl rfl ?_)
          refine S.op (S.q (q_add rfl rfl (inI64 (by omega) (by omega))) rfl rfl ?_)
          refine S.op (S.q (q_assign rfl) rfl rfl ?_)
          first | with_reducible refine S.nilK ?_ | refine S.nil ?_
          with_reducible repeat (first | refine S.then_n ?_ | refine S.then_x ?_ | refine S.then_r ?_ | refine S.inBlock_n ?_ | refine S.inBlock_r ?_ | refine S.inBlock_x rfl ?_ | refine S.noGoto_r ?_ | refine S.noGoto_n ?_ | refine S.noGoto_x ?_)
          exact S.next (k - 1) (⟨i + 1, by omega, by omega, hu, rfl, rfl⟩) (by omega) (by repeat (first | exact trivial | refine ⟨rfl, ?_⟩)) Sub.ent
      · have hfin : nextR m z = (0, false) := by
          rw [show i = m.R by omega] at hnu
          unfold nextR
          rw [← hz', hnu]
        refine S.exit ?_
        with_reducible repeat (first | refine S.then_n ?_ | refine S.then_x ?_ | refine S.then_r ?_ | refine S.inBlock_n ?_ | refine S.inBlock_r ?_ | refine S.inBlock_x rfl ?_ | refine S.noGoto_r ?_ | refine S.noGoto_n ?_ | refine S.noGoto_x ?_)
        with_reducible refine S.inBlock_s ?_
        with_reducible repeat (first | refine S.then_n ?_ | refine S.then_x ?_ | refine S.then_r ?_ | refine S.inBlock_n ?_ | refine S.inBlock_r ?_ | refine S.inBlock_x rfl ?_ | refine S.noGoto_r ?_ | refine S.noGoto_n ?_ | refine S.noGoto_x ?_)
        refine hK7 _ _ ?_
        refine S.seq fun K15 hK15 => ?_
        refine S.region rfl ?_
        refine S.op (S.q (q_assign rfl) rfl rfl ?_)
        refine S.op (S.q (q_assign rfl) rfl rfl ?_)
        first | with_reducible refine S.nilK ?_ | refine S.nil ?_
        refine hK15 _ _ ?_
        refine S.ret ?_
        with_reducible repeat (first | refine S.then_n ?_ | refine S.then_x ?_ | refine S.then_r ?_ | refine S.inBlock_n ?_ | refine S.inBlock_r ?_ | refine S.inBlock_x rfl ?_ | refine S.noGoto_r ?_ | refine S.noGoto_n ?_ | refine S.noGoto_x ?_)
        exact S.fin (rs := [_, _]) (vs := [_, _]) Tryd.results70 (⟨rfl, rfl, trivial⟩)  (⟨by rw [hfin]; rfl, rfl⟩) Sub.ent
end Go.Proofs.YtegjmmocnffpiaaDoor
/- The document's matrix: Fill, Jobs, Copy. -/
namespace Go.Proofs.YtegjmmocnffpiaaDoor
open Go.RowKit
set_option maxRecDepth 20000
theorem idsV_one (l : List Nat) : allOne (idsV l) = true := List.all_eq_true.2 fun v hv => by
  obtain ⟨j, _, rfl⟩ := List.mem_map.1 hv
  rfl
theorem rIds_len (m : Mx) (z : Int) : (rowIds m z).length ≤ 16 := by
  unfold rowIds
  split
  · rw [List.length_map]; exact rowJ_len m _
  · simp
theorem insJ_len (j : Nat) (l : List Nat) : (insJ j l).length = l.length + 1 := by rw [(insJ_perm j l).length_eq]; rfl
theorem insAll_len (js : List Nat) : ∀ l, (insAll l js).length = l.length + js.length := by
  induction js with
  | nil => intro l; rfl
  | cons j js ih => intro l; have := ih (insJ j l); rw [insJ_len] at this; rw [List.length_cons]; show (insAll (insJ j l) js).length = _; omega
theorem insAll_snoc (l js : List Nat) (j : Nat) : insAll l (js ++ [j]) = insJ j (insAll l js) := by rw [insAll, List.foldl_append]; rfl
theorem insAll_app (l js ks : List Nat) : insAll l (js ++ ks) = insAll (insAll l js) ks := by rw [insAll, List.foldl_append]; rfl
theorem rowsIds_len (m : Mx) : ∀ r, (rowsIds m r).length ≤ 16 * r
  | 0 => Nat.le_refl _
  | r + 1 => by have := rowsIds_len m r; have := rIds_len m r; rw [rowsIds, List.length_append]; omega
set_option maxHeartbeats 1000000 in
theorem rJobs_S (b : Nat) (m : Mx) : Spec Tryd.prog 68 [.pointer (some ⟨b, 0, none⟩)] [RI b m] fun Γ v Θ => ∃ sv : SV, v = sv.v ∧ sv.n = (m.js.map (·.id)).length ∧ Θ = own sv 68 1 (idsV (m.js.map (·.id))) :: RI b m :: Γ := by
  refine Spec.riOk fun hm => ?_
  refine Spec.of_body Tryd.func68 rfl Tryd.ntmps68 rfl ?_
  intro w0 Γ
  show S _ w0 [(0, .pointer (some ⟨b, 0, none⟩))] (RI b m :: Γ) _
  have hR8 := hm.R8
  refine S.riOpen b m fun cs us rs hri => ?_
  have hcn := hri.cn
  refine S.seq fun K1 hK1 => ?_
  refine S.region rfl ?_
  refine S.op (S.q (q_assign rfl) rfl rfl ?_)
  first | with_reducible refine S.nilK ?_ | refine S.nil ?_
  refine hK1 _ _ ?_
  refine S.seq fun K2 hK2 => ?_
  refine S.region rfl ?_
  refine S.op (S.q (q_assign rfl) rfl rfl ?_)
  first | with_reducible refine S.nilK ?_ | refine S.nil ?_
  refine hK2 _ _ ?_
  refine S.seq fun K3 hK3 => ?_
  refine S.seq fun K4 hK4 => ?_
  refine S.region rfl ?_
  refine S.op (S.q (q_move rfl) rfl rfl ?_)
  refine S.op (S.q (q_eqN Tryd.underlying26 rfl rfl) rfl rfl ?_)
  first | with_reducible refine S.nilK ?_ | refine S.nil ?_
  refine hK4 _ _ ?_
  refine S.condF rfl ?_
  refine S.skip ?_
  with_reducible repeat (first | refine S.then_n ?_ | refine S.then_x ?_ | refine S.then_r ?_ | refine S.inBlock_n ?_ | refine S.inBlock_r ?_ | refine S.inBlock_x rfl ?_ | refine S.noGoto_r ?_ | refine S.noGoto_n ?_ | refine S.noGoto_x ?_)
  refine hK3 _ _ ?_
  refine S.seq fun K5 hK5 => ?_
  refine S.seq fun K6 hK6 => ?_
  refine S.region rfl ?_
  refine S.op (S.q (q_move rfl) rfl rfl ?_)
  refine S.op (S.q (q_nilCheck rfl) rfl rfl ?_)
  refine S.op (S.q (q_field Tryd.fo55_0 rfl) rfl rfl ?_)
  refine S.op (S.q (q_load Tryd.at52 rfl rfl) rfl rfl ?_)
  refine S.op (S.q (q_len Tryd.underlying52 rfl) rfl rfl ?_)
  refine S.riClose b m cs us rs hri ?_
  refine S.ent (Ent.ownNil 68 1) ?_
  show S _ w0 _ (own SV.nil 68 1 (idsV []) :: _) _
  refine S.op (S.q (q_move rfl) rfl rfl ?_)
  first | with_reducible refine S.nilK ?_ | refine S.nil ?_
  refine hK6 _ _ ?_
  refine S.block ?_
  refine S.loop (fun q ρ' Γ' => ∃ (r : Nat) (ov : SV) (L : List Nat), q = m.R - r ∧ r ≤ m.R ∧ L = insAll [] (rowsIds m r) ∧ ov.n = L.length ∧ ρ' = [(0, .pointer (some ⟨b, 0, none⟩)), (3, ov.v), (17, .int .i64 (cs.n : Int)), (18, .int .i64 (r : Int))] ∧ Γ' = own ov 68 1 (idsV L) :: RI b m :: Γ) (m := _) (ρ0 := _) (Γ0 := _) (⟨0, SV.nil, [], rfl, by omega, rfl, rfl, rfl, rfl⟩) (by repeat (first | exact trivial | refine ⟨rfl, ?_⟩)) Sub.ent ?_
  rintro q ρ' Γ' ⟨r, ov, L, hq, hr, hL, hov, rfl, rfl⟩
  have hLl := insAll_len (rowsIds m r) []
  have hrl := rowsIds_len m r
  rw [← hL, List.length_nil] at hLl
  refine S.seq fun K7 hK7 => ?_
  refine S.region rfl ?_
  refine S.op (S.q (q_lt rfl rfl) rfl rfl ?_)
  first | with_reducible refine S.nilK ?_ | refine S.nil ?_
  refine hK7 _ _ ?_
  refine S.seq fun K8 hK8 => ?_
  refine S.condD rfl (fun h2 => ?_) (fun h2 => ?_)
  · refine S.skip ?_
    with_reducible repeat (first | refine S.then_n ?_ | refine S.then_x ?_ | refine S.then_r ?_ | refine S.inBlock_n ?_ | refine S.inBlock_r ?_ | refine S.inBlock_x rfl ?_ | refine S.noGoto_r ?_ | refine S.noGoto_n ?_ | refine S.noGoto_x ?_)
    refine hK8 _ _ ?_
    refine S.seq fun K9 hK9 => ?_
    refine S.block ?_
    refine S.seq fun K10 hK10 => ?_
    refine S.region rfl ?_
    refine S.op (S.q (q_move rfl) rfl rfl ?_)
    refine S.op (S.q (q_assign rfl) rfl rfl ?_)
    first | with_reducible refine S.nilK ?_ | refine S.nil ?_
    refine hK10 _ _ ?_
    refine S.seq fun K11 hK11 => ?_
    refine S.region rfl ?_
    refine S.op (S.q (q_move rfl) rfl rfl ?_)
    refine S.op (S.q (q_move rfl) rfl rfl ?_)
    refine S.op (S.call Tryd.en19 (vs := [_, _]) ⟨rfl, rfl, trivial⟩ (rRow_S b m r) rfl ?_)
    rintro v Θ ⟨rv, rfl, hrv, rfl⟩
    have hr16 := rIds_len m r
    refine S.op (S.q (q_len Tryd.underlying31 rfl) rfl rfl ?_)
    refine S.op (S.q (q_move rfl) rfl rfl ?_)
    first | with_reducible refine S.nilK ?_ | refine S.nil ?_
    refine hK11 _ _ ?_
    refine S.block ?_
    refine S.loop (fun q2 ρ' Γ' => ∃ (i : Nat) (o2 : SV) (L2 : List Nat), q2 = (rowIds m r).length - i ∧ i ≤ (rowIds m r).length ∧ L2 = insAll L ((rowIds m r).take i) ∧ o2.n = L2.length ∧ ρ' = [(0, .pointer (some ⟨b, 0, none⟩)), (3, o2.v), (17, .int .i64 (cs.n : Int)), (18, .int .i64 (r : Int)), (23, rv.v), (24, .int .i64 rv.n), (25, .int .i64 (i : Int))] ∧ Γ' = own o2 68 1 (idsV L2) :: own rv 68 1 (idsV (rowIds m r)) :: RI b m :: Γ) (m := _) (ρ0 := _) (Γ0 := _) (⟨0, ov, L, rfl, by omega, rfl, hov, rfl, rfl⟩) (by repeat (first | exact trivial | refine ⟨rfl, ?_⟩)) Sub.ent ?_
    rintro q2 ρ' Γ' ⟨i, o2, L2, hq2, hi, hL2, ho2, rfl, rfl⟩
    have hL2l := insAll_len ((rowIds m r).take i) L
    rw [← hL2, List.length_take] at hL2l
    refine S.seq fun K12 hK12 => ?_
    refine S.region rfl ?_
    refine S.op (S.q (q_lt rfl rfl) rfl rfl ?_)
    first | with_reducible refine S.nilK ?_ | refine S.nil ?_
    refine hK12 _ _ ?_
    refine S.seq fun K13 hK13 => ?_
    refine S.condD rfl (fun h3 => ?_) (fun h3 => ?_)
    · refine S.ownSome rv (by omega) fun rb ro hra _ _ _ => ?_
      obtain ⟨j, hj⟩ := getE (show i < (rowIds m r).length by omega)
      have hnx : insJ j L2 = insAll L ((rowIds m r).take (i + 1)) := by rw [List.take_add_one, hj, hL2]; exact (insAll_snoc L _ j).symm
      refine S.skip ?_
      with_reducible repeat (first | refine S.then_n ?_ | refine S.then_x ?_ | refine S.then_r ?_ | refine S.inBlock_n ?_ | refine S.inBlock_r ?_ | refine S.inBlock_x rfl ?_ | refine S.noGoto_r ?_ | refine S.noGoto_n ?_ | refine S.noGoto_x ?_)
      refine hK13 _ _ ?_
      refine S.seq fun K14 hK14 => ?_
      refine S.block ?_
      refine S.seq fun K15 hK15 => ?_
      refine S.region rfl ?_
      refine S.op (S.q (q_indexO (i) Tryd.el31 rfl hra rfl rfl (by omega)) rfl rfl ?_)
      refine S.op (S.q (q_loadOw (rv) (i) Tryd.at68 rfl hra (by first | rfl | exact Nat.add_assoc _ _ _ | omega) (idsV_get hj)) rfl rfl ?_)
      refine S.op (S.q (q_assign rfl) rfl rfl ?_)
      first | with_reducible refine S.nilK ?_ | refine S.nil ?_
      refine hK15 _ _ ?_
      refine S.seq fun K16 hK16 => ?_
      refine S.region rfl ?_
      refine S.op (S.q (q_assign rfl) rfl rfl ?_)
      first | with_reducible refine S.nilK ?_ | refine S.nil ?_
      refine hK16 _ _ ?_
      refine S.seq fun K17 hK17 => ?_
      refine S.region rfl ?_
      refine S.op (S.q (q_assign rfl) rfl rfl ?_)
      first | with_reducible refine S.nilK ?_ | refine S.nil ?_
      refine hK17 _ _ ?_
      refine S.seq fun K18 hK18 => ?_
      refine S.seq fun K19 hK19 => ?_
      refine S.region rfl ?_
      refine S.op (S.q (q_move rfl) rfl rfl ?_)
      refine S.op (S.q (q_len Tryd.underlying31 rfl) rfl rfl ?_)
      refine S.ent (Ent.ownNil 68 1) ?_
      show S _ w0 _ (own SV.nil 68 1 (idsV []) :: _) _
      refine S.op (S.q (q_move rfl) rfl rfl ?_)
      first | with_reducible refine S.nilK ?_ | refine S.nil ?_
      refine hK19 _ _ ?_
      refine S.block ?_
      refine S.loop (fun q3 ρ' Γ' => ∃ (k : Nat) (sv : SV) (nl : List Nat) (dn : Bool), q3 = L2.length - k ∧ k ≤ L2.length ∧ insU j false L2 k = (nl, dn) ∧ sv.n = nl.length ∧ ρ' = [(0, .pointer (some ⟨b, 0, none⟩)), (6, .int .u32 (j : Int)), (7, sv.v), (8, .bool dn), (17, .int .i64 (cs.n : Int)), (18, .int .i64 (r : Int)), (23, rv.v), (24, .int .i64 rv.n), (25, .int .i64 (i : Int)), (29, o2.v), (30, .int .i64 o2.n), (31, .int .i64 (k : Int))] ∧   Γ' = own sv 68 1 (idsV nl) :: own o2 68 1 (idsV L2) :: own rv 68 1 (idsV (rowIds m r)) :: RI b m :: Γ) (m := _) (ρ0 := _) (Γ0 := _) (⟨0, SV.nil, [], false, rfl, by omega, rfl, rfl, rfl, rfl⟩) (by repeat (first | exact trivial | refine ⟨rfl, ?_⟩)) Sub.ent ?_
      rintro q3 ρ' Γ' ⟨k, sv, nl, dn, hq3, hk, hiu, hsv, rfl, rfl⟩
      have hnl := insU_len j L2 k
      rw [hiu] at hnl
      have hnl : nl.length ≤ k + 1 := by simp only at hnl; rw [hnl]; split <;> omega
      refine S.seq fun K20 hK20 => ?_
      refine S.region rfl ?_
      refine S.op (S.q (q_lt rfl rfl) rfl rfl ?_)
      first | with_reducible refine S.nilK ?_ | refine S.nil ?_
      refine hK20 _ _ ?_
      refine S.seq fun K21 hK21 => ?_
      refine S.condD rfl (fun h4 => ?_) (fun h4 => ?_)
      · refine S.ownSome o2 (by omega) fun ob oo hoa _ _ _ => ?_
        obtain ⟨x, hx⟩ := getE (show k < L2.length by omega)
        have hxd : L2.getD k 0 = x := by simp [List.getD, hx]
        refine S.skip ?_
        with_reducible repeat (first | refine S.then_n ?_ | refine S.then_x ?_ | refine S.then_r ?_ | refine S.inBlock_n ?_ | refine S.inBlock_r ?_ | refine S.inBlock_x rfl ?_ | refine S.noGoto_r ?_ | refine S.noGoto_n ?_ | refine S.noGoto_x ?_)
        refine hK21 _ _ ?_
        refine S.seq fun K22 hK22 => ?_
        refine S.block ?_
        refine S.seq fun K23 hK23 => ?_
        refine S.region rfl ?_
        refine S.op (S.q (q_indexO (k) Tryd.el31 rfl hoa rfl rfl (by omega)) rfl rfl ?_)
        refine S.op (S.q (q_loadOw (o2) (k) Tryd.at68 rfl hoa (by first | rfl | exact Nat.add_assoc _ _ _ | omega) (idsV_get hx)) rfl rfl ?_)
        refine S.op (S.q (q_assign rfl) rfl rfl ?_)
        first | with_reducible refine S.nilK ?_ | refine S.nil ?_
        refine hK23 _ _ ?_
        refine S.seq fun K24 hK24 => ?_
        refine S.seq fun K25 hK25 => ?_
        refine S.cut (fun ρ' Γ' => ρ' = [(0, .pointer (some ⟨b, 0, none⟩)), (6, .int .u32 (j : Int)), (7, sv.v), (8, .bool dn), (10, .int .u32 (x : Int)), (17, .int .i64 (cs.n : Int)), (18, .int .i64 (r : Int)), (23, rv.v), (24, .int .i64 rv.n), (25, .int .i64 (i : Int)), (29, o2.v), (30, .int .i64 o2.n), (31, .int .i64 (k : Int)), (41, .bool (!dn && decide (j < x)))] ∧   Γ' = own sv 68 1 (idsV nl) :: own o2 68 1 (idsV L2) :: own rv 68 1 (idsV (rowIds m r)) :: RI b m :: Γ) ?_ ?_
        · refine S.regionG ?_
          refine S.g_op rfl (S.q (q_move rfl) rfl rfl ?_)
          refine S.g_op rfl (S.q (q_not rfl) rfl rfl ?_)
          refine S.g_op rfl (S.q (q_move rfl) rfl rfl ?_)
          rcases Bool.eq_false_or_eq_true ((!dn)) with hg15_2 | hg15_2
          · refine S.g_yes rfl rfl rfl (hg15_2) (S.q (q_move rfl) rfl rfl ?_)
            refine S.g_yes rfl rfl rfl (hg15_2) (S.q (q_move rfl) rfl rfl ?_)
            refine S.g_yes rfl rfl rfl (hg15_2) (S.q (q_gt rfl rfl) rfl rfl ?_)
            refine S.g_op rfl (S.q (q_pickT rfl (hg15_2) rfl) rfl rfl ?_)
            first | with_reducible refine S.g_nilK ?_ | refine S.g_nil ?_
            with_reducible repeat (first | refine S.then_n ?_ | refine S.then_x ?_ | refine S.then_r ?_ | refine S.inBlock_n ?_ | refine S.inBlock_r ?_ | refine S.inBlock_x rfl ?_ | refine S.noGoto_r ?_ | refine S.noGoto_n ?_ | refine S.noGoto_x ?_)
            first | (rw [show (!dn && decide (j < x)) = decide ((j : Int) < (x : Int)) by rw [hg15_2, Bool.true_and]; exact decide_eq_decide.2 (by omega)]; exact S.meet ⟨rfl, rfl⟩ ⟨rfl, rfl, rfl, rfl, rfl, rfl, rfl, rfl, rfl, rfl, rfl, rfl, rfl, rfl, trivial⟩ Sub.ent) | (rw [show (!dn && decide (j < x)) = false by rw [hg15_2]; rfl]; exact S.meet ⟨rfl, rfl⟩ ⟨rfl, rfl, rfl, rfl, rfl, rfl, rfl, rfl, rfl, rfl, rfl, rfl, rfl, rfl, trivial⟩ Sub.ent)
          · refine S.g_no rfl rfl rfl (hg15_2) rfl rfl ?_
            refine S.g_no rfl rfl rfl (hg15_2) rfl rfl ?_
            refine S.g_no rfl rfl rfl (hg15_2) rfl rfl ?_
            refine S.g_op rfl (S.q (q_pickF rfl (hg15_2) rfl) rfl rfl ?_)
            first | with_reducible refine S.g_nilK ?_ | refine S.g_nil ?_
            with_reducible repeat (first | refine S.then_n ?_ | refine S.then_x ?_ | refine S.then_r ?_ | refine S.inBlock_n ?_ | refine S.inBlock_r ?_ | refine S.inBlock_x rfl ?_ | refine S.noGoto_r ?_ | refine S.noGoto_n ?_ | refine S.noGoto_x ?_)
            first | (rw [show (!dn && decide (j < x)) = decide ((j : Int) < (x : Int)) by rw [hg15_2, Bool.true_and]; exact decide_eq_decide.2 (by omega)]; exact S.meet ⟨rfl, rfl⟩ ⟨rfl, rfl, rfl, rfl, rfl, rfl, rfl, rfl, rfl, rfl, rfl, rfl, rfl, rfl, trivial⟩ Sub.ent) | (rw [show (!dn && decide (j < x)) = false by rw [hg15_2]; rfl]; exact S.meet ⟨rfl, rfl⟩ ⟨rfl, rfl, rfl, rfl, rfl, rfl, rfl, rfl, rfl, rfl, rfl, rfl, rfl, rfl, trivial⟩ Sub.ent)
        · rintro ρ' Γ' ⟨rfl, rfl⟩
          refine hK25 _ _ ?_
          refine S.cut (fun ρ' Γ' => ∃ (sv2 : SV) (n2 : List Nat) (d2 : Bool), sv2.n = n2.length ∧ n2.length ≤ k + 2 ∧ insU j false L2 (k + 1) = (n2 ++ [x], d2) ∧ ρ' = [(0, .pointer (some ⟨b, 0, none⟩)), (6, .int .u32 (j : Int)), (7, sv2.v), (8, .bool d2), (10, .int .u32 (x : Int)), (17, .int .i64 (cs.n : Int)), (18, .int .i64 (r : Int)), (23, rv.v), (24, .int .i64 rv.n), (25, .int .i64 (i : Int)), (29, o2.v), (30, .int .i64 o2.n), (31, .int .i64 (k : Int))] ∧   Γ' = own sv2 68 1 (idsV n2) :: own o2 68 1 (idsV L2) :: own rv 68 1 (idsV (rowIds m r)) :: RI b m :: Γ) ?_ ?_
          · refine S.cond rfl (fun h5 => ?_) (fun h5 => ?_)
            · have hst : insU j false L2 (k + 1) = ((nl ++ [j]) ++ [x], true) := by rw [insU_t (by rw [hiu, hxd]; exact h5), hiu, hxd]
              have hl5 : (nl ++ [j]).length = nl.length + 1 := by simp
              have hd5 : idsV nl ++ [.int .u32 (j : Int)] = idsV (nl ++ [j]) := by simp
              refine S.seq fun K26 hK26 => ?_
              refine S.region rfl ?_
              refine S.op (S.q (q_move rfl) rfl rfl ?_)
              refine S.op (S.q (q_move rfl) rfl rfl ?_)
              refine S.op (S.buildSlice (pvs := [(_, _)]) [_] Tryd.underlying31 Tryd.inf68 rfl rfl ⟨⟨rfl, rfl⟩, trivial⟩ rfl rfl ?_)
              intro b44
              refine S.op (S.appendOw (s := sv) (1) ([.int .u32 (j : Int)]) Tryd.underlying31 Tryd.inf68 rfl rfl rfl (blk_slAt (b := b44) rfl (by unfold maxLen; omega)) (by first | rfl | exact allOne_bcells _) (⟨by omega, by omega⟩) rfl ?_)
              intro sv2 hsv2
              refine S.op (S.q (q_assign rfl) rfl rfl ?_)
              first | with_reducible refine S.nilK ?_ | refine S.nil ?_
              refine hK26 _ _ ?_
              refine S.region rfl ?_
              refine S.op (S.q (q_assign rfl) rfl rfl ?_)
              first | with_reducible refine S.nilK ?_ | refine S.nil ?_
              with_reducible repeat (first | refine S.then_n ?_ | refine S.then_x ?_ | refine S.then_r ?_ | refine S.inBlock_n ?_ | refine S.inBlock_r ?_ | refine S.inBlock_x rfl ?_ | refine S.noGoto_r ?_ | refine S.noGoto_n ?_ | refine S.noGoto_x ?_)
              first | (rw [hd5]; exact S.meet ⟨sv2, nl ++ [j], true, by omega, by omega, hst, rfl, rfl⟩ ⟨rfl, rfl, rfl, rfl, rfl, rfl, rfl, rfl, rfl, rfl, rfl, rfl, rfl, trivial⟩ Sub.ent) | exact S.meet ⟨sv, nl, dn, hsv, by omega, hst, rfl, rfl⟩ ⟨rfl, rfl, rfl, rfl, rfl, rfl, rfl, rfl, rfl, rfl, rfl, rfl, rfl, trivial⟩ Sub.ent
            · have hst : insU j false L2 (k + 1) = (nl ++ [x], dn) := by rw [insU_f (by rw [hiu, hxd, h5]; decide), hiu, hxd]
              refine S.skip ?_
              with_reducible repeat (first | refine S.then_n ?_ | refine S.then_x ?_ | refine S.then_r ?_ | refine S.inBlock_n ?_ | refine S.inBlock_r ?_ | refine S.inBlock_x rfl ?_ | refine S.noGoto_r ?_ | refine S.noGoto_n ?_ | refine S.noGoto_x ?_)
              with_reducible repeat (first | refine S.then_n ?_ | refine S.then_x ?_ | refine S.then_r ?_ | refine S.inBlock_n ?_ | refine S.inBlock_r ?_ | refine S.inBlock_x rfl ?_ | refine S.noGoto_r ?_ | refine S.noGoto_n ?_ | refine S.noGoto_x ?_)
              first | (rw [hd5]; exact S.meet ⟨sv2, nl ++ [j], true, by omega, by omega, hst, rfl, rfl⟩ ⟨rfl, rfl, rfl, rfl, rfl, rfl, rfl, rfl, rfl, rfl, rfl, rfl, rfl, trivial⟩ Sub.ent) | exact S.meet ⟨sv, nl, dn, hsv, by omega, hst, rfl, rfl⟩ ⟨rfl, rfl, rfl, rfl, rfl, rfl, rfl, rfl, rfl, rfl, rfl, rfl, rfl, trivial⟩ Sub.ent
          · rintro ρ' Γ' ⟨sv2, n2, d2, hsv2, hn2, hst, rfl, rfl⟩
            refine hK24 _ _ ?_
            refine S.region rfl ?_
            refine S.op (S.q (q_move rfl) rfl rfl ?_)
            refine S.op (S.q (q_move rfl) rfl rfl ?_)
            refine S.op (S.buildSlice (pvs := [(_, _)]) [_] Tryd.underlying31 Tryd.inf68 rfl rfl ⟨⟨rfl, rfl⟩, trivial⟩ rfl rfl ?_)
            intro b48
            refine S.op (S.appendOw (s := sv2) (1) ([.int .u32 (x : Int)]) Tryd.underlying31 Tryd.inf68 rfl rfl rfl (blk_slAt (b := b48) rfl (by unfold maxLen; omega)) (by first | rfl | exact allOne_bcells _) (⟨by omega, by omega⟩) rfl ?_)
            intro sv3 hsv3
            refine S.op (S.q (q_assign rfl) rfl rfl ?_)
            first | with_reducible refine S.nilK ?_ | refine S.nil ?_
            with_reducible repeat (first | refine S.then_n ?_ | refine S.then_x ?_ | refine S.then_r ?_ | refine S.inBlock_n ?_ | refine S.inBlock_r ?_ | refine S.inBlock_x rfl ?_ | refine S.noGoto_r ?_ | refine S.noGoto_n ?_ | refine S.noGoto_x ?_)
            refine hK22 _ _ ?_
            refine S.region rfl ?_
            refine S.op (S.q (q_add rfl rfl (inI64 (by omega) (by omega))) rfl rfl ?_)
            refine S.op (S.q (q_move rfl) rfl rfl ?_)
            first | with_reducible refine S.nilK ?_ | refine S.nil ?_
            with_reducible repeat (first | refine S.then_n ?_ | refine S.then_x ?_ | refine S.then_r ?_ | refine S.inBlock_n ?_ | refine S.inBlock_r ?_ | refine S.inBlock_x rfl ?_ | refine S.noGoto_r ?_ | refine S.noGoto_n ?_ | refine S.noGoto_x ?_)
            rw [show idsV n2 ++ [Value.int .u32 (x : Int)] = idsV (n2 ++ [x]) by simp]
            exact S.next (q3 - 1) (⟨k + 1, sv3, n2 ++ [x], d2, by omega, by omega, hst, by rw [List.length_append, List.length_singleton]; omega, rfl, rfl⟩) (by omega) (by repeat (first | exact trivial | refine ⟨rfl, ?_⟩)) Sub.ent
      · have hke : k = L2.length := by omega
        rw [hke] at hiu
        refine S.exit ?_
        with_reducible repeat (first | refine S.then_n ?_ | refine S.then_x ?_ | refine S.then_r ?_ | refine S.inBlock_n ?_ | refine S.inBlock_r ?_ | refine S.inBlock_x rfl ?_ | refine S.noGoto_r ?_ | refine S.noGoto_n ?_ | refine S.noGoto_x ?_)
        with_reducible refine S.inBlock_s ?_
        with_reducible repeat (first | refine S.then_n ?_ | refine S.then_x ?_ | refine S.then_r ?_ | refine S.inBlock_n ?_ | refine S.inBlock_r ?_ | refine S.inBlock_x rfl ?_ | refine S.noGoto_r ?_ | refine S.noGoto_n ?_ | refine S.noGoto_x ?_)
        refine hK18 _ _ ?_
        refine S.seq fun K27 hK27 => ?_
        refine S.seq fun K28 hK28 => ?_
        refine S.region rfl ?_
        refine S.op (S.q (q_move rfl) rfl rfl ?_)
        refine S.op (S.q (q_not rfl) rfl rfl ?_)
        first | with_reducible refine S.nilK ?_ | refine S.nil ?_
        refine hK28 _ _ ?_
        refine S.cond rfl (fun h6 => ?_) (fun h6 => ?_)
        · have hdn : dn = false := by simpa using h6
          have hfin : insJ j L2 = nl ++ [j] := by rw [insJ, hiu, hdn]; rfl
          have hd6 : idsV nl ++ [.int .u32 (j : Int)] = idsV (nl ++ [j]) := by simp
          have hl6 : (nl ++ [j]).length = nl.length + 1 := by simp
          refine S.region rfl ?_
          refine S.op (S.q (q_move rfl) rfl rfl ?_)
          refine S.op (S.q (q_move rfl) rfl rfl ?_)
          refine S.op (S.buildSlice (pvs := [(_, _)]) [_] Tryd.underlying31 Tryd.inf68 rfl rfl ⟨⟨rfl, rfl⟩, trivial⟩ rfl rfl ?_)
          intro b55
          refine S.op (S.appendOw (s := sv) (1) ([.int .u32 (j : Int)]) Tryd.underlying31 Tryd.inf68 rfl rfl rfl (blk_slAt (b := b55) rfl (by unfold maxLen; omega)) (by first | rfl | exact allOne_bcells _) (⟨by omega, by omega⟩) rfl ?_)
          intro sv2 hsv2
          refine S.op (S.q (q_assign rfl) rfl rfl ?_)
          first | with_reducible refine S.nilK ?_ | refine S.nil ?_
          refine hK27 _ _ ?_
          refine S.region rfl ?_
          refine S.op (S.q (q_move rfl) rfl rfl ?_)
          refine S.op (S.q (q_assign rfl) rfl rfl ?_)
          first | with_reducible refine S.nilK ?_ | refine S.nil ?_
          with_reducible repeat (first | refine S.then_n ?_ | refine S.then_x ?_ | refine S.then_r ?_ | refine S.inBlock_n ?_ | refine S.inBlock_r ?_ | refine S.inBlock_x rfl ?_ | refine S.noGoto_r ?_ | refine S.noGoto_n ?_ | refine S.noGoto_x ?_)
          refine hK14 _ _ ?_
          refine S.region rfl ?_
          refine S.op (S.q (q_add rfl rfl (inI64 (by omega) (by omega))) rfl rfl ?_)
          refine S.op (S.q (q_move rfl) rfl rfl ?_)
          first | with_reducible refine S.nilK ?_ | refine S.nil ?_
          with_reducible repeat (first | refine S.then_n ?_ | refine S.then_x ?_ | refine S.then_r ?_ | refine S.inBlock_n ?_ | refine S.inBlock_r ?_ | refine S.inBlock_x rfl ?_ | refine S.noGoto_r ?_ | refine S.noGoto_n ?_ | refine S.noGoto_x ?_)
          first | (rw [hd6]; exact S.next (q2 - 1) ⟨i + 1, sv2, nl ++ [j], by omega, by omega, hfin.symm.trans hnx, by omega, rfl, rfl⟩ (by omega) (by repeat (first | exact trivial | refine ⟨rfl, ?_⟩)) Sub.ent) | exact S.next (q2 - 1) ⟨i + 1, sv, nl, by omega, by omega, hfin.symm.trans hnx, hsv, rfl, rfl⟩ (by omega) (by repeat (first | exact trivial | refine ⟨rfl, ?_⟩)) Sub.ent
        · have hdn : dn = true := by simpa using h6
          have hfin : insJ j L2 = nl := by rw [insJ, hiu, hdn]; rfl
          refine S.skip ?_
          with_reducible repeat (first | refine S.then_n ?_ | refine S.then_x ?_ | refine S.then_r ?_ | refine S.inBlock_n ?_ | refine S.inBlock_r ?_ | refine S.inBlock_x rfl ?_ | refine S.noGoto_r ?_ | refine S.noGoto_n ?_ | refine S.noGoto_x ?_)
          refine hK27 _ _ ?_
          refine S.region rfl ?_
          refine S.op (S.q (q_move rfl) rfl rfl ?_)
          refine S.op (S.q (q_assign rfl) rfl rfl ?_)
          first | with_reducible refine S.nilK ?_ | refine S.nil ?_
          with_reducible repeat (first | refine S.then_n ?_ | refine S.then_x ?_ | refine S.then_r ?_ | refine S.inBlock_n ?_ | refine S.inBlock_r ?_ | refine S.inBlock_x rfl ?_ | refine S.noGoto_r ?_ | refine S.noGoto_n ?_ | refine S.noGoto_x ?_)
          refine hK14 _ _ ?_
          refine S.region rfl ?_
          refine S.op (S.q (q_add rfl rfl (inI64 (by omega) (by omega))) rfl rfl ?_)
          refine S.op (S.q (q_move rfl) rfl rfl ?_)
          first | with_reducible refine S.nilK ?_ | refine S.nil ?_
          with_reducible repeat (first | refine S.then_n ?_ | refine S.then_x ?_ | refine S.then_r ?_ | refine S.inBlock_n ?_ | refine S.inBlock_r ?_ | refine S.inBlock_x rfl ?_ | refine S.noGoto_r ?_ | refine S.noGoto_n ?_ | refine S.noGoto_x ?_)
          first | (rw [hd6]; exact S.next (q2 - 1) ⟨i + 1, sv2, nl ++ [j], by omega, by omega, hfin.symm.trans hnx, by omega, rfl, rfl⟩ (by omega) (by repeat (first | exact trivial | refine ⟨rfl, ?_⟩)) Sub.ent) | exact S.next (q2 - 1) ⟨i + 1, sv, nl, by omega, by omega, hfin.symm.trans hnx, hsv, rfl, rfl⟩ (by omega) (by repeat (first | exact trivial | refine ⟨rfl, ?_⟩)) Sub.ent
    · have hie : i = (rowIds m r).length := by omega
      rw [hie, List.take_length] at hL2
      have hL3 : L2 = insAll [] (rowsIds m (r + 1)) := by rw [rowsIds, insAll_app, ← hL, hL2]
      refine S.exit ?_
      with_reducible repeat (first | refine S.then_n ?_ | refine S.then_x ?_ | refine S.then_r ?_ | refine S.inBlock_n ?_ | refine S.inBlock_r ?_ | refine S.inBlock_x rfl ?_ | refine S.noGoto_r ?_ | refine S.noGoto_n ?_ | refine S.noGoto_x ?_)
      with_reducible refine S.inBlock_s ?_
      with_reducible repeat (first | refine S.then_n ?_ | refine S.then_x ?_ | refine S.then_r ?_ | refine S.inBlock_n ?_ | refine S.inBlock_r ?_ | refine S.inBlock_x rfl ?_ | refine S.noGoto_r ?_ | refine S.noGoto_n ?_ | refine S.noGoto_x ?_)
      with_reducible repeat (first | refine S.then_n ?_ | refine S.then_x ?_ | refine S.then_r ?_ | refine S.inBlock_n ?_ | refine S.inBlock_r ?_ | refine S.inBlock_x rfl ?_ | refine S.noGoto_r ?_ | refine S.noGoto_n ?_ | refine S.noGoto_x ?_)
      refine hK9 _ _ ?_
      refine S.region rfl ?_
      refine S.op (S.q (q_add rfl rfl (inI64 (by omega) (by omega))) rfl rfl ?_)
      refine S.op (S.q (q_move rfl) rfl rfl ?_)
      first | with_reducible refine S.nilK ?_ | refine S.nil ?_
      with_reducible repeat (first | refine S.then_n ?_ | refine S.then_x ?_ | refine S.then_r ?_ | refine S.inBlock_n ?_ | refine S.inBlock_r ?_ | refine S.inBlock_x rfl ?_ | refine S.noGoto_r ?_ | refine S.noGoto_n ?_ | refine S.noGoto_x ?_)
      exact S.next (q - 1) (⟨r + 1, o2, L2, by omega, by omega, hL3, ho2, rfl, rfl⟩) (by omega) (by repeat (first | exact trivial | refine ⟨rfl, ?_⟩)) Sub.ent
  · rw [show r = m.R by omega, insAll_rows hm] at hL
    subst hL
    refine S.exit ?_
    with_reducible repeat (first | refine S.then_n ?_ | refine S.then_x ?_ | refine S.then_r ?_ | refine S.inBlock_n ?_ | refine S.inBlock_r ?_ | refine S.inBlock_x rfl ?_ | refine S.noGoto_r ?_ | refine S.noGoto_n ?_ | refine S.noGoto_x ?_)
    with_reducible refine S.inBlock_s ?_
    with_reducible repeat (first | refine S.then_n ?_ | refine S.then_x ?_ | refine S.then_r ?_ | refine S.inBlock_n ?_ | refine S.inBlock_r ?_ | refine S.inBlock_x rfl ?_ | refine S.noGoto_r ?_ | refine S.noGoto_n ?_ | refine S.noGoto_x ?_)
    refine hK5 _ _ ?_
    refine S.seq fun K29 hK29 => ?_
    refine S.region rfl ?_
    refine S.op (S.q (q_move rfl) rfl rfl ?_)
    refine S.op (S.q (q_assign rfl) rfl rfl ?_)
    first | with_reducible refine S.nilK ?_ | refine S.nil ?_
    refine hK29 _ _ ?_
    refine S.ret ?_
    with_reducible repeat (first | refine S.then_n ?_ | refine S.then_x ?_ | refine S.then_r ?_ | refine S.inBlock_n ?_ | refine S.inBlock_r ?_ | refine S.inBlock_x rfl ?_ | refine S.noGoto_r ?_ | refine S.noGoto_n ?_ | refine S.noGoto_x ?_)
    exact S.fin (rs := [_]) (vs := [_]) Tryd.results68 (⟨rfl, trivial⟩)  (⟨ov, rfl, hov, rfl⟩) Sub.ent
theorem rCopy_S (b : Nat) (m : Mx) : Spec Tryd.prog 26 [.pointer (some ⟨b, 0, none⟩)] [RI b m] fun Γ v Θ => ∃ c, v = .pointer (some ⟨c, 0, none⟩) ∧ Θ = RI c m :: RI b m :: Γ := by
  refine Spec.riOk fun hm => ?_
  refine Spec.of_body Tryd.func26 rfl Tryd.ntmps26 rfl ?_
  intro w0 Γ
  show S _ w0 [(0, .pointer (some ⟨b, 0, none⟩))] (RI b m :: Γ) _
  have hR8 := hm.R8
  have hN16 := hm.N16
  have hN1 := hm.N1
  have hR1 := hm.R1
  refine S.riOpen b m fun cs us rs hri => ?_
  have hcn := hri.cn
  have hun := hri.un
  refine S.ownSome cs (by omega) fun cb co hca _ _ _ => ?_
  have hupo : allOne (upC m) = true := List.all_eq_true.2 fun v hv => by
    obtain ⟨i, _, rfl⟩ := List.mem_map.1 hv
    rfl
  refine S.seq fun K1 hK1 => ?_
  refine S.region rfl ?_
  refine S.op (S.q (q_assign rfl) rfl rfl ?_)
  first | with_reducible refine S.nilK ?_ | refine S.nil ?_
  refine hK1 _ _ ?_
  refine S.seq fun K2 hK2 => ?_
  refine S.seq fun K3 hK3 => ?_
  refine S.region rfl ?_
  refine S.op (S.q (q_move rfl) rfl rfl ?_)
  refine S.op (S.q (q_eqN Tryd.underlying26 rfl rfl) rfl rfl ?_)
  first | with_reducible refine S.nilK ?_ | refine S.nil ?_
  refine hK3 _ _ ?_
  refine S.condF rfl ?_
  refine S.skip ?_
  with_reducible repeat (first | refine S.then_n ?_ | refine S.then_x ?_ | refine S.then_r ?_ | refine S.inBlock_n ?_ | refine S.inBlock_r ?_ | refine S.inBlock_x rfl ?_ | refine S.noGoto_r ?_ | refine S.noGoto_n ?_ | refine S.noGoto_x ?_)
  refine hK2 _ _ ?_
  refine S.seq fun K4 hK4 => ?_
  refine S.region rfl ?_
  refine S.op (S.buildSlice0 Tryd.underlying53 Tryd.inf4 rfl ?_)
  intro b8 hb8
  refine S.op (S.q (q_move rfl) rfl rfl ?_)
  refine S.op (S.q (q_nilCheck rfl) rfl rfl ?_)
  refine S.op (S.q (q_field Tryd.fo55_1 rfl) rfl rfl ?_)
  refine S.op (S.q (q_load Tryd.at53 rfl rfl) rfl rfl ?_)
  refine S.op (S.appendOw (s := b8) (us.n) (upC m) Tryd.underlying53 Tryd.inf4 rfl rfl rfl (fun w hs => (RdS.own (s := us) (e := 4) (sz := 1) (xs := upC m)).at_ hs) (hupo) (⟨by omega, by omega⟩) rfl ?_)
  intro u2 hu2
  rw [List.nil_append]
  refine S.op (S.q (q_build (pvs := [(_, _)]) [_, _] Tryd.z55 Tryd.p55 ⟨⟨rfl, rfl⟩, trivial⟩ rfl) rfl rfl ?_)
  refine S.op (S.box (cs := [_, _]) rfl rfl rfl ?_)
  intro b15
  refine S.op (S.q (q_assign rfl) rfl rfl ?_)
  first | with_reducible refine S.nilK ?_ | refine S.nil ?_
  refine hK4 _ _ ?_
  refine S.seq fun K5 hK5 => ?_
  refine S.seq fun K6 hK6 => ?_
  refine S.region rfl ?_
  refine S.op (S.q (q_move rfl) rfl rfl ?_)
  refine S.op (S.q (q_nilCheck rfl) rfl rfl ?_)
  refine S.op (S.q (q_field Tryd.fo55_0 rfl) rfl rfl ?_)
  refine S.op (S.q (q_load Tryd.at52 rfl rfl) rfl rfl ?_)
  refine S.op (S.q (q_len Tryd.underlying52 rfl) rfl rfl ?_)
  show S _ w0 _ (blk b15 55 #[SV.nil.v, u2.v] :: own u2 4 1 (upC m) :: _) _
  refine S.ent (Ent.ownNil 31 1) ?_
  refine S.ent (Ent.allsNil rrB _) ?_
  show S _ w0 _ (alls [] rrB :: own SV.nil 31 1 (([] : List Rr).map rrV) :: blk b15 55 #[SV.nil.v, u2.v] :: own u2 4 1 (upC m) :: riX b m cs us rs Γ) _
  refine S.op (S.q (q_move rfl) rfl rfl ?_)
  first | with_reducible refine S.nilK ?_ | refine S.nil ?_
  refine hK6 _ _ ?_
  refine S.block ?_
  refine S.loop (fun q ρ' Γ' => ∃ (i : Nat) (r2 : List Rr) (c2 : SV), q = m.R - i ∧ i ≤ m.R ∧ r2.map (·.2) = (List.range i).map (rowN m) ∧ c2.n = i ∧ (∀ p ∈ r2, p.1.n = m.N) ∧ ρ' = [(0, .pointer (some ⟨b, 0, none⟩)), (3, .pointer (some ⟨b15, 0, none⟩)), (19, cs.v), (20, .int .i64 (cs.n : Int)), (21, .int .i64 (i : Int))] ∧   Γ' = alls r2 rrB :: own c2 31 1 (r2.map rrV) :: blk b15 55 #[c2.v, u2.v] :: own u2 4 1 (upC m) :: riX b m cs us rs Γ) (m := _) (ρ0 := _) (Γ0 := _) (⟨0, [], SV.nil, rfl, by omega, rfl, rfl, fun _ h => (by cases h), rfl, rfl⟩) (by repeat (first | exact trivial | refine ⟨rfl, ?_⟩)) Sub.ent ?_
  rintro q ρ' Γ' ⟨i, r2, c2, hq, hi, hdat, hc2, hlen, rfl, rfl⟩
  refine S.seq fun K7 hK7 => ?_
  refine S.region rfl ?_
  refine S.op (S.q (q_lt rfl rfl) rfl rfl ?_)
  first | with_reducible refine S.nilK ?_ | refine S.nil ?_
  refine hK7 _ _ ?_
  refine S.seq fun K8 hK8 => ?_
  refine S.condD rfl (fun h2 => ?_) (fun h2 => ?_)
  · obtain ⟨p, hp, hpd, hpn⟩ := hri.at_ (show i < m.R by omega)
    have hRp : RdS (alls rs rrB) p.1 p.1.n 1 (idsV p.2) := RdS.alls hp RdS.own
    refine S.skip ?_
    with_reducible repeat (first | refine S.then_n ?_ | refine S.then_x ?_ | refine S.then_r ?_ | refine S.inBlock_n ?_ | refine S.inBlock_r ?_ | refine S.inBlock_x rfl ?_ | refine S.noGoto_r ?_ | refine S.noGoto_n ?_ | refine S.noGoto_x ?_)
    refine hK8 _ _ ?_
    refine S.seq fun K9 hK9 => ?_
    refine S.block ?_
    refine S.seq fun K10 hK10 => ?_
    refine S.region rfl ?_
    refine S.op (S.q (q_indexO (i) Tryd.el52 rfl hca rfl rfl (by omega)) rfl rfl ?_)
    refine S.op (S.q (q_loadOw (cs) (i) Tryd.at31 rfl hca (by first | rfl | exact Nat.add_assoc _ _ _ | omega) (by rw [List.getElem?_map, hp]; rfl)) rfl rfl ?_)
    refine S.op (S.q (q_assign rfl) rfl rfl ?_)
    first | with_reducible refine S.nilK ?_ | refine S.nil ?_
    refine hK10 _ _ ?_
    refine S.draw ([blk b15 55 #[c2.v, u2.v]]) [12] Tryd.mixed ?_
    refine S.dr_take 0 [10, 11, 12] rfl (by kernel_rfl) rfl rfl rfl (q_move rfl) Sub.ent ?_
    refine S.dr_take 1 [2, 3, 4, 9, 10, 11, 12] rfl (by kernel_rfl) rfl rfl rfl (q_move rfl) Sub.ent ?_
    refine S.dr_take 2 [3, 4, 9, 10, 11, 12] rfl (by kernel_rfl) rfl rfl rfl (q_nilCheck rfl) Sub.ent ?_
    refine S.dr_take 3 [4, 9, 10, 11, 12] rfl (by kernel_rfl) rfl rfl rfl (q_field Tryd.fo55_0 rfl) Sub.ent ?_
    refine S.dr_take 4 [9, 10, 11, 12] rfl (by kernel_rfl) rfl rfl rfl (q_load Tryd.at52 rfl rfl) Sub.ent ?_
    refine S.dr_take 6 [7, 8, 9, 10, 11, 12] rfl (by kernel_rfl) rfl rfl rfl (q_move rfl) Sub.ent ?_
    refine S.dr_1 (i := 5) (by kernel_rfl) rfl rfl ?_
    refine  (S.buildSlice0 Tryd.underlying31 Tryd.inf68 rfl ?_)
    intro b30 hb30
    refine S.dr_k rfl Sub.ent ?_
    refine S.dr_1 (i := 7) (by kernel_rfl) rfl rfl ?_
    refine  (S.appendOw (s := b30) (p.1.n) (idsV p.2) Tryd.underlying31 Tryd.inf68 rfl rfl rfl (fun w hs => hRp.at_ hs) (idsV_one p.2) (⟨by omega, by omega⟩) rfl ?_)
    intro nv1 hnv1
    rw [List.nil_append]
    refine S.dr_k rfl Sub.ent ?_
    refine S.dr_1 (i := 8) (by kernel_rfl) rfl rfl ?_
    refine  (S.buildSlice (pvs := [(_, _)]) [_] Tryd.underlying52 Tryd.inf31 rfl rfl ⟨⟨rfl, rfl⟩, trivial⟩ rfl rfl ?_)
    intro b33
    refine S.dr_k rfl Sub.ent ?_
    refine S.dr_1 (i := 9) (by kernel_rfl) rfl rfl ?_
    refine  (S.appendOw (s := c2) (1) ([nv1.v]) Tryd.underlying52 Tryd.inf31 rfl rfl rfl (blk_slAt (b := b33) rfl (by unfold maxLen; omega)) (by first | rfl | exact allOne_bcells _) (⟨by omega, by omega⟩) rfl ?_)
    intro c3 hc3
    refine S.dr_k rfl Sub.ent ?_
    refine S.dr_take 10 [11, 12] rfl (by kernel_rfl) rfl rfl rfl (q_nilCheck rfl) Sub.ent ?_
    refine S.dr_take 11 [12] rfl (by kernel_rfl) rfl rfl rfl (q_field Tryd.fo55_0 rfl) Sub.ent ?_
    refine S.dr_1 (i := 12) (by kernel_rfl) rfl rfl ?_
    refine  (S.store (cs' := [_, _]) Tryd.at52 rfl rfl rfl rfl rfl ?_)
    refine S.dr_late ([]) [] rfl ?_
    first | with_reducible refine S.dr_doneK (by kernel_rfl) ?_ | refine S.dr_done (by kernel_rfl) ?_
    with_reducible repeat (first | refine S.then_n ?_ | refine S.then_x ?_ | refine S.then_r ?_ | refine S.inBlock_n ?_ | refine S.inBlock_r ?_ | refine S.inBlock_x rfl ?_ | refine S.noGoto_r ?_ | refine S.noGoto_n ?_ | refine S.noGoto_x ?_)
    refine hK9 _ _ ?_
    refine S.region rfl ?_
    refine S.op (S.q (q_add rfl rfl (inI64 (by omega) (by omega))) rfl rfl ?_)
    refine S.op (S.q (q_move rfl) rfl rfl ?_)
    first | with_reducible refine S.nilK ?_ | refine S.nil ?_
    with_reducible repeat (first | refine S.then_n ?_ | refine S.then_x ?_ | refine S.then_r ?_ | refine S.inBlock_n ?_ | refine S.inBlock_r ?_ | refine S.inBlock_x rfl ?_ | refine S.noGoto_r ?_ | refine S.noGoto_n ?_ | refine S.noGoto_x ?_)
    have hdat2 : (r2 ++ [((nv1, p.2) : Rr)]).map (·.2) = (List.range (i + 1)).map (rowN m) := by rw [List.map_append, hdat, List.range_succ, List.map_append, hpd]; rfl
    have hlen2 : ∀ z ∈ r2 ++ [((nv1, p.2) : Rr)], z.1.n = m.N := fun z hz => by
      rcases List.mem_append.1 hz with h9 | h9
      · exact hlen z h9
      · rw [List.mem_singleton] at h9
        rw [h9]
        show nv1.n = m.N
        omega
    have hmap : r2.map rrV ++ [nv1.v] = (r2 ++ [((nv1, p.2) : Rr)]).map rrV := by rw [List.map_append]; rfl
    rw [hmap]
    refine S.conv2 (own nv1 68 1 (idsV p.2)) (alls r2 rrB) (Ent.allsSnoc rrB r2 ((nv1, p.2) : Rr) _) ?_
    exact S.next (q - 1) (⟨i + 1, r2 ++ [(nv1, p.2)], c3, by omega, by omega, hdat2, by omega, hlen2, rfl, rfl⟩) (by omega) (by repeat (first | exact trivial | refine ⟨rfl, ?_⟩)) Sub.ent
  · rw [show i = m.R by omega] at hdat
    have hri2 : RiOk m c2 u2 r2 := ⟨hm, by omega, by omega, hdat, hlen⟩
    refine S.exit ?_
    with_reducible repeat (first | refine S.then_n ?_ | refine S.then_x ?_ | refine S.then_r ?_ | refine S.inBlock_n ?_ | refine S.inBlock_r ?_ | refine S.inBlock_x rfl ?_ | refine S.noGoto_r ?_ | refine S.noGoto_n ?_ | refine S.noGoto_x ?_)
    with_reducible refine S.inBlock_s ?_
    with_reducible repeat (first | refine S.then_n ?_ | refine S.then_x ?_ | refine S.then_r ?_ | refine S.inBlock_n ?_ | refine S.inBlock_r ?_ | refine S.inBlock_x rfl ?_ | refine S.noGoto_r ?_ | refine S.noGoto_n ?_ | refine S.noGoto_x ?_)
    refine hK5 _ _ ?_
    refine S.seq fun K11 hK11 => ?_
    refine S.region rfl ?_
    refine S.op (S.q (q_move rfl) rfl rfl ?_)
    refine S.op (S.q (q_assign rfl) rfl rfl ?_)
    first | with_reducible refine S.nilK ?_ | refine S.nil ?_
    refine hK11 _ _ ?_
    refine S.ret ?_
    with_reducible repeat (first | refine S.then_n ?_ | refine S.then_x ?_ | refine S.then_r ?_ | refine S.inBlock_n ?_ | refine S.inBlock_r ?_ | refine S.inBlock_x rfl ?_ | refine S.noGoto_r ?_ | refine S.noGoto_n ?_ | refine S.noGoto_x ?_)
    refine S.riClose b15 m c2 u2 r2 hri2 ?_
    refine S.riClose b m cs us rs hri ?_
    refine S.sub (RI b15 m :: RI b m :: Γ) ?_
    exact S.fin (rs := [_]) (vs := [_]) Tryd.results26 (⟨rfl, trivial⟩)  (⟨b15, rfl, rfl⟩) Sub.ent
end Go.Proofs.YtegjmmocnffpiaaDoor
