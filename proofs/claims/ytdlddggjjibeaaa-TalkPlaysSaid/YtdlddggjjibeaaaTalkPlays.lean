/- The law TalkPlays: every script has the document's answers. -/
import Derived.Test.YtdlddggjjibeaaaTalkN
import Derived.Test.YtdlddggjjibeaaaRefs
import Derived.Test.YtdlddggjjibeaaaTalkH
namespace Go.Proofs.Ytdlddggjjibeaaa
open Go.RowKit
theorem samePk_self (n e l s a : Int) (pl : Bool) (d : List Int) : samePk n e l s a pl d n e l s a pl d = true := by simp [samePk]
theorem sayR_rng {nd ep lf : Int} {p : List Int} (hp : Rng p) (st : Sto) : Rng (sayR nd ep lf p st).1.d := by
  cases st with
  | none => exact Rng.nil
  | some x => exact hp
theorem hearR_rng (nd ep lf : Int) (k : Pak) (st : Sto) : Rng (hearR nd ep lf k st).2.2.1.d := by
  cases st with
  | none => exact Rng.nil
  | some x =>
    simp only [hearR]
    cases mineB nd ep lf x.q k.n k.e k.l k.a k.pl with
    | false => exact Rng.nil
    | true =>
      simp only [cond_true]
      split
      · exact Rng.nil
      · split <;> exact Rng.nil
theorem told_rng : ∀ {L : List Th} {b : Int}, (∀ t ∈ L, Rng t.data) → ∀ z ∈ toldOf b L, Rng z.2
  | [], _, _, _, h => by cases h
  | t :: L, b, h, z, hz => by
    rcases List.mem_cons.1 hz with e | hz
    · subst e; exact h t (by simp)
    · exact told_rng (fun t ht => h t (by simp [ht])) z hz
theorem tick_rng {m : Nat} {st : Sto} (h : OkT m st) : ∀ z ∈ (tickR st).1, Rng z.2 := by
  cases st with
  | none => intro z hz; cases hz
  | some x =>
    simp only [tickR]
    cases quietT x.L with
    | true => intro z hz; cases hz
    | false => exact told_rng fun t ht => (h.2.2.2.2.2.2 t ht).2.2.2
theorem TNew (nd ep lf : Int) : Spec Try.prog 10 [.int .u8 nd, .int .u32 ep, .int .u32 lf] [] fun Γ v Θ => ∃ pa, v = .pointer pa ∧ Θ = TI nd ep lf pa (some ⟨0, 0, 0, []⟩) :: Γ := by
  refine (New_S nd ep lf).weaken fun Γ => ⟨Γ, Ent.refl _, ?_⟩
  rintro v Θ ⟨t, rfl, rfl⟩
  refine ⟨_, ⟨_, rfl, rfl⟩, ?_⟩
  have e1 : Ent (blk t 72 (tk nd ep lf 0 0 SV.nil).toArray :: Γ) (blk t 72 (tk nd ep lf 0 0 SV.nil).toArray :: own SV.nil 76 3 [] :: alls [] sltB :: Γ) := ((Ent.allsNil sltB Γ).trans (Ent.ownNil _ _)).cons _
  exact e1.trans (Ent.closeTI (os := []) (x := ⟨0, 0, 0, []⟩) rfl (Seqs.nil _) _)
theorem RNew (nd ep lf : Int) : Spec Try.prog 18 [.int .u8 nd, .int .u32 ep, .int .u32 lf] [] fun Γ v Θ => ∃ pa, v = .pointer pa ∧ Θ = RI nd ep lf pa (some ⟨0, 0, 0, []⟩) :: Γ := by
  refine (rNew_S nd ep lf).weaken fun Γ => ⟨Γ, Ent.refl _, ?_⟩
  rintro v Θ ⟨t, rfl, rfl⟩
  refine ⟨_, ⟨_, rfl, rfl⟩, ?_⟩
  have e1 : Ent (blk t 65 (rk nd ep lf SV.nil SV.nil 0 0 0).toArray :: Γ) (blk t 65 (rk nd ep lf SV.nil SV.nil 0 0 0).toArray :: own SV.nil 32 1 [] :: alls [] brB :: own SV.nil 3 1 [] :: Γ) := (((Ent.ownNil 3 1).trans (Ent.allsNil brB _)).trans (Ent.ownNil _ _)).cons _
  exact e1.trans (Ent.closeRI (x := ⟨0, 0, 0, []⟩) (sds := []) (tls := []) (D := 0) ⟨rfl, rfl, rfl, fun i y hy => by simp at hy, fun k hk => by simp at hk, fun s hs => by simp at hs⟩ rfl _)
/-- A step of a script. -/
structure Opt where
  od : Int
  v : SV
  l : List Int
  k : Pak
  kv : SV
instance : Inhabited Opt := ⟨⟨0, SV.nil, [], pak0, SV.nil⟩⟩
abbrev optC (x : Opt) : List Value := [.int .u8 x.od, x.v.v, .int .u8 x.k.n, .int .u32 x.k.e, .int .u32 x.k.l, .int .u32 x.k.s, .int .u32 x.k.a, .bool x.k.pl, x.kv.v]
theorem rd_opts {W : World} {cs : List Value} (h : Rd W (.slice 9 (.cat 1 (.int .u8) (.cat 1 tsBytes (.cat 7 (.cat 1 (.int .u8) (.cat 1 (.int .u32) (.cat 1 (.int .u32) (.cat 1 (.int .u32) (.cat 1 (.int .u32) (.cat 1 .bool (.cat 1 tsBytes .nil))))))) .nil)))) cs) :
    ∃ (s : SV) (rs : List Opt), cs = [s.v] ∧ s.n = rs.length ∧ SlAt W s.v rs.length 9 (rs.flatMap optC) ∧ ∀ r ∈ rs, BW W r.v r.l ∧ BW W r.kv r.k.d ∧ (0 ≤ r.k.a ∧ r.k.a ≤ 4294967295) ∧ (0 ≤ r.k.s ∧ r.k.s ≤ 4294967295) := by
  obtain ⟨s, rs, h1, h2, h3, h4, _⟩ := rd_slice (α := Opt) (encA := optC) (p := fun r => BW W r.v r.l ∧ BW W r.kv r.k.d ∧ (0 ≤ r.k.a ∧ r.k.a ≤ 4294967295) ∧ (0 ≤ r.k.s ∧ r.k.s ≤ 4294967295)) (fun cs hr _ => by
    obtain ⟨_, _, rfl, _, ⟨od, rfl, _⟩, _, _, rfl, _, h7, _, _, rfl, _, h8, rfl⟩ := hr
    obtain ⟨dv, ld, rfl, hb⟩ := rd_bytes h7
    obtain ⟨n, e, l, s, a, pl, kv, kd, rfl, hk, _, _, _, hs, ha⟩ := rd_packet h8
    exact ⟨⟨od, dv, ld, ⟨n, e, l, s, a, pl, kd⟩, kv⟩, rfl, hb, hk, ha, hs⟩) h (by omega)
  exact ⟨s, rs, h1, h2, h3, h4⟩
theorem bcells_set (l : List Int) (j : Nat) (r : Int) : (bcells l).set j (.int .u8 r) = bcells (l.set j r) := by unfold bcells; rw [List.map_set]
set_option maxHeartbeats 1600000 in
theorem TalkPlays_S (nd ep lf : Int) (no : Bool) (s4 : SV) (rs : List Opt) (W : World) (hn0 : s4.n = rs.length) (h0 : SlAt W s4.v rs.length 9 (rs.flatMap optC)) (hr : ∀ r ∈ rs, BW W r.v r.l ∧ BW W r.kv r.k.d ∧ (0 ≤ r.k.a ∧ r.k.a ≤ 4294967295) ∧ (0 ≤ r.k.s ∧ r.k.s ≤ 4294967295)) : LawS 6 [.int .u8 nd, .int .u32 ep, .int .u32 lf, .bool no, s4.v] W := by
  have hm0 := slAt_cap h0
  unfold maxLen at hm0
  refine Spec.of_body Try.func6 rfl Try.ntmps6 rfl ?_
  intro w0 Γ
  show S _ w0 [(0, .int .u8 nd), (1, .int .u32 ep), (2, .int .u32 lf), (3, .bool no), (4, s4.v)] (old W :: Γ) _
  refine S.seq fun K1 hK1 => ?_
  refine S.region rfl ?_
  refine S.op (S.q (q_assign rfl) rfl rfl ?_)
  first | with_reducible refine S.nilK ?_ | refine S.nil ?_
  refine hK1 _ _ ?_
  refine S.seq fun K2 hK2 => ?_
  refine S.seq fun K3 hK3 => ?_
  refine S.region rfl ?_
  refine S.op (S.call Try.en9 (vs := []) trivial (awake_S) rfl ?_)
  rintro v Θ ⟨rfl, rfl⟩
  refine S.op (S.q (q_not rfl) rfl rfl ?_)
  first | with_reducible refine S.nilK ?_ | refine S.nil ?_
  refine hK3 _ _ ?_
  refine S.condF rfl ?_
  refine S.skip ?_
  with_reducible repeat (first | refine S.then_n ?_ | refine S.then_x ?_ | refine S.then_r ?_ | refine S.inBlock_n ?_ | refine S.inBlock_r ?_ | refine S.inBlock_x rfl ?_ | refine S.noGoto_r ?_ | refine S.noGoto_n ?_ | refine S.noGoto_x ?_)
  refine hK2 _ _ ?_
  refine S.seq fun K4 hK4 => ?_
  refine S.region rfl ?_
  refine S.op (S.q (q_move rfl) rfl rfl ?_)
  refine S.op (S.q (q_move rfl) rfl rfl ?_)
  refine S.op (S.q (q_move rfl) rfl rfl ?_)
  refine S.op (S.call Try.en10 (vs := [_, _, _]) ⟨rfl, rfl, rfl, trivial⟩ (TNew nd ep lf) rfl ?_)
  rintro v Θ ⟨pa0, rfl, rfl⟩
  refine S.op (S.q (q_move rfl) rfl rfl ?_)
  refine S.op (S.q (q_move rfl) rfl rfl ?_)
  refine S.op (S.q (q_move rfl) rfl rfl ?_)
  refine S.op (S.call Try.en18 (vs := [_, _, _]) ⟨rfl, rfl, rfl, trivial⟩ (RNew nd ep lf) rfl ?_)
  rintro v Θ ⟨pb0, rfl, rfl⟩
  refine S.op (S.q (q_assign rfl) rfl rfl ?_)
  refine S.op (S.q (q_assign rfl) rfl rfl ?_)
  first | with_reducible refine S.nilK ?_ | refine S.nil ?_
  refine hK4 _ _ ?_
  refine S.seq fun K5 hK5 => ?_
  refine S.seq fun K6 hK6 => ?_
  refine S.region rfl ?_
  refine S.op (S.q (q_move rfl) rfl rfl ?_)
  first | with_reducible refine S.nilK ?_ | refine S.nil ?_
  refine hK6 _ _ ?_
  refine S.cut (fun ρ' Γ' => ∃ (pa pb : Option Addr) (st : Sto), OkT 0 st ∧ ρ' = [(4, s4.v), (11, .pointer pa), (12, .pointer pb)] ∧ Γ' = TI nd ep lf pa st :: RI nd ep lf pb st :: old W :: Γ) ?_ ?_
  · refine S.cond rfl (fun h2 => ?_) (fun h2 => ?_)
    · refine S.region rfl ?_
      refine S.op (S.q (q_assign rfl) rfl rfl ?_)
      refine S.op (S.q (q_assign rfl) rfl rfl ?_)
      first | with_reducible refine S.nilK ?_ | refine S.nil ?_
      with_reducible repeat (first | refine S.then_n ?_ | refine S.then_x ?_ | refine S.then_r ?_ | refine S.inBlock_n ?_ | refine S.inBlock_r ?_ | refine S.inBlock_x rfl ?_ | refine S.noGoto_r ?_ | refine S.noGoto_n ?_ | refine S.noGoto_x ?_)
      first
      | exact S.meet ⟨pa0, pb0, some ⟨0, 0, 0, []⟩, ⟨by simp, by simp, by simp, by simp, by simp, by simp, fun t ht => by simp at ht⟩, rfl, rfl⟩ ⟨rfl, rfl, rfl, trivial⟩ Sub.ent
      | exact S.meet ⟨none, none, none, trivial, rfl, rfl⟩ ⟨rfl, rfl, rfl, trivial⟩ ((Sub.ent : Ent _ (old W :: Γ)).trans ((Ent.noRI _).trans (Ent.noTI _)))
    · refine S.skip ?_
      with_reducible repeat (first | refine S.then_n ?_ | refine S.then_x ?_ | refine S.then_r ?_ | refine S.inBlock_n ?_ | refine S.inBlock_r ?_ | refine S.inBlock_x rfl ?_ | refine S.noGoto_r ?_ | refine S.noGoto_n ?_ | refine S.noGoto_x ?_)
      with_reducible repeat (first | refine S.then_n ?_ | refine S.then_x ?_ | refine S.then_r ?_ | refine S.inBlock_n ?_ | refine S.inBlock_r ?_ | refine S.inBlock_x rfl ?_ | refine S.noGoto_r ?_ | refine S.noGoto_n ?_ | refine S.noGoto_x ?_)
      first
      | exact S.meet ⟨pa0, pb0, some ⟨0, 0, 0, []⟩, ⟨by simp, by simp, by simp, by simp, by simp, by simp, fun t ht => by simp at ht⟩, rfl, rfl⟩ ⟨rfl, rfl, rfl, trivial⟩ Sub.ent
      | exact S.meet ⟨none, none, none, trivial, rfl, rfl⟩ ⟨rfl, rfl, rfl, trivial⟩ ((Sub.ent : Ent _ (old W :: Γ)).trans ((Ent.noRI _).trans (Ent.noTI _)))
  · rintro ρ' Γ' ⟨pa, pb, st0, ok0, rfl, rfl⟩
    refine hK5 _ _ ?_
    refine S.seq fun K7 hK7 => ?_
    refine S.seq fun K8 hK8 => ?_
    refine S.region rfl ?_
    refine S.op (S.q (q_move rfl) rfl rfl ?_)
    refine S.op (S.q (q_len Try.underlying50 rfl) rfl rfl ?_)
    refine S.op (S.q (q_move rfl) rfl rfl ?_)
    first | with_reducible refine S.nilK ?_ | refine S.nil ?_
    refine hK8 _ _ ?_
    refine S.block ?_
    refine S.loop (fun m ρ' Γ' => ∃ (k : Nat) (st : Sto), m + k = rs.length ∧ k ≤ 80 ∧ OkT k st ∧ ρ' = [(11, .pointer pa), (12, .pointer pb), (48, s4.v), (49, .int .i64 s4.n), (50, .int .i64 k)] ∧ Γ' = TI nd ep lf pa st :: RI nd ep lf pb st :: old W :: Γ) (m := _) (ρ0 := _) (Γ0 := _) (⟨0, st0, rfl, by omega, ok0, rfl, rfl⟩) (by repeat (first | exact trivial | refine ⟨rfl, ?_⟩)) Sub.ent ?_
    rintro m ρ' Γ' ⟨k, st, hk1, hk80, ok, rfl, rfl⟩
    refine S.seq fun K9 hK9 => ?_
    refine S.region rfl ?_
    refine S.op (S.q (q_lt rfl rfl) rfl rfl ?_)
    first | with_reducible refine S.nilK ?_ | refine S.nil ?_
    refine hK9 _ _ ?_
    refine S.seq fun K10 hK10 => ?_
    refine S.condD rfl (fun h3 => ?_) (fun h3 => ?_)
    · obtain ⟨r, hrk⟩ := getE (l := rs) (i := k) (by omega)
      obtain ⟨hbr, hbk, hka, hks⟩ := hr r (List.mem_of_getElem? hrk)
      have hcr := slAt_cap hbr.at_
      have hlr := hbr.len
      have hck := slAt_cap hbk.at_
      have hlk := hbk.len
      unfold maxLen at hcr hck
      obtain ⟨b, off, hb, hcell⟩ := slAt_some h0 (by omega)
      refine S.skip ?_
      with_reducible repeat (first | refine S.then_n ?_ | refine S.then_x ?_ | refine S.then_r ?_ | refine S.inBlock_n ?_ | refine S.inBlock_r ?_ | refine S.inBlock_x rfl ?_ | refine S.noGoto_r ?_ | refine S.noGoto_n ?_ | refine S.noGoto_x ?_)
      refine hK10 _ _ ?_
      refine S.seq fun K11 hK11 => ?_
      refine S.block ?_
      refine S.seq fun K12 hK12 => ?_
      refine S.region rfl ?_
      refine S.op (S.q (q_move rfl) rfl rfl ?_)
      refine S.op (S.q (q_indexO (k) Try.el50 rfl hb rfl rfl (by omega)) rfl rfl ?_)
      refine S.op (S.q (q_loadWS [.int .u8 r.od, r.v.v, .int .u8 r.k.n, .int .u32 r.k.e, .int .u32 r.k.l, .int .u32 r.k.s, .int .u32 r.k.a, .bool r.k.pl, r.kv.v] Try.ag54 rfl rfl (fun i u hu => by rw [Nat.add_assoc]; exact hcell _ _ (flat_seg (enc := optC) (sz := 9) (fun _ => rfl) hrk i u hu))) rfl rfl ?_)
      refine S.op (S.alloc Try.z54 rfl ?_)
      intro b14
      refine S.op (S.q (q_assign rfl) rfl rfl ?_)
      refine S.op (S.storeS (cs' := [_, _, _, _, _, _, _, _, _]) Try.ag54 rfl rfl rfl rfl rfl rfl ?_)
      first | with_reducible refine S.nilK ?_ | refine S.nil ?_
      refine hK12 _ _ ?_
      refine S.seq fun K13 hK13 => ?_
      refine S.seq fun K14 hK14 => ?_
      refine S.region rfl ?_
      refine S.op (S.q (q_move rfl) rfl rfl ?_)
      refine S.op (S.q (q_ge rfl rfl) rfl rfl ?_)
      first | with_reducible refine S.nilK ?_ | refine S.nil ?_
      refine hK14 _ _ ?_
      refine S.condD rfl (fun h4 => ?_) (fun h4 => ?_)
      · refine S.exit ?_
        with_reducible repeat (first | refine S.then_n ?_ | refine S.then_x ?_ | refine S.then_r ?_ | refine S.inBlock_n ?_ | refine S.inBlock_r ?_ | refine S.inBlock_x rfl ?_ | refine S.noGoto_r ?_ | refine S.noGoto_n ?_ | refine S.noGoto_x ?_)
        with_reducible refine S.inBlock_s ?_
        with_reducible repeat (first | refine S.then_n ?_ | refine S.then_x ?_ | refine S.then_r ?_ | refine S.inBlock_n ?_ | refine S.inBlock_r ?_ | refine S.inBlock_x rfl ?_ | refine S.noGoto_r ?_ | refine S.noGoto_n ?_ | refine S.noGoto_x ?_)
        refine hK7 _ _ ?_
        refine S.seq fun K15 hK15 => ?_
        refine S.region rfl ?_
        refine S.op (S.q (q_assign rfl) rfl rfl ?_)
        first | with_reducible refine S.nilK ?_ | refine S.nil ?_
        refine hK15 _ _ ?_
        refine S.ret ?_
        with_reducible repeat (first | refine S.then_n ?_ | refine S.then_x ?_ | refine S.then_r ?_ | refine S.inBlock_n ?_ | refine S.inBlock_r ?_ | refine S.inBlock_x rfl ?_ | refine S.noGoto_r ?_ | refine S.noGoto_n ?_ | refine S.noGoto_x ?_)
        exact S.fin (rs := [_]) (vs := [_]) Try.results6 (⟨rfl, trivial⟩)  (⟨rfl, rfl⟩) Sub.ent
      · obtain ⟨P, hP⟩ : ∃ P, P = min r.l.length 60 := ⟨_, rfl⟩
        have hbt := hbr.take P (by omega)
        obtain ⟨l, hl⟩ : ∃ l, l = r.l.take P := ⟨_, rfl⟩
        rw [← hl] at hbt
        have hll : l.length = P := by rw [hl, List.length_take]; omega
        refine S.skip ?_
        with_reducible repeat (first | refine S.then_n ?_ | refine S.then_x ?_ | refine S.then_r ?_ | refine S.inBlock_n ?_ | refine S.inBlock_r ?_ | refine S.inBlock_x rfl ?_ | refine S.noGoto_r ?_ | refine S.noGoto_n ?_ | refine S.noGoto_x ?_)
        refine hK13 _ _ ?_
        refine S.seq fun K16 hK16 => ?_
        refine S.region rfl ?_
        refine S.op (S.buildSlice0 Try.underlying32 Try.inf5 rfl ?_)
        intro b57 hb57
        refine S.op (S.q (q_field Try.fo54_1 rfl) rfl rfl ?_)
        refine S.op (S.q (q_load Try.at32 rfl rfl) rfl rfl ?_)
        refine S.op (S.q (q_field Try.fo54_1 rfl) rfl rfl ?_)
        refine S.op (S.q (q_load Try.at32 rfl rfl) rfl rfl ?_)
        refine S.op (S.q (q_len Try.underlying32 rfl) rfl rfl ?_)
        refine S.op (S.q (q_min ((P : Int)) rfl rfl (by omega)) rfl rfl ?_)
        refine S.op (S.q (q_sliceTo (P) Try.el32 rfl rfl rfl (by omega)) rfl rfl ?_)
        refine S.op (S.appendOw (s := b57) (P) (bcells l) Try.underlying32 Try.inf5 rfl rfl rfl (fun w hs => (by have := HasOld.slAt inferInstance hs hbt.at_; unfold BytesAt at this; rw [hll] at this; exact this)) (by first | rfl | exact allOne_bcells _) (⟨by omega, by omega⟩) rfl ?_)
        intro u hu
        rw [List.nil_append]
        refine S.op (S.q (q_assign rfl) rfl rfl ?_)
        first | with_reducible refine S.nilK ?_ | refine S.nil ?_
        refine hK16 _ _ ?_
        refine S.seq fun K17 hK17 => ?_
        refine S.cut (fun ρ' Γ' => ∃ st' : Sto, OkT (k + 1) st' ∧ ρ' = [(11, .pointer pa), (12, .pointer pb), (48, s4.v), (49, .int .i64 s4.n), (50, .int .i64 k)] ∧ Γ' = TI nd ep lf pa st' :: RI nd ep lf pb st' :: old W :: Γ) ?_ ?_
        · refine S.block ?_
          refine S.seq fun K18 hK18 => ?_
          refine S.region rfl ?_
          refine S.op (S.q (q_field Try.fo54_0 rfl) rfl rfl ?_)
          refine S.op (S.q (q_load Try.at5 rfl rfl) rfl rfl ?_)
          refine S.op (S.q (q_lt rfl rfl) rfl rfl ?_)
          refine S.op (S.q (q_assign rfl) rfl rfl ?_)
          first | with_reducible refine S.nilK ?_ | refine S.nil ?_
          refine hK18 _ _ ?_
          refine S.condD rfl (fun h5 => ?_) (fun h5 => ?_)
          · refine S.seq fun K19 hK19 => ?_
            refine S.region rfl ?_
            refine S.op (S.buildSlice0 Try.underlying32 Try.inf5 rfl ?_)
            intro b126 hb126
            refine S.op (S.q (q_move rfl) rfl rfl ?_)
            refine S.op (S.appendOw (s := b126) (l.length) (bcells l) Try.underlying32 Try.inf5 rfl rfl rfl (fun w hs => bytes_in (g := u) hs) (by first | rfl | exact allOne_bcells _) (⟨by omega, by omega⟩) rfl ?_)
            intro mi hmi
            rw [List.nil_append]
            obtain ⟨K, hK⟩ : ∃ K, K = (sayR nd ep lf l st).1 := ⟨_, rfl⟩
            obtain ⟨st', hst'⟩ : ∃ st', st' = (sayR nd ep lf l st).2.2 := ⟨_, rfl⟩
            have hok' : OkT (k + 1) st' := by rw [hst']; exact sayR_ok ok (by omega) hbt.rng
            have hKr : Rng K.d := by rw [hK]; exact sayR_rng hbt.rng st
            refine S.op (S.q (q_assign rfl) rfl rfl ?_)
            first | with_reducible refine S.nilK ?_ | refine S.nil ?_
            refine hK19 _ _ ?_
            refine S.seq fun K20 hK20 => ?_
            refine S.region rfl ?_
            refine S.op (S.q (q_move rfl) rfl rfl ?_)
            refine S.op (S.q (q_move rfl) rfl rfl ?_)
            refine S.op (S.call Try.en15 (vs := [_, _]) ⟨rfl, rfl, trivial⟩ (TSay nd ep lf pa st k hk80 ok mi l (obytes mi l) (fun Γ w h => obytes_at h) (by omega) (by omega)) rfl ?_)
            rintro v Θ ⟨dv, rfl, rfl⟩
            rw [← hK, ← hst']
            refine S.op (S.q (q_move rfl) rfl rfl ?_)
            refine S.op (S.q (q_extract rfl rfl) rfl rfl ?_)
            refine S.op (S.q (q_extract rfl rfl) rfl rfl ?_)
            refine S.op (S.alloc Try.z34 rfl ?_)
            intro b17
            refine S.op (S.storeS (cs' := [_, _, _, _, _, _, _]) Try.ag34 rfl rfl rfl rfl rfl rfl ?_)
            refine S.op (S.q (q_assign rfl) rfl rfl ?_)
            first | with_reducible refine S.nilK ?_ | refine S.nil ?_
            refine hK20 _ _ ?_
            refine S.seq fun K21 hK21 => ?_
            refine S.region rfl ?_
            refine S.op (S.q (q_move rfl) rfl rfl ?_)
            refine S.op (S.q (q_move rfl) rfl rfl ?_)
            refine S.op (S.call Try.en19 (vs := [_, _]) ⟨rfl, rfl, trivial⟩ (RSay nd ep lf pb st k hk80 ok u l (obytes u l) (fun Γ w h => obytes_at h) (by omega) (by omega)) rfl ?_)
            rintro v Θ ⟨dw, rfl, rfl⟩
            rw [← hK, ← hst']
            refine S.op (S.q (q_move rfl) rfl rfl ?_)
            refine S.op (S.q (q_extract rfl rfl) rfl rfl ?_)
            refine S.op (S.q (q_extract rfl rfl) rfl rfl ?_)
            refine S.op (S.alloc Try.z34 rfl ?_)
            intro b19
            refine S.op (S.storeS (cs' := [_, _, _, _, _, _, _]) Try.ag34 rfl rfl rfl rfl rfl rfl ?_)
            refine S.op (S.q (q_assign rfl) rfl rfl ?_)
            first | with_reducible refine S.nilK ?_ | refine S.nil ?_
            refine hK21 _ _ ?_
            refine S.seq fun K22 hK22 => ?_
            refine S.seq fun K23 hK23 => ?_
            refine S.regionG ?_
            refine S.g_op rfl (S.q (q_loadS [_, _, _, _, _, _, _] Try.ag34 rfl rfl ⟨rfl, rfl, rfl, rfl, rfl, rfl, rfl, trivial⟩) rfl rfl ?_)
            refine S.g_op rfl (S.q (q_loadS [_, _, _, _, _, _, _] Try.ag34 rfl rfl ⟨rfl, rfl, rfl, rfl, rfl, rfl, rfl, trivial⟩) rfl rfl ?_)
            refine S.g_op rfl (S.callP Try.en20 (vs := [_, _]) ⟨rfl, rfl, trivial⟩ (fun w hs => SamePacket_P K.n K.e K.l K.s K.a K.pl dv K.d K.n K.e K.l K.s K.a K.pl dw K.d w (bytes_in (g := dv) hs) (bytes_in (g := dw) hs) hKr hKr) rfl ?_)
            refine S.g_op rfl (S.q (q_not rfl) rfl rfl ?_)
            refine S.g_op rfl (S.q (q_move rfl) rfl rfl ?_)
            refine S.g_yes rfl rfl rfl ((by rw [samePk_self]; rfl)) (S.q (q_move rfl) rfl rfl ?_)
            refine S.g_yes rfl rfl rfl ((by rw [samePk_self]; rfl)) (S.q (q_move rfl) rfl rfl ?_)
            refine S.g_yes rfl rfl rfl ((by rw [samePk_self]; rfl)) (S.q (q_ne rfl rfl) rfl rfl ?_)
            refine S.g_op rfl (S.q (q_pickF rfl ((by rw [samePk_self]; rfl)) rfl) rfl rfl ?_)
            refine S.g_op rfl (S.q (q_move rfl) rfl rfl ?_)
            refine S.g_yes rfl rfl rfl ((decide_eq_false (fun h => h rfl))) (S.q (q_move rfl) rfl rfl ?_)
            refine S.g_yes rfl rfl rfl ((decide_eq_false (fun h => h rfl))) (S.q (q_move rfl) rfl rfl ?_)
            refine S.g_yes rfl rfl rfl ((decide_eq_false (fun h => h rfl))) (S.callP Try.en16 (vs := [_, _]) ⟨rfl, rfl, trivial⟩ (fun w hs => Same_P mi u l l w (bytes_in (g := mi) hs) (bytes_in (g := u) hs) hbt.rng hbt.rng) rfl ?_)
            refine S.g_yes rfl rfl rfl ((decide_eq_false (fun h => h rfl))) (S.q (q_not rfl) rfl rfl ?_)
            refine S.g_op rfl (S.q (q_pickF rfl ((decide_eq_false (fun h => h rfl))) rfl) rfl rfl ?_)
            first | with_reducible refine S.g_nilK ?_ | refine S.g_nil ?_
            refine hK23 _ _ ?_
            refine S.cond rfl (fun h6 => ?_) (fun h6 => ?_)
            · exact absurd h6 (by simp)
            · refine S.skip ?_
              with_reducible repeat (first | refine S.then_n ?_ | refine S.then_x ?_ | refine S.then_r ?_ | refine S.inBlock_n ?_ | refine S.inBlock_r ?_ | refine S.inBlock_x rfl ?_ | refine S.noGoto_r ?_ | refine S.noGoto_n ?_ | refine S.noGoto_x ?_)
              refine hK22 _ _ ?_
              refine S.seq fun K24 hK24 => ?_
              refine S.seq fun K25 hK25 => ?_
              refine S.region rfl ?_
              refine S.op (S.q (q_move rfl) rfl rfl ?_)
              refine S.op (S.q (q_len Try.underlying32 rfl) rfl rfl ?_)
              refine S.op (S.q (q_move rfl) rfl rfl ?_)
              first | with_reducible refine S.nilK ?_ | refine S.nil ?_
              refine hK25 _ _ ?_
              refine S.block ?_
              refine S.loop (fun m2 ρ' Γ' => ∃ (j : Nat) (xs : List Int), m2 + j = mi.n ∧ xs.length = mi.n ∧ ρ' = [(11, .pointer pa), (12, .pointer pb), (16, mi.v), (17, .pointer (some ⟨b17, 0, none⟩)), (48, s4.v), (49, .int .i64 s4.n), (50, .int .i64 k), (157, .int .i64 mi.n), (158, .int .i64 j)] ∧ Γ' = obytes mi xs :: obytes dv K.d :: blk b17 34 (pakC K dv).toArray :: TI nd ep lf pa st' :: RI nd ep lf pb st' :: old W :: Γ) (m := _) (ρ0 := _) (Γ0 := _) (⟨0, l, rfl, by omega, rfl, rfl⟩) (by repeat (first | exact trivial | refine ⟨rfl, ?_⟩)) Sub.ent ?_
              rintro m2 ρ' Γ' ⟨j, xs, hj, hxs, rfl, rfl⟩
              refine S.seq fun K26 hK26 => ?_
              refine S.region rfl ?_
              refine S.op (S.q (q_lt rfl rfl) rfl rfl ?_)
              first | with_reducible refine S.nilK ?_ | refine S.nil ?_
              refine hK26 _ _ ?_
              refine S.seq fun K27 hK27 => ?_
              refine S.condD rfl (fun h7 => ?_) (fun h7 => ?_)
              · obtain ⟨z, hz⟩ := getE (l := xs) (i := j) (by omega)
                refine S.ownSome mi (by omega) fun bu offu hbu _ _ _ => ?_
                refine S.skip ?_
                with_reducible repeat (first | refine S.then_n ?_ | refine S.then_x ?_ | refine S.then_r ?_ | refine S.inBlock_n ?_ | refine S.inBlock_r ?_ | refine S.inBlock_x rfl ?_ | refine S.noGoto_r ?_ | refine S.noGoto_n ?_ | refine S.noGoto_x ?_)
                refine hK27 _ _ ?_
                refine S.seq fun K28 hK28 => ?_
                refine S.block ?_
                refine S.seq fun K29 hK29 => ?_
                refine S.region rfl ?_
                refine S.op (S.q (q_move rfl) rfl rfl ?_)
                refine S.op (S.q (q_assign rfl) rfl rfl ?_)
                first | with_reducible refine S.nilK ?_ | refine S.nil ?_
                refine hK29 _ _ ?_
                refine S.region rfl ?_
                refine S.op (S.q (q_move rfl) rfl rfl ?_)
                refine S.op (S.q (q_move rfl) rfl rfl ?_)
                refine S.op (S.q (q_indexO (j) Try.el32 rfl hbu rfl rfl (by omega)) rfl rfl ?_)
                refine S.op (S.q (q_loadOw (mi) (j * 1) Try.at5 rfl hbu (by first | rfl | exact Nat.add_assoc _ _ _ | omega) (by unfold bcells; rw [Nat.mul_one, List.getElem?_map, hz]; rfl)) rfl rfl ?_)
                refine S.op (S.q (q_xor rfl rfl) rfl rfl ?_)
                refine S.op (S.q (q_indexO (j) Try.el32 rfl hbu rfl rfl (by omega)) rfl rfl ?_)
                refine S.op (S.storeOw (mi) (j * 1) Try.at5 rfl rfl rfl hbu (by first | rfl | exact Nat.add_assoc _ _ _ | omega) (by unfold bcells; rw [List.length_map]; omega) ((congrArg (fun i => (bcells xs).set i _) (Nat.mul_one j)).trans (bcells_set xs j _)) ?_)
                first | with_reducible refine S.nilK ?_ | refine S.nil ?_
                with_reducible repeat (first | refine S.then_n ?_ | refine S.then_x ?_ | refine S.then_r ?_ | refine S.inBlock_n ?_ | refine S.inBlock_r ?_ | refine S.inBlock_x rfl ?_ | refine S.noGoto_r ?_ | refine S.noGoto_n ?_ | refine S.noGoto_x ?_)
                refine hK28 _ _ ?_
                refine S.region rfl ?_
                refine S.ownLen mi fun _ hmc1 hmc2 => ?_
                unfold maxLen at hmc2
                refine S.op (S.q (q_add rfl rfl (inI64 (by omega) (by omega))) rfl rfl ?_)
                refine S.op (S.q (q_move rfl) rfl rfl ?_)
                first | with_reducible refine S.nilK ?_ | refine S.nil ?_
                with_reducible repeat (first | refine S.then_n ?_ | refine S.then_x ?_ | refine S.then_r ?_ | refine S.inBlock_n ?_ | refine S.inBlock_r ?_ | refine S.inBlock_x rfl ?_ | refine S.noGoto_r ?_ | refine S.noGoto_n ?_ | refine S.noGoto_x ?_)
                exact S.next (m2 - 1) (⟨j + 1, xs.set j (xorI .u8 z 1), by omega, by rw [List.length_set]; exact hxs, rfl, rfl⟩) (by omega) (by repeat (first | exact trivial | refine ⟨rfl, ?_⟩)) Sub.ent
              · refine S.exit ?_
                with_reducible repeat (first | refine S.then_n ?_ | refine S.then_x ?_ | refine S.then_r ?_ | refine S.inBlock_n ?_ | refine S.inBlock_r ?_ | refine S.inBlock_x rfl ?_ | refine S.noGoto_r ?_ | refine S.noGoto_n ?_ | refine S.noGoto_x ?_)
                with_reducible refine S.inBlock_s ?_
                with_reducible repeat (first | refine S.then_n ?_ | refine S.then_x ?_ | refine S.then_r ?_ | refine S.inBlock_n ?_ | refine S.inBlock_r ?_ | refine S.inBlock_x rfl ?_ | refine S.noGoto_r ?_ | refine S.noGoto_n ?_ | refine S.noGoto_x ?_)
                refine hK24 _ _ ?_
                refine S.seq fun K30 hK30 => ?_
                refine S.region rfl ?_
                refine S.ownLen dv fun hdvl hdc1 hdc2 => ?_
                unfold maxLen at hdc2
                rw [bcells_length, Nat.mul_one] at hdvl
                refine S.op (S.q (q_field Try.fo34_6 rfl) rfl rfl ?_)
                refine S.op (S.q (q_load Try.at32 rfl rfl) rfl rfl ?_)
                refine S.op (S.q (q_len Try.underlying32 rfl) rfl rfl ?_)
                refine S.op (S.q (q_move rfl) rfl rfl ?_)
                first | with_reducible refine S.nilK ?_ | refine S.nil ?_
                refine hK30 _ _ ?_
                refine S.block ?_
                refine S.loop (fun m3 ρ' Γ' => ∃ (j : Nat) (xs : List Int), m3 + j = dv.n ∧ xs.length = dv.n ∧ ρ' = [(11, .pointer pa), (12, .pointer pb), (17, .pointer (some ⟨b17, 0, none⟩)), (48, s4.v), (49, .int .i64 s4.n), (50, .int .i64 k), (170, .int .i64 dv.n), (171, .int .i64 j)] ∧ Γ' = obytes dv xs :: blk b17 34 (pakC K dv).toArray :: TI nd ep lf pa st' :: RI nd ep lf pb st' :: old W :: Γ) (m := _) (ρ0 := _) (Γ0 := _) (⟨0, K.d, rfl, by omega, rfl, rfl⟩) (by repeat (first | exact trivial | refine ⟨rfl, ?_⟩)) Sub.ent ?_
                rintro m3 ρ' Γ' ⟨j, xs, hj, hxs, rfl, rfl⟩
                refine S.seq fun K31 hK31 => ?_
                refine S.region rfl ?_
                refine S.op (S.q (q_lt rfl rfl) rfl rfl ?_)
                first | with_reducible refine S.nilK ?_ | refine S.nil ?_
                refine hK31 _ _ ?_
                refine S.seq fun K32 hK32 => ?_
                refine S.condD rfl (fun h8 => ?_) (fun h8 => ?_)
                · obtain ⟨z, hz⟩ := getE (l := xs) (i := j) (by omega)
                  refine S.ownSome dv (by omega) fun bu offu hbu _ _ _ => ?_
                  refine S.skip ?_
                  with_reducible repeat (first | refine S.then_n ?_ | refine S.then_x ?_ | refine S.then_r ?_ | refine S.inBlock_n ?_ | refine S.inBlock_r ?_ | refine S.inBlock_x rfl ?_ | refine S.noGoto_r ?_ | refine S.noGoto_n ?_ | refine S.noGoto_x ?_)
                  refine hK32 _ _ ?_
                  refine S.seq fun K33 hK33 => ?_
                  refine S.block ?_
                  refine S.seq fun K34 hK34 => ?_
                  refine S.region rfl ?_
                  refine S.op (S.q (q_move rfl) rfl rfl ?_)
                  refine S.op (S.q (q_assign rfl) rfl rfl ?_)
                  first | with_reducible refine S.nilK ?_ | refine S.nil ?_
                  refine hK34 _ _ ?_
                  refine S.region rfl ?_
                  refine S.op (S.q (q_field Try.fo34_6 rfl) rfl rfl ?_)
                  refine S.op (S.q (q_load Try.at32 rfl rfl) rfl rfl ?_)
                  refine S.op (S.q (q_move rfl) rfl rfl ?_)
                  refine S.op (S.q (q_indexO (j) Try.el32 rfl hbu rfl rfl (by omega)) rfl rfl ?_)
                  refine S.op (S.q (q_loadOw (dv) (j * 1) Try.at5 rfl hbu (by first | rfl | exact Nat.add_assoc _ _ _ | omega) (by unfold bcells; rw [Nat.mul_one, List.getElem?_map, hz]; rfl)) rfl rfl ?_)
                  refine S.op (S.q (q_xor rfl rfl) rfl rfl ?_)
                  refine S.op (S.q (q_indexO (j) Try.el32 rfl hbu rfl rfl (by omega)) rfl rfl ?_)
                  refine S.op (S.storeOw (dv) (j * 1) Try.at5 rfl rfl rfl hbu (by first | rfl | exact Nat.add_assoc _ _ _ | omega) (by unfold bcells; rw [List.length_map]; omega) ((congrArg (fun i => (bcells xs).set i _) (Nat.mul_one j)).trans (bcells_set xs j _)) ?_)
                  first | with_reducible refine S.nilK ?_ | refine S.nil ?_
                  with_reducible repeat (first | refine S.then_n ?_ | refine S.then_x ?_ | refine S.then_r ?_ | refine S.inBlock_n ?_ | refine S.inBlock_r ?_ | refine S.inBlock_x rfl ?_ | refine S.noGoto_r ?_ | refine S.noGoto_n ?_ | refine S.noGoto_x ?_)
                  refine hK33 _ _ ?_
                  refine S.region rfl ?_
                  refine S.op (S.q (q_add rfl rfl (inI64 (by omega) (by omega))) rfl rfl ?_)
                  refine S.op (S.q (q_move rfl) rfl rfl ?_)
                  first | with_reducible refine S.nilK ?_ | refine S.nil ?_
                  with_reducible repeat (first | refine S.then_n ?_ | refine S.then_x ?_ | refine S.then_r ?_ | refine S.inBlock_n ?_ | refine S.inBlock_r ?_ | refine S.inBlock_x rfl ?_ | refine S.noGoto_r ?_ | refine S.noGoto_n ?_ | refine S.noGoto_x ?_)
                  exact S.next (m3 - 1) (⟨j + 1, xs.set j (xorI .u8 z 1), by omega, by rw [List.length_set]; exact hxs, rfl, rfl⟩) (by omega) (by repeat (first | exact trivial | refine ⟨rfl, ?_⟩)) Sub.ent
                · refine S.exit ?_
                  with_reducible repeat (first | refine S.then_n ?_ | refine S.then_x ?_ | refine S.then_r ?_ | refine S.inBlock_n ?_ | refine S.inBlock_r ?_ | refine S.inBlock_x rfl ?_ | refine S.noGoto_r ?_ | refine S.noGoto_n ?_ | refine S.noGoto_x ?_)
                  with_reducible refine S.inBlock_s ?_
                  with_reducible repeat (first | refine S.then_n ?_ | refine S.then_x ?_ | refine S.then_r ?_ | refine S.inBlock_n ?_ | refine S.inBlock_r ?_ | refine S.inBlock_x rfl ?_ | refine S.noGoto_r ?_ | refine S.noGoto_n ?_ | refine S.noGoto_x ?_)
                  with_reducible repeat (first | refine S.then_n ?_ | refine S.then_x ?_ | refine S.then_r ?_ | refine S.inBlock_n ?_ | refine S.inBlock_r ?_ | refine S.inBlock_x rfl ?_ | refine S.noGoto_r ?_ | refine S.noGoto_n ?_ | refine S.noGoto_x ?_)
                  with_reducible repeat (first | refine S.then_n ?_ | refine S.then_x ?_ | refine S.then_r ?_ | refine S.inBlock_n ?_ | refine S.inBlock_r ?_ | refine S.inBlock_x rfl ?_ | refine S.noGoto_r ?_ | refine S.noGoto_n ?_ | refine S.noGoto_x ?_)
                  exact S.meet ⟨st', hok', rfl, rfl⟩ ⟨rfl, rfl, rfl, rfl, rfl, trivial⟩ Sub.ent
          · refine S.seq fun K35 hK35 => ?_
            refine S.region rfl ?_
            refine S.op (S.q (q_field Try.fo54_0 rfl) rfl rfl ?_)
            refine S.op (S.q (q_load Try.at5 rfl rfl) rfl rfl ?_)
            refine S.op (S.q (q_eq rfl rfl) rfl rfl ?_)
            refine S.op (S.q (q_assign rfl) rfl rfl ?_)
            first | with_reducible refine S.nilK ?_ | refine S.nil ?_
            refine hK35 _ _ ?_
            refine S.condD rfl (fun h9 => ?_) (fun h9 => ?_)
            · obtain ⟨H, hH⟩ : ∃ H, H = hdR st := ⟨_, rfl⟩
              obtain ⟨st', hst'⟩ : ∃ st', st' = (tickR st).2 := ⟨_, rfl⟩
              have hok' : OkT (k + 1) st' := by rw [hst']; exact tickR_ok ok
              refine S.seq fun K36 hK36 => ?_
              refine S.region rfl ?_
              refine S.op (S.q (q_move rfl) rfl rfl ?_)
              refine S.op (S.call Try.en14 (vs := [_]) ⟨rfl, trivial⟩ (TTick nd ep lf pa st k hk80 ok) rfl ?_)
              rintro v Θ ⟨out, ps, rfl, hps, rfl⟩
              rw [← hH, ← hst']
              refine S.op (S.q (q_move rfl) rfl rfl ?_)
              refine S.op (S.call Try.en21 (vs := [_]) ⟨rfl, trivial⟩ (RTick nd ep lf pb st k hk80 ok) rfl ?_)
              rintro v Θ ⟨out2, ps2, rfl, hps2, rfl⟩
              rw [← hH, ← hst']
              refine S.ownLen out fun holn hoc1 hoc2 => ?_
              refine S.ownLen out2 fun holn2 _ _ => ?_
              unfold maxLen at hoc2
              rw [flat_length (sz := 7) (fun _ => rfl)] at holn holn2
              have hmap := hps.trans hps2.symm
              have hpl : ps.length = ps2.length := by have := congrArg List.length hmap; simpa using this
              refine S.op (S.q (q_assign rfl) rfl rfl ?_)
              refine S.op (S.q (q_assign rfl) rfl rfl ?_)
              first | with_reducible refine S.nilK ?_ | refine S.nil ?_
              refine hK36 _ _ ?_
              refine S.seq fun K37 hK37 => ?_
              refine S.seq fun K38 hK38 => ?_
              refine S.region rfl ?_
              refine S.op (S.q (q_move rfl) rfl rfl ?_)
              refine S.op (S.q (q_len Try.underlying30 rfl) rfl rfl ?_)
              refine S.op (S.q (q_move rfl) rfl rfl ?_)
              refine S.op (S.q (q_len Try.underlying30 rfl) rfl rfl ?_)
              refine S.op (S.q (q_ne rfl rfl) rfl rfl ?_)
              first | with_reducible refine S.nilK ?_ | refine S.nil ?_
              refine hK38 _ _ ?_
              refine S.condD rfl (fun h10 => ?_) (fun h10 => ?_)
              · exact absurd (show (out.n : Int) = out2.n by omega) h10
              · refine S.skip ?_
                with_reducible repeat (first | refine S.then_n ?_ | refine S.then_x ?_ | refine S.then_r ?_ | refine S.inBlock_n ?_ | refine S.inBlock_r ?_ | refine S.inBlock_x rfl ?_ | refine S.noGoto_r ?_ | refine S.noGoto_n ?_ | refine S.noGoto_x ?_)
                refine hK37 _ _ ?_
                refine S.seq fun K39 hK39 => ?_
                refine S.region rfl ?_
                refine S.op (S.q (q_move rfl) rfl rfl ?_)
                refine S.op (S.q (q_len Try.underlying30 rfl) rfl rfl ?_)
                refine S.op (S.q (q_move rfl) rfl rfl ?_)
                first | with_reducible refine S.nilK ?_ | refine S.nil ?_
                refine hK39 _ _ ?_
                refine S.block ?_
                refine S.loop (fun m4 ρ' Γ' => ∃ j : Nat, m4 + j = out.n ∧ ρ' = [(11, .pointer pa), (12, .pointer pb), (23, out.v), (24, out2.v), (48, s4.v), (49, .int .i64 s4.n), (50, .int .i64 k), (196, .int .i64 out.n), (197, .int .i64 j)] ∧ Γ' = alls ps pkB :: own out 34 7 (ps.flatMap (pkE nd ep lf H)) :: alls ps2 pkB :: own out2 34 7 (ps2.flatMap (pkE nd ep lf H)) :: TI nd ep lf pa st' :: RI nd ep lf pb st' :: old W :: Γ) (m := _) (ρ0 := _) (Γ0 := _) (⟨0, rfl, rfl, rfl⟩) (by repeat (first | exact trivial | refine ⟨rfl, ?_⟩)) Sub.ent ?_
                rintro m4 ρ' Γ' ⟨j, hj, rfl, rfl⟩
                refine S.seq fun K40 hK40 => ?_
                refine S.region rfl ?_
                refine S.op (S.q (q_lt rfl rfl) rfl rfl ?_)
                first | with_reducible refine S.nilK ?_ | refine S.nil ?_
                refine hK40 _ _ ?_
                refine S.seq fun K41 hK41 => ?_
                refine S.condD rfl (fun h11 => ?_) (fun h11 => ?_)
                · obtain ⟨p, hp⟩ := getE (l := ps) (i := j) (by omega)
                  obtain ⟨p2, hp2⟩ := getE (l := ps2) (i := j) (by omega)
                  have hpp := congrArg (fun l => l[j]?) hmap
                  simp only [List.getElem?_map, hp, hp2, Option.map_some, Option.some.injEq, Prod.mk.injEq] at hpp
                  have hrg : Rng p.data := tick_rng ok (p.seq, p.data) (by rw [← hps]; exact List.mem_map.2 ⟨p, List.mem_of_getElem? hp, rfl⟩)
                  refine S.ownSome out (by omega) fun bo offo hbo _ _ _ => ?_
                  refine S.ownSome out2 (by omega) fun bo2 offo2 hbo2 _ _ _ => ?_
                  refine S.skip ?_
                  with_reducible repeat (first | refine S.then_n ?_ | refine S.then_x ?_ | refine S.then_r ?_ | refine S.inBlock_n ?_ | refine S.inBlock_r ?_ | refine S.inBlock_x rfl ?_ | refine S.noGoto_r ?_ | refine S.noGoto_n ?_ | refine S.noGoto_x ?_)
                  refine hK41 _ _ ?_
                  refine S.seq fun K42 hK42 => ?_
                  refine S.block ?_
                  refine S.seq fun K43 hK43 => ?_
                  refine S.region rfl ?_
                  refine S.op (S.q (q_move rfl) rfl rfl ?_)
                  refine S.op (S.q (q_assign rfl) rfl rfl ?_)
                  first | with_reducible refine S.nilK ?_ | refine S.nil ?_
                  refine hK43 _ _ ?_
                  refine S.seq fun K44 hK44 => ?_
                  refine S.draw ([own out 34 7 (ps.flatMap (pkE nd ep lf H)), own out2 34 7 (ps2.flatMap (pkE nd ep lf H))]) [] Try.mixed ?_
                  refine S.dr_take 0 [] rfl (by kernel_rfl) rfl rfl rfl (q_move rfl) Sub.ent ?_
                  refine S.dr_take 1 [] rfl (by kernel_rfl) rfl rfl rfl (q_move rfl) Sub.ent ?_
                  refine S.dr_take 2 [] rfl (by kernel_rfl) rfl rfl rfl (q_indexO (j) Try.el30 rfl hbo rfl rfl (by omega)) Sub.ent ?_
                  refine S.dr_take 3 [] rfl (by kernel_rfl) rfl rfl rfl (q_loadOwS (out) (j * 7) [_, _, _, _, _, _, _] Try.ag34 rfl hbo (by first | rfl | exact Nat.add_assoc _ _ _ | omega) rfl (flat_seg (enc := pkE nd ep lf H) (sz := 7) (fun _ => rfl) hp)) Sub.ent ?_
                  refine S.dr_take 4 [] rfl (by kernel_rfl) rfl rfl rfl (q_move rfl) Sub.ent ?_
                  refine S.dr_take 5 [] rfl (by kernel_rfl) rfl rfl rfl (q_move rfl) Sub.ent ?_
                  refine S.dr_take 6 [] rfl (by kernel_rfl) rfl rfl rfl (q_indexO (j) Try.el30 rfl hbo2 rfl rfl (by omega)) Sub.ent ?_
                  refine S.dr_take 7 [] rfl (by kernel_rfl) rfl rfl rfl (q_loadOwS (out2) (j * 7) [_, _, _, _, _, _, _] Try.ag34 rfl hbo2 (by first | rfl | exact Nat.add_assoc _ _ _ | omega) rfl (flat_seg (enc := pkE nd ep lf H) (sz := 7) (fun _ => rfl) hp2)) Sub.ent ?_
                  refine S.dr_1 (i := 8) (by kernel_rfl) rfl rfl ?_
                  refine  (S.callP Try.en20 (vs := [_, _]) ⟨rfl, rfl, trivial⟩ (fun w hs => SamePacket_P nd ep lf p.seq H false p.v p.data nd ep lf p2.seq H false p2.v p2.data w (alls_bytes (ps := ps) hs hp) (alls_bytes (ps := ps2) hs hp2) hrg (by rw [← hpp.2]; exact hrg)) rfl ?_)
                  refine S.dr_k rfl Sub.ent ?_
                  refine S.dr_take 9 [] rfl (by kernel_rfl) rfl rfl rfl (q_not rfl) Sub.ent ?_
                  first | with_reducible refine S.dr_doneK (by kernel_rfl) ?_ | refine S.dr_done (by kernel_rfl) ?_
                  refine hK44 _ _ ?_
                  refine S.cond rfl (fun h12 => ?_) (fun h12 => ?_)
                  · exact absurd h12 (by rw [hpp.1, hpp.2, samePk_self]; simp)
                  · refine S.skip ?_
                    with_reducible repeat (first | refine S.then_n ?_ | refine S.then_x ?_ | refine S.then_r ?_ | refine S.inBlock_n ?_ | refine S.inBlock_r ?_ | refine S.inBlock_x rfl ?_ | refine S.noGoto_r ?_ | refine S.noGoto_n ?_ | refine S.noGoto_x ?_)
                    with_reducible repeat (first | refine S.then_n ?_ | refine S.then_x ?_ | refine S.then_r ?_ | refine S.inBlock_n ?_ | refine S.inBlock_r ?_ | refine S.inBlock_x rfl ?_ | refine S.noGoto_r ?_ | refine S.noGoto_n ?_ | refine S.noGoto_x ?_)
                    refine hK42 _ _ ?_
                    refine S.region rfl ?_
                    refine S.op (S.q (q_add rfl rfl (inI64 (by omega) (by omega))) rfl rfl ?_)
                    refine S.op (S.q (q_move rfl) rfl rfl ?_)
                    first | with_reducible refine S.nilK ?_ | refine S.nil ?_
                    with_reducible repeat (first | refine S.then_n ?_ | refine S.then_x ?_ | refine S.then_r ?_ | refine S.inBlock_n ?_ | refine S.inBlock_r ?_ | refine S.inBlock_x rfl ?_ | refine S.noGoto_r ?_ | refine S.noGoto_n ?_ | refine S.noGoto_x ?_)
                    exact S.next (m4 - 1) (⟨j + 1, by omega, rfl, rfl⟩) (by omega) (by repeat (first | exact trivial | refine ⟨rfl, ?_⟩)) Sub.ent
                · refine S.exit ?_
                  with_reducible repeat (first | refine S.then_n ?_ | refine S.then_x ?_ | refine S.then_r ?_ | refine S.inBlock_n ?_ | refine S.inBlock_r ?_ | refine S.inBlock_x rfl ?_ | refine S.noGoto_r ?_ | refine S.noGoto_n ?_ | refine S.noGoto_x ?_)
                  with_reducible refine S.inBlock_s ?_
                  with_reducible repeat (first | refine S.then_n ?_ | refine S.then_x ?_ | refine S.then_r ?_ | refine S.inBlock_n ?_ | refine S.inBlock_r ?_ | refine S.inBlock_x rfl ?_ | refine S.noGoto_r ?_ | refine S.noGoto_n ?_ | refine S.noGoto_x ?_)
                  with_reducible repeat (first | refine S.then_n ?_ | refine S.then_x ?_ | refine S.then_r ?_ | refine S.inBlock_n ?_ | refine S.inBlock_r ?_ | refine S.inBlock_x rfl ?_ | refine S.noGoto_r ?_ | refine S.noGoto_n ?_ | refine S.noGoto_x ?_)
                  with_reducible repeat (first | refine S.then_n ?_ | refine S.then_x ?_ | refine S.then_r ?_ | refine S.inBlock_n ?_ | refine S.inBlock_r ?_ | refine S.inBlock_x rfl ?_ | refine S.noGoto_r ?_ | refine S.noGoto_n ?_ | refine S.noGoto_x ?_)
                  exact S.meet ⟨st', hok', rfl, rfl⟩ ⟨rfl, rfl, rfl, rfl, rfl, trivial⟩ Sub.ent
            · obtain ⟨kk, hkk⟩ : ∃ kk : Pak, kk = ⟨r.k.n, r.k.e, r.k.l, r.k.s, r.k.a, r.k.pl, r.k.d.take (min r.k.d.length 60)⟩ := ⟨_, rfl⟩
              have hkd : kk.d.length ≤ 60 := by rw [hkk]; simp only [List.length_take]; omega
              have hkr : Rng kk.d := by rw [hkk]; exact (hbk.take _ (Nat.min_le_left _ _)).rng
              have hkn : min r.k.d.length 60 = kk.d.length := by rw [hkk]; simp only [List.length_take]; omega
              have hka' : 0 ≤ kk.a ∧ kk.a ≤ 4294967295 := by rw [hkk]; exact hka
              have hks' : 0 ≤ kk.s ∧ kk.s ≤ 4294967295 := by rw [hkk]; exact hks
              have hkc : ∀ u : SV, pkC r.k.n r.k.e r.k.l r.k.s r.k.a r.k.pl u = pakC kk u := fun u => by rw [hkk]
              have hkd2 : r.k.d.take (min r.k.d.length 60) = kk.d := by rw [hkk]
              refine S.seq fun K45 hK45 => ?_
              refine S.region rfl ?_
              refine S.op (S.q (q_field Try.fo54_2 rfl) rfl rfl ?_)
              refine S.op (S.q (q_loadS [_, _, _, _, _, _, _] Try.ag34 rfl rfl ⟨rfl, rfl, rfl, rfl, rfl, rfl, rfl, trivial⟩) rfl rfl ?_)
              refine S.op (S.call Try.en22 (vs := [_]) ⟨rfl, trivial⟩ (few_S r.k.n r.k.e r.k.l r.k.s r.k.a r.k.pl r.kv r.k.d (old W) (fun Γ w h => hbk.old h) hlk (by omega) (by omega)) rfl ?_)
              rintro v Θ ⟨u1, rfl, hu1, rfl⟩
              rw [hkc, hkd2]
              rw [hkn] at hu1
              refine S.op (S.alloc Try.z34 rfl ?_)
              intro b26
              refine S.op (S.storeS (cs' := [_, _, _, _, _, _, _]) Try.ag34 rfl rfl rfl rfl rfl rfl ?_)
              first | with_reducible refine S.nilK ?_ | refine S.nil ?_
              refine hK45 _ _ ?_
              refine S.seq fun K46 hK46 => ?_
              refine S.seq fun K47 hK47 => ?_
              refine S.draw ([blk b26 34 (pakC kk u1).toArray]) [] Try.mixed ?_
              refine S.dr_take 0 [] rfl (by kernel_rfl) rfl rfl rfl (q_move rfl) Sub.ent ?_
              refine S.dr_take 1 [] rfl (by kernel_rfl) rfl rfl rfl (q_loadS [_, _, _, _, _, _, _] Try.ag34 rfl rfl ⟨rfl, rfl, rfl, rfl, rfl, rfl, rfl, trivial⟩) Sub.ent ?_
              refine S.dr_take 3 [] rfl (by kernel_rfl) rfl rfl rfl (q_move rfl) Sub.ent ?_
              refine S.dr_take 4 [] rfl (by kernel_rfl) rfl rfl rfl (q_loadS [_, _, _, _, _, _, _] Try.ag34 rfl rfl ⟨rfl, rfl, rfl, rfl, rfl, rfl, rfl, trivial⟩) Sub.ent ?_
              refine S.dr_1 (i := 2) (by kernel_rfl) rfl rfl ?_
              refine  (S.call Try.en23 (vs := [_, _]) ⟨rfl, rfl, trivial⟩ (TMine nd ep lf pa st kk u1) rfl ?_)
              rintro v Θ ⟨rfl, rfl⟩
              refine S.dr_k rfl Sub.ent ?_
              refine S.dr_1 (i := 5) (by kernel_rfl) rfl rfl ?_
              refine  (S.call Try.en24 (vs := [_, _]) ⟨rfl, rfl, trivial⟩ (RMine nd ep lf pb st kk u1 hka') rfl ?_)
              rintro v Θ ⟨rfl, rfl⟩
              refine S.dr_k rfl Sub.ent ?_
              refine S.dr_take 6 [] rfl (by kernel_rfl) rfl rfl rfl (q_neB Try.underlying4 rfl rfl) Sub.ent ?_
              first | with_reducible refine S.dr_doneK (by kernel_rfl) ?_ | refine S.dr_done (by kernel_rfl) ?_
              refine hK47 _ _ ?_
              refine S.cond rfl (fun h13 => ?_) (fun h13 => ?_)
              · exact absurd h13 (by simp)
              · refine S.skip ?_
                with_reducible repeat (first | refine S.then_n ?_ | refine S.then_x ?_ | refine S.then_r ?_ | refine S.inBlock_n ?_ | refine S.inBlock_r ?_ | refine S.inBlock_x rfl ?_ | refine S.noGoto_r ?_ | refine S.noGoto_n ?_ | refine S.noGoto_x ?_)
                refine hK46 _ _ ?_
                refine S.seq fun K48 hK48 => ?_
                refine S.region rfl ?_
                refine S.op (S.q (q_move rfl) rfl rfl ?_)
                refine S.op (S.q (q_loadS [_, _, _, _, _, _, _] Try.ag34 rfl rfl ⟨rfl, rfl, rfl, rfl, rfl, rfl, rfl, trivial⟩) rfl rfl ?_)
                obtain ⟨D1, hD1⟩ : ∃ D1, D1 = (hearR nd ep lf kk st).1 := ⟨_, rfl⟩
                obtain ⟨B1, hB1⟩ : ∃ B1, B1 = (hearR nd ep lf kk st).2.1 := ⟨_, rfl⟩
                obtain ⟨K2, hK2⟩ : ∃ K2, K2 = (hearR nd ep lf kk st).2.2.1 := ⟨_, rfl⟩
                obtain ⟨B2, hB2⟩ : ∃ B2, B2 = (hearR nd ep lf kk st).2.2.2.1 := ⟨_, rfl⟩
                obtain ⟨st', hst'⟩ : ∃ st', st' = (hearR nd ep lf kk st).2.2.2.2 := ⟨_, rfl⟩
                have hok' : OkT (k + 1) st' := by rw [hst']; exact (hearR_ok ok hkr).1
                have hDr : Rng D1 := by rw [hD1]; exact (hearR_ok ok hkr).2
                have hKr2 : Rng K2.d := by rw [hK2]; exact hearR_rng nd ep lf kk st
                refine S.op (S.call Try.en12 (vs := [_, _]) ⟨rfl, rfl, trivial⟩ (THear nd ep lf pa st k hk80 ok kk u1 (obytes u1 kk.d) (fun Γ w h => obytes_at h) hkd) rfl ?_)
                rintro v Θ ⟨g1, v1, rfl, rfl⟩
                rw [← hD1, ← hB1, ← hK2, ← hB2, ← hst']
                refine S.op (S.q (q_move rfl) rfl rfl ?_)
                refine S.op (S.q (q_extract rfl rfl) rfl rfl ?_)
                refine S.op (S.q (q_extract rfl rfl) rfl rfl ?_)
                refine S.op (S.q (q_extract rfl rfl) rfl rfl ?_)
                refine S.op (S.q (q_extract rfl rfl) rfl rfl ?_)
                refine S.op (S.alloc Try.z34 rfl ?_)
                intro b29
                refine S.op (S.q (q_assign rfl) rfl rfl ?_)
                refine S.op (S.q (q_assign rfl) rfl rfl ?_)
                refine S.op (S.storeS (cs' := [_, _, _, _, _, _, _]) Try.ag34 rfl rfl rfl rfl rfl rfl ?_)
                refine S.op (S.q (q_assign rfl) rfl rfl ?_)
                first | with_reducible refine S.nilK ?_ | refine S.nil ?_
                refine hK48 _ _ ?_
                refine S.seq fun K49 hK49 => ?_
                refine S.region rfl ?_
                refine S.op (S.q (q_move rfl) rfl rfl ?_)
                refine S.op (S.q (q_field Try.fo54_2 rfl) rfl rfl ?_)
                refine S.op (S.q (q_loadS [_, _, _, _, _, _, _] Try.ag34 rfl rfl ⟨rfl, rfl, rfl, rfl, rfl, rfl, rfl, trivial⟩) rfl rfl ?_)
                refine S.op (S.call Try.en22 (vs := [_]) ⟨rfl, trivial⟩ (few_S r.k.n r.k.e r.k.l r.k.s r.k.a r.k.pl r.kv r.k.d (old W) (fun Γ w h => hbk.old h) hlk (by omega) (by omega)) rfl ?_)
                rintro v Θ ⟨u2, rfl, hu2, rfl⟩
                rw [hkc, hkd2]
                rw [hkn] at hu2
                refine S.op (S.call Try.en25 (vs := [_, _]) ⟨rfl, rfl, trivial⟩ (RHear nd ep lf pb st k hk80 ok kk u2 (obytes u2 kk.d) (fun Γ w h => obytes_at h) hu2 hkd hka' hks') rfl ?_)
                rintro v Θ ⟨g2, v2, rfl, rfl⟩
                rw [← hD1, ← hB1, ← hK2, ← hB2, ← hst']
                refine S.op (S.q (q_move rfl) rfl rfl ?_)
                refine S.op (S.q (q_extract rfl rfl) rfl rfl ?_)
                refine S.op (S.q (q_extract rfl rfl) rfl rfl ?_)
                refine S.op (S.q (q_extract rfl rfl) rfl rfl ?_)
                refine S.op (S.q (q_extract rfl rfl) rfl rfl ?_)
                refine S.op (S.alloc Try.z34 rfl ?_)
                intro b33
                refine S.op (S.q (q_assign rfl) rfl rfl ?_)
                refine S.op (S.q (q_assign rfl) rfl rfl ?_)
                refine S.op (S.storeS (cs' := [_, _, _, _, _, _, _]) Try.ag34 rfl rfl rfl rfl rfl rfl ?_)
                refine S.op (S.q (q_assign rfl) rfl rfl ?_)
                first | with_reducible refine S.nilK ?_ | refine S.nil ?_
                refine hK49 _ _ ?_
                refine S.seq fun K50 hK50 => ?_
                refine S.draw ([blk b29 34 (pakC K2 v1).toArray, blk b33 34 (pakC K2 v2).toArray, blk b26 34 (pakC kk u1).toArray, blk b14 54 #[.int .u8 r.od, r.v.v, .int .u8 r.k.n, .int .u32 r.k.e, .int .u32 r.k.l, .int .u32 r.k.s, .int .u32 r.k.a, .bool r.k.pl, r.kv.v]]) [] Try.mixed ?_
                refine S.dr_take 0 [] rfl (by kernel_rfl) rfl rfl rfl (q_move rfl) Sub.ent ?_
                refine S.dr_take 1 [] rfl (by kernel_rfl) rfl rfl rfl (q_move rfl) Sub.ent ?_
                refine S.dr_1 (i := 2) (by kernel_rfl) rfl rfl ?_
                refine  (S.callP Try.en16 (vs := [_, _]) ⟨rfl, rfl, trivial⟩ (fun w hs => Same_P g1 g2 D1 D1 w (bytes_in (g := g1) hs) (bytes_in (g := g2) hs) hDr hDr) rfl ?_)
                refine S.dr_k rfl Sub.ent ?_
                refine S.dr_take 3 [] rfl (by kernel_rfl) rfl rfl rfl (q_not rfl) Sub.ent ?_
                refine S.dr_take 4 [] rfl (by kernel_rfl) rfl rfl rfl (q_move rfl) Sub.ent ?_
                refine S.dr_takeY 5 [] rfl (by kernel_rfl) rfl rfl rfl ((by simp)) rfl rfl (q_move rfl) Sub.ent ?_
                refine S.dr_takeY 6 [] rfl (by kernel_rfl) rfl rfl rfl ((by simp)) rfl rfl (q_move rfl) Sub.ent ?_
                refine S.dr_takeY 7 [] rfl (by kernel_rfl) rfl rfl rfl ((by simp)) rfl rfl (q_neB Try.underlying4 rfl rfl) Sub.ent ?_
                refine S.dr_take 8 [] rfl (by kernel_rfl) rfl rfl rfl (q_pickF rfl ((by simp)) rfl) Sub.ent ?_
                refine S.dr_take 9 [] rfl (by kernel_rfl) rfl rfl rfl (q_move rfl) Sub.ent ?_
                refine S.dr_takeY 10 [] rfl (by kernel_rfl) rfl rfl rfl ((by simp)) rfl rfl (q_loadS [_, _, _, _, _, _, _] Try.ag34 rfl rfl ⟨rfl, rfl, rfl, rfl, rfl, rfl, rfl, trivial⟩) Sub.ent ?_
                refine S.dr_takeY 11 [] rfl (by kernel_rfl) rfl rfl rfl ((by simp)) rfl rfl (q_loadS [_, _, _, _, _, _, _] Try.ag34 rfl rfl ⟨rfl, rfl, rfl, rfl, rfl, rfl, rfl, trivial⟩) Sub.ent ?_
                refine S.dr_1Y (i := 12) (by kernel_rfl) rfl rfl rfl rfl ((by simp)) ?_
                refine  (S.callP Try.en20 (vs := [_, _]) ⟨rfl, rfl, trivial⟩ (fun w hs => SamePacket_P K2.n K2.e K2.l K2.s K2.a K2.pl v1 K2.d K2.n K2.e K2.l K2.s K2.a K2.pl v2 K2.d w (bytes_in (g := v1) hs) (bytes_in (g := v2) hs) hKr2 hKr2) rfl ?_)
                refine S.dr_k rfl Sub.ent ?_
                refine S.dr_takeY 13 [] rfl (by kernel_rfl) rfl rfl rfl ((by simp)) rfl rfl (q_not rfl) Sub.ent ?_
                refine S.dr_take 14 [] rfl (by kernel_rfl) rfl rfl rfl (q_pickF rfl ((by simp)) rfl) Sub.ent ?_
                refine S.dr_take 15 [] rfl (by kernel_rfl) rfl rfl rfl (q_move rfl) Sub.ent ?_
                refine S.dr_takeY 16 [] rfl (by kernel_rfl) rfl rfl rfl ((by rw [samePk_self]; rfl)) rfl rfl (q_move rfl) Sub.ent ?_
                refine S.dr_takeY 17 [] rfl (by kernel_rfl) rfl rfl rfl ((by rw [samePk_self]; rfl)) rfl rfl (q_move rfl) Sub.ent ?_
                refine S.dr_takeY 18 [] rfl (by kernel_rfl) rfl rfl rfl ((by rw [samePk_self]; rfl)) rfl rfl (q_neB Try.underlying4 rfl rfl) Sub.ent ?_
                refine S.dr_take 19 [] rfl (by kernel_rfl) rfl rfl rfl (q_pickF rfl ((by rw [samePk_self]; rfl)) rfl) Sub.ent ?_
                refine S.dr_take 20 [] rfl (by kernel_rfl) rfl rfl rfl (q_move rfl) Sub.ent ?_
                refine S.dr_takeY 21 [] rfl (by kernel_rfl) rfl rfl rfl ((by simp)) rfl rfl (q_loadS [_, _, _, _, _, _, _] Try.ag34 rfl rfl ⟨rfl, rfl, rfl, rfl, rfl, rfl, rfl, trivial⟩) Sub.ent ?_
                refine S.dr_takeY 22 [] rfl (by kernel_rfl) rfl rfl rfl ((by simp)) rfl rfl (q_field Try.fo54_2 rfl) Sub.ent ?_
                refine S.dr_takeY 23 [] rfl (by kernel_rfl) rfl rfl rfl ((by simp)) rfl rfl (q_loadS [_, _, _, _, _, _, _] Try.ag34 rfl rfl ⟨rfl, rfl, rfl, rfl, rfl, rfl, rfl, trivial⟩) Sub.ent ?_
                refine S.dr_1Y (i := 24) (by kernel_rfl) rfl rfl rfl rfl ((by simp)) ?_
                refine  (S.call Try.en22 (vs := [_]) ⟨rfl, trivial⟩ (few_S r.k.n r.k.e r.k.l r.k.s r.k.a r.k.pl r.kv r.k.d (old W) (fun Γ w h => hbk.old h) hlk (by omega) (by omega)) rfl ?_)
                rintro v Θ ⟨u3, rfl, hu3, rfl⟩
                rw [hkc, hkd2]
                refine S.dr_k rfl Sub.ent ?_
                refine S.dr_1Y (i := 25) (by kernel_rfl) rfl rfl rfl rfl ((by simp)) ?_
                refine  (S.callP Try.en20 (vs := [_, _]) ⟨rfl, rfl, trivial⟩ (fun w hs => SamePacket_P kk.n kk.e kk.l kk.s kk.a kk.pl u1 kk.d kk.n kk.e kk.l kk.s kk.a kk.pl u3 kk.d w (bytes_in (g := u1) hs) (bytes_in (g := u3) hs) hkr hkr) rfl ?_)
                refine S.dr_k rfl Sub.ent ?_
                refine S.dr_takeY 26 [] rfl (by kernel_rfl) rfl rfl rfl ((by simp)) rfl rfl (q_not rfl) Sub.ent ?_
                refine S.dr_take 27 [] rfl (by kernel_rfl) rfl rfl rfl (q_pickF rfl ((by simp)) rfl) Sub.ent ?_
                first | with_reducible refine S.dr_doneK (by kernel_rfl) ?_ | refine S.dr_done (by kernel_rfl) ?_
                refine hK50 _ _ ?_
                refine S.cond rfl (fun h14 => ?_) (fun h14 => ?_)
                · exact absurd h14 (by rw [samePk_self]; simp)
                · refine S.skip ?_
                  with_reducible repeat (first | refine S.then_n ?_ | refine S.then_x ?_ | refine S.then_r ?_ | refine S.inBlock_n ?_ | refine S.inBlock_r ?_ | refine S.inBlock_x rfl ?_ | refine S.noGoto_r ?_ | refine S.noGoto_n ?_ | refine S.noGoto_x ?_)
                  with_reducible repeat (first | refine S.then_n ?_ | refine S.then_x ?_ | refine S.then_r ?_ | refine S.inBlock_n ?_ | refine S.inBlock_r ?_ | refine S.inBlock_x rfl ?_ | refine S.noGoto_r ?_ | refine S.noGoto_n ?_ | refine S.noGoto_x ?_)
                  with_reducible repeat (first | refine S.then_n ?_ | refine S.then_x ?_ | refine S.then_r ?_ | refine S.inBlock_n ?_ | refine S.inBlock_r ?_ | refine S.inBlock_x rfl ?_ | refine S.noGoto_r ?_ | refine S.noGoto_n ?_ | refine S.noGoto_x ?_)
                  exact S.meet ⟨st', hok', rfl, rfl⟩ ⟨rfl, rfl, rfl, rfl, rfl, trivial⟩ Sub.ent
        · rintro ρ' Γ' ⟨st', hok', rfl, rfl⟩
          refine hK17 _ _ ?_
          refine S.seq fun K51 hK51 => ?_
          refine S.region rfl ?_
          refine S.op (S.q (q_assign rfl) rfl rfl ?_)
          refine S.op (S.q (q_assign rfl) rfl rfl ?_)
          first | with_reducible refine S.nilK ?_ | refine S.nil ?_
          refine hK51 _ _ ?_
          refine S.seq fun K52 hK52 => ?_
          refine S.seq fun K53 hK53 => ?_
          refine S.region rfl ?_
          refine S.op (S.q (q_move rfl) rfl rfl ?_)
          refine S.op (S.q (q_neN Try.underlying51 rfl rfl) rfl rfl ?_)
          first | with_reducible refine S.nilK ?_ | refine S.nil ?_
          refine hK53 _ _ ?_
          refine S.cut (fun ρ' Γ' => ∃ o hh : Int, o = (openR st' : Int) ∧ hh = hdR st' ∧ ρ' = [(11, .pointer pa), (12, .pointer pb), (35, .int .i64 o), (36, .int .u32 hh), (48, s4.v), (49, .int .i64 s4.n), (50, .int .i64 k)] ∧ Γ' = TI nd ep lf pa st' :: RI nd ep lf pb st' :: old W :: Γ) ?_ ?_
          · refine S.cond rfl (fun h15 => ?_) (fun h15 => ?_)
            · refine S.riOpen (nd := nd) (ep := ep) (lf := lf) (pa := pb) st' (by simpa using h15) fun t2 sv tv sds tls D x e1 e2 rel hn => ?_
              subst e1 e2
              have hD9 := rel.hD
              have hq9 := rel.hq
              have hok9 := hok'
              obtain ⟨_, _, _, _, hLq, hqm, _⟩ := hok9
              refine S.draw ([blk t2 65 (rk nd ep lf sv tv x.ck D x.hd).toArray]) [] Try.mixed ?_
              refine S.dr_take 0 [] rfl (by kernel_rfl) rfl rfl rfl (q_move rfl) Sub.ent ?_
              refine S.dr_take 1 [] rfl (by kernel_rfl) rfl rfl rfl (q_nilCheck rfl) Sub.ent ?_
              refine S.dr_take 2 [] rfl (by kernel_rfl) rfl rfl rfl (q_field Try.fo65_3 rfl) Sub.ent ?_
              refine S.dr_take 3 [] rfl (by kernel_rfl) rfl rfl rfl (q_load Try.at28 rfl rfl) Sub.ent ?_
              refine S.dr_take 4 [] rfl (by kernel_rfl) rfl rfl rfl (q_len Try.underlying28 rfl) Sub.ent ?_
              refine S.dr_take 5 [] rfl (by kernel_rfl) rfl rfl rfl (q_move rfl) Sub.ent ?_
              refine S.dr_take 6 [] rfl (by kernel_rfl) rfl rfl rfl (q_nilCheck rfl) Sub.ent ?_
              refine S.dr_take 7 [] rfl (by kernel_rfl) rfl rfl rfl (q_field Try.fo65_6 rfl) Sub.ent ?_
              refine S.dr_take 8 [] rfl (by kernel_rfl) rfl rfl rfl (q_load Try.at3 rfl rfl) Sub.ent ?_
              refine S.dr_take 9 [] rfl (by kernel_rfl) rfl rfl rfl (q_sub rfl rfl (inI64 (by omega) (by omega))) Sub.ent ?_
              refine S.dr_take 10 [] rfl (by kernel_rfl) rfl rfl rfl (q_move rfl) Sub.ent ?_
              refine S.dr_take 11 [] rfl (by kernel_rfl) rfl rfl rfl (q_nilCheck rfl) Sub.ent ?_
              refine S.dr_take 12 [] rfl (by kernel_rfl) rfl rfl rfl (q_field Try.fo65_7 rfl) Sub.ent ?_
              refine S.dr_take 13 [] rfl (by kernel_rfl) rfl rfl rfl (q_load Try.at26 rfl rfl) Sub.ent ?_
              refine S.dr_take 14 [] rfl (by kernel_rfl) rfl rfl rfl (q_assign rfl) Sub.ent ?_
              refine S.dr_take 15 [] rfl (by kernel_rfl) rfl rfl rfl (q_assign rfl) Sub.ent ?_
              first | with_reducible refine S.dr_doneK (by kernel_rfl) ?_ | refine S.dr_done (by kernel_rfl) ?_
              with_reducible repeat (first | refine S.then_n ?_ | refine S.then_x ?_ | refine S.then_r ?_ | refine S.inBlock_n ?_ | refine S.inBlock_r ?_ | refine S.inBlock_x rfl ?_ | refine S.noGoto_r ?_ | refine S.noGoto_n ?_ | refine S.noGoto_x ?_)
              first
              | (refine S.ent ((Sub.ent : Ent _ (blk t2 65 (rk nd ep lf sv tv x.ck D x.hd).toArray :: own sv 32 1 (sds.flatMap brC) :: alls sds brB :: own tv 3 1 (tls.flatMap tC) :: TI nd ep lf pa (some x) :: old W :: Γ)).trans (Ent.closeRI rel hn _)) ?_; exact S.meet ⟨_, _, (by have := rel.hD; simp only [openR]; omega), rfl, rfl, rfl⟩ ⟨rfl, rfl, rfl, rfl, rfl, rfl, rfl, trivial⟩ Sub.ent)
              | exact S.meet ⟨0, 0, rfl, rfl, rfl, rfl⟩ ⟨rfl, rfl, rfl, rfl, rfl, rfl, rfl, trivial⟩ Sub.ent
            · refine S.riNone (nd := nd) (ep := ep) (lf := lf) (pa := pb) st' (by simpa using h15) fun e1 e2 => ?_
              subst e1 e2
              refine S.skip ?_
              with_reducible repeat (first | refine S.then_n ?_ | refine S.then_x ?_ | refine S.then_r ?_ | refine S.inBlock_n ?_ | refine S.inBlock_r ?_ | refine S.inBlock_x rfl ?_ | refine S.noGoto_r ?_ | refine S.noGoto_n ?_ | refine S.noGoto_x ?_)
              with_reducible repeat (first | refine S.then_n ?_ | refine S.then_x ?_ | refine S.then_r ?_ | refine S.inBlock_n ?_ | refine S.inBlock_r ?_ | refine S.inBlock_x rfl ?_ | refine S.noGoto_r ?_ | refine S.noGoto_n ?_ | refine S.noGoto_x ?_)
              first
              | (refine S.ent ((Sub.ent : Ent _ (blk t2 65 (rk nd ep lf sv tv x.ck D x.hd).toArray :: own sv 32 1 (sds.flatMap brC) :: alls sds brB :: own tv 3 1 (tls.flatMap tC) :: TI nd ep lf pa (some x) :: old W :: Γ)).trans (Ent.closeRI rel hn _)) ?_; exact S.meet ⟨_, _, (by have := rel.hD; simp only [openR]; omega), rfl, rfl, rfl⟩ ⟨rfl, rfl, rfl, rfl, rfl, rfl, rfl, trivial⟩ Sub.ent)
              | exact S.meet ⟨0, 0, rfl, rfl, rfl, rfl⟩ ⟨rfl, rfl, rfl, rfl, rfl, rfl, rfl, trivial⟩ Sub.ent
          · rintro ρ' Γ' ⟨o, hh, ho, hhh, rfl, rfl⟩
            refine hK52 _ _ ?_
            refine S.seq fun K54 hK54 => ?_
            refine S.regionG ?_
            refine S.g_op rfl (S.q (q_move rfl) rfl rfl ?_)
            refine S.g_op rfl (S.call Try.en17 (vs := [_]) ⟨rfl, trivial⟩ (TOpen nd ep lf pa st') rfl ?_)
            rintro v Θ ⟨rfl, rfl⟩
            refine S.g_op rfl (S.q (q_move rfl) rfl rfl ?_)
            refine S.g_op rfl (S.q (q_ne rfl rfl) rfl rfl ?_)
            refine S.g_op rfl (S.q (q_move rfl) rfl rfl ?_)
            refine S.g_yes rfl rfl rfl ((decide_eq_false (by omega))) (S.q (q_move rfl) rfl rfl ?_)
            refine S.g_yes rfl rfl rfl ((decide_eq_false (by omega))) (S.call Try.en26 (vs := [_]) ⟨rfl, trivial⟩ (THeard nd ep lf pa st') rfl ?_)
            rintro v Θ ⟨rfl, rfl⟩
            refine S.g_yes rfl rfl rfl ((decide_eq_false (by omega))) (S.q (q_move rfl) rfl rfl ?_)
            refine S.g_yes rfl rfl rfl ((decide_eq_false (by omega))) (S.q (q_ne rfl rfl) rfl rfl ?_)
            refine S.g_op rfl (S.q (q_pickF rfl ((decide_eq_false (by omega))) rfl) rfl rfl ?_)
            first | with_reducible refine S.g_nilK ?_ | refine S.g_nil ?_
            refine hK54 _ _ ?_
            refine S.condD rfl (fun h16 => ?_) (fun h16 => ?_)
            · exact absurd hhh.symm h16
            · refine S.skip ?_
              with_reducible repeat (first | refine S.then_n ?_ | refine S.then_x ?_ | refine S.then_r ?_ | refine S.inBlock_n ?_ | refine S.inBlock_r ?_ | refine S.inBlock_x rfl ?_ | refine S.noGoto_r ?_ | refine S.noGoto_n ?_ | refine S.noGoto_x ?_)
              with_reducible repeat (first | refine S.then_n ?_ | refine S.then_x ?_ | refine S.then_r ?_ | refine S.inBlock_n ?_ | refine S.inBlock_r ?_ | refine S.inBlock_x rfl ?_ | refine S.noGoto_r ?_ | refine S.noGoto_n ?_ | refine S.noGoto_x ?_)
              refine hK11 _ _ ?_
              refine S.region rfl ?_
              refine S.op (S.q (q_add rfl rfl (inI64 (by omega) (by omega))) rfl rfl ?_)
              refine S.op (S.q (q_move rfl) rfl rfl ?_)
              first | with_reducible refine S.nilK ?_ | refine S.nil ?_
              with_reducible repeat (first | refine S.then_n ?_ | refine S.then_x ?_ | refine S.then_r ?_ | refine S.inBlock_n ?_ | refine S.inBlock_r ?_ | refine S.inBlock_x rfl ?_ | refine S.noGoto_r ?_ | refine S.noGoto_n ?_ | refine S.noGoto_x ?_)
              exact S.next (rs.length - (k + 1)) (⟨k + 1, st', by omega, by omega, hok', rfl, rfl⟩) (by omega) (by repeat (first | exact trivial | refine ⟨rfl, ?_⟩)) Sub.ent
    · refine S.exit ?_
      with_reducible repeat (first | refine S.then_n ?_ | refine S.then_x ?_ | refine S.then_r ?_ | refine S.inBlock_n ?_ | refine S.inBlock_r ?_ | refine S.inBlock_x rfl ?_ | refine S.noGoto_r ?_ | refine S.noGoto_n ?_ | refine S.noGoto_x ?_)
      with_reducible refine S.inBlock_s ?_
      with_reducible repeat (first | refine S.then_n ?_ | refine S.then_x ?_ | refine S.then_r ?_ | refine S.inBlock_n ?_ | refine S.inBlock_r ?_ | refine S.inBlock_x rfl ?_ | refine S.noGoto_r ?_ | refine S.noGoto_n ?_ | refine S.noGoto_x ?_)
      refine hK7 _ _ ?_
      refine S.seq fun K55 hK55 => ?_
      refine S.region rfl ?_
      refine S.op (S.q (q_assign rfl) rfl rfl ?_)
      first | with_reducible refine S.nilK ?_ | refine S.nil ?_
      refine hK55 _ _ ?_
      refine S.ret ?_
      with_reducible repeat (first | refine S.then_n ?_ | refine S.then_x ?_ | refine S.then_r ?_ | refine S.inBlock_n ?_ | refine S.inBlock_r ?_ | refine S.inBlock_x rfl ?_ | refine S.noGoto_r ?_ | refine S.noGoto_n ?_ | refine S.noGoto_x ?_)
      exact S.fin (rs := [_]) (vs := [_]) Try.results6 (⟨rfl, trivial⟩)  (⟨rfl, rfl⟩) Sub.ent
open Go.ChangeShapes Go.WideShapes Go.ChangeAt
theorem TalkPlays_law {H : Type} (enc : TypeId × Value → H) : LawWalk enc 6 Try.f6 := by
  intro W base args ds before hval hA _ _
  rw [Try.params6] at hA hval
  obtain ⟨v0, vs0, d0, ds0, p0, q0, hargs, rfl, rfl, h0, r0⟩ := trodAll_cons hA
  obtain ⟨v1, vs1, d1, ds1, p1, q1, rfl, rfl, rfl, h1, r1⟩ := trodAll_cons r0
  obtain ⟨v2, vs2, d2, ds2, p2, q2, rfl, rfl, rfl, h2, r2⟩ := trodAll_cons r1
  obtain ⟨v3, vs3, d3, ds3, p3, q3, rfl, rfl, rfl, h3, r3⟩ := trodAll_cons r2
  obtain ⟨v4, vs4, d4, ds4, p4, q4, rfl, rfl, rfl, h4, r4⟩ := trodAll_cons r3
  obtain ⟨rfl, rfl, rfl⟩ := trodAll_nil r4
  obtain rfl : args = #[v0, v1, v2, v3, v4] := by cases args; simp_all
  obtain ⟨a0, rfl, _⟩ := arg_int Try.underlying5 (hval 0 5 v0 rfl rfl) h0
  obtain ⟨a1, rfl, _⟩ := arg_int Try.underlying26 (hval 1 26 v1 rfl rfl) h1
  obtain ⟨a2, rfl, _⟩ := arg_int Try.underlying26 (hval 2 26 v2 rfl rfl) h2
  obtain ⟨a3, rfl⟩ := arg_bool Try.underlying4 (hval 3 4 v3 rfl rfl)
  obtain ⟨s4, rs, e4, hn, hs, hb⟩ := rd_opts (arg_slice 6 Try.underlying50 (by kernel_rfl) (hval 4 50 v4 rfl rfl) h4)
  simp only [List.cons.injEq, and_true] at e4
  subst e4
  exact law_run (TalkPlays_S a0 a1 a2 a3 s4 rs W hn hs hb)
set_option maxRecDepth 100000 in
theorem TalkPlays_lifted (os : Os) (started : os.Started) (H : Type) (enc : TypeId × Value → H) :
    ReturnsInHanded {} Try.checked os 6 .any (Rows.talkPlaysSpec.pre6 enc Try.prog Try.f6 Rows.talkPlaysRow.domain false) (Rows.talkPlaysSpec.post enc Try.prog Try.f6 false true false false) :=
  lift_true started Try.func6 (by kernel_rfl)
    (ChangeSpec.witness6 (enc := enc) (C := Try.checked) false ⟨#[], #[.int .u8 0, .int .u32 0, .int .u32 0, .bool false, .slice none 0 0], []⟩ 8 (by kernel_rfl) (by kernel_rfl) (by kernel_rfl) (by kernel_rfl))
    rfl rfl (by kernel_rfl) (fun ds h => by match ds, h with | [a0, a1, a2, a3, a4], _ => rfl) (TalkPlays_law enc)
theorem TalkPlays_over : Rows.talkPlaysRow.holds Try.pinned (OpenSpec.ofChange Rows.talkPlaysSpec) :=
  OpenClaim.holds_of_wide 6 Try.f6 rfl rfl rfl rfl rfl rfl rfl ⟨rfl, rfl, rfl, rfl, rfl⟩ rfl rfl rfl rfl rfl (by kernel_rfl) Try.func6 (by kernel_rfl)
    (of_decide_eq_true (by kernel_rfl)) (by unfold Func.isWrapper; rw [if_neg (of_decide_eq_false (by kernel_rfl))]; exact ⟨rfl, rfl⟩)
    (fun os started H enc _ => TalkPlays_lifted os started H enc)
theorem TalkPlays_holds : Rows.TalkPlaysSaid := TalkPlays_over
#print axioms TalkPlays_holds
end Go.Proofs.Ytdlddggjjibeaaa
