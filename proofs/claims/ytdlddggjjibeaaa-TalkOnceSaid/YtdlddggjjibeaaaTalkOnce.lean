/- The law TalkOnce: in order, each thing once; and once all comes, all of it has come. -/
import Derived.Test.YtdlddggjjibeaaaOnceV
namespace Go.Proofs.Ytdlddggjjibeaaa
open Go.RowKit
set_option maxHeartbeats 1600000 in
theorem TalkOnce_S (s4 : SV) (rs : List Pck) (W : World) (hn0 : s4.n = rs.length) (h0 : SlAt W s4.v rs.length 4 (rs.flatMap pckC)) (hr : ∀ r ∈ rs, BW W r.v r.l ∧ (0 ≤ r.nn ∧ r.nn ≤ 255)) : LawS 3 [s4.v] W := by
  have hm0 := slAt_cap h0
  unfold maxLen at hm0
  refine Spec.of_body Try.func3 rfl Try.ntmps3 rfl ?_
  intro w0 Γ
  show S _ w0 [(0, s4.v)] (old W :: Γ) _
  refine S.seq fun K1 hK1 => ?_
  refine S.region rfl ?_
  refine S.op (S.q (q_assign rfl) rfl rfl ?_)
  first | with_reducible refine S.nilK ?_ | refine S.nil ?_
  refine hK1 _ _ ?_
  refine S.seq fun K2 hK2 => ?_
  refine S.seq fun K3 hK3 => ?_
  refine S.region rfl ?_
  refine S.op (S.call Try.en9 (vs := []) trivial (awake_S) rfl ?_)
  rintro v Θ ⟨rfl, rfl⟩
  refine S.op (S.q (q_not rfl) rfl rfl ?_)
  first | with_reducible refine S.nilK ?_ | refine S.nil ?_
  refine hK3 _ _ ?_
  refine S.condF rfl ?_
  refine S.skip ?_
  with_reducible repeat (first | refine S.then_n ?_ | refine S.then_x ?_ | refine S.then_r ?_ | refine S.inBlock_n ?_ | refine S.inBlock_r ?_ | refine S.inBlock_x rfl ?_ | refine S.noGoto_r ?_ | refine S.noGoto_n ?_ | refine S.noGoto_x ?_)
  refine hK2 _ _ ?_
  refine S.seq fun K4 hK4 => ?_
  refine S.region rfl ?_
  refine S.op (S.call Try.en10 (vs := [_, _, _]) ⟨rfl, rfl, rfl, trivial⟩ (TNew 2 3 4) rfl ?_)
  rintro v Θ ⟨pa0, rfl, rfl⟩
  refine S.op (S.call Try.en10 (vs := [_, _, _]) ⟨rfl, rfl, rfl, trivial⟩ (TNew 2 3 4) rfl ?_)
  rintro v Θ ⟨pa1, rfl, rfl⟩
  obtain ⟨pp, rfl, rfl⟩ : ∃ pp : Nat → Option Addr, pp 0 = pa0 ∧ pp 1 = pa1 := ⟨fun i => if i = 0 then pa0 else pa1, rfl, rfl⟩
  refine S.op (S.q (q_buildA (pvs := [(_, _), (_, _)]) [_, _] Try.z27 Try.ar27 ⟨⟨rfl, rfl⟩, ⟨rfl, rfl⟩, trivial⟩ rfl) rfl rfl ?_)
  refine S.op (S.alloc Try.z27 rfl ?_)
  intro b3
  refine S.op (S.storeS (cs' := [_, _]) Try.ag27 rfl rfl rfl rfl rfl rfl ?_)
  first | with_reducible refine S.nilK ?_ | refine S.nil ?_
  refine hK4 _ _ ?_
  refine S.seq fun K5 hK5 => ?_
  refine S.region rfl ?_
  refine S.op (S.alloc Try.z29 rfl ?_)
  intro b4
  refine S.op (S.alloc Try.z29 rfl ?_)
  intro b5
  first | with_reducible refine S.nilK ?_ | refine S.nil ?_
  refine hK5 _ _ ?_
  refine S.seq fun K6 hK6 => ?_
  refine S.region rfl ?_
  refine S.op (S.alloc Try.z31 rfl ?_)
  intro b6
  first | with_reducible refine S.nilK ?_ | refine S.nil ?_
  refine hK6 _ _ ?_
  refine S.seq fun K7 hK7 => ?_
  refine S.region rfl ?_
  refine S.op (S.q (q_makeFunc (vs := []) (us := [_, _, _]) trivial ⟨rfl, rfl, rfl, trivial⟩) rfl rfl ?_)
  refine S.op (S.q (q_assign rfl) rfl rfl ?_)
  first | with_reducible refine S.nilK ?_ | refine S.nil ?_
  refine hK7 _ _ ?_
  refine S.seq fun K8 hK8 => ?_
  refine S.region rfl ?_
  refine S.op (S.q (q_makeFunc (vs := []) (us := [_, _]) trivial ⟨rfl, rfl, trivial⟩) rfl rfl ?_)
  refine S.op (S.q (q_assign rfl) rfl rfl ?_)
  first | with_reducible refine S.nilK ?_ | refine S.nil ?_
  refine hK8 _ _ ?_
  refine S.seq fun K9 hK9 => ?_
  refine S.seq fun K10 hK10 => ?_
  refine S.region rfl ?_
  refine MM.start b3 b4 b5 b6 pp (old W :: Γ) ?_
  refine S.op (S.q (q_move rfl) rfl rfl ?_)
  refine S.op (S.q (q_len Try.underlying22 rfl) rfl rfl ?_)
  refine S.op (S.q (q_move rfl) rfl rfl ?_)
  first | with_reducible refine S.nilK ?_ | refine S.nil ?_
  refine hK10 _ _ ?_
  refine S.cut (fun ρ' Γ' => ∃ (n : Nat) (X : OSt) (s c a : Nat → SV), n ≤ 100 ∧ Inv n X ∧ ρ' = [(3, .pointer (some ⟨b3, 0, none⟩)), (4, .pointer (some ⟨b4, 0, none⟩)), (5, .pointer (some ⟨b5, 0, none⟩)), (6, .pointer (some ⟨b6, 0, none⟩)), (7, .func (.func 11) #[] #[.pointer (some ⟨b3, 0, none⟩), .pointer (some ⟨b5, 0, none⟩), .pointer (some ⟨b6, 0, none⟩)]), (8, .func (.func 13) #[] #[.pointer (some ⟨b6, 0, none⟩), .pointer (some ⟨b3, 0, none⟩)])] ∧ Γ' = MM b3 b4 b5 b6 pp X s c a (old W :: Γ)) ?_ ?_
  · refine S.block ?_
    refine S.loop (fun m ρ' Γ' => ∃ (k : Nat) (X : OSt) (s c a : Nat → SV), m + k = rs.length ∧ k ≤ 100 ∧ Inv k X ∧ Few (201 * k) X ∧ ρ' = [(3, .pointer (some ⟨b3, 0, none⟩)), (4, .pointer (some ⟨b4, 0, none⟩)), (5, .pointer (some ⟨b5, 0, none⟩)), (6, .pointer (some ⟨b6, 0, none⟩)), (7, .func (.func 11) #[] #[.pointer (some ⟨b3, 0, none⟩), .pointer (some ⟨b5, 0, none⟩), .pointer (some ⟨b6, 0, none⟩)]), (8, .func (.func 13) #[] #[.pointer (some ⟨b6, 0, none⟩), .pointer (some ⟨b3, 0, none⟩)]), (30, s4.v), (31, .int .i64 s4.n), (32, .int .i64 k)] ∧ Γ' = MM b3 b4 b5 b6 pp X s c a (old W :: Γ)) (m := _) (ρ0 := _) (Γ0 := _) (⟨0, OSt.none, fun _ => SV.nil, fun _ => SV.nil, fun _ => SV.nil, rfl, by omega, Inv.none, fun j _ => Nat.le_refl _, rfl, rfl⟩) (by repeat (first | exact trivial | refine ⟨rfl, ?_⟩)) Sub.ent ?_
    rintro m ρ' Γ' ⟨k, X, s, c, a, hmk, hk100, hinv, hfew, rfl, rfl⟩
    refine S.seq fun K11 hK11 => ?_
    refine S.region rfl ?_
    refine S.op (S.q (q_lt rfl rfl) rfl rfl ?_)
    first | with_reducible refine S.nilK ?_ | refine S.nil ?_
    refine hK11 _ _ ?_
    refine S.seq fun K12 hK12 => ?_
    refine S.condD rfl (fun h2 => ?_) (fun h2 => ?_)
    · obtain ⟨r, hrk⟩ := getE (l := rs) (i := k) (by omega)
      obtain ⟨hbr, hnn⟩ := hr r (List.mem_of_getElem? hrk)
      have hcr := slAt_cap hbr.at_
      have hlr := hbr.len
      unfold maxLen at hcr
      obtain ⟨b, off, hb, hcell⟩ := slAt_some h0 (by omega)
      refine S.skip ?_
      with_reducible repeat (first | refine S.then_n ?_ | refine S.then_x ?_ | refine S.then_r ?_ | refine S.inBlock_n ?_ | refine S.inBlock_r ?_ | refine S.inBlock_x rfl ?_ | refine S.noGoto_r ?_ | refine S.noGoto_n ?_ | refine S.noGoto_x ?_)
      refine hK12 _ _ ?_
      refine S.seq fun K13 hK13 => ?_
      refine S.block ?_
      refine S.seq fun K14 hK14 => ?_
      refine S.region rfl ?_
      refine S.op (S.q (q_move rfl) rfl rfl ?_)
      refine S.op (S.q (q_indexO (k) Try.el22 rfl hb rfl rfl (by omega)) rfl rfl ?_)
      refine S.op (S.q (q_loadWS [.int .u8 r.od, .bool r.b, .int .u8 r.nn, r.v.v] Try.ag40 rfl rfl (fun i u hu => by rw [Nat.add_assoc]; exact hcell _ _ (flat_seg (enc := pckC) (sz := 4) (fun _ => rfl) hrk i u hu))) rfl rfl ?_)
      refine S.op (S.alloc Try.z40 rfl ?_)
      intro b10
      refine S.op (S.q (q_assign rfl) rfl rfl ?_)
      refine S.op (S.storeS (cs' := [_, _, _, _]) Try.ag40 rfl rfl rfl rfl rfl rfl ?_)
      first | with_reducible refine S.nilK ?_ | refine S.nil ?_
      refine hK14 _ _ ?_
      refine S.seq fun K15 hK15 => ?_
      refine S.seq fun K16 hK16 => ?_
      refine S.region rfl ?_
      refine S.op (S.q (q_move rfl) rfl rfl ?_)
      refine S.op (S.q (q_ge rfl rfl) rfl rfl ?_)
      first | with_reducible refine S.nilK ?_ | refine S.nil ?_
      refine hK16 _ _ ?_
      refine S.condD rfl (fun h3 => ?_) (fun h3 => ?_)
      · refine S.exit ?_
        with_reducible repeat (first | refine S.then_n ?_ | refine S.then_x ?_ | refine S.then_r ?_ | refine S.inBlock_n ?_ | refine S.inBlock_r ?_ | refine S.inBlock_x rfl ?_ | refine S.noGoto_r ?_ | refine S.noGoto_n ?_ | refine S.noGoto_x ?_)
        with_reducible refine S.inBlock_s ?_
        with_reducible repeat (first | refine S.then_n ?_ | refine S.then_x ?_ | refine S.then_r ?_ | refine S.inBlock_n ?_ | refine S.inBlock_r ?_ | refine S.inBlock_x rfl ?_ | refine S.noGoto_r ?_ | refine S.noGoto_n ?_ | refine S.noGoto_x ?_)
        with_reducible repeat (first | refine S.then_n ?_ | refine S.then_x ?_ | refine S.then_r ?_ | refine S.inBlock_n ?_ | refine S.inBlock_r ?_ | refine S.inBlock_x rfl ?_ | refine S.noGoto_r ?_ | refine S.noGoto_n ?_ | refine S.noGoto_x ?_)
        exact S.meet ⟨k, X, s, c, a, hk100, hinv, rfl, rfl⟩ ⟨rfl, rfl, rfl, rfl, rfl, rfl, trivial⟩ Sub.ent
      · refine S.skip ?_
        with_reducible repeat (first | refine S.then_n ?_ | refine S.then_x ?_ | refine S.then_r ?_ | refine S.inBlock_n ?_ | refine S.inBlock_r ?_ | refine S.inBlock_x rfl ?_ | refine S.noGoto_r ?_ | refine S.noGoto_n ?_ | refine S.noGoto_x ?_)
        refine hK15 _ _ ?_
        refine S.seq fun K17 hK17 => ?_
        refine S.region rfl ?_
        refine S.op (S.q (q_assign rfl) rfl rfl ?_)
        first | with_reducible refine S.nilK ?_ | refine S.nil ?_
        refine hK17 _ _ ?_
        refine S.seq fun K18 hK18 => ?_
        refine S.seq fun K19 hK19 => ?_
        refine S.region rfl ?_
        refine S.op (S.q (q_field Try.fo40_1 rfl) rfl rfl ?_)
        refine S.op (S.q (q_load Try.at4 rfl rfl) rfl rfl ?_)
        first | with_reducible refine S.nilK ?_ | refine S.nil ?_
        refine hK19 _ _ ?_
        refine S.cut (fun ρ' Γ' => ∃ i : Nat, i < 2 ∧ ρ' = [(3, .pointer (some ⟨b3, 0, none⟩)), (4, .pointer (some ⟨b4, 0, none⟩)), (5, .pointer (some ⟨b5, 0, none⟩)), (6, .pointer (some ⟨b6, 0, none⟩)), (7, .func (.func 11) #[] #[.pointer (some ⟨b3, 0, none⟩), .pointer (some ⟨b5, 0, none⟩), .pointer (some ⟨b6, 0, none⟩)]), (8, .func (.func 13) #[] #[.pointer (some ⟨b6, 0, none⟩), .pointer (some ⟨b3, 0, none⟩)]), (30, s4.v), (31, .int .i64 s4.n), (32, .int .i64 k), (10, .pointer (some ⟨b10, 0, none⟩)), (11, .int .i64 i)] ∧ Γ' = blk b10 40 #[.int .u8 r.od, .bool r.b, .int .u8 r.nn, r.v.v] :: MM b3 b4 b5 b6 pp X s c a (old W :: Γ)) ?_ ?_
        · refine S.cond rfl (fun h4 => ?_) (fun h4 => ?_)
          · refine S.region rfl ?_
            refine S.op (S.q (q_assign rfl) rfl rfl ?_)
            first | with_reducible refine S.nilK ?_ | refine S.nil ?_
            with_reducible repeat (first | refine S.then_n ?_ | refine S.then_x ?_ | refine S.then_r ?_ | refine S.inBlock_n ?_ | refine S.inBlock_r ?_ | refine S.inBlock_x rfl ?_ | refine S.noGoto_r ?_ | refine S.noGoto_n ?_ | refine S.noGoto_x ?_)
            first
            | exact S.meet ⟨1, by omega, rfl, rfl⟩ ⟨rfl, rfl, rfl, rfl, rfl, rfl, rfl, rfl, rfl, rfl, rfl, trivial⟩ Sub.ent
            | exact S.meet ⟨0, by omega, rfl, rfl⟩ ⟨rfl, rfl, rfl, rfl, rfl, rfl, rfl, rfl, rfl, rfl, rfl, trivial⟩ Sub.ent
          · refine S.skip ?_
            with_reducible repeat (first | refine S.then_n ?_ | refine S.then_x ?_ | refine S.then_r ?_ | refine S.inBlock_n ?_ | refine S.inBlock_r ?_ | refine S.inBlock_x rfl ?_ | refine S.noGoto_r ?_ | refine S.noGoto_n ?_ | refine S.noGoto_x ?_)
            with_reducible repeat (first | refine S.then_n ?_ | refine S.then_x ?_ | refine S.then_r ?_ | refine S.inBlock_n ?_ | refine S.inBlock_r ?_ | refine S.inBlock_x rfl ?_ | refine S.noGoto_r ?_ | refine S.noGoto_n ?_ | refine S.noGoto_x ?_)
            first
            | exact S.meet ⟨1, by omega, rfl, rfl⟩ ⟨rfl, rfl, rfl, rfl, rfl, rfl, rfl, rfl, rfl, rfl, rfl, trivial⟩ Sub.ent
            | exact S.meet ⟨0, by omega, rfl, rfl⟩ ⟨rfl, rfl, rfl, rfl, rfl, rfl, rfl, rfl, rfl, rfl, rfl, trivial⟩ Sub.ent
        · rintro ρ' Γ' ⟨i, hi, rfl, rfl⟩
          refine hK18 _ _ ?_
          refine S.seq fun K20 hK20 => ?_
          refine S.cut (fun ρ' Γ' => ∃ (X' : OSt) (s' c' a' : Nat → SV), Inv (k + 1) X' ∧ Few (201 * (k + 1)) X' ∧ ρ' = [(3, .pointer (some ⟨b3, 0, none⟩)), (4, .pointer (some ⟨b4, 0, none⟩)), (5, .pointer (some ⟨b5, 0, none⟩)), (6, .pointer (some ⟨b6, 0, none⟩)), (7, .func (.func 11) #[] #[.pointer (some ⟨b3, 0, none⟩), .pointer (some ⟨b5, 0, none⟩), .pointer (some ⟨b6, 0, none⟩)]), (8, .func (.func 13) #[] #[.pointer (some ⟨b6, 0, none⟩), .pointer (some ⟨b3, 0, none⟩)]), (30, s4.v), (31, .int .i64 s4.n), (32, .int .i64 k)] ∧ Γ' = MM b3 b4 b5 b6 pp X' s' c' a' (old W :: Γ)) ?_ ?_
          · refine S.block ?_
            refine S.seq fun K21 hK21 => ?_
            refine S.region rfl ?_
            refine S.op (S.q (q_field Try.fo40_0 rfl) rfl rfl ?_)
            refine S.op (S.q (q_load Try.at5 rfl rfl) rfl rfl ?_)
            refine S.op (S.q (q_lt rfl rfl) rfl rfl ?_)
            refine S.op (S.q (q_assign rfl) rfl rfl ?_)
            first | with_reducible refine S.nilK ?_ | refine S.nil ?_
            refine hK21 _ _ ?_
            refine S.condD rfl (fun h5 => ?_) (fun h5 => ?_)
            · refine S.ent (Ent.cons _ (MM.turn hi)) ?_
              obtain ⟨P, hP⟩ : ∃ P, P = min r.l.length 20 := ⟨_, rfl⟩
              have hbt := hbr.take P (by omega)
              obtain ⟨l, hl⟩ : ∃ l, l = r.l.take P := ⟨_, rfl⟩
              rw [← hl] at hbt
              have hll : l.length = P := by rw [hl, List.length_take]; omega
              obtain ⟨x, hx⟩ := hinv i (1 - i) (by omega)
              have ok := hinv.okT (by omega) hi
              refine S.seq fun K22 hK22 => ?_
              refine S.region rfl ?_
              refine S.op (S.buildSlice0 Try.underlying32 Try.inf5 rfl ?_)
              intro b45 hb45
              refine S.op (S.q (q_field Try.fo40_3 rfl) rfl rfl ?_)
              refine S.op (S.q (q_load Try.at32 rfl rfl) rfl rfl ?_)
              refine S.op (S.q (q_field Try.fo40_3 rfl) rfl rfl ?_)
              refine S.op (S.q (q_load Try.at32 rfl rfl) rfl rfl ?_)
              refine S.op (S.q (q_len Try.underlying32 rfl) rfl rfl ?_)
              refine S.op (S.q (q_min ((P : Int)) rfl rfl (by omega)) rfl rfl ?_)
              refine S.op (S.q (q_sliceTo (P) Try.el32 rfl rfl rfl (by omega)) rfl rfl ?_)
              refine S.op (S.appendOw (s := b45) (P) (bcells l) Try.underlying32 Try.inf5 rfl rfl rfl (fun w hs => (by have := HasOld.slAt inferInstance hs hbt.at_; unfold BytesAt at this; rw [hll] at this; exact this)) (by first | rfl | exact allOne_bcells _) (⟨by omega, by omega⟩) rfl ?_)
              intro u hu
              rw [List.nil_append]
              refine S.op (S.q (q_assign rfl) rfl rfl ?_)
              first | with_reducible refine S.nilK ?_ | refine S.nil ?_
              refine hK22 _ _ ?_
              refine S.seq fun K23 hK23 => ?_
              refine S.region rfl ?_
              refine S.op (S.q (q_move rfl) rfl rfl ?_)
              refine S.op (S.q (q_indexTwo i Try.ar27 rfl rfl rfl hi) rfl rfl ?_)
              refine S.op (S.q (q_loadTwo (fun j => .pointer (pp j)) i hi Try.at24 rfl) rfl rfl ?_)
              refine S.op (S.q (q_move rfl) rfl rfl ?_)
              refine S.op (S.call Try.en15 (vs := [_, _]) ⟨rfl, rfl, trivial⟩ (TSay 2 3 4 (pp i) (X.st i) 200 (by omega) ok u l (obytes u l) (fun Γ w h => obytes_at h) (by omega) (by omega)) rfl ?_)
              rintro v Θ ⟨dv, rfl, rfl⟩
              obtain ⟨Q, hQ⟩ : ∃ Q, Q = (sayR 2 3 4 l (X.st i)).1 := ⟨_, rfl⟩
              have hz : (sayR 2 3 4 l (X.st i)).2.1 = 0 := by rw [hx.st]; rfl
              rw [← hQ, hz]
              refine S.op (S.q (q_move rfl) rfl rfl ?_)
              refine S.op (S.q (q_extract rfl rfl) rfl rfl ?_)
              refine S.op (S.q (q_extract rfl rfl) rfl rfl ?_)
              refine S.op (S.alloc Try.z34 rfl ?_)
              intro b13
              refine S.op (S.storeS (cs' := [_, _, _, _, _, _, _]) Try.ag34 rfl rfl rfl rfl rfl rfl ?_)
              refine S.op (S.q (q_assign rfl) rfl rfl ?_)
              first | with_reducible refine S.nilK ?_ | refine S.nil ?_
              refine hK23 _ _ ?_
              refine S.seq fun K24 hK24 => ?_
              refine S.seq fun K25 hK25 => ?_
              refine S.region rfl ?_
              refine S.op (S.q (q_move rfl) rfl rfl ?_)
              refine S.op (S.q (q_ne rfl rfl) rfl rfl ?_)
              first | with_reducible refine S.nilK ?_ | refine S.nil ?_
              refine hK25 _ _ ?_
              refine S.condF rfl ?_
              refine S.skip ?_
              with_reducible repeat (first | refine S.then_n ?_ | refine S.then_x ?_ | refine S.then_r ?_ | refine S.inBlock_n ?_ | refine S.inBlock_r ?_ | refine S.inBlock_x rfl ?_ | refine S.noGoto_r ?_ | refine S.noGoto_n ?_ | refine S.noGoto_x ?_)
              refine hK24 _ _ ?_
              refine S.seq fun K26 hK26 => ?_
              refine S.region rfl ?_
              refine S.ownLen (s i) fun hs0 _ _ => ?_
              refine S.ownLen (a (1 - i)) fun ha0 _ _ => ?_
              rw [flat_length brC_len] at hs0
              rw [flat_length paE_len] at ha0
              have hsl := hx.le
              have hal := hfew (1 - i) (by omega)
              refine S.op (S.q (q_move rfl) rfl rfl ?_)
              refine S.op (S.q (q_move rfl) rfl rfl ?_)
              refine S.op (S.q (q_indexTwo i Try.ar29 rfl rfl rfl hi) rfl rfl ?_)
              refine S.op (S.q (q_loadTwo (fun j => (s j).v) i hi Try.at28 rfl) rfl rfl ?_)
              refine S.op (S.q (q_move rfl) rfl rfl ?_)
              refine S.op (S.buildSlice (pvs := [(_, _)]) [_] Try.underlying28 Try.inf32 rfl rfl ⟨⟨rfl, rfl⟩, trivial⟩ rfl rfl ?_)
              intro b69
              refine S.op (S.appendOw (s := s i) (1) ([u.v]) Try.underlying28 Try.inf32 rfl rfl rfl (blk_slAt (b := b69) rfl (by unfold maxLen; omega)) (by first | rfl | exact allOne_bcells _) (⟨by omega, by omega⟩) rfl ?_)
              intro sn hsn
              refine S.op (S.q (q_indexTwo i Try.ar29 rfl rfl rfl hi) rfl rfl ?_)
              refine S.op (S.storeTwo (fun j => (s j).v) i hi Try.at28 rfl rfl rfl ?_)
              first | with_reducible refine S.nilK ?_ | refine S.nil ?_
              refine hK26 _ _ ?_
              refine S.draw ([blk b6 31 #[(a 0).v, (a 1).v], blk b13 34 (pakC Q dv).toArray]) [10] Try.mixed ?_
              refine S.dr_take 0 [1, 9, 10] rfl (by kernel_rfl) rfl rfl rfl (q_move rfl) Sub.ent ?_
              refine S.dr_take 1 [9, 10] rfl (by kernel_rfl) rfl rfl rfl (q_sub rfl rfl (inI64 (by omega) (by omega))) Sub.ent ?_
              refine S.dr_take 2 [3, 4, 5, 8, 9, 10] rfl (by kernel_rfl) rfl rfl rfl (q_move rfl) Sub.ent ?_
              refine S.dr_take 3 [4, 5, 8, 9, 10] rfl (by kernel_rfl) rfl rfl rfl (q_sub rfl rfl (inI64 (by omega) (by omega))) Sub.ent ?_
              refine S.dr_take 4 [5, 8, 9, 10] rfl (by kernel_rfl) rfl rfl rfl (q_indexTwo (1 - i) Try.ar31 rfl rfl (by omega) (by omega)) Sub.ent ?_
              refine S.dr_take 5 [8, 9, 10] rfl (by kernel_rfl) rfl rfl rfl (q_loadTwo (fun j => (a j).v) (1 - i) (by omega) Try.at30 rfl) Sub.ent ?_
              refine S.dr_take 6 [7, 8, 9, 10] rfl (by kernel_rfl) rfl rfl rfl (q_loadS [_, _, _, _, _, _, _] Try.ag34 rfl rfl ⟨rfl, rfl, rfl, rfl, rfl, rfl, rfl, trivial⟩) Sub.ent ?_
              refine S.dr_1 (i := 7) (by kernel_rfl) rfl rfl ?_
              refine  (S.buildSlice (pvs := [(_, _)]) [_, _, _, _, _, _, _] Try.underlying30 Try.inf34 rfl rfl ⟨⟨rfl, rfl⟩, trivial⟩ rfl rfl ?_)
              intro b79
              refine S.dr_k rfl Sub.ent ?_
              refine S.dr_1 (i := 8) (by kernel_rfl) rfl rfl ?_
              refine  (S.appendOw (s := a (1 - i)) (1) (pakC Q dv) Try.underlying30 Try.inf34 rfl rfl rfl (blk_slAt (b := b79) rfl (by unfold maxLen; omega)) (by first | rfl | exact allOne_bcells _) (⟨by omega, by omega⟩) rfl ?_)
              intro an han
              refine S.dr_k rfl Sub.ent ?_
              refine S.dr_take 9 [10] rfl (by kernel_rfl) rfl rfl rfl (q_indexTwo (1 - i) Try.ar31 rfl rfl (by omega) (by omega)) Sub.ent ?_
              refine S.dr_1 (i := 10) (by kernel_rfl) rfl rfl ?_
              refine  (S.storeTwo (fun j => (a j).v) (1 - i) (by omega) Try.at30 rfl rfl rfl ?_)
              rw [upd_v, upd_v, upd_v, upd_v, show (X.SS i).flatMap brC ++ [u.v] = _ from flat_snoc brC (X.SS i) (⟨u, l⟩ : BR), show (X.AA (1 - i)).flatMap paE ++ pakC Q dv = _ from flat_snoc paE (X.AA (1 - i)) (⟨Q, dv⟩ : PkA)]
              refine S.conv (obytes u l) (show Ent _ (brB ⟨u, l⟩ :: _) from Ent.refl _) ?_
              refine S.conv (obytes dv Q.d) (show Ent _ (paB ⟨Q, dv⟩ :: _) from Ent.refl _) ?_
              refine MM.said hi b3 b4 b5 b6 pp X s c a (old W :: Γ) u l Q dv sn an fun X' s' a' hX' => ?_
              have hinv' : Inv (k + 1) X' := by rw [hX']; exact hinv.say (i := i) (j := 1 - i) (by omega) ⟨u, l⟩ (by simp only; omega) hbt.rng ⟨Q, dv⟩ hQ
              have hfew' : Few (201 * (k + 1)) X' := by rw [hX']; exact (hfew.say (by omega) _ _).mono (by omega)
              obtain ⟨c', hc'⟩ : ∃ c', c' = c := ⟨_, rfl⟩
              rw [← hc']
              refine S.dr_late ([]) [] rfl ?_
              first | with_reducible refine S.dr_doneK (by kernel_rfl) ?_ | refine S.dr_done (by kernel_rfl) ?_
              with_reducible repeat (first | refine S.then_n ?_ | refine S.then_x ?_ | refine S.then_r ?_ | refine S.inBlock_n ?_ | refine S.inBlock_r ?_ | refine S.inBlock_x rfl ?_ | refine S.noGoto_r ?_ | refine S.noGoto_n ?_ | refine S.noGoto_x ?_)
              with_reducible repeat (first | refine S.then_n ?_ | refine S.then_x ?_ | refine S.then_r ?_ | refine S.inBlock_n ?_ | refine S.inBlock_r ?_ | refine S.inBlock_x rfl ?_ | refine S.noGoto_r ?_ | refine S.noGoto_n ?_ | refine S.noGoto_x ?_)
              first
              | exact S.meet ⟨X', s', c', a', hinv', hfew', rfl, rfl⟩ ⟨rfl, rfl, rfl, rfl, rfl, rfl, rfl, rfl, rfl, trivial⟩ Sub.ent
              | exact S.meet ⟨X1, s, c, a1, hinv1.mono (Nat.le_succ _), hfew1.mono (by omega), rfl, rfl⟩ ⟨rfl, rfl, rfl, rfl, rfl, rfl, rfl, rfl, rfl, trivial⟩ Sub.ent
              | exact S.meet ⟨X, s, c, a, hinv.mono (Nat.le_succ _), hfew.mono (by omega), rfl, rfl⟩ ⟨rfl, rfl, rfl, rfl, rfl, rfl, rfl, rfl, rfl, trivial⟩ Sub.ent
            · refine S.seq fun K27 hK27 => ?_
              refine S.region rfl ?_
              refine S.op (S.q (q_field Try.fo40_0 rfl) rfl rfl ?_)
              refine S.op (S.q (q_load Try.at5 rfl rfl) rfl rfl ?_)
              refine S.op (S.q (q_eq rfl rfl) rfl rfl ?_)
              refine S.op (S.q (q_assign rfl) rfl rfl ?_)
              first | with_reducible refine S.nilK ?_ | refine S.nil ?_
              refine hK27 _ _ ?_
              refine S.condD rfl (fun h7 => ?_) (fun h7 => ?_)
              · refine S.region rfl ?_
                refine S.op (S.q (q_move rfl) rfl rfl ?_)
                refine S.op (S.callC (fs := []) (cs := [.pointer (some ⟨b6, 0, none⟩), .pointer (some ⟨b3, 0, none⟩)]) (vs := []) Try.en13 rfl trivial (tick_S b3 b6 pp X.st 200 (by omega) (fun j hj => hinv.okT (by omega) hj) a X.AA (fun j hj => by have := hfew j hj; omega)) rfl ?_)
                rintro v Θ ⟨a', A', hT, rfl⟩
                refine MM.ticked b3 b4 b5 b6 pp X s c a' (old W :: Γ) A' fun X' hX' => ?_
                have hinv' : Inv (k + 1) X' := by rw [hX']; exact hinv.tick hT
                have hfew' : Few (201 * (k + 1)) X' := by rw [hX']; exact (hfew.tick hinv (by omega) hT).mono (by omega)
                obtain ⟨c', hc'⟩ : ∃ c', c' = c := ⟨_, rfl⟩
                obtain ⟨s', hs'⟩ : ∃ s', s' = s := ⟨_, rfl⟩
                rw [← hc', ← hs']
                first | with_reducible refine S.nilK ?_ | refine S.nil ?_
                with_reducible repeat (first | refine S.then_n ?_ | refine S.then_x ?_ | refine S.then_r ?_ | refine S.inBlock_n ?_ | refine S.inBlock_r ?_ | refine S.inBlock_x rfl ?_ | refine S.noGoto_r ?_ | refine S.noGoto_n ?_ | refine S.noGoto_x ?_)
                with_reducible repeat (first | refine S.then_n ?_ | refine S.then_x ?_ | refine S.then_r ?_ | refine S.inBlock_n ?_ | refine S.inBlock_r ?_ | refine S.inBlock_x rfl ?_ | refine S.noGoto_r ?_ | refine S.noGoto_n ?_ | refine S.noGoto_x ?_)
                first
                | exact S.meet ⟨X', s', c', a', hinv', hfew', rfl, rfl⟩ ⟨rfl, rfl, rfl, rfl, rfl, rfl, rfl, rfl, rfl, trivial⟩ Sub.ent
                | exact S.meet ⟨X1, s, c, a1, hinv1.mono (Nat.le_succ _), hfew1.mono (by omega), rfl, rfl⟩ ⟨rfl, rfl, rfl, rfl, rfl, rfl, rfl, rfl, rfl, trivial⟩ Sub.ent
                | exact S.meet ⟨X, s, c, a, hinv.mono (Nat.le_succ _), hfew.mono (by omega), rfl, rfl⟩ ⟨rfl, rfl, rfl, rfl, rfl, rfl, rfl, rfl, rfl, trivial⟩ Sub.ent
              · refine S.seq fun K28 hK28 => ?_
                refine S.region rfl ?_
                refine S.op (S.q (q_move rfl) rfl rfl ?_)
                refine S.op (S.q (q_indexTwo i Try.ar31 rfl rfl rfl hi) rfl rfl ?_)
                refine S.op (S.q (q_loadTwo (fun j => (a j).v) i hi Try.at30 rfl) rfl rfl ?_)
                refine S.op (S.q (q_len Try.underlying30 rfl) rfl rfl ?_)
                refine S.op (S.q (q_gt rfl rfl) rfl rfl ?_)
                refine S.op (S.q (q_assign rfl) rfl rfl ?_)
                first | with_reducible refine S.nilK ?_ | refine S.nil ?_
                refine hK28 _ _ ?_
                refine S.condD rfl (fun h8 => ?_) (fun h8 => ?_)
                · refine S.ent (Ent.cons _ (MM.turn hi)) ?_
                  refine S.ownSome (a i) (by omega) fun ba oa hba ha0 _ hcm => ?_
                  rw [flat_length paE_len] at ha0
                  unfold maxLen at hcm
                  have hal := hfew i hi
                  have hal2 := hfew (1 - i) (by omega)
                  obtain ⟨nn, hnn'⟩ : ∃ nn : Nat, r.nn % ((a i).n : Int) = nn := ⟨(r.nn % (a i).n).toNat, by have := Int.emod_nonneg r.nn (show ((a i).n : Int) ≠ 0 by omega); omega⟩
                  have hnl : nn < (a i).n := by have := Int.emod_lt_of_pos r.nn (show (0 : Int) < ((a i).n : Int) by omega); omega
                  obtain ⟨x, hx⟩ := getE (l := X.AA i) (i := nn) (by omega)
                  obtain ⟨y, hy⟩ := hinv (1 - i) i (by omega)
                  obtain ⟨hgood, hdl, hdr⟩ := hy.air x (List.mem_of_getElem? hx)
                  refine S.seq fun K29 hK29 => ?_
                  refine S.draw ([blk b10 40 #[.int .u8 r.od, .bool r.b, .int .u8 r.nn, r.v.v], blk b6 31 #[(a 0).v, (a 1).v]]) [] Try.mixed ?_
                  refine S.dr_take 0 [] rfl (by kernel_rfl) rfl rfl rfl (q_field Try.fo40_2 rfl) Sub.ent ?_
                  refine S.dr_take 1 [] rfl (by kernel_rfl) rfl rfl rfl (q_load Try.at5 rfl rfl) Sub.ent ?_
                  refine S.dr_take 2 [] rfl (by kernel_rfl) rfl rfl rfl (q_conv Try.it3 (by rw [Try.underlying5]; rfl) rfl (inI64 (by omega) (by omega))) Sub.ent ?_
                  refine S.dr_take 3 [] rfl (by kernel_rfl) rfl rfl rfl (q_move rfl) Sub.ent ?_
                  refine S.dr_take 4 [] rfl (by kernel_rfl) rfl rfl rfl (q_indexTwo i Try.ar31 rfl rfl rfl hi) Sub.ent ?_
                  refine S.dr_take 5 [] rfl (by kernel_rfl) rfl rfl rfl (q_loadTwo (fun j => (a j).v) i hi Try.at30 rfl) Sub.ent ?_
                  refine S.dr_take 6 [] rfl (by kernel_rfl) rfl rfl rfl (q_len Try.underlying30 rfl) Sub.ent ?_
                  refine S.dr_take 7 [] rfl (by kernel_rfl) rfl rfl rfl (q_rem rfl rfl (⟨by omega, by omega⟩)) Sub.ent ?_
                  refine S.dr_take 8 [] rfl (by kernel_rfl) rfl rfl rfl (q_assign rfl) Sub.ent ?_
                  first | with_reducible refine S.dr_doneK (by kernel_rfl) ?_ | refine S.dr_done (by kernel_rfl) ?_
                  refine hK29 _ _ ?_
                  refine S.seq fun K30 hK30 => ?_
                  refine S.region rfl ?_
                  rw [hnn']
                  refine S.op (S.q (q_move rfl) rfl rfl ?_)
                  refine S.op (S.q (q_indexTwo i Try.ar31 rfl rfl rfl hi) rfl rfl ?_)
                  refine S.op (S.q (q_loadTwo (fun j => (a j).v) i hi Try.at30 rfl) rfl rfl ?_)
                  refine S.op (S.q (q_move rfl) rfl rfl ?_)
                  refine S.op (S.q (q_indexO (nn) Try.el30 rfl hba rfl rfl (by omega)) rfl rfl ?_)
                  refine S.op (S.q (q_loadOwS (a i) (nn * 7) [_, _, _, _, _, _, _] Try.ag34 rfl hba (by first | rfl | exact Nat.add_assoc _ _ _ | omega) rfl (flat_seg (enc := paE) (sz := 7) (fun _ => rfl) hx)) rfl rfl ?_)
                  refine S.op (S.alloc Try.z34 rfl ?_)
                  intro b16
                  refine S.op (S.storeS (cs' := [_, _, _, _, _, _, _]) Try.ag34 rfl rfl rfl rfl rfl rfl ?_)
                  first | with_reducible refine S.nilK ?_ | refine S.nil ?_
                  refine hK30 _ _ ?_
                  refine S.seq fun K31 hK31 => ?_
                  refine S.seq fun K32 hK32 => ?_
                  refine S.region rfl ?_
                  refine S.op (S.q (q_field Try.fo40_0 rfl) rfl rfl ?_)
                  refine S.op (S.q (q_load Try.at5 rfl rfl) rfl rfl ?_)
                  refine S.op (S.q (q_ne rfl rfl) rfl rfl ?_)
                  first | with_reducible refine S.nilK ?_ | refine S.nil ?_
                  refine hK32 _ _ ?_
                  refine S.cut (fun ρ' Γ' => ∃ (X1 : OSt) (a1 : Nat → SV) (R : Assn), Inv k X1 ∧ Few (201 * k) X1 ∧ Good (dat (X1.SS (1 - i))) (X1.CC (1 - i)).length x.k ∧ (∀ Γ w, Sat w (R :: Γ) → BytesAt w x.v.v x.k.d) ∧ (∀ Γ, Ent (R :: Γ) (alls (X1.AA i) paB :: Γ)) ∧ ρ' = [(3, .pointer (some ⟨b3, 0, none⟩)), (4, .pointer (some ⟨b4, 0, none⟩)), (5, .pointer (some ⟨b5, 0, none⟩)), (6, .pointer (some ⟨b6, 0, none⟩)), (7, .func (.func 11) #[] #[.pointer (some ⟨b3, 0, none⟩), .pointer (some ⟨b5, 0, none⟩), .pointer (some ⟨b6, 0, none⟩)]), (8, .func (.func 13) #[] #[.pointer (some ⟨b6, 0, none⟩), .pointer (some ⟨b3, 0, none⟩)]), (30, s4.v), (31, .int .i64 s4.n), (32, .int .i64 k), (10, .pointer (some ⟨b10, 0, none⟩)), (11, .int .i64 i), (16, .pointer (some ⟨b16, 0, none⟩))] ∧ Γ' = blk b10 40 #[.int .u8 r.od, .bool r.b, .int .u8 r.nn, r.v.v] :: blk b16 34 (paE x).toArray :: R :: MJ i b3 b4 b5 b6 pp X1 s c a1 (old W :: Γ)) ?_ ?_
                  · refine S.condD rfl (fun h9 => ?_) (fun h9 => ?_)
                    · refine S.draw ([blk b6 31 #[(a 0).v, (a 1).v]]) [16] Try.mixed ?_
                      refine S.dr_take 0 [15, 16] rfl (by kernel_rfl) rfl rfl rfl (q_move rfl) Sub.ent ?_
                      refine S.dr_take 2 [3, 4, 6, 7, 14, 15, 16] rfl (by kernel_rfl) rfl rfl rfl (q_move rfl) Sub.ent ?_
                      refine S.dr_take 3 [4, 6, 7, 14, 15, 16] rfl (by kernel_rfl) rfl rfl rfl (q_indexTwo i Try.ar31 rfl rfl rfl hi) Sub.ent ?_
                      refine S.dr_take 4 [6, 7, 14, 15, 16] rfl (by kernel_rfl) rfl rfl rfl (q_loadTwo (fun j => (a j).v) i hi Try.at30 rfl) Sub.ent ?_
                      refine S.dr_take 5 [6, 7, 14, 15, 16] rfl (by kernel_rfl) rfl rfl rfl (q_move rfl) Sub.ent ?_
                      refine S.dr_take 6 [7, 14, 15, 16] rfl (by kernel_rfl) rfl rfl rfl (q_sliceTo (nn) Try.el30 rfl rfl rfl (by omega)) Sub.ent ?_
                      refine S.dr_take 8 [9, 10, 13, 14, 15, 16] rfl (by kernel_rfl) rfl rfl rfl (q_move rfl) Sub.ent ?_
                      refine S.dr_take 9 [10, 13, 14, 15, 16] rfl (by kernel_rfl) rfl rfl rfl (q_indexTwo i Try.ar31 rfl rfl rfl hi) Sub.ent ?_
                      refine S.dr_take 10 [13, 14, 15, 16] rfl (by kernel_rfl) rfl rfl rfl (q_loadTwo (fun j => (a j).v) i hi Try.at30 rfl) Sub.ent ?_
                      refine S.dr_take 11 [12, 13, 14, 15, 16] rfl (by kernel_rfl) rfl rfl rfl (q_move rfl) Sub.ent ?_
                      refine S.dr_take 12 [13, 14, 15, 16] rfl (by kernel_rfl) rfl rfl rfl (q_add rfl rfl (inI64 (by omega) (by omega))) Sub.ent ?_
                      refine S.dr_take 13 [14, 15, 16] rfl (by kernel_rfl) rfl rfl rfl (q_sliceFrom (nn + 1) Try.el30 rfl rfl rfl (by omega)) Sub.ent ?_
                      refine S.dr_1 (i := 1) (by kernel_rfl) rfl rfl ?_
                      refine  (S.buildSlice0 Try.underlying30 Try.inf34 rfl ?_)
                      intro b112 hb112
                      refine S.dr_k rfl Sub.ent ?_
                      refine S.dr_1 (i := 7) (by kernel_rfl) rfl rfl ?_
                      refine  (S.appendOw (s := b112) (nn) (((X.AA i).take nn).flatMap paE) Try.underlying30 Try.inf34 rfl rfl rfl (fun w hs => own_takeG paE_len (by omega) (HasOw.slAt inferInstance hs) (by omega)) (paE_one _) (⟨by omega, by omega⟩) rfl ?_)
                      intro s1 hs1
                      rw [List.nil_append]
                      refine S.dr_k rfl Sub.ent ?_
                      refine S.dr_1 (i := 14) (by kernel_rfl) rfl rfl ?_
                      refine  (S.appendOw (s := s1) ((a i).n - (nn + 1)) (((X.AA i).drop (nn + 1)).flatMap paE) Try.underlying30 Try.inf34 rfl rfl rfl (fun w hs => own_dropG paE_len (by omega) (HasOw.slAt inferInstance hs) (by omega)) (paE_one _) (⟨by omega, by omega⟩) rfl ?_)
                      intro an han
                      refine S.dr_k rfl Sub.ent ?_
                      refine S.dr_take 15 [16] rfl (by kernel_rfl) rfl rfl rfl (q_indexTwo i Try.ar31 rfl rfl rfl hi) Sub.ent ?_
                      refine S.dr_1 (i := 16) (by kernel_rfl) rfl rfl ?_
                      refine  (S.storeTwo (fun j => (a j).v) i hi Try.at30 rfl rfl rfl ?_)
                      rw [upd_v, upd_v, ← List.flatMap_append, ← List.eraseIdx_eq_take_drop_succ]
                      refine S.conv (alls (X.AA i) paB) (pa_out hx _) ?_
                      refine MJ.gone hi b3 b4 b5 b6 pp X s c a (blk b10 40 #[.int .u8 r.od, .bool r.b, .int .u8 r.nn, r.v.v] :: blk b16 34 (paE x).toArray :: old W :: Γ) x ((X.AA i).eraseIdx nn) an fun X1 a1 R hX1 hR1 hR2 => ?_
                      have hinv1 : Inv k X1 := by rw [hX1]; exact hinv.out fun p hp => List.mem_of_mem_eraseIdx hp
                      have hfew1 : Few (201 * k) X1 := by rw [hX1]; exact hfew.out (Nat.le_trans (List.length_eraseIdx_le ..) hal)
                      have hgood1 : Good (dat (X1.SS (1 - i))) (X1.CC (1 - i)).length x.k := by rw [hX1]; exact hgood
                      refine S.dr_late ([]) [] rfl ?_
                      first | with_reducible refine S.dr_doneK (by kernel_rfl) ?_ | refine S.dr_done (by kernel_rfl) ?_
                      with_reducible repeat (first | refine S.then_n ?_ | refine S.then_x ?_ | refine S.then_r ?_ | refine S.inBlock_n ?_ | refine S.inBlock_r ?_ | refine S.inBlock_x rfl ?_ | refine S.noGoto_r ?_ | refine S.noGoto_n ?_ | refine S.noGoto_x ?_)
                      first
                      | exact S.meet ⟨X1, a1, R, hinv1, hfew1, hgood1, hR1, hR2, rfl, rfl⟩ ⟨rfl, rfl, rfl, rfl, rfl, rfl, rfl, rfl, rfl, rfl, rfl, rfl, trivial⟩ Sub.ent
                      | exact S.meet ⟨X, a, R, hinv, hfew, hgood, hR1, hR2, rfl, rfl⟩ ⟨rfl, rfl, rfl, rfl, rfl, rfl, rfl, rfl, rfl, rfl, rfl, rfl, trivial⟩ Sub.ent
                    · refine MJ.stays b3 b4 b5 b6 pp X s c a (blk b10 40 #[.int .u8 r.od, .bool r.b, .int .u8 r.nn, r.v.v] :: blk b16 34 (paE x).toArray :: old W :: Γ) hx fun R hR1 hR2 => ?_
                      refine S.skip ?_
                      with_reducible repeat (first | refine S.then_n ?_ | refine S.then_x ?_ | refine S.then_r ?_ | refine S.inBlock_n ?_ | refine S.inBlock_r ?_ | refine S.inBlock_x rfl ?_ | refine S.noGoto_r ?_ | refine S.noGoto_n ?_ | refine S.noGoto_x ?_)
                      with_reducible repeat (first | refine S.then_n ?_ | refine S.then_x ?_ | refine S.then_r ?_ | refine S.inBlock_n ?_ | refine S.inBlock_r ?_ | refine S.inBlock_x rfl ?_ | refine S.noGoto_r ?_ | refine S.noGoto_n ?_ | refine S.noGoto_x ?_)
                      first
                      | exact S.meet ⟨X1, a1, R, hinv1, hfew1, hgood1, hR1, hR2, rfl, rfl⟩ ⟨rfl, rfl, rfl, rfl, rfl, rfl, rfl, rfl, rfl, rfl, rfl, rfl, trivial⟩ Sub.ent
                      | exact S.meet ⟨X, a, R, hinv, hfew, hgood, hR1, hR2, rfl, rfl⟩ ⟨rfl, rfl, rfl, rfl, rfl, rfl, rfl, rfl, rfl, rfl, rfl, rfl, trivial⟩ Sub.ent
                  · rintro ρ' Γ' ⟨X1, a1, R, hinv1, hfew1, hgood1, hR1, hR2, rfl, rfl⟩
                    refine hK31 _ _ ?_
                    refine S.seq fun K33 hK33 => ?_
                    refine S.region rfl ?_
                    refine S.op (S.q (q_field Try.fo40_0 rfl) rfl rfl ?_)
                    refine S.op (S.q (q_load Try.at5 rfl rfl) rfl rfl ?_)
                    refine S.op (S.q (q_lt rfl rfl) rfl rfl ?_)
                    first | with_reducible refine S.nilK ?_ | refine S.nil ?_
                    refine hK33 _ _ ?_
                    refine S.condD rfl (fun h10 => ?_) (fun h10 => ?_)
                    · have hal1 := hfew1 (1 - i) (by omega)
                      obtain ⟨x1, hx1⟩ := hinv1 i (1 - i) (by omega)
                      obtain ⟨y1, hy1⟩ := hinv1 (1 - i) i (by omega)
                      have hcm1 := hx1.ok.came
                      have hle1 := hy1.le
                      rw [dat_len] at hcm1
                      refine S.region rfl ?_
                      refine S.op (S.q (q_move rfl) rfl rfl ?_)
                      refine S.op (S.q (q_move rfl) rfl rfl ?_)
                      refine S.op (S.q (q_loadS [_, _, _, _, _, _, _] Try.ag34 rfl rfl ⟨rfl, rfl, rfl, rfl, rfl, rfl, rfl, trivial⟩) rfl rfl ?_)
                      refine S.op (S.callC (fs := []) (cs := [.pointer (some ⟨b3, 0, none⟩), .pointer (some ⟨b5, 0, none⟩), .pointer (some ⟨b6, 0, none⟩)]) (vs := [_, _]) Try.en11 rfl ⟨rfl, rfl, trivial⟩ (hear_S b3 b5 b6 i hi pp (X1.st i) 200 (by omega) (hinv1.okT (by omega) hi) x.k x.v R hR1 hdl c a1 (X1.CC i) (X1.AA (1 - i)) (by omega) (by omega)) rfl ?_)
                      rintro v Θ ⟨cn, an2, g, u, C', A', hC, hA, rfl⟩
                      refine MM.heard hi b3 b4 b5 b6 pp X1 s c a1 (old W :: Γ) x.k R hR2 cn an2 C' A' fun X' c' a' hX' => ?_
                      have hinv' : Inv (k + 1) X' := by rw [hX']; exact (hinv1.hear (by omega) hgood1 hC hA).mono (Nat.le_succ _)
                      have hfew' : Few (201 * (k + 1)) X' := by rw [hX']; exact (hfew1.hear (by omega) hA).mono (by omega)
                      obtain ⟨s', hs'⟩ : ∃ s', s' = s := ⟨_, rfl⟩
                      rw [← hs']
                      first | with_reducible refine S.nilK ?_ | refine S.nil ?_
                      with_reducible repeat (first | refine S.then_n ?_ | refine S.then_x ?_ | refine S.then_r ?_ | refine S.inBlock_n ?_ | refine S.inBlock_r ?_ | refine S.inBlock_x rfl ?_ | refine S.noGoto_r ?_ | refine S.noGoto_n ?_ | refine S.noGoto_x ?_)
                      with_reducible repeat (first | refine S.then_n ?_ | refine S.then_x ?_ | refine S.then_r ?_ | refine S.inBlock_n ?_ | refine S.inBlock_r ?_ | refine S.inBlock_x rfl ?_ | refine S.noGoto_r ?_ | refine S.noGoto_n ?_ | refine S.noGoto_x ?_)
                      first
                      | exact S.meet ⟨X', s', c', a', hinv', hfew', rfl, rfl⟩ ⟨rfl, rfl, rfl, rfl, rfl, rfl, rfl, rfl, rfl, trivial⟩ Sub.ent
                      | exact S.meet ⟨X1, s, c, a1, hinv1.mono (Nat.le_succ _), hfew1.mono (by omega), rfl, rfl⟩ ⟨rfl, rfl, rfl, rfl, rfl, rfl, rfl, rfl, rfl, trivial⟩ Sub.ent
                      | exact S.meet ⟨X, s, c, a, hinv.mono (Nat.le_succ _), hfew.mono (by omega), rfl, rfl⟩ ⟨rfl, rfl, rfl, rfl, rfl, rfl, rfl, rfl, rfl, trivial⟩ Sub.ent
                    · refine MJ.back hi b3 b4 b5 b6 pp X1 s c a1 (old W :: Γ) R hR2 ?_
                      refine S.skip ?_
                      with_reducible repeat (first | refine S.then_n ?_ | refine S.then_x ?_ | refine S.then_r ?_ | refine S.inBlock_n ?_ | refine S.inBlock_r ?_ | refine S.inBlock_x rfl ?_ | refine S.noGoto_r ?_ | refine S.noGoto_n ?_ | refine S.noGoto_x ?_)
                      with_reducible repeat (first | refine S.then_n ?_ | refine S.then_x ?_ | refine S.then_r ?_ | refine S.inBlock_n ?_ | refine S.inBlock_r ?_ | refine S.inBlock_x rfl ?_ | refine S.noGoto_r ?_ | refine S.noGoto_n ?_ | refine S.noGoto_x ?_)
                      with_reducible repeat (first | refine S.then_n ?_ | refine S.then_x ?_ | refine S.then_r ?_ | refine S.inBlock_n ?_ | refine S.inBlock_r ?_ | refine S.inBlock_x rfl ?_ | refine S.noGoto_r ?_ | refine S.noGoto_n ?_ | refine S.noGoto_x ?_)
                      first
                      | exact S.meet ⟨X', s', c', a', hinv', hfew', rfl, rfl⟩ ⟨rfl, rfl, rfl, rfl, rfl, rfl, rfl, rfl, rfl, trivial⟩ Sub.ent
                      | exact S.meet ⟨X1, s, c, a1, hinv1.mono (Nat.le_succ _), hfew1.mono (by omega), rfl, rfl⟩ ⟨rfl, rfl, rfl, rfl, rfl, rfl, rfl, rfl, rfl, trivial⟩ Sub.ent
                      | exact S.meet ⟨X, s, c, a, hinv.mono (Nat.le_succ _), hfew.mono (by omega), rfl, rfl⟩ ⟨rfl, rfl, rfl, rfl, rfl, rfl, rfl, rfl, rfl, trivial⟩ Sub.ent
                · refine S.skip ?_
                  with_reducible repeat (first | refine S.then_n ?_ | refine S.then_x ?_ | refine S.then_r ?_ | refine S.inBlock_n ?_ | refine S.inBlock_r ?_ | refine S.inBlock_x rfl ?_ | refine S.noGoto_r ?_ | refine S.noGoto_n ?_ | refine S.noGoto_x ?_)
                  with_reducible repeat (first | refine S.then_n ?_ | refine S.then_x ?_ | refine S.then_r ?_ | refine S.inBlock_n ?_ | refine S.inBlock_r ?_ | refine S.inBlock_x rfl ?_ | refine S.noGoto_r ?_ | refine S.noGoto_n ?_ | refine S.noGoto_x ?_)
                  with_reducible repeat (first | refine S.then_n ?_ | refine S.then_x ?_ | refine S.then_r ?_ | refine S.inBlock_n ?_ | refine S.inBlock_r ?_ | refine S.inBlock_x rfl ?_ | refine S.noGoto_r ?_ | refine S.noGoto_n ?_ | refine S.noGoto_x ?_)
                  first
                  | exact S.meet ⟨X', s', c', a', hinv', hfew', rfl, rfl⟩ ⟨rfl, rfl, rfl, rfl, rfl, rfl, rfl, rfl, rfl, trivial⟩ Sub.ent
                  | exact S.meet ⟨X1, s, c, a1, hinv1.mono (Nat.le_succ _), hfew1.mono (by omega), rfl, rfl⟩ ⟨rfl, rfl, rfl, rfl, rfl, rfl, rfl, rfl, rfl, trivial⟩ Sub.ent
                  | exact S.meet ⟨X, s, c, a, hinv.mono (Nat.le_succ _), hfew.mono (by omega), rfl, rfl⟩ ⟨rfl, rfl, rfl, rfl, rfl, rfl, rfl, rfl, rfl, trivial⟩ Sub.ent
          · rintro ρ' Γ' ⟨X', s', c', a', hinv', hfew', rfl, rfl⟩
            refine hK20 _ _ ?_
            refine S.seq fun K34 hK34 => ?_
            refine S.region rfl ?_
            refine S.op (S.q (q_move rfl) rfl rfl ?_)
            first | with_reducible refine S.nilK ?_ | refine S.nil ?_
            refine hK34 _ _ ?_
            refine S.block ?_
            refine S.loop (fun m2 ρ' Γ' => ∃ j : Nat, m2 + j = 2 ∧ ρ' = [(3, .pointer (some ⟨b3, 0, none⟩)), (4, .pointer (some ⟨b4, 0, none⟩)), (5, .pointer (some ⟨b5, 0, none⟩)), (6, .pointer (some ⟨b6, 0, none⟩)), (7, .func (.func 11) #[] #[.pointer (some ⟨b3, 0, none⟩), .pointer (some ⟨b5, 0, none⟩), .pointer (some ⟨b6, 0, none⟩)]), (8, .func (.func 13) #[] #[.pointer (some ⟨b6, 0, none⟩), .pointer (some ⟨b3, 0, none⟩)]), (30, s4.v), (31, .int .i64 s4.n), (32, .int .i64 k), (134, .int .i64 j)] ∧ Γ' = MM b3 b4 b5 b6 pp X' s' c' a' (old W :: Γ)) (m := _) (ρ0 := _) (Γ0 := _) (⟨0, rfl, rfl, rfl⟩) (by repeat (first | exact trivial | refine ⟨rfl, ?_⟩)) Sub.ent ?_
            rintro m2 ρ' Γ' ⟨j, hj2, rfl, rfl⟩
            refine S.seq fun K35 hK35 => ?_
            refine S.region rfl ?_
            refine S.op (S.q (q_lt rfl rfl) rfl rfl ?_)
            first | with_reducible refine S.nilK ?_ | refine S.nil ?_
            refine hK35 _ _ ?_
            refine S.seq fun K36 hK36 => ?_
            refine S.condD rfl (fun h11 => ?_) (fun h11 => ?_)
            · have hj : j < 2 := by omega
              refine S.ent (MM.turn hj) ?_
              refine S.ownLen (c' j) fun hcl hcn hcm => ?_
              unfold maxLen at hcm
              refine S.ownLen (s' (1 - j)) fun hsl _ _ => ?_
              rw [flat_length brC_len] at hcl hsl
              obtain ⟨xj, hxj⟩ := hinv' j (1 - j) (by omega)
              obtain ⟨yj, hyj⟩ := hinv' (1 - j) j (by omega)
              have hcame := hxj.ok.came
              rw [dat_len] at hcame
              refine S.skip ?_
              with_reducible repeat (first | refine S.then_n ?_ | refine S.then_x ?_ | refine S.then_r ?_ | refine S.inBlock_n ?_ | refine S.inBlock_r ?_ | refine S.inBlock_x rfl ?_ | refine S.noGoto_r ?_ | refine S.noGoto_n ?_ | refine S.noGoto_x ?_)
              refine hK36 _ _ ?_
              refine S.seq fun K37 hK37 => ?_
              refine S.block ?_
              refine S.seq fun K38 hK38 => ?_
              refine S.region rfl ?_
              refine S.op (S.q (q_move rfl) rfl rfl ?_)
              refine S.op (S.q (q_assign rfl) rfl rfl ?_)
              first | with_reducible refine S.nilK ?_ | refine S.nil ?_
              refine hK38 _ _ ?_
              refine S.seq fun K39 hK39 => ?_
              refine S.seq fun K40 hK40 => ?_
              refine S.draw ([blk b5 29 #[(c' 0).v, (c' 1).v], blk b4 29 #[(s' 0).v, (s' 1).v]]) [] Try.mixed ?_
              refine S.dr_take 0 [] rfl (by kernel_rfl) rfl rfl rfl (q_move rfl) Sub.ent ?_
              refine S.dr_take 1 [] rfl (by kernel_rfl) rfl rfl rfl (q_indexTwo j Try.ar29 rfl rfl rfl hj) Sub.ent ?_
              refine S.dr_take 2 [] rfl (by kernel_rfl) rfl rfl rfl (q_loadTwo (fun j => (c' j).v) j hj Try.at28 rfl) Sub.ent ?_
              refine S.dr_take 3 [] rfl (by kernel_rfl) rfl rfl rfl (q_len Try.underlying28 rfl) Sub.ent ?_
              refine S.dr_take 4 [] rfl (by kernel_rfl) rfl rfl rfl (q_move rfl) Sub.ent ?_
              refine S.dr_take 5 [] rfl (by kernel_rfl) rfl rfl rfl (q_sub rfl rfl (inI64 (by omega) (by omega))) Sub.ent ?_
              refine S.dr_take 6 [] rfl (by kernel_rfl) rfl rfl rfl (q_indexTwo (1 - j) Try.ar29 rfl rfl (by omega) (by omega)) Sub.ent ?_
              refine S.dr_take 7 [] rfl (by kernel_rfl) rfl rfl rfl (q_loadTwo (fun j => (s' j).v) (1 - j) (by omega) Try.at28 rfl) Sub.ent ?_
              refine S.dr_take 8 [] rfl (by kernel_rfl) rfl rfl rfl (q_len Try.underlying28 rfl) Sub.ent ?_
              refine S.dr_take 9 [] rfl (by kernel_rfl) rfl rfl rfl (q_gt rfl rfl) Sub.ent ?_
              first | with_reducible refine S.dr_doneK (by kernel_rfl) ?_ | refine S.dr_done (by kernel_rfl) ?_
              refine hK40 _ _ ?_
              refine S.condD rfl (fun h12 => ?_) (fun h12 => ?_)
              · exact absurd h12 (by omega)
              · refine S.skip ?_
                with_reducible repeat (first | refine S.then_n ?_ | refine S.then_x ?_ | refine S.then_r ?_ | refine S.inBlock_n ?_ | refine S.inBlock_r ?_ | refine S.inBlock_x rfl ?_ | refine S.noGoto_r ?_ | refine S.noGoto_n ?_ | refine S.noGoto_x ?_)
                refine hK39 _ _ ?_
                refine S.seq fun K41 hK41 => ?_
                refine S.region rfl ?_
                refine S.op (S.q (q_move rfl) rfl rfl ?_)
                refine S.op (S.q (q_indexTwo j Try.ar29 rfl rfl rfl hj) rfl rfl ?_)
                refine S.op (S.q (q_loadTwo (fun j => (c' j).v) j hj Try.at28 rfl) rfl rfl ?_)
                refine S.op (S.q (q_len Try.underlying28 rfl) rfl rfl ?_)
                refine S.op (S.q (q_move rfl) rfl rfl ?_)
                first | with_reducible refine S.nilK ?_ | refine S.nil ?_
                refine hK41 _ _ ?_
                refine S.block ?_
                refine S.loop (fun m3 ρ' Γ' => ∃ q : Nat, m3 + q = (c' j).n ∧ ρ' = [(3, .pointer (some ⟨b3, 0, none⟩)), (4, .pointer (some ⟨b4, 0, none⟩)), (5, .pointer (some ⟨b5, 0, none⟩)), (6, .pointer (some ⟨b6, 0, none⟩)), (7, .func (.func 11) #[] #[.pointer (some ⟨b3, 0, none⟩), .pointer (some ⟨b5, 0, none⟩), .pointer (some ⟨b6, 0, none⟩)]), (8, .func (.func 13) #[] #[.pointer (some ⟨b6, 0, none⟩), .pointer (some ⟨b3, 0, none⟩)]), (30, s4.v), (31, .int .i64 s4.n), (32, .int .i64 k), (134, .int .i64 j), (17, .int .i64 j), (149, (c' j).v), (150, .int .i64 (c' j).n), (151, .int .i64 q)] ∧ Γ' = MI j b3 b4 b5 b6 pp X' s' c' a' (old W :: Γ)) (m := _) (ρ0 := _) (Γ0 := _) (⟨0, rfl, rfl, rfl⟩) (by repeat (first | exact trivial | refine ⟨rfl, ?_⟩)) Sub.ent ?_
                rintro m3 ρ' Γ' ⟨q, hq3, rfl, rfl⟩
                refine S.seq fun K42 hK42 => ?_
                refine S.region rfl ?_
                refine S.op (S.q (q_lt rfl rfl) rfl rfl ?_)
                first | with_reducible refine S.nilK ?_ | refine S.nil ?_
                refine hK42 _ _ ?_
                refine S.seq fun K43 hK43 => ?_
                refine S.condD rfl (fun h13 => ?_) (fun h13 => ?_)
                · obtain ⟨y, hy⟩ := getE (l := X'.CC j) (i := q) (by omega)
                  obtain ⟨z, hz⟩ := getE (l := X'.SS (1 - j)) (i := q) (by omega)
                  have hyz : y.l = z.l := by
                    have e := congrArg (fun l => l[q]?) hxj.pre
                    have hql := (List.getElem?_eq_some_iff.1 hy).1
                    simp only [dat, List.getElem?_map, hy, Option.map_some] at e
                    rw [List.getElem?_take_of_lt hql, List.getElem?_map, hz] at e
                    simpa using e
                  have hzr := (hyj.small z (List.mem_of_getElem? hz)).2
                  refine S.ownSome (c' j) (by omega) fun bc oc hbc _ _ _ => ?_
                  refine S.ownSome (s' (1 - j)) (by omega) fun bs os hbs _ _ _ => ?_
                  refine S.skip ?_
                  with_reducible repeat (first | refine S.then_n ?_ | refine S.then_x ?_ | refine S.then_r ?_ | refine S.inBlock_n ?_ | refine S.inBlock_r ?_ | refine S.inBlock_x rfl ?_ | refine S.noGoto_r ?_ | refine S.noGoto_n ?_ | refine S.noGoto_x ?_)
                  refine hK43 _ _ ?_
                  refine S.seq fun K44 hK44 => ?_
                  refine S.block ?_
                  refine S.seq fun K45 hK45 => ?_
                  refine S.region rfl ?_
                  refine S.op (S.q (q_move rfl) rfl rfl ?_)
                  refine S.op (S.q (q_indexO (q) Try.el28 rfl hbc rfl rfl (by omega)) rfl rfl ?_)
                  refine S.op (S.q (q_loadOw (c' j) (q * 1) Try.at32 rfl hbc (by first | rfl | exact Nat.add_assoc _ _ _ | omega) (flat_seg (enc := brC) (sz := 1) (fun _ => rfl) hy 0 _ rfl)) rfl rfl ?_)
                  refine S.op (S.q (q_assign rfl) rfl rfl ?_)
                  refine S.op (S.q (q_assign rfl) rfl rfl ?_)
                  first | with_reducible refine S.nilK ?_ | refine S.nil ?_
                  refine hK45 _ _ ?_
                  refine S.seq fun K46 hK46 => ?_
                  refine S.region rfl ?_
                  refine S.op (S.q (q_move rfl) rfl rfl ?_)
                  refine S.op (S.q (q_move rfl) rfl rfl ?_)
                  refine S.op (S.q (q_sub rfl rfl (inI64 (by omega) (by omega))) rfl rfl ?_)
                  refine S.op (S.q (q_indexTwo (1 - j) Try.ar29 rfl rfl (by omega) (by omega)) rfl rfl ?_)
                  refine S.op (S.q (q_loadTwo (fun j => (s' j).v) (1 - j) (by omega) Try.at28 rfl) rfl rfl ?_)
                  refine S.op (S.q (q_move rfl) rfl rfl ?_)
                  refine S.op (S.q (q_indexO (q) Try.el28 rfl hbs rfl rfl (by omega)) rfl rfl ?_)
                  refine S.op (S.q (q_loadOw (s' (1 - j)) (q * 1) Try.at32 rfl hbs (by first | rfl | exact Nat.add_assoc _ _ _ | omega) (flat_seg (enc := brC) (sz := 1) (fun _ => rfl) hz 0 _ rfl)) rfl rfl ?_)
                  refine S.op (S.callP Try.en16 (vs := [_, _]) ⟨rfl, rfl, trivial⟩ (fun w hs => Same_P y.v z.v y.l z.l w (br_alls_bytes hs hy) (br_alls_bytes hs hz) (by rw [hyz]; exact hzr) hzr) rfl ?_)
                  rw [decide_eq_true hyz]
                  refine S.op (S.q (q_not rfl) rfl rfl ?_)
                  first | with_reducible refine S.nilK ?_ | refine S.nil ?_
                  refine hK46 _ _ ?_
                  refine S.condF rfl ?_
                  refine S.skip ?_
                  with_reducible repeat (first | refine S.then_n ?_ | refine S.then_x ?_ | refine S.then_r ?_ | refine S.inBlock_n ?_ | refine S.inBlock_r ?_ | refine S.inBlock_x rfl ?_ | refine S.noGoto_r ?_ | refine S.noGoto_n ?_ | refine S.noGoto_x ?_)
                  with_reducible repeat (first | refine S.then_n ?_ | refine S.then_x ?_ | refine S.then_r ?_ | refine S.inBlock_n ?_ | refine S.inBlock_r ?_ | refine S.inBlock_x rfl ?_ | refine S.noGoto_r ?_ | refine S.noGoto_n ?_ | refine S.noGoto_x ?_)
                  refine hK44 _ _ ?_
                  refine S.region rfl ?_
                  refine S.op (S.q (q_add rfl rfl (inI64 (by omega) (by omega))) rfl rfl ?_)
                  refine S.op (S.q (q_move rfl) rfl rfl ?_)
                  first | with_reducible refine S.nilK ?_ | refine S.nil ?_
                  with_reducible repeat (first | refine S.then_n ?_ | refine S.then_x ?_ | refine S.then_r ?_ | refine S.inBlock_n ?_ | refine S.inBlock_r ?_ | refine S.inBlock_x rfl ?_ | refine S.noGoto_r ?_ | refine S.noGoto_n ?_ | refine S.noGoto_x ?_)
                  exact S.next (m3 - 1) (⟨q + 1, by omega, rfl, rfl⟩) (by omega) (by repeat (first | exact trivial | refine ⟨rfl, ?_⟩)) Sub.ent
                · refine S.exit ?_
                  with_reducible repeat (first | refine S.then_n ?_ | refine S.then_x ?_ | refine S.then_r ?_ | refine S.inBlock_n ?_ | refine S.inBlock_r ?_ | refine S.inBlock_x rfl ?_ | refine S.noGoto_r ?_ | refine S.noGoto_n ?_ | refine S.noGoto_x ?_)
                  with_reducible refine S.inBlock_s ?_
                  with_reducible repeat (first | refine S.then_n ?_ | refine S.then_x ?_ | refine S.then_r ?_ | refine S.inBlock_n ?_ | refine S.inBlock_r ?_ | refine S.inBlock_x rfl ?_ | refine S.noGoto_r ?_ | refine S.noGoto_n ?_ | refine S.noGoto_x ?_)
                  with_reducible repeat (first | refine S.then_n ?_ | refine S.then_x ?_ | refine S.then_r ?_ | refine S.inBlock_n ?_ | refine S.inBlock_r ?_ | refine S.inBlock_x rfl ?_ | refine S.noGoto_r ?_ | refine S.noGoto_n ?_ | refine S.noGoto_x ?_)
                  refine hK37 _ _ ?_
                  refine S.region rfl ?_
                  refine S.ent (MM.back hj) ?_
                  refine S.op (S.q (q_add rfl rfl (inI64 (by omega) (by omega))) rfl rfl ?_)
                  refine S.op (S.q (q_move rfl) rfl rfl ?_)
                  first | with_reducible refine S.nilK ?_ | refine S.nil ?_
                  with_reducible repeat (first | refine S.then_n ?_ | refine S.then_x ?_ | refine S.then_r ?_ | refine S.inBlock_n ?_ | refine S.inBlock_r ?_ | refine S.inBlock_x rfl ?_ | refine S.noGoto_r ?_ | refine S.noGoto_n ?_ | refine S.noGoto_x ?_)
                  exact S.next (m2 - 1) (⟨j + 1, by omega, rfl, rfl⟩) (by omega) (by repeat (first | exact trivial | refine ⟨rfl, ?_⟩)) Sub.ent
            · refine S.exit ?_
              with_reducible repeat (first | refine S.then_n ?_ | refine S.then_x ?_ | refine S.then_r ?_ | refine S.inBlock_n ?_ | refine S.inBlock_r ?_ | refine S.inBlock_x rfl ?_ | refine S.noGoto_r ?_ | refine S.noGoto_n ?_ | refine S.noGoto_x ?_)
              with_reducible refine S.inBlock_s ?_
              with_reducible repeat (first | refine S.then_n ?_ | refine S.then_x ?_ | refine S.then_r ?_ | refine S.inBlock_n ?_ | refine S.inBlock_r ?_ | refine S.inBlock_x rfl ?_ | refine S.noGoto_r ?_ | refine S.noGoto_n ?_ | refine S.noGoto_x ?_)
              with_reducible repeat (first | refine S.then_n ?_ | refine S.then_x ?_ | refine S.then_r ?_ | refine S.inBlock_n ?_ | refine S.inBlock_r ?_ | refine S.inBlock_x rfl ?_ | refine S.noGoto_r ?_ | refine S.noGoto_n ?_ | refine S.noGoto_x ?_)
              refine hK13 _ _ ?_
              refine S.region rfl ?_
              refine S.op (S.q (q_add rfl rfl (inI64 (by omega) (by omega))) rfl rfl ?_)
              refine S.op (S.q (q_move rfl) rfl rfl ?_)
              first | with_reducible refine S.nilK ?_ | refine S.nil ?_
              with_reducible repeat (first | refine S.then_n ?_ | refine S.then_x ?_ | refine S.then_r ?_ | refine S.inBlock_n ?_ | refine S.inBlock_r ?_ | refine S.inBlock_x rfl ?_ | refine S.noGoto_r ?_ | refine S.noGoto_n ?_ | refine S.noGoto_x ?_)
              exact S.next (rs.length - (k + 1)) (⟨k + 1, X', s', c', a', by omega, by omega, hinv', hfew', rfl, rfl⟩) (by omega) (by repeat (first | exact trivial | refine ⟨rfl, ?_⟩)) Sub.ent
    · refine S.exit ?_
      with_reducible repeat (first | refine S.then_n ?_ | refine S.then_x ?_ | refine S.then_r ?_ | refine S.inBlock_n ?_ | refine S.inBlock_r ?_ | refine S.inBlock_x rfl ?_ | refine S.noGoto_r ?_ | refine S.noGoto_n ?_ | refine S.noGoto_x ?_)
      with_reducible refine S.inBlock_s ?_
      with_reducible repeat (first | refine S.then_n ?_ | refine S.then_x ?_ | refine S.then_r ?_ | refine S.inBlock_n ?_ | refine S.inBlock_r ?_ | refine S.inBlock_x rfl ?_ | refine S.noGoto_r ?_ | refine S.noGoto_n ?_ | refine S.noGoto_x ?_)
      with_reducible repeat (first | refine S.then_n ?_ | refine S.then_x ?_ | refine S.then_r ?_ | refine S.inBlock_n ?_ | refine S.inBlock_r ?_ | refine S.inBlock_x rfl ?_ | refine S.noGoto_r ?_ | refine S.noGoto_n ?_ | refine S.noGoto_x ?_)
      exact S.meet ⟨k, X, s, c, a, hk100, hinv, rfl, rfl⟩ ⟨rfl, rfl, rfl, rfl, rfl, rfl, trivial⟩ Sub.ent
  · rintro ρ' Γ' ⟨n, X, s, c, a, hn100, hinv, rfl, rfl⟩
    refine hK9 _ _ ?_
    refine S.seq fun K47 hK47 => ?_
    refine S.region rfl ?_
    refine S.op (S.q (q_buildA (pvs := []) [_, _] Try.z31 Try.ar31 trivial rfl) rfl rfl ?_)
    refine S.op (S.storeS (cs' := [_, _]) Try.ag31 rfl rfl rfl rfl rfl rfl ?_)
    first | with_reducible refine S.nilK ?_ | refine S.nil ?_
    refine hK47 _ _ ?_
    refine S.seq fun K48 hK48 => ?_
    refine S.seq fun K49 hK49 => ?_
    refine S.region rfl ?_
    refine MM.clear b3 b4 b5 b6 pp X s c (old W :: Γ) fun X2 hX2 => ?_
    have hinv2 : Inv n X2 := by rw [hX2]; exact hinv.sub fun j p hp => by cases hp
    have hnil2 : ∀ j, j < 2 → X2.AA j = [] := fun j _ => by rw [hX2]
    refine S.op (S.q (q_move rfl) rfl rfl ?_)
    first | with_reducible refine S.nilK ?_ | refine S.nil ?_
    refine hK49 _ _ ?_
    refine S.block ?_
    refine S.loop (fun m4 ρ' Γ' => ∃ (r : Nat) (X : OSt) (c a : Nat → SV), m4 + r = 2 ∧ Inv (n + r) X ∧ (∀ j, j < 2 → X.AA j = []) ∧ Wt r X ∧ ρ' = [(3, .pointer (some ⟨b3, 0, none⟩)), (4, .pointer (some ⟨b4, 0, none⟩)), (5, .pointer (some ⟨b5, 0, none⟩)), (6, .pointer (some ⟨b6, 0, none⟩)), (7, .func (.func 11) #[] #[.pointer (some ⟨b3, 0, none⟩), .pointer (some ⟨b5, 0, none⟩), .pointer (some ⟨b6, 0, none⟩)]), (8, .func (.func 13) #[] #[.pointer (some ⟨b6, 0, none⟩), .pointer (some ⟨b3, 0, none⟩)]), (170, .int .i64 r)] ∧ Γ' = MM b3 b4 b5 b6 pp X s c a (old W :: Γ)) (m := _) (ρ0 := _) (Γ0 := _) (⟨0, X2, c, fun _ => SV.nil, rfl, hinv2, hnil2, Wt.zero hinv2, rfl, rfl⟩) (by repeat (first | exact trivial | refine ⟨rfl, ?_⟩)) Sub.ent ?_
    rintro m4 ρ' Γ' ⟨r, X3, c3, a3, hr2, hinv3, hnil3, hwt3, rfl, rfl⟩
    refine S.seq fun K50 hK50 => ?_
    refine S.region rfl ?_
    refine S.op (S.q (q_lt rfl rfl) rfl rfl ?_)
    first | with_reducible refine S.nilK ?_ | refine S.nil ?_
    refine hK50 _ _ ?_
    refine S.seq fun K51 hK51 => ?_
    refine S.condD rfl (fun h15 => ?_) (fun h15 => ?_)
    · refine S.skip ?_
      with_reducible repeat (first | refine S.then_n ?_ | refine S.then_x ?_ | refine S.then_r ?_ | refine S.inBlock_n ?_ | refine S.inBlock_r ?_ | refine S.inBlock_x rfl ?_ | refine S.noGoto_r ?_ | refine S.noGoto_n ?_ | refine S.noGoto_x ?_)
      refine hK51 _ _ ?_
      refine S.seq fun K52 hK52 => ?_
      refine S.block ?_
      refine S.seq fun K53 hK53 => ?_
      refine S.region rfl ?_
      refine S.op (S.q (q_move rfl) rfl rfl ?_)
      refine S.op (S.callC (fs := []) (cs := [.pointer (some ⟨b6, 0, none⟩), .pointer (some ⟨b3, 0, none⟩)]) (vs := []) Try.en13 rfl trivial (tick_S b3 b6 pp X3.st 200 (by omega) (fun j hj => hinv3.okT (by omega) hj) a3 X3.AA (fun j hj => by rw [hnil3 j hj]; simp)) rfl ?_)
      rintro v Θ ⟨a4, A4, hT, rfl⟩
      refine MM.ticked b3 b4 b5 b6 pp X3 s c3 a4 (old W :: Γ) A4 fun X4 hX4 => ?_
      have hinv4 : Inv (n + r + 1) X4 := by rw [hX4]; exact hinv3.tick hT
      have hfew4 : Few 200 X4 := by rw [hX4]; exact (Few.tick (B := 0) (fun j hj => by rw [hnil3 j hj]; exact Nat.le_refl _) hinv3 (by omega) hT).mono (by omega)
      obtain ⟨F, hF1, hF2⟩ := tick_DR hinv3 hwt3 hnil3 hT
      rw [← hX4] at hF1
      have hph4 : ph (X4.AA 0) + ph (X4.AA 1) ≤ 800 := by
        have h1 := (ph_len (X4.AA 0)).2
        have h2 := (ph_len (X4.AA 1)).2
        have h3 := hfew4 0 (by omega)
        have h4 := hfew4 1 (by omega)
        omega
      first | with_reducible refine S.nilK ?_ | refine S.nil ?_
      refine hK53 _ _ ?_
      refine S.seq fun K54 hK54 => ?_
      refine S.region rfl ?_
      refine S.op (S.q (q_assign rfl) rfl rfl ?_)
      first | with_reducible refine S.nilK ?_ | refine S.nil ?_
      refine hK54 _ _ ?_
      refine S.block ?_
      refine S.loop (fun m5 ρ' Γ' => ∃ (kk : Nat) (X : OSt) (c a : Nat → SV), m5 + kk = 801 ∧ Inv (n + r + 1) X ∧ DR F X ∧ ph (X.AA 0) + ph (X.AA 1) + kk ≤ 800 ∧ ρ' = [(3, .pointer (some ⟨b3, 0, none⟩)), (4, .pointer (some ⟨b4, 0, none⟩)), (5, .pointer (some ⟨b5, 0, none⟩)), (6, .pointer (some ⟨b6, 0, none⟩)), (7, .func (.func 11) #[] #[.pointer (some ⟨b3, 0, none⟩), .pointer (some ⟨b5, 0, none⟩), .pointer (some ⟨b6, 0, none⟩)]), (8, .func (.func 13) #[] #[.pointer (some ⟨b6, 0, none⟩), .pointer (some ⟨b3, 0, none⟩)]), (170, .int .i64 r), (20, .int .i64 kk)] ∧ Γ' = MM b3 b4 b5 b6 pp X s c a (old W :: Γ)) (m := _) (ρ0 := _) (Γ0 := _) (⟨0, X4, c3, a4, rfl, hinv4, hF1, hph4, rfl, rfl⟩) (by repeat (first | exact trivial | refine ⟨rfl, ?_⟩)) Sub.ent ?_
      rintro m5 ρ' Γ' ⟨kk, X5, c5, a5, hkk, hinv5, hdr5, hph5, rfl, rfl⟩
      refine S.seq fun K55 hK55 => ?_
      refine S.seq fun K56 hK56 => ?_
      refine S.regionG ?_
      refine S.ownLen (a5 0) fun ha50 _ hac0 => ?_
      refine S.ownLen (a5 1) fun ha51 _ hac1 => ?_
      rw [flat_length paE_len] at ha50 ha51
      unfold maxLen at hac0 hac1
      have hpl0 := (ph_len (X5.AA 0)).1
      have hpl1 := (ph_len (X5.AA 1)).1
      refine S.g_op rfl (S.q (q_indexA Try.ar31 rfl rfl (⟨by omega, by omega⟩)) rfl rfl ?_)
      refine S.g_op rfl (S.q (q_load Try.at30 rfl rfl) rfl rfl ?_)
      refine S.g_op rfl (S.q (q_len Try.underlying30 rfl) rfl rfl ?_)
      refine S.g_op rfl (S.q (q_indexA Try.ar31 rfl rfl (⟨by omega, by omega⟩)) rfl rfl ?_)
      refine S.g_op rfl (S.q (q_load Try.at30 rfl rfl) rfl rfl ?_)
      refine S.g_op rfl (S.q (q_len Try.underlying30 rfl) rfl rfl ?_)
      refine S.g_op rfl (S.q (q_add rfl rfl (inI64 (by omega) (by omega))) rfl rfl ?_)
      refine S.g_op rfl (S.q (q_gt rfl rfl) rfl rfl ?_)
      refine S.g_op rfl (S.q (q_move rfl) rfl rfl ?_)
      by_cases hg49_8 : (0 : Int) < ((a5 0).n : Int) + (a5 1).n
      · refine S.g_yes rfl rfl rfl (decide_eq_true hg49_8) (S.q (q_move rfl) rfl rfl ?_)
        refine S.g_yes rfl rfl rfl (decide_eq_true hg49_8) (S.q (q_lt rfl rfl) rfl rfl ?_)
        refine S.g_op rfl (S.q (q_pickT rfl (decide_eq_true hg49_8) rfl) rfl rfl ?_)
        first | with_reducible refine S.g_nilK ?_ | refine S.g_nil ?_
        refine hK56 _ _ ?_
        refine S.condD rfl (fun h16 => ?_) (fun h16 => ?_)
        · refine S.skip ?_
          with_reducible repeat (first | refine S.then_n ?_ | refine S.then_x ?_ | refine S.then_r ?_ | refine S.inBlock_n ?_ | refine S.inBlock_r ?_ | refine S.inBlock_x rfl ?_ | refine S.noGoto_r ?_ | refine S.noGoto_n ?_ | refine S.noGoto_x ?_)
          refine hK55 _ _ ?_
          refine S.seq fun K57 hK57 => ?_
          refine S.block ?_
          refine S.seq fun K58 hK58 => ?_
          refine S.region rfl ?_
          refine S.op (S.q (q_assign rfl) rfl rfl ?_)
          first | with_reducible refine S.nilK ?_ | refine S.nil ?_
          refine hK58 _ _ ?_
          refine S.seq fun K59 hK59 => ?_
          refine S.seq fun K60 hK60 => ?_
          refine S.region rfl ?_
          refine S.op (S.q (q_indexA Try.ar31 rfl rfl (⟨by omega, by omega⟩)) rfl rfl ?_)
          refine S.op (S.q (q_load Try.at30 rfl rfl) rfl rfl ?_)
          refine S.op (S.q (q_len Try.underlying30 rfl) rfl rfl ?_)
          refine S.op (S.q (q_eq rfl rfl) rfl rfl ?_)
          first | with_reducible refine S.nilK ?_ | refine S.nil ?_
          refine hK60 _ _ ?_
          refine S.cut (fun ρ' Γ' => ∃ i : Nat, i < 2 ∧ 0 < (a5 i).n ∧ ρ' = [(3, .pointer (some ⟨b3, 0, none⟩)), (4, .pointer (some ⟨b4, 0, none⟩)), (5, .pointer (some ⟨b5, 0, none⟩)), (6, .pointer (some ⟨b6, 0, none⟩)), (7, .func (.func 11) #[] #[.pointer (some ⟨b3, 0, none⟩), .pointer (some ⟨b5, 0, none⟩), .pointer (some ⟨b6, 0, none⟩)]), (8, .func (.func 13) #[] #[.pointer (some ⟨b6, 0, none⟩), .pointer (some ⟨b3, 0, none⟩)]), (170, .int .i64 r), (20, .int .i64 kk), (21, .int .i64 i)] ∧ Γ' = MM b3 b4 b5 b6 pp X5 s c5 a5 (old W :: Γ)) ?_ ?_
          · refine S.condD rfl (fun h17 => ?_) (fun h17 => ?_)
            · refine S.region rfl ?_
              refine S.op (S.q (q_assign rfl) rfl rfl ?_)
              first | with_reducible refine S.nilK ?_ | refine S.nil ?_
              with_reducible repeat (first | refine S.then_n ?_ | refine S.then_x ?_ | refine S.then_r ?_ | refine S.inBlock_n ?_ | refine S.inBlock_r ?_ | refine S.inBlock_x rfl ?_ | refine S.noGoto_r ?_ | refine S.noGoto_n ?_ | refine S.noGoto_x ?_)
              first
              | exact S.meet ⟨1, by omega, by omega, rfl, rfl⟩ ⟨rfl, rfl, rfl, rfl, rfl, rfl, rfl, rfl, rfl, trivial⟩ Sub.ent
              | exact S.meet ⟨0, by omega, by omega, rfl, rfl⟩ ⟨rfl, rfl, rfl, rfl, rfl, rfl, rfl, rfl, rfl, trivial⟩ Sub.ent
            · refine S.skip ?_
              with_reducible repeat (first | refine S.then_n ?_ | refine S.then_x ?_ | refine S.then_r ?_ | refine S.inBlock_n ?_ | refine S.inBlock_r ?_ | refine S.inBlock_x rfl ?_ | refine S.noGoto_r ?_ | refine S.noGoto_n ?_ | refine S.noGoto_x ?_)
              with_reducible repeat (first | refine S.then_n ?_ | refine S.then_x ?_ | refine S.then_r ?_ | refine S.inBlock_n ?_ | refine S.inBlock_r ?_ | refine S.inBlock_x rfl ?_ | refine S.noGoto_r ?_ | refine S.noGoto_n ?_ | refine S.noGoto_x ?_)
              first
              | exact S.meet ⟨1, by omega, by omega, rfl, rfl⟩ ⟨rfl, rfl, rfl, rfl, rfl, rfl, rfl, rfl, rfl, trivial⟩ Sub.ent
              | exact S.meet ⟨0, by omega, by omega, rfl, rfl⟩ ⟨rfl, rfl, rfl, rfl, rfl, rfl, rfl, rfl, rfl, trivial⟩ Sub.ent
          · rintro ρ' Γ' ⟨i, hi, hai, rfl, rfl⟩
            refine S.ent (MM.turn hi) ?_
            refine hK59 _ _ ?_
            refine S.seq fun K61 hK61 => ?_
            refine S.region rfl ?_
            refine S.ownSome (a5 i) hai fun ba oa hba ha0 _ hcm => ?_
            rw [flat_length paE_len] at ha0
            unfold maxLen at hcm
            obtain ⟨p, rest, hpr⟩ : ∃ p rest, X5.AA i = p :: rest := by
              cases h : X5.AA i with
              | nil => rw [h] at ha0; simp at ha0; omega
              | cons p rest => exact ⟨p, rest, rfl⟩
            obtain ⟨y, hy⟩ := hinv5 (1 - i) i (by omega)
            obtain ⟨hgood, hdl, hdr⟩ := hy.air p (by rw [hpr]; exact List.mem_cons_self ..)
            have hp0 : (X5.AA i)[0]? = some p := by rw [hpr]; rfl
            refine S.op (S.q (q_move rfl) rfl rfl ?_)
            refine S.op (S.q (q_indexTwo i Try.ar31 rfl rfl rfl hi) rfl rfl ?_)
            refine S.op (S.q (q_loadTwo (fun j => (a5 j).v) i hi Try.at30 rfl) rfl rfl ?_)
            refine S.op (S.q (q_indexO (0) Try.el30 rfl hba rfl rfl (hai)) rfl rfl ?_)
            refine S.op (S.q (q_loadOwS (a5 i) (0 * 7) [_, _, _, _, _, _, _] Try.ag34 rfl hba (by first | rfl | exact Nat.add_assoc _ _ _ | omega) rfl (flat_seg (enc := paE) (sz := 7) (fun _ => rfl) hp0)) rfl rfl ?_)
            refine S.op (S.alloc Try.z34 rfl ?_)
            intro b22
            refine S.op (S.storeS (cs' := [_, _, _, _, _, _, _]) Try.ag34 rfl rfl rfl rfl rfl rfl ?_)
            first | with_reducible refine S.nilK ?_ | refine S.nil ?_
            refine hK61 _ _ ?_
            refine S.seq fun K62 hK62 => ?_
            refine S.region rfl ?_
            refine S.op (S.q (q_move rfl) rfl rfl ?_)
            refine S.op (S.q (q_move rfl) rfl rfl ?_)
            refine S.op (S.q (q_indexTwo i Try.ar31 rfl rfl rfl hi) rfl rfl ?_)
            refine S.op (S.q (q_loadTwo (fun j => (a5 j).v) i hi Try.at30 rfl) rfl rfl ?_)
            refine S.op (S.sliceDrop (s := a5 i) (1) Try.el30 rfl rfl rfl (by omega) rfl ?_)
            intro an han
            rw [flat_drop paE_len, hpr, List.drop_one, List.tail_cons]
            refine S.op (S.q (q_indexTwo i Try.ar31 rfl rfl rfl hi) rfl rfl ?_)
            refine S.op (S.storeTwo (fun j => (a5 j).v) i hi Try.at30 rfl rfl rfl ?_)
            rw [upd_v, upd_v]
            refine S.conv (alls (p :: rest) paB) (Ent.allsUncons paB p rest _) ?_
            refine MJ.gone hi b3 b4 b5 b6 pp X5 s c5 a5 (blk b22 34 (paE p).toArray :: old W :: Γ) p rest an fun X6 a6 R hX6 hR1 hR2 => ?_
            have hinv6 : Inv (n + r + 1) X6 := by rw [hX6]; exact hinv5.out fun q hq => by rw [hpr]; exact List.mem_cons_of_mem _ hq
            have hgood6 : Good (dat (X6.SS (1 - i))) (X6.CC (1 - i)).length p.k := by rw [hX6]; exact hgood
            obtain ⟨x6, hx6⟩ := hinv6 i (1 - i) (by omega)
            obtain ⟨y6, hy6⟩ := hinv6 (1 - i) i (by omega)
            have hcm6 := hx6.ok.came
            have hle6 := hy6.le
            rw [dat_len] at hcm6
            have hal6 : (X6.AA (1 - i)).length ≤ 800 := by
              have e : X6.AA (1 - i) = X5.AA (1 - i) := by rw [hX6]; exact upd_not _ _ hi
              rw [e]
              rcases (show i = 0 ∨ i = 1 by omega) with rfl | rfl
              · show (X5.AA 1).length ≤ _; omega
              · show (X5.AA 0).length ≤ _; omega
            first | with_reducible refine S.nilK ?_ | refine S.nil ?_
            refine hK62 _ _ ?_
            refine S.region rfl ?_
            refine S.op (S.q (q_move rfl) rfl rfl ?_)
            refine S.op (S.q (q_move rfl) rfl rfl ?_)
            refine S.op (S.q (q_loadS [_, _, _, _, _, _, _] Try.ag34 rfl rfl ⟨rfl, rfl, rfl, rfl, rfl, rfl, rfl, trivial⟩) rfl rfl ?_)
            refine S.op (S.callC (fs := []) (cs := [.pointer (some ⟨b3, 0, none⟩), .pointer (some ⟨b5, 0, none⟩), .pointer (some ⟨b6, 0, none⟩)]) (vs := [_, _]) Try.en11 rfl ⟨rfl, rfl, trivial⟩ (hear_S b3 b5 b6 i hi pp (X6.st i) 200 (by omega) (hinv6.okT (by omega) hi) p.k p.v R hR1 hdl c5 a6 (X6.CC i) (X6.AA (1 - i)) (by omega) (by omega)) rfl ?_)
            rintro v Θ ⟨cn, an2, g, u, C', A', hC, hA, rfl⟩
            refine MM.heard hi b3 b4 b5 b6 pp X6 s c5 a6 (old W :: Γ) p.k R hR2 cn an2 C' A' fun X7 c7 a7 hX7 => ?_
            have hinv7 : Inv (n + r + 1) X7 := by rw [hX7]; exact hinv6.hear (by omega) hgood6 hC hA
            have hA' : X6.AA (1 - i) = X5.AA (1 - i) := by rw [hX6]; exact upd_not _ _ hi
            have hdr7 : DR F X7 ∧ ph rest + ph A' + 1 ≤ ph (X5.AA i) + ph (X5.AA (1 - i)) := by
              rw [hA'] at hA
              rw [hX7, hX6]
              rw [hX6] at hC hA
              exact hdr5.hear hinv5 (by omega) hpr hC hA
            have hph7 : ph (X7.AA 0) + ph (X7.AA 1) + (kk + 1) ≤ 800 := by
              have e : ph (X7.AA i) = ph rest ∧ ph (X7.AA (1 - i)) = ph A' := by
                rw [hX7, hX6]
                have e1 : 1 - i ≠ i := by omega
                exact ⟨by simp only [OSt.hear, OSt.out, upd_same, upd_other _ _ (Ne.symm e1)], by simp only [OSt.hear, upd_same]⟩
              have h7 := hdr7.2
              rcases (show i = 0 ∨ i = 1 by omega) with rfl | rfl
              · have e1 := e.1
                have e2 : ph (X7.AA 1) = ph A' := e.2
                have h7' : ph rest + ph A' + 1 ≤ ph (X5.AA 0) + ph (X5.AA 1) := h7
                omega
              · have e1 := e.1
                have e2 : ph (X7.AA 0) = ph A' := e.2
                have h7' : ph rest + ph A' + 1 ≤ ph (X5.AA 1) + ph (X5.AA 0) := h7
                omega
            first | with_reducible refine S.nilK ?_ | refine S.nil ?_
            with_reducible repeat (first | refine S.then_n ?_ | refine S.then_x ?_ | refine S.then_r ?_ | refine S.inBlock_n ?_ | refine S.inBlock_r ?_ | refine S.inBlock_x rfl ?_ | refine S.noGoto_r ?_ | refine S.noGoto_n ?_ | refine S.noGoto_x ?_)
            refine hK57 _ _ ?_
            refine S.region rfl ?_
            refine S.op (S.q (q_move rfl) rfl rfl ?_)
            refine S.op (S.q (q_add rfl rfl (inI64 (by omega) (by omega))) rfl rfl ?_)
            refine S.op (S.q (q_assign rfl) rfl rfl ?_)
            first | with_reducible refine S.nilK ?_ | refine S.nil ?_
            with_reducible repeat (first | refine S.then_n ?_ | refine S.then_x ?_ | refine S.then_r ?_ | refine S.inBlock_n ?_ | refine S.inBlock_r ?_ | refine S.inBlock_x rfl ?_ | refine S.noGoto_r ?_ | refine S.noGoto_n ?_ | refine S.noGoto_x ?_)
            exact S.next (m5 - 1) (⟨kk + 1, X7, c7, a7, by omega, hinv7, hdr7.1, hph7, rfl, rfl⟩) (by omega) (by repeat (first | exact trivial | refine ⟨rfl, ?_⟩)) Sub.ent
        · exact absurd h16 (by omega)
      · refine S.g_no rfl rfl rfl (decide_eq_false hg49_8) rfl rfl ?_
        refine S.g_no rfl rfl rfl (decide_eq_false hg49_8) rfl rfl ?_
        refine S.g_op rfl (S.q (q_pickF rfl (decide_eq_false hg49_8) rfl) rfl rfl ?_)
        first | with_reducible refine S.g_nilK ?_ | refine S.g_nil ?_
        refine hK56 _ _ ?_
        refine S.condF rfl ?_
        refine S.exit ?_
        with_reducible repeat (first | refine S.then_n ?_ | refine S.then_x ?_ | refine S.then_r ?_ | refine S.inBlock_n ?_ | refine S.inBlock_r ?_ | refine S.inBlock_x rfl ?_ | refine S.noGoto_r ?_ | refine S.noGoto_n ?_ | refine S.noGoto_x ?_)
        with_reducible refine S.inBlock_s ?_
        with_reducible repeat (first | refine S.then_n ?_ | refine S.then_x ?_ | refine S.then_r ?_ | refine S.inBlock_n ?_ | refine S.inBlock_r ?_ | refine S.inBlock_x rfl ?_ | refine S.noGoto_r ?_ | refine S.noGoto_n ?_ | refine S.noGoto_x ?_)
        with_reducible repeat (first | refine S.then_n ?_ | refine S.then_x ?_ | refine S.then_r ?_ | refine S.inBlock_n ?_ | refine S.inBlock_r ?_ | refine S.inBlock_x rfl ?_ | refine S.noGoto_r ?_ | refine S.noGoto_n ?_ | refine S.noGoto_x ?_)
        refine hK52 _ _ ?_
        refine S.region rfl ?_
        have hnil5 : ∀ j, j < 2 → X5.AA j = [] := fun j hj => by
          rcases (show j = 0 ∨ j = 1 by omega) with rfl | rfl
          · exact List.eq_nil_of_length_eq_zero (by omega)
          · exact List.eq_nil_of_length_eq_zero (by omega)
        refine S.op (S.q (q_add rfl rfl (inI64 (by omega) (by omega))) rfl rfl ?_)
        refine S.op (S.q (q_move rfl) rfl rfl ?_)
        first | with_reducible refine S.nilK ?_ | refine S.nil ?_
        with_reducible repeat (first | refine S.then_n ?_ | refine S.then_x ?_ | refine S.then_r ?_ | refine S.inBlock_n ?_ | refine S.inBlock_r ?_ | refine S.inBlock_x rfl ?_ | refine S.noGoto_r ?_ | refine S.noGoto_n ?_ | refine S.noGoto_x ?_)
        exact S.next (m4 - 1) (⟨r + 1, X5, c5, a5, by omega, hinv5, hnil5, hdr5.wt hnil5 hF2, rfl, rfl⟩) (by omega) (by repeat (first | exact trivial | refine ⟨rfl, ?_⟩)) Sub.ent
    · refine S.exit ?_
      with_reducible repeat (first | refine S.then_n ?_ | refine S.then_x ?_ | refine S.then_r ?_ | refine S.inBlock_n ?_ | refine S.inBlock_r ?_ | refine S.inBlock_x rfl ?_ | refine S.noGoto_r ?_ | refine S.noGoto_n ?_ | refine S.noGoto_x ?_)
      with_reducible refine S.inBlock_s ?_
      with_reducible repeat (first | refine S.then_n ?_ | refine S.then_x ?_ | refine S.then_r ?_ | refine S.inBlock_n ?_ | refine S.inBlock_r ?_ | refine S.inBlock_x rfl ?_ | refine S.noGoto_r ?_ | refine S.noGoto_n ?_ | refine S.noGoto_x ?_)
      refine hK48 _ _ ?_
      refine S.seq fun K63 hK63 => ?_
      refine S.regionG ?_
      obtain rfl : r = 2 := by omega
      obtain ⟨w1, w2⟩ := hwt3.all hinv3 (e := 0) (o := 1) rfl
      obtain ⟨w3, w4⟩ := hwt3.all hinv3 (e := 1) (o := 0) rfl
      refine S.ownLen (c3 0) fun hl1 _ _ => ?_
      refine S.ownLen (c3 1) fun hl2 _ _ => ?_
      refine S.ownLen (s 0) fun hl3 _ _ => ?_
      refine S.ownLen (s 1) fun hl4 _ _ => ?_
      rw [flat_length brC_len] at hl1 hl2 hl3 hl4
      refine S.g_op rfl (S.q (q_indexA Try.ar29 rfl rfl (⟨by omega, by omega⟩)) rfl rfl ?_)
      refine S.g_op rfl (S.q (q_load Try.at28 rfl rfl) rfl rfl ?_)
      refine S.g_op rfl (S.q (q_len Try.underlying28 rfl) rfl rfl ?_)
      refine S.g_op rfl (S.q (q_indexA Try.ar29 rfl rfl (⟨by omega, by omega⟩)) rfl rfl ?_)
      refine S.g_op rfl (S.q (q_load Try.at28 rfl rfl) rfl rfl ?_)
      refine S.g_op rfl (S.q (q_len Try.underlying28 rfl) rfl rfl ?_)
      refine S.g_op rfl (S.q (q_eq rfl rfl) rfl rfl ?_)
      refine S.g_op rfl (S.q (q_move rfl) rfl rfl ?_)
      refine S.g_yes rfl rfl rfl ((decide_eq_true (by omega))) (S.q (q_indexA Try.ar29 rfl rfl (⟨by omega, by omega⟩)) rfl rfl ?_)
      refine S.g_yes rfl rfl rfl ((decide_eq_true (by omega))) (S.q (q_load Try.at28 rfl rfl) rfl rfl ?_)
      refine S.g_yes rfl rfl rfl ((decide_eq_true (by omega))) (S.q (q_len Try.underlying28 rfl) rfl rfl ?_)
      refine S.g_yes rfl rfl rfl ((decide_eq_true (by omega))) (S.q (q_indexA Try.ar29 rfl rfl (⟨by omega, by omega⟩)) rfl rfl ?_)
      refine S.g_yes rfl rfl rfl ((decide_eq_true (by omega))) (S.q (q_load Try.at28 rfl rfl) rfl rfl ?_)
      refine S.g_yes rfl rfl rfl ((decide_eq_true (by omega))) (S.q (q_len Try.underlying28 rfl) rfl rfl ?_)
      refine S.g_yes rfl rfl rfl ((decide_eq_true (by omega))) (S.q (q_eq rfl rfl) rfl rfl ?_)
      refine S.g_op rfl (S.q (q_pickT rfl ((decide_eq_true (by omega))) rfl) rfl rfl ?_)
      refine S.g_op rfl (S.q (q_move rfl) rfl rfl ?_)
      refine S.g_yes rfl rfl rfl ((decide_eq_true (by omega))) (S.q (q_indexA Try.ar27 rfl rfl (⟨by omega, by omega⟩)) rfl rfl ?_)
      refine S.g_yes rfl rfl rfl ((decide_eq_true (by omega))) (S.q (q_load Try.at24 rfl rfl) rfl rfl ?_)
      refine S.g_yes rfl rfl rfl ((decide_eq_true (by omega))) (S.call Try.en17 (vs := [_]) ⟨rfl, trivial⟩ (TOpen 2 3 4 (pp 0) (X3.st 0)) rfl ?_)
      rintro v Θ ⟨rfl, rfl⟩
      rw [w2]
      refine S.g_yes rfl rfl rfl ((decide_eq_true (by omega))) (S.q (q_eq rfl rfl) rfl rfl ?_)
      refine S.g_op rfl (S.q (q_pickT rfl ((decide_eq_true (by omega))) rfl) rfl rfl ?_)
      refine S.g_op rfl (S.q (q_move rfl) rfl rfl ?_)
      refine S.g_yes rfl rfl rfl (rfl) (S.q (q_indexA Try.ar27 rfl rfl (⟨by omega, by omega⟩)) rfl rfl ?_)
      refine S.g_yes rfl rfl rfl (rfl) (S.q (q_load Try.at24 rfl rfl) rfl rfl ?_)
      refine S.g_yes rfl rfl rfl (rfl) (S.call Try.en17 (vs := [_]) ⟨rfl, trivial⟩ (TOpen 2 3 4 (pp 1) (X3.st 1)) rfl ?_)
      rintro v Θ ⟨rfl, rfl⟩
      rw [w4]
      refine S.g_yes rfl rfl rfl (rfl) (S.q (q_eq rfl rfl) rfl rfl ?_)
      refine S.g_op rfl (S.q (q_pickT rfl (rfl) rfl) rfl rfl ?_)
      refine S.g_op rfl (S.q (q_assign rfl) rfl rfl ?_)
      first | with_reducible refine S.g_nilK ?_ | refine S.g_nil ?_
      refine hK63 _ _ ?_
      refine S.ret ?_
      with_reducible repeat (first | refine S.then_n ?_ | refine S.then_x ?_ | refine S.then_r ?_ | refine S.inBlock_n ?_ | refine S.inBlock_r ?_ | refine S.inBlock_x rfl ?_ | refine S.noGoto_r ?_ | refine S.noGoto_n ?_ | refine S.noGoto_x ?_)
      exact S.fin (rs := [_]) (vs := [_]) Try.results3 (⟨rfl, trivial⟩)  (⟨rfl, rfl⟩) Sub.ent
open Go.ChangeShapes Go.WideShapes Go.ChangeAt
theorem TalkOnce_law {H : Type} (enc : TypeId × Value → H) : LawWalk enc 3 Try.f3 := by
  intro W base args ds before hval hA _ _
  rw [Try.params3] at hA hval
  obtain ⟨v0, vs0, d0, ds0, p0, q0, hargs, rfl, rfl, h0, r0⟩ := trodAll_cons hA
  obtain ⟨rfl, rfl, rfl⟩ := trodAll_nil r0
  obtain rfl : args = #[v0] := by cases args; simp_all
  obtain ⟨s4, rs, e4, hn, hs, hb⟩ := rd_pcks (arg_slice 6 Try.underlying22 (by kernel_rfl) (hval 0 22 v0 rfl rfl) h0)
  simp only [List.cons.injEq, and_true] at e4
  subst e4
  exact law_run (TalkOnce_S s4 rs W hn hs hb)
set_option maxRecDepth 100000 in
theorem TalkOnce_lifted (os : Os) (started : os.Started) (H : Type) (enc : TypeId × Value → H) :
    ReturnsInHanded {} Try.checked os 3 .any (Rows.talkOnceSpec.pre6 enc Try.prog Try.f3 Rows.talkOnceRow.domain false) (Rows.talkOnceSpec.post enc Try.prog Try.f3 false true false false) :=
  lift_true started Try.func3 (by kernel_rfl)
    (ChangeSpec.witness6 (enc := enc) (C := Try.checked) false ⟨#[], #[.slice none 0 0], []⟩ 8 (by kernel_rfl) (by kernel_rfl) (by kernel_rfl) (by kernel_rfl))
    rfl rfl (by kernel_rfl) (fun ds h => by match ds, h with | [a0], _ => rfl) (TalkOnce_law enc)
theorem TalkOnce_over : Rows.talkOnceRow.holds Try.pinned (OpenSpec.ofChange Rows.talkOnceSpec) :=
  OpenClaim.holds_of_wide 3 Try.f3 rfl rfl rfl rfl rfl rfl rfl ⟨rfl, rfl, rfl, rfl, rfl⟩ rfl rfl rfl rfl rfl (by kernel_rfl) Try.func3 (by kernel_rfl)
    (of_decide_eq_true (by kernel_rfl)) (by unfold Func.isWrapper; rw [if_neg (of_decide_eq_false (by kernel_rfl))]; exact ⟨rfl, rfl⟩)
    (fun os started H enc _ => TalkOnce_lifted os started H enc)
theorem TalkOnce_holds : Rows.TalkOnceSaid := TalkOnce_over
#print axioms TalkOnce_holds
end Go.Proofs.Ytdlddggjjibeaaa
