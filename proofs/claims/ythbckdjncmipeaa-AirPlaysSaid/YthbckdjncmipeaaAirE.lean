/- Air: the document's answer, at any state. -/
import Derived.Test.YthbckdjncmipeaaAirD
namespace Go.Proofs.Ythbckdjncmipeaa
open Go.RowKit
abbrev refC (n q : Int) (lv : SV) : List Value := [.int .i64 n, .int .u64 (q - 1), lv.v]
abbrev RefI (n : Int) (pa : Option Addr) (st : St) : Assn := AI 62 59 (refC n) pa st
theorem rAllOne (os : List Flt) : allOne (os.flatMap fltC) = true := List.all_eq_true.2 (flt_one os)
theorem S.air0' {n : Nat} {w0 : World} {ρ : Env} {Γ : List Assn} {φ : Act → World → Prop} (F : TypeId) (k : S n w0 ρ (own SV.nil F 3 [] :: alls [] fltB :: Γ) φ) : S n w0 ρ Γ φ :=
  S.ent ((Ent.allsNil fltB Γ).trans (Ent.ownNil _ _)) k
theorem own_take {w : World} {s : SV} {os : List Flt} (h : SlAt w s.v s.n 3 (os.flatMap fltC)) {i : Nat} (hi : i ≤ s.n) : SlAt w (.slice s.a i s.c) i 3 ((os.take i).flatMap fltC) := by
  obtain ⟨hl, ao, c, h1, h2, h3, h4, h5⟩ := h
  simp only [SV.v, Value.slice.injEq] at h1
  obtain ⟨rfl, _, rfl⟩ := h1
  rw [flat_length fltC_len] at hl
  refine ⟨by rw [flat_length fltC_len, List.length_take]; congr 1; omega, s.a, s.c, rfl, by omega, h3, fun e => ?_, fun a ha h0 => ?_⟩
  · have := h4 e; omega
  · obtain ⟨g1, g2, g3⟩ := h5 a ha (by omega)
    refine ⟨g1, g2, fun j u hu => g3 j u ?_⟩
    rw [← List.take_append_drop i os, List.flatMap_append, List.getElem?_append_left (List.getElem?_eq_some_iff.1 hu).1]
    exact hu
theorem own_drop {w : World} {s : SV} {os : List Flt} (h : SlAt w s.v s.n 3 (os.flatMap fltC)) {i : Nat} (hi : i ≤ s.n) : SlAt w (.slice (if s.c = i then s.a else s.a.map (·.add (i * 3))) (s.n - i) (s.c - i)) (s.n - i) 3 ((os.drop i).flatMap fltC) := by
  obtain ⟨hl, ao, c, h1, h2, h3, h4, h5⟩ := h
  simp only [SV.v, Value.slice.injEq] at h1
  obtain ⟨rfl, _, rfl⟩ := h1
  rw [flat_length fltC_len] at hl
  refine ⟨by rw [flat_length fltC_len, List.length_drop]; congr 1; omega, _, _, rfl, by omega, by omega, fun e => ?_, fun a ha h0 => ?_⟩
  · split at e
    · have := h4 e; omega
    · rw [Option.map_eq_none_iff] at e; have := h4 e; omega
  · rw [if_neg (by omega)] at ha
    obtain ⟨a0, ha0, rfl⟩ := Option.map_eq_some_iff.1 ha
    obtain ⟨g1, g2, g3⟩ := h5 a0 ha0 (by omega)
    have e0 : a0 = ⟨a0.block, a0.off, none⟩ := by rw [← g1]
    rw [e0, Addr.add_lit]
    refine ⟨rfl, g2, fun j u hu => ?_⟩
    rw [← flat_drop fltC_len, List.getElem?_drop] at hu
    rw [Nat.add_assoc]
    exact g3 _ u hu
theorem rNew_S (k : Int) (h : 1 ≤ k ∧ k ≤ 2048) : Spec Try.prog 16 [.int .i64 k] [] fun Γ v Θ => ∃ t, v = .tuple #[.pointer (some ⟨t, 0, none⟩), .int .i64 0] ∧ Θ = RefI k (some ⟨t, 0, none⟩) (some (1, [])) :: Γ := by
  refine Spec.of_body Try.func16 rfl Try.ntmps16 rfl ?_
  intro w0 Γ
  show S _ w0 [(0, .int .i64 k)] Γ _
  refine S.seq fun K1 hK1 => ?_
  refine S.region rfl ?_
  refine S.op (S.q (q_assign rfl) rfl rfl ?_)
  refine S.op (S.q (q_assign rfl) rfl rfl ?_)
  first | with_reducible refine S.nilK ?_ | refine S.nil ?_
  refine hK1 _ _ ?_
  refine S.seq fun K2 hK2 => ?_
  refine S.seq fun K3 hK3 => ?_
  refine S.regionG ?_
  refine S.g_op rfl (S.q (q_move rfl) rfl rfl ?_)
  refine S.g_op rfl (S.q (q_lt rfl rfl) rfl rfl ?_)
  refine S.g_op rfl (S.q (q_move rfl) rfl rfl ?_)
  by_cases hg1_2 : k < 1
  · exact absurd hg1_2 (by omega)
  · refine S.g_yes rfl rfl rfl (decide_eq_false hg1_2) (S.q (q_move rfl) rfl rfl ?_)
    refine S.g_yes rfl rfl rfl (decide_eq_false hg1_2) (S.q (q_gt rfl rfl) rfl rfl ?_)
    refine S.g_op rfl (S.q (q_pickF rfl (decide_eq_false hg1_2) rfl) rfl rfl ?_)
    first | with_reducible refine S.g_nilK ?_ | refine S.g_nil ?_
    refine hK3 _ _ ?_
    refine S.condD rfl (fun h1 => ?_) (fun h1 => ?_)
    · exact absurd h1 (by omega)
    · refine S.skip ?_
      with_reducible repeat (first | refine S.then_n ?_ | refine S.then_x ?_ | refine S.then_r ?_ | refine S.inBlock_n ?_ | refine S.inBlock_r ?_ | refine S.inBlock_x rfl ?_ | refine S.noGoto_r ?_ | refine S.noGoto_n ?_ | refine S.noGoto_x ?_)
      refine hK2 _ _ ?_
      refine S.seq fun K4 hK4 => ?_
      refine S.region rfl ?_
      refine S.op (S.q (q_move rfl) rfl rfl ?_)
      refine S.op (S.q (q_build (pvs := [(_, _)]) [_, _, _] Try.z62 Try.p62 ⟨⟨rfl, rfl⟩, trivial⟩ rfl) rfl rfl ?_)
      refine S.op (S.box (cs := [_, _, _]) rfl rfl rfl ?_)
      intro b12
      refine S.op (S.q (q_assign rfl) rfl rfl ?_)
      refine S.op (S.q (q_assign rfl) rfl rfl ?_)
      first | with_reducible refine S.nilK ?_ | refine S.nil ?_
      refine hK4 _ _ ?_
      refine S.ret ?_
      with_reducible repeat (first | refine S.then_n ?_ | refine S.then_x ?_ | refine S.then_r ?_ | refine S.inBlock_n ?_ | refine S.inBlock_r ?_ | refine S.inBlock_x rfl ?_ | refine S.noGoto_r ?_ | refine S.noGoto_n ?_ | refine S.noGoto_x ?_)
      refine S.air0' 59 ?_
      refine S.conv3 (blk b12 62 #[.int .i64 k, .int .u64 0, .slice none 0 0]) (own SV.nil 59 3 []) (alls [] fltB) (show Ent _ _ from Ent.closeAI (cells := refC k) (q := 1) (L := []) (lv := SV.nil) (os := []) rfl rfl _) ?_
      exact S.fin (rs := [_, _]) (vs := [_, _]) Try.results16 (⟨rfl, rfl, trivial⟩)  (⟨b12, rfl, rfl⟩) Sub.ent
theorem rNewNo_S (k : Int) (h : ¬ (1 ≤ k ∧ k ≤ 2048)) : Spec Try.prog 16 [.int .i64 k] [] fun Γ v Θ => v = .tuple #[.pointer none, .int .i64 1] ∧ Θ = Γ := by
  refine Spec.of_body Try.func16 rfl Try.ntmps16 rfl ?_
  intro w0 Γ
  show S _ w0 [(0, .int .i64 k)] Γ _
  refine S.seq fun K1 hK1 => ?_
  refine S.region rfl ?_
  refine S.op (S.q (q_assign rfl) rfl rfl ?_)
  refine S.op (S.q (q_assign rfl) rfl rfl ?_)
  first | with_reducible refine S.nilK ?_ | refine S.nil ?_
  refine hK1 _ _ ?_
  refine S.seq fun K2 hK2 => ?_
  refine S.seq fun K3 hK3 => ?_
  refine S.regionG ?_
  refine S.g_op rfl (S.q (q_move rfl) rfl rfl ?_)
  refine S.g_op rfl (S.q (q_lt rfl rfl) rfl rfl ?_)
  refine S.g_op rfl (S.q (q_move rfl) rfl rfl ?_)
  by_cases hg1_2 : k < 1
  · refine S.g_no rfl rfl rfl (decide_eq_true hg1_2) rfl rfl ?_
    refine S.g_no rfl rfl rfl (decide_eq_true hg1_2) rfl rfl ?_
    refine S.g_op rfl (S.q (q_pickT rfl (decide_eq_true hg1_2) rfl) rfl rfl ?_)
    first | with_reducible refine S.g_nilK ?_ | refine S.g_nil ?_
    refine hK3 _ _ ?_
    refine S.condT rfl ?_
    refine S.seq fun K4 hK4 => ?_
    refine S.region rfl ?_
    refine S.op (S.q (q_assign rfl) rfl rfl ?_)
    refine S.op (S.q (q_assign rfl) rfl rfl ?_)
    first | with_reducible refine S.nilK ?_ | refine S.nil ?_
    refine hK4 _ _ ?_
    refine S.ret ?_
    with_reducible repeat (first | refine S.then_n ?_ | refine S.then_x ?_ | refine S.then_r ?_ | refine S.inBlock_n ?_ | refine S.inBlock_r ?_ | refine S.inBlock_x rfl ?_ | refine S.noGoto_r ?_ | refine S.noGoto_n ?_ | refine S.noGoto_x ?_)
    exact S.fin (rs := [_, _]) (vs := [_, _]) Try.results16 (⟨rfl, rfl, trivial⟩)  (⟨rfl, rfl⟩) Sub.ent
  · refine S.g_yes rfl rfl rfl (decide_eq_false hg1_2) (S.q (q_move rfl) rfl rfl ?_)
    refine S.g_yes rfl rfl rfl (decide_eq_false hg1_2) (S.q (q_gt rfl rfl) rfl rfl ?_)
    refine S.g_op rfl (S.q (q_pickF rfl (decide_eq_false hg1_2) rfl) rfl rfl ?_)
    first | with_reducible refine S.g_nilK ?_ | refine S.g_nil ?_
    refine hK3 _ _ ?_
    refine S.condD rfl (fun h1 => ?_) (fun h1 => ?_)
    · refine S.seq fun K5 hK5 => ?_
      refine S.region rfl ?_
      refine S.op (S.q (q_assign rfl) rfl rfl ?_)
      refine S.op (S.q (q_assign rfl) rfl rfl ?_)
      first | with_reducible refine S.nilK ?_ | refine S.nil ?_
      refine hK5 _ _ ?_
      refine S.ret ?_
      with_reducible repeat (first | refine S.then_n ?_ | refine S.then_x ?_ | refine S.then_r ?_ | refine S.inBlock_n ?_ | refine S.inBlock_r ?_ | refine S.inBlock_x rfl ?_ | refine S.noGoto_r ?_ | refine S.noGoto_n ?_ | refine S.noGoto_x ?_)
      exact S.fin (rs := [_, _]) (vs := [_, _]) Try.results16 (⟨rfl, rfl, trivial⟩)  (⟨rfl, rfl⟩) Sub.ent
    · exact absurd h1 (by omega)
set_option maxHeartbeats 800000 in
theorem rFly_S (t : Nat) (n q : Int) (lv : SV) (os : List Flt) (dst : Int) (dv : SV) (l : List Int) (R : Assn) (hR : ∀ Γ w, Sat w (R :: Γ) → BytesAt w dv.v l) (hdn : dv.n = l.length) (hl : l.length ≤ 1000) (hn : lv.n = os.length) (hm : os.length ≤ 2048) (hos : (os.length : Int) ≠ n) (h0 : 1 ≤ q) (h1' : q < 18446744073709551615) :
    Spec Try.prog 17 [.pointer (some ⟨t, 0, none⟩), .agg #[.int .i64 dst, dv.v]] [blk t 62 (refC n q lv).toArray, own lv 59 3 (os.flatMap fltC), R] fun Γ v Θ =>
      ∃ u lv', v = .tuple #[.int .u64 q, .int .i64 0] ∧ lv'.n = os.length + 1 ∧ Θ = obytes u l :: blk t 62 (refC n (q + 1) lv').toArray :: own lv' 59 3 ((os ++ [(⟨q, dst, u, l⟩ : Flt)]).flatMap fltC) :: R :: Γ := by
  refine Spec.of_body Try.func17 rfl Try.ntmps17 rfl ?_
  intro w0 Γ
  obtain ⟨p, hp⟩ : ∃ p, p = q - 1 := ⟨_, rfl⟩
  obtain ⟨q', hq'⟩ : ∃ q', q' = q + 1 := ⟨_, rfl⟩
  have e1 : q = p + 1 := by omega
  subst e1
  show S _ w0 [(0, .pointer (some ⟨t, 0, none⟩)), (1, .agg #[.int .i64 dst, dv.v])] (blk t 62 (refC n (p + 1) lv).toArray :: own lv 59 3 (os.flatMap fltC) :: R :: Γ) _
  rw [show refC n (p + 1) lv = [.int .i64 n, .int .u64 p, lv.v] by simp only [refC]; rw [← hp]]
  refine S.ownLen lv fun hlen hnc hcm => ?_
  refine S.seq fun K1 hK1 => ?_
  refine S.region rfl ?_
  refine S.op (S.box (cs := [_, _]) rfl rfl rfl ?_)
  intro b3
  refine S.op (S.q (q_assign rfl) rfl rfl ?_)
  refine S.op (S.q (q_assign rfl) rfl rfl ?_)
  first | with_reducible refine S.nilK ?_ | refine S.nil ?_
  refine hK1 _ _ ?_
  refine S.seq fun K2 hK2 => ?_
  refine S.seq fun K3 hK3 => ?_
  refine S.region rfl ?_
  refine S.op (S.q (q_move rfl) rfl rfl ?_)
  refine S.op (S.q (q_eqN Try.underlying47 rfl rfl) rfl rfl ?_)
  first | with_reducible refine S.nilK ?_ | refine S.nil ?_
  refine hK3 _ _ ?_
  refine S.condF rfl ?_
  refine S.skip ?_
  with_reducible repeat (first | refine S.then_n ?_ | refine S.then_x ?_ | refine S.then_r ?_ | refine S.inBlock_n ?_ | refine S.inBlock_r ?_ | refine S.inBlock_x rfl ?_ | refine S.noGoto_r ?_ | refine S.noGoto_n ?_ | refine S.noGoto_x ?_)
  refine hK2 _ _ ?_
  refine S.seq fun K4 hK4 => ?_
  refine S.seq fun K5 hK5 => ?_
  refine S.draw ([blk t 62 #[.int .i64 n, .int .u64 p, lv.v]]) [] Try.mixed ?_
  refine S.dr_take 0 [] rfl (by kernel_rfl) rfl rfl rfl (q_move rfl) Sub.ent ?_
  refine S.dr_take 1 [] rfl (by kernel_rfl) rfl rfl rfl (q_nilCheck rfl) Sub.ent ?_
  refine S.dr_take 2 [] rfl (by kernel_rfl) rfl rfl rfl (q_field Try.fo62_2 rfl) Sub.ent ?_
  refine S.dr_take 3 [] rfl (by kernel_rfl) rfl rfl rfl (q_load Try.at60 rfl rfl) Sub.ent ?_
  refine S.dr_take 4 [] rfl (by kernel_rfl) rfl rfl rfl (q_len Try.underlying60 rfl) Sub.ent ?_
  refine S.dr_take 5 [] rfl (by kernel_rfl) rfl rfl rfl (q_move rfl) Sub.ent ?_
  refine S.dr_take 6 [] rfl (by kernel_rfl) rfl rfl rfl (q_nilCheck rfl) Sub.ent ?_
  refine S.dr_take 7 [] rfl (by kernel_rfl) rfl rfl rfl (q_field Try.fo62_0 rfl) Sub.ent ?_
  refine S.dr_take 8 [] rfl (by kernel_rfl) rfl rfl rfl (q_load Try.at3 rfl rfl) Sub.ent ?_
  refine S.dr_take 9 [] rfl (by kernel_rfl) rfl rfl rfl (q_eq rfl rfl) Sub.ent ?_
  first | with_reducible refine S.dr_doneK (by kernel_rfl) ?_ | refine S.dr_done (by kernel_rfl) ?_
  refine hK5 _ _ ?_
  refine S.condD rfl (fun h2 => ?_) (fun h2 => ?_)
  · exact absurd h2 (by omega)
  · refine S.skip ?_
    with_reducible repeat (first | refine S.then_n ?_ | refine S.then_x ?_ | refine S.then_r ?_ | refine S.inBlock_n ?_ | refine S.inBlock_r ?_ | refine S.inBlock_x rfl ?_ | refine S.noGoto_r ?_ | refine S.noGoto_n ?_ | refine S.noGoto_x ?_)
    refine hK4 _ _ ?_
    refine S.seq fun K6 hK6 => ?_
    refine S.region rfl ?_
    refine S.op (S.q (q_move rfl) rfl rfl ?_)
    refine S.op (S.q (q_nilCheck rfl) rfl rfl ?_)
    refine S.op (S.q (q_field Try.fo62_1 rfl) rfl rfl ?_)
    refine S.op (S.q (q_load Try.at30 rfl rfl) rfl rfl ?_)
    refine S.op (S.q (q_add rfl rfl (inU64 (by omega) (by omega))) rfl rfl ?_)
    refine S.op (S.q (q_nilCheck rfl) rfl rfl ?_)
    refine S.op (S.q (q_field Try.fo62_1 rfl) rfl rfl ?_)
    refine S.op (S.store (cs' := [_, _, _]) Try.at30 rfl rfl rfl rfl rfl ?_)
    first | with_reducible refine S.nilK ?_ | refine S.nil ?_
    refine hK6 _ _ ?_
    refine S.seq fun K7 hK7 => ?_
    refine S.draw ([blk t 62 #[.int .i64 n, .int .u64 (p + 1), lv.v], blk b3 34 #[.int .i64 dst, dv.v]]) [23] Try.mixed ?_
    refine S.dr_take 0 [21, 22, 23] rfl (by kernel_rfl) rfl rfl rfl (q_move rfl) Sub.ent ?_
    refine S.dr_take 2 [3, 4, 5, 6, 16, 17, 18, 19, 20, 21, 22, 23] rfl (by kernel_rfl) rfl rfl rfl (q_move rfl) Sub.ent ?_
    refine S.dr_take 3 [4, 5, 6, 16, 17, 18, 19, 20, 21, 22, 23] rfl (by kernel_rfl) rfl rfl rfl (q_nilCheck rfl) Sub.ent ?_
    refine S.dr_take 4 [5, 6, 16, 17, 18, 19, 20, 21, 22, 23] rfl (by kernel_rfl) rfl rfl rfl (q_field Try.fo62_2 rfl) Sub.ent ?_
    refine S.dr_take 5 [6, 16, 17, 18, 19, 20, 21, 22, 23] rfl (by kernel_rfl) rfl rfl rfl (q_load Try.at60 rfl rfl) Sub.ent ?_
    refine S.dr_take 7 [8, 9, 10, 18, 19, 20, 21, 22, 23] rfl (by kernel_rfl) rfl rfl rfl (q_move rfl) Sub.ent ?_
    refine S.dr_take 8 [9, 10, 18, 19, 20, 21, 22, 23] rfl (by kernel_rfl) rfl rfl rfl (q_nilCheck rfl) Sub.ent ?_
    refine S.dr_take 9 [10, 18, 19, 20, 21, 22, 23] rfl (by kernel_rfl) rfl rfl rfl (q_field Try.fo62_1 rfl) Sub.ent ?_
    refine S.dr_take 10 [18, 19, 20, 21, 22, 23] rfl (by kernel_rfl) rfl rfl rfl (q_load Try.at30 rfl rfl) Sub.ent ?_
    refine S.dr_take 11 [12, 17, 18, 19, 20, 21, 22, 23] rfl (by kernel_rfl) rfl rfl rfl (q_field Try.fo34_0 rfl) Sub.ent ?_
    refine S.dr_take 12 [17, 18, 19, 20, 21, 22, 23] rfl (by kernel_rfl) rfl rfl rfl (q_load Try.at3 rfl rfl) Sub.ent ?_
    refine S.dr_take 14 [15, 16, 17, 18, 19, 20, 21, 22, 23] rfl (by kernel_rfl) rfl rfl rfl (q_field Try.fo34_1 rfl) Sub.ent ?_
    refine S.dr_take 15 [16, 17, 18, 19, 20, 21, 22, 23] rfl (by kernel_rfl) rfl rfl rfl (q_load Try.at29 rfl rfl) Sub.ent ?_
    refine S.dr_2 (i := 1) (j := 13) (by kernel_rfl) rfl rfl rfl rfl ?_ ?_
    · refine  (S.buildSlice0 Try.underlying60 Try.inf59 rfl ?_)
      intro b26 hb26
      refine S.dr_k rfl Sub.ent ?_
      refine S.dr_2 (i := 6) (j := 13) (by kernel_rfl) rfl rfl rfl rfl ?_ ?_
      · refine  (S.appendOw (s := b26) (lv.n) (os.flatMap fltC) Try.underlying60 Try.inf59 rfl rfl rfl (fun w hs => HasOw.slAt inferInstance hs) (rAllOne os) (⟨by omega, by omega⟩) rfl ?_)
        intro s1 hs1
        rw [List.nil_append]
        refine S.dr_k rfl Sub.ent ?_
        refine S.dr_1 (i := 13) (by kernel_rfl) rfl rfl ?_
        refine  (S.buildSlice0 Try.underlying29 Try.inf5 rfl ?_)
        intro b38 hb38
        refine S.dr_k rfl Sub.ent ?_
        refine S.dr_1 (i := 16) (by kernel_rfl) rfl rfl ?_
        refine  (S.appendOw (s := b38) (l.length) (bcells l) Try.underlying29 Try.inf5 rfl rfl rfl (fun w hs => hR _ w (hs.ent (Pick.ent (P := R)))) (by first | rfl | exact allOne_bcells _) (⟨by omega, by omega⟩) rfl ?_)
        intro u hu
        rw [List.nil_append]
        refine S.dr_k rfl Sub.ent ?_
        refine S.dr_take 17 [18, 19, 20, 21, 22, 23] rfl (by kernel_rfl) rfl rfl rfl (q_build (pvs := [(_, _), (_, _)]) [_, _] Try.z34 Try.p34 ⟨⟨rfl, rfl⟩, ⟨rfl, rfl⟩, trivial⟩ rfl) Sub.ent ?_
        refine S.dr_take 18 [19, 20, 21, 22, 23] rfl (by kernel_rfl) rfl rfl rfl (q_build (pvs := [(_, _), (_, _)]) [_, _, _] Try.z59 Try.p59 ⟨⟨rfl, rfl⟩, ⟨rfl, rfl⟩, trivial⟩ rfl) Sub.ent ?_
        refine S.dr_1 (i := 19) (by kernel_rfl) rfl rfl ?_
        refine  (S.buildSlice (pvs := [(_, _)]) [_, _, _] Try.underlying60 Try.inf59 rfl rfl ⟨⟨rfl, rfl⟩, trivial⟩ rfl rfl ?_)
        intro b44
        refine S.dr_k rfl Sub.ent ?_
        refine S.dr_1 (i := 20) (by kernel_rfl) rfl rfl ?_
        refine  (S.appendOw (s := s1) (1) ([.int .u64 (p + 1), .int .i64 dst, u.v]) Try.underlying60 Try.inf59 rfl rfl rfl (blk_slAt (b := b44) rfl (by unfold maxLen; omega)) (by first | rfl | exact allOne_bcells _) (⟨by omega, by omega⟩) rfl ?_)
        intro lv' hlv'
        refine S.dr_k rfl Sub.ent ?_
        refine S.dr_take 21 [22, 23] rfl (by kernel_rfl) rfl rfl rfl (q_nilCheck rfl) Sub.ent ?_
        refine S.dr_take 22 [23] rfl (by kernel_rfl) rfl rfl rfl (q_field Try.fo62_2 rfl) Sub.ent ?_
        refine S.dr_1 (i := 23) (by kernel_rfl) rfl rfl ?_
        refine  (S.store (cs' := [_, _, _]) Try.at60 rfl rfl rfl rfl rfl ?_)
        refine S.dr_late ([]) [] rfl ?_
        first | with_reducible refine S.dr_doneK (by kernel_rfl) ?_ | refine S.dr_done (by kernel_rfl) ?_
        refine hK7 _ _ ?_
        refine S.seq fun K8 hK8 => ?_
        refine S.region rfl ?_
        refine S.op (S.q (q_move rfl) rfl rfl ?_)
        refine S.op (S.q (q_nilCheck rfl) rfl rfl ?_)
        refine S.op (S.q (q_field Try.fo62_1 rfl) rfl rfl ?_)
        refine S.op (S.q (q_load Try.at30 rfl rfl) rfl rfl ?_)
        refine S.op (S.q (q_assign rfl) rfl rfl ?_)
        refine S.op (S.q (q_assign rfl) rfl rfl ?_)
        first | with_reducible refine S.nilK ?_ | refine S.nil ?_
        refine hK8 _ _ ?_
        refine S.ret ?_
        with_reducible repeat (first | refine S.then_n ?_ | refine S.then_x ?_ | refine S.then_r ?_ | refine S.inBlock_n ?_ | refine S.inBlock_r ?_ | refine S.inBlock_x rfl ?_ | refine S.noGoto_r ?_ | refine S.noGoto_n ?_ | refine S.noGoto_x ?_)
        rw [show os.flatMap fltC ++ [Value.int .u64 (p + 1), Value.int .i64 dst, u.v] = _ from flat_snoc fltC os (⟨p + 1, dst, u, l⟩ : Flt)]
        rw [show (#[.int .i64 n, .int .u64 (p + 1), lv'.v] : Array Value) = (refC n (p + 1 + 1) lv').toArray by simp only [refC]; rw [show p + 1 + 1 - 1 = p + 1 by omega]]
        exact S.fin (rs := [_, _]) (vs := [_, _]) Try.results17 (⟨rfl, rfl, trivial⟩)  (⟨u, lv', rfl, by omega, rfl⟩) Sub.ent
      · refine  (S.buildSlice0 Try.underlying29 Try.inf5 rfl ?_)
        intro b38 hb38
        refine S.dr_k rfl Sub.ent ?_
        refine S.dr_1 (i := 6) (by kernel_rfl) rfl rfl ?_
        refine  (S.appendOw (s := b26) (lv.n) (os.flatMap fltC) Try.underlying60 Try.inf59 rfl rfl rfl (fun w hs => HasOw.slAt inferInstance hs) (rAllOne os) (⟨by omega, by omega⟩) rfl ?_)
        intro s1 hs1
        rw [List.nil_append]
        refine S.dr_k rfl Sub.ent ?_
        refine S.dr_1 (i := 16) (by kernel_rfl) rfl rfl ?_
        refine  (S.appendOw (s := b38) (l.length) (bcells l) Try.underlying29 Try.inf5 rfl rfl rfl (fun w hs => hR _ w (hs.ent (Pick.ent (P := R)))) (by first | rfl | exact allOne_bcells _) (⟨by omega, by omega⟩) rfl ?_)
        intro u hu
        rw [List.nil_append]
        refine S.dr_k rfl Sub.ent ?_
        refine S.dr_take 17 [18, 19, 20, 21, 22, 23] rfl (by kernel_rfl) rfl rfl rfl (q_build (pvs := [(_, _), (_, _)]) [_, _] Try.z34 Try.p34 ⟨⟨rfl, rfl⟩, ⟨rfl, rfl⟩, trivial⟩ rfl) Sub.ent ?_
        refine S.dr_take 18 [19, 20, 21, 22, 23] rfl (by kernel_rfl) rfl rfl rfl (q_build (pvs := [(_, _), (_, _)]) [_, _, _] Try.z59 Try.p59 ⟨⟨rfl, rfl⟩, ⟨rfl, rfl⟩, trivial⟩ rfl) Sub.ent ?_
        refine S.dr_1 (i := 19) (by kernel_rfl) rfl rfl ?_
        refine  (S.buildSlice (pvs := [(_, _)]) [_, _, _] Try.underlying60 Try.inf59 rfl rfl ⟨⟨rfl, rfl⟩, trivial⟩ rfl rfl ?_)
        intro b44
        refine S.dr_k rfl Sub.ent ?_
        refine S.dr_1 (i := 20) (by kernel_rfl) rfl rfl ?_
        refine  (S.appendOw (s := s1) (1) ([.int .u64 (p + 1), .int .i64 dst, u.v]) Try.underlying60 Try.inf59 rfl rfl rfl (blk_slAt (b := b44) rfl (by unfold maxLen; omega)) (by first | rfl | exact allOne_bcells _) (⟨by omega, by omega⟩) rfl ?_)
        intro lv' hlv'
        refine S.dr_k rfl Sub.ent ?_
        refine S.dr_take 21 [22, 23] rfl (by kernel_rfl) rfl rfl rfl (q_nilCheck rfl) Sub.ent ?_
        refine S.dr_take 22 [23] rfl (by kernel_rfl) rfl rfl rfl (q_field Try.fo62_2 rfl) Sub.ent ?_
        refine S.dr_1 (i := 23) (by kernel_rfl) rfl rfl ?_
        refine  (S.store (cs' := [_, _, _]) Try.at60 rfl rfl rfl rfl rfl ?_)
        refine S.dr_late ([]) [] rfl ?_
        first | with_reducible refine S.dr_doneK (by kernel_rfl) ?_ | refine S.dr_done (by kernel_rfl) ?_
        refine hK7 _ _ ?_
        refine S.seq fun K9 hK9 => ?_
        refine S.region rfl ?_
        refine S.op (S.q (q_move rfl) rfl rfl ?_)
        refine S.op (S.q (q_nilCheck rfl) rfl rfl ?_)
        refine S.op (S.q (q_field Try.fo62_1 rfl) rfl rfl ?_)
        refine S.op (S.q (q_load Try.at30 rfl rfl) rfl rfl ?_)
        refine S.op (S.q (q_assign rfl) rfl rfl ?_)
        refine S.op (S.q (q_assign rfl) rfl rfl ?_)
        first | with_reducible refine S.nilK ?_ | refine S.nil ?_
        refine hK9 _ _ ?_
        refine S.ret ?_
        with_reducible repeat (first | refine S.then_n ?_ | refine S.then_x ?_ | refine S.then_r ?_ | refine S.inBlock_n ?_ | refine S.inBlock_r ?_ | refine S.inBlock_x rfl ?_ | refine S.noGoto_r ?_ | refine S.noGoto_n ?_ | refine S.noGoto_x ?_)
        rw [show os.flatMap fltC ++ [Value.int .u64 (p + 1), Value.int .i64 dst, u.v] = _ from flat_snoc fltC os (⟨p + 1, dst, u, l⟩ : Flt)]
        rw [show (#[.int .i64 n, .int .u64 (p + 1), lv'.v] : Array Value) = (refC n (p + 1 + 1) lv').toArray by simp only [refC]; rw [show p + 1 + 1 - 1 = p + 1 by omega]]
        exact S.fin (rs := [_, _]) (vs := [_, _]) Try.results17 (⟨rfl, rfl, trivial⟩)  (⟨u, lv', rfl, by omega, rfl⟩) Sub.ent
    · refine  (S.buildSlice0 Try.underlying29 Try.inf5 rfl ?_)
      intro b38 hb38
      refine S.dr_k rfl Sub.ent ?_
      refine S.dr_1 (i := 1) (by kernel_rfl) rfl rfl ?_
      refine  (S.buildSlice0 Try.underlying60 Try.inf59 rfl ?_)
      intro b26 hb26
      refine S.dr_k rfl Sub.ent ?_
      refine S.dr_1 (i := 6) (by kernel_rfl) rfl rfl ?_
      refine  (S.appendOw (s := b26) (lv.n) (os.flatMap fltC) Try.underlying60 Try.inf59 rfl rfl rfl (fun w hs => HasOw.slAt inferInstance hs) (rAllOne os) (⟨by omega, by omega⟩) rfl ?_)
      intro s1 hs1
      rw [List.nil_append]
      refine S.dr_k rfl Sub.ent ?_
      refine S.dr_1 (i := 16) (by kernel_rfl) rfl rfl ?_
      refine  (S.appendOw (s := b38) (l.length) (bcells l) Try.underlying29 Try.inf5 rfl rfl rfl (fun w hs => hR _ w (hs.ent (Pick.ent (P := R)))) (by first | rfl | exact allOne_bcells _) (⟨by omega, by omega⟩) rfl ?_)
      intro u hu
      rw [List.nil_append]
      refine S.dr_k rfl Sub.ent ?_
      refine S.dr_take 17 [18, 19, 20, 21, 22, 23] rfl (by kernel_rfl) rfl rfl rfl (q_build (pvs := [(_, _), (_, _)]) [_, _] Try.z34 Try.p34 ⟨⟨rfl, rfl⟩, ⟨rfl, rfl⟩, trivial⟩ rfl) Sub.ent ?_
      refine S.dr_take 18 [19, 20, 21, 22, 23] rfl (by kernel_rfl) rfl rfl rfl (q_build (pvs := [(_, _), (_, _)]) [_, _, _] Try.z59 Try.p59 ⟨⟨rfl, rfl⟩, ⟨rfl, rfl⟩, trivial⟩ rfl) Sub.ent ?_
      refine S.dr_1 (i := 19) (by kernel_rfl) rfl rfl ?_
      refine  (S.buildSlice (pvs := [(_, _)]) [_, _, _] Try.underlying60 Try.inf59 rfl rfl ⟨⟨rfl, rfl⟩, trivial⟩ rfl rfl ?_)
      intro b44
      refine S.dr_k rfl Sub.ent ?_
      refine S.dr_1 (i := 20) (by kernel_rfl) rfl rfl ?_
      refine  (S.appendOw (s := s1) (1) ([.int .u64 (p + 1), .int .i64 dst, u.v]) Try.underlying60 Try.inf59 rfl rfl rfl (blk_slAt (b := b44) rfl (by unfold maxLen; omega)) (by first | rfl | exact allOne_bcells _) (⟨by omega, by omega⟩) rfl ?_)
      intro lv' hlv'
      refine S.dr_k rfl Sub.ent ?_
      refine S.dr_take 21 [22, 23] rfl (by kernel_rfl) rfl rfl rfl (q_nilCheck rfl) Sub.ent ?_
      refine S.dr_take 22 [23] rfl (by kernel_rfl) rfl rfl rfl (q_field Try.fo62_2 rfl) Sub.ent ?_
      refine S.dr_1 (i := 23) (by kernel_rfl) rfl rfl ?_
      refine  (S.store (cs' := [_, _, _]) Try.at60 rfl rfl rfl rfl rfl ?_)
      refine S.dr_late ([]) [] rfl ?_
      first | with_reducible refine S.dr_doneK (by kernel_rfl) ?_ | refine S.dr_done (by kernel_rfl) ?_
      refine hK7 _ _ ?_
      refine S.seq fun K10 hK10 => ?_
      refine S.region rfl ?_
      refine S.op (S.q (q_move rfl) rfl rfl ?_)
      refine S.op (S.q (q_nilCheck rfl) rfl rfl ?_)
      refine S.op (S.q (q_field Try.fo62_1 rfl) rfl rfl ?_)
      refine S.op (S.q (q_load Try.at30 rfl rfl) rfl rfl ?_)
      refine S.op (S.q (q_assign rfl) rfl rfl ?_)
      refine S.op (S.q (q_assign rfl) rfl rfl ?_)
      first | with_reducible refine S.nilK ?_ | refine S.nil ?_
      refine hK10 _ _ ?_
      refine S.ret ?_
      with_reducible repeat (first | refine S.then_n ?_ | refine S.then_x ?_ | refine S.then_r ?_ | refine S.inBlock_n ?_ | refine S.inBlock_r ?_ | refine S.inBlock_x rfl ?_ | refine S.noGoto_r ?_ | refine S.noGoto_n ?_ | refine S.noGoto_x ?_)
      rw [show os.flatMap fltC ++ [Value.int .u64 (p + 1), Value.int .i64 dst, u.v] = _ from flat_snoc fltC os (⟨p + 1, dst, u, l⟩ : Flt)]
      rw [show (#[.int .i64 n, .int .u64 (p + 1), lv'.v] : Array Value) = (refC n (p + 1 + 1) lv').toArray by simp only [refC]; rw [show p + 1 + 1 - 1 = p + 1 by omega]]
      exact S.fin (rs := [_, _]) (vs := [_, _]) Try.results17 (⟨rfl, rfl, trivial⟩)  (⟨u, lv', rfl, by omega, rfl⟩) Sub.ent
theorem rFlyFull_S (t : Nat) (n q : Int) (lv : SV) (dst : Int) (dv : SV) (h : (lv.n : Int) = n) :
    Spec Try.prog 17 [.pointer (some ⟨t, 0, none⟩), .agg #[.int .i64 dst, dv.v]] [blk t 62 (refC n q lv).toArray] fun Γ v Θ =>
      v = .tuple #[.int .u64 0, .int .i64 8] ∧ Θ = blk t 62 (refC n q lv).toArray :: Γ := by
  refine Spec.of_body Try.func17 rfl Try.ntmps17 rfl ?_
  intro w0 Γ
  show S _ w0 [(0, .pointer (some ⟨t, 0, none⟩)), (1, .agg #[.int .i64 dst, dv.v])] (blk t 62 (refC n q lv).toArray :: Γ) _
  refine S.seq fun K1 hK1 => ?_
  refine S.region rfl ?_
  refine S.op (S.box (cs := [_, _]) rfl rfl rfl ?_)
  intro b3
  refine S.op (S.q (q_assign rfl) rfl rfl ?_)
  refine S.op (S.q (q_assign rfl) rfl rfl ?_)
  first | with_reducible refine S.nilK ?_ | refine S.nil ?_
  refine hK1 _ _ ?_
  refine S.seq fun K2 hK2 => ?_
  refine S.seq fun K3 hK3 => ?_
  refine S.region rfl ?_
  refine S.op (S.q (q_move rfl) rfl rfl ?_)
  refine S.op (S.q (q_eqN Try.underlying47 rfl rfl) rfl rfl ?_)
  first | with_reducible refine S.nilK ?_ | refine S.nil ?_
  refine hK3 _ _ ?_
  refine S.condF rfl ?_
  refine S.skip ?_
  with_reducible repeat (first | refine S.then_n ?_ | refine S.then_x ?_ | refine S.then_r ?_ | refine S.inBlock_n ?_ | refine S.inBlock_r ?_ | refine S.inBlock_x rfl ?_ | refine S.noGoto_r ?_ | refine S.noGoto_n ?_ | refine S.noGoto_x ?_)
  refine hK2 _ _ ?_
  refine S.seq fun K4 hK4 => ?_
  refine S.seq fun K5 hK5 => ?_
  refine S.draw ([blk t 62 (refC n q lv).toArray]) [] Try.mixed ?_
  refine S.dr_take 0 [] rfl (by kernel_rfl) rfl rfl rfl (q_move rfl) Sub.ent ?_
  refine S.dr_take 1 [] rfl (by kernel_rfl) rfl rfl rfl (q_nilCheck rfl) Sub.ent ?_
  refine S.dr_take 2 [] rfl (by kernel_rfl) rfl rfl rfl (q_field Try.fo62_2 rfl) Sub.ent ?_
  refine S.dr_take 3 [] rfl (by kernel_rfl) rfl rfl rfl (q_load Try.at60 rfl rfl) Sub.ent ?_
  refine S.dr_take 4 [] rfl (by kernel_rfl) rfl rfl rfl (q_len Try.underlying60 rfl) Sub.ent ?_
  refine S.dr_take 5 [] rfl (by kernel_rfl) rfl rfl rfl (q_move rfl) Sub.ent ?_
  refine S.dr_take 6 [] rfl (by kernel_rfl) rfl rfl rfl (q_nilCheck rfl) Sub.ent ?_
  refine S.dr_take 7 [] rfl (by kernel_rfl) rfl rfl rfl (q_field Try.fo62_0 rfl) Sub.ent ?_
  refine S.dr_take 8 [] rfl (by kernel_rfl) rfl rfl rfl (q_load Try.at3 rfl rfl) Sub.ent ?_
  refine S.dr_take 9 [] rfl (by kernel_rfl) rfl rfl rfl (q_eq rfl rfl) Sub.ent ?_
  first | with_reducible refine S.dr_doneK (by kernel_rfl) ?_ | refine S.dr_done (by kernel_rfl) ?_
  refine hK5 _ _ ?_
  refine S.condD rfl (fun h2 => ?_) (fun h2 => ?_)
  · refine S.seq fun K6 hK6 => ?_
    refine S.region rfl ?_
    refine S.op (S.q (q_assign rfl) rfl rfl ?_)
    refine S.op (S.q (q_assign rfl) rfl rfl ?_)
    first | with_reducible refine S.nilK ?_ | refine S.nil ?_
    refine hK6 _ _ ?_
    refine S.ret ?_
    with_reducible repeat (first | refine S.then_n ?_ | refine S.then_x ?_ | refine S.then_r ?_ | refine S.inBlock_n ?_ | refine S.inBlock_r ?_ | refine S.inBlock_x rfl ?_ | refine S.noGoto_r ?_ | refine S.noGoto_n ?_ | refine S.noGoto_x ?_)
    exact S.fin (rs := [_, _]) (vs := [_, _]) Try.results17 (⟨rfl, rfl, trivial⟩)  (⟨rfl, rfl⟩) Sub.ent
  · exact absurd h h2
theorem rFlyNil_S (dst : Int) (dv : SV) :
    Spec Try.prog 17 [.pointer none, .agg #[.int .i64 dst, dv.v]] [] fun Γ v Θ => v = .tuple #[.int .u64 0, .int .i64 6] ∧ Θ = Γ := by
  refine Spec.of_body Try.func17 rfl Try.ntmps17 rfl ?_
  intro w0 Γ
  show S _ w0 [(0, .pointer none), (1, .agg #[.int .i64 dst, dv.v])] Γ _
  refine S.seq fun K1 hK1 => ?_
  refine S.region rfl ?_
  refine S.op (S.box (cs := [_, _]) rfl rfl rfl ?_)
  intro b3
  refine S.op (S.q (q_assign rfl) rfl rfl ?_)
  refine S.op (S.q (q_assign rfl) rfl rfl ?_)
  first | with_reducible refine S.nilK ?_ | refine S.nil ?_
  refine hK1 _ _ ?_
  refine S.seq fun K2 hK2 => ?_
  refine S.seq fun K3 hK3 => ?_
  refine S.region rfl ?_
  refine S.op (S.q (q_move rfl) rfl rfl ?_)
  refine S.op (S.q (q_eqN Try.underlying47 rfl rfl) rfl rfl ?_)
  first | with_reducible refine S.nilK ?_ | refine S.nil ?_
  refine hK3 _ _ ?_
  refine S.condT rfl ?_
  refine S.seq fun K4 hK4 => ?_
  refine S.region rfl ?_
  refine S.op (S.q (q_assign rfl) rfl rfl ?_)
  refine S.op (S.q (q_assign rfl) rfl rfl ?_)
  first | with_reducible refine S.nilK ?_ | refine S.nil ?_
  refine hK4 _ _ ?_
  refine S.ret ?_
  with_reducible repeat (first | refine S.then_n ?_ | refine S.then_x ?_ | refine S.then_r ?_ | refine S.inBlock_n ?_ | refine S.inBlock_r ?_ | refine S.inBlock_x rfl ?_ | refine S.noGoto_r ?_ | refine S.noGoto_n ?_ | refine S.noGoto_x ?_)
  exact S.fin (rs := [_, _]) (vs := [_, _]) Try.results17 (⟨rfl, rfl, trivial⟩)  (⟨rfl, rfl⟩) Sub.ent
/-- Where a number stands, or -1. -/
def findR (y : Int) : St → Int
  | none => -1
  | some (_, L) => match idx y L with
    | none => -1
    | some i => i
theorem idx_before {y : Int} : ∀ {L : List Fl} {k : Nat} {f : Fl}, (∀ j g, j < k → L[j]? = some g → g.id ≠ y) → L[k]? = some f → f.id = y → idx y L = some k
  | [], _, _, _, h, _ => by simp at h
  | g :: L, 0, f, _, h, e => by simp at h; subst h; simp [idx, e]
  | g :: L, k + 1, f, hb, h, e => by
    have h0 := hb 0 g (by omega) rfl
    rw [idx, if_neg h0, idx_before (L := L) (k := k) (f := f) (fun j z hj hz => hb (j + 1) z (by omega) (by simpa using hz)) (by simpa using h) e]
    rfl
theorem idx_absent {y : Int} : ∀ {L : List Fl}, (∀ f ∈ L, f.id ≠ y) → idx y L = none
  | [], _ => rfl
  | g :: L, h => by rw [idx, if_neg (h g (by simp)), idx_absent (fun f hf => h f (by simp [hf]))]; rfl
theorem rFind_S (t : Nat) (n q : Int) (lv : SV) (os : List Flt) (hn : lv.n = os.length) (hm : os.length ≤ 2048) (y : Int) :
    Spec Try.prog 20 [.pointer (some ⟨t, 0, none⟩), .int .u64 y] [blk t 62 (refC n q lv).toArray, own lv 59 3 (os.flatMap fltC)] fun Γ v Θ =>
      v = .int .i64 (findR y (some (q, os.map fl))) ∧ Θ = blk t 62 (refC n q lv).toArray :: own lv 59 3 (os.flatMap fltC) :: Γ := by
  refine Spec.of_body Try.func20 rfl Try.ntmps20 rfl ?_
  intro w0 Γ
  show S _ w0 [(0, .pointer (some ⟨t, 0, none⟩)), (1, .int .u64 y)] (blk t 62 (refC n q lv).toArray :: own lv 59 3 (os.flatMap fltC) :: Γ) _
  refine S.seq fun K1 hK1 => ?_
  refine S.region rfl ?_
  refine S.op (S.q (q_assign rfl) rfl rfl ?_)
  first | with_reducible refine S.nilK ?_ | refine S.nil ?_
  refine hK1 _ _ ?_
  refine S.seq fun K2 hK2 => ?_
  refine S.seq fun K3 hK3 => ?_
  refine S.region rfl ?_
  refine S.op (S.q (q_move rfl) rfl rfl ?_)
  refine S.op (S.q (q_neN Try.underlying47 rfl rfl) rfl rfl ?_)
  first | with_reducible refine S.nilK ?_ | refine S.nil ?_
  refine hK3 _ _ ?_
  refine S.condT rfl ?_
  refine S.seq fun K4 hK4 => ?_
  refine S.region rfl ?_
  refine S.op (S.q (q_move rfl) rfl rfl ?_)
  refine S.op (S.q (q_nilCheck rfl) rfl rfl ?_)
  refine S.op (S.q (q_field Try.fo62_2 rfl) rfl rfl ?_)
  refine S.op (S.q (q_load Try.at60 rfl rfl) rfl rfl ?_)
  refine S.op (S.q (q_len Try.underlying60 rfl) rfl rfl ?_)
  refine S.op (S.q (q_move rfl) rfl rfl ?_)
  first | with_reducible refine S.nilK ?_ | refine S.nil ?_
  refine hK4 _ _ ?_
  refine S.block ?_
  refine S.loop (fun m ρ' Γ' => ∃ (k : Nat), m + k = os.length ∧ (∀ j g, j < k → (os.map fl)[j]? = some g → g.id ≠ y) ∧ ρ' = [(1, .int .u64 y), (12, lv.v), (13, .int .i64 lv.n), (14, .int .i64 k)] ∧ Γ' = blk t 62 (refC n q lv).toArray :: own lv 59 3 (os.flatMap fltC) :: Γ) (m := _) (ρ0 := _) (Γ0 := _) (⟨0, rfl, fun j g hj => absurd hj (by omega), rfl, rfl⟩) (by repeat (first | exact trivial | refine ⟨rfl, ?_⟩)) Sub.ent ?_
  rintro m ρ' Γ' ⟨k, hk, hb, rfl, rfl⟩
  refine S.seq fun K5 hK5 => ?_
  refine S.region rfl ?_
  refine S.op (S.q (q_lt rfl rfl) rfl rfl ?_)
  first | with_reducible refine S.nilK ?_ | refine S.nil ?_
  refine hK5 _ _ ?_
  refine S.seq fun K6 hK6 => ?_
  refine S.condD rfl (fun h2 => ?_) (fun h2 => ?_)
  · obtain ⟨x, hx⟩ := getE (l := os) (i := k) (by omega)
    have hxf : (os.map fl)[k]? = some (fl x) := by rw [List.getElem?_map, hx]; rfl
    refine S.ownSome lv (by omega) fun b off hbp _ _ _ => ?_
    refine S.skip ?_
    with_reducible repeat (first | refine S.then_n ?_ | refine S.then_x ?_ | refine S.then_r ?_ | refine S.inBlock_n ?_ | refine S.inBlock_r ?_ | refine S.inBlock_x rfl ?_ | refine S.noGoto_r ?_ | refine S.noGoto_n ?_ | refine S.noGoto_x ?_)
    refine hK6 _ _ ?_
    refine S.seq fun K7 hK7 => ?_
    refine S.block ?_
    refine S.seq fun K8 hK8 => ?_
    refine S.region rfl ?_
    refine S.op (S.q (q_move rfl) rfl rfl ?_)
    refine S.op (S.q (q_indexO (k) Try.el60 rfl hbp rfl rfl (by omega)) rfl rfl ?_)
    refine S.op (S.q (q_loadOwS (lv) (k * 3) [_, _, _] Try.ag59 rfl hbp (by first | rfl | exact Nat.add_assoc _ _ _ | omega) rfl (flat_seg fltC_len hx)) rfl rfl ?_)
    refine S.op (S.alloc Try.z59 rfl ?_)
    intro b6
    refine S.op (S.q (q_assign rfl) rfl rfl ?_)
    refine S.op (S.storeS (cs' := [_, _, _]) Try.ag59 rfl rfl rfl rfl rfl rfl ?_)
    first | with_reducible refine S.nilK ?_ | refine S.nil ?_
    refine hK8 _ _ ?_
    refine S.seq fun K9 hK9 => ?_
    refine S.region rfl ?_
    refine S.op (S.q (q_field Try.fo59_0 rfl) rfl rfl ?_)
    refine S.op (S.q (q_load Try.at30 rfl rfl) rfl rfl ?_)
    refine S.op (S.q (q_move rfl) rfl rfl ?_)
    refine S.op (S.q (q_eq rfl rfl) rfl rfl ?_)
    first | with_reducible refine S.nilK ?_ | refine S.nil ?_
    refine hK9 _ _ ?_
    refine S.condD rfl (fun h3 => ?_) (fun h3 => ?_)
    · refine S.seq fun K10 hK10 => ?_
      refine S.region rfl ?_
      refine S.op (S.q (q_move rfl) rfl rfl ?_)
      refine S.op (S.q (q_assign rfl) rfl rfl ?_)
      first | with_reducible refine S.nilK ?_ | refine S.nil ?_
      refine hK10 _ _ ?_
      refine S.ret ?_
      with_reducible repeat (first | refine S.then_n ?_ | refine S.then_x ?_ | refine S.then_r ?_ | refine S.inBlock_n ?_ | refine S.inBlock_r ?_ | refine S.inBlock_x rfl ?_ | refine S.noGoto_r ?_ | refine S.noGoto_n ?_ | refine S.noGoto_x ?_)
      exact S.fin (rs := [_]) (vs := [_]) Try.results20 (⟨rfl, trivial⟩)  (⟨by simp only [resV, findR]; rw [idx_before hb hxf h3], rfl⟩) Sub.ent
    · refine S.skip ?_
      with_reducible repeat (first | refine S.then_n ?_ | refine S.then_x ?_ | refine S.then_r ?_ | refine S.inBlock_n ?_ | refine S.inBlock_r ?_ | refine S.inBlock_x rfl ?_ | refine S.noGoto_r ?_ | refine S.noGoto_n ?_ | refine S.noGoto_x ?_)
      with_reducible repeat (first | refine S.then_n ?_ | refine S.then_x ?_ | refine S.then_r ?_ | refine S.inBlock_n ?_ | refine S.inBlock_r ?_ | refine S.inBlock_x rfl ?_ | refine S.noGoto_r ?_ | refine S.noGoto_n ?_ | refine S.noGoto_x ?_)
      refine hK7 _ _ ?_
      refine S.region rfl ?_
      refine S.op (S.q (q_add rfl rfl (inI64 (by omega) (by omega))) rfl rfl ?_)
      refine S.op (S.q (q_move rfl) rfl rfl ?_)
      first | with_reducible refine S.nilK ?_ | refine S.nil ?_
      with_reducible repeat (first | refine S.then_n ?_ | refine S.then_x ?_ | refine S.then_r ?_ | refine S.inBlock_n ?_ | refine S.inBlock_r ?_ | refine S.inBlock_x rfl ?_ | refine S.noGoto_r ?_ | refine S.noGoto_n ?_ | refine S.noGoto_x ?_)
      exact S.next (m - 1) (⟨k + 1, by omega, fun j g hj hg => (by rcases Nat.lt_or_eq_of_le (Nat.le_of_lt_succ hj) with h | h; exact hb j g h hg; (subst h; rw [hxf] at hg; cases hg; exact h3)), rfl, rfl⟩) (by omega) (by repeat (first | exact trivial | refine ⟨rfl, ?_⟩)) Sub.ent
  · refine S.exit ?_
    with_reducible repeat (first | refine S.then_n ?_ | refine S.then_x ?_ | refine S.then_r ?_ | refine S.inBlock_n ?_ | refine S.inBlock_r ?_ | refine S.inBlock_x rfl ?_ | refine S.noGoto_r ?_ | refine S.noGoto_n ?_ | refine S.noGoto_x ?_)
    with_reducible refine S.inBlock_s ?_
    with_reducible repeat (first | refine S.then_n ?_ | refine S.then_x ?_ | refine S.then_r ?_ | refine S.inBlock_n ?_ | refine S.inBlock_r ?_ | refine S.inBlock_x rfl ?_ | refine S.noGoto_r ?_ | refine S.noGoto_n ?_ | refine S.noGoto_x ?_)
    refine hK2 _ _ ?_
    refine S.seq fun K11 hK11 => ?_
    refine S.region rfl ?_
    refine S.op (S.q (q_assign rfl) rfl rfl ?_)
    first | with_reducible refine S.nilK ?_ | refine S.nil ?_
    refine hK11 _ _ ?_
    refine S.ret ?_
    with_reducible repeat (first | refine S.then_n ?_ | refine S.then_x ?_ | refine S.then_r ?_ | refine S.inBlock_n ?_ | refine S.inBlock_r ?_ | refine S.inBlock_x rfl ?_ | refine S.noGoto_r ?_ | refine S.noGoto_n ?_ | refine S.noGoto_x ?_)
    exact S.fin (rs := [_]) (vs := [_]) Try.results20 (⟨rfl, trivial⟩)  (⟨by simp only [resV, findR]; rw [idx_absent (fun f hf => by obtain ⟨j, hj⟩ := List.getElem?_of_mem hf; have hl := (List.getElem?_eq_some_iff.1 hj).1; simp at hl; exact hb j f (by omega) hj)], rfl⟩) Sub.ent
theorem rFindNil_S (y : Int) : Spec Try.prog 20 [.pointer none, .int .u64 y] [] fun Γ v Θ => v = .int .i64 (-1) ∧ Θ = Γ := by
  refine Spec.of_body Try.func20 rfl Try.ntmps20 rfl ?_
  intro w0 Γ
  show S _ w0 [(0, .pointer none), (1, .int .u64 y)] Γ _
  refine S.seq fun K1 hK1 => ?_
  refine S.region rfl ?_
  refine S.op (S.q (q_assign rfl) rfl rfl ?_)
  first | with_reducible refine S.nilK ?_ | refine S.nil ?_
  refine hK1 _ _ ?_
  refine S.seq fun K2 hK2 => ?_
  refine S.seq fun K3 hK3 => ?_
  refine S.region rfl ?_
  refine S.op (S.q (q_move rfl) rfl rfl ?_)
  refine S.op (S.q (q_neN Try.underlying47 rfl rfl) rfl rfl ?_)
  first | with_reducible refine S.nilK ?_ | refine S.nil ?_
  refine hK3 _ _ ?_
  refine S.condF rfl ?_
  refine S.skip ?_
  with_reducible repeat (first | refine S.then_n ?_ | refine S.then_x ?_ | refine S.then_r ?_ | refine S.inBlock_n ?_ | refine S.inBlock_r ?_ | refine S.inBlock_x rfl ?_ | refine S.noGoto_r ?_ | refine S.noGoto_n ?_ | refine S.noGoto_x ?_)
  refine hK2 _ _ ?_
  refine S.seq fun K4 hK4 => ?_
  refine S.region rfl ?_
  refine S.op (S.q (q_assign rfl) rfl rfl ?_)
  first | with_reducible refine S.nilK ?_ | refine S.nil ?_
  refine hK4 _ _ ?_
  refine S.ret ?_
  with_reducible repeat (first | refine S.then_n ?_ | refine S.then_x ?_ | refine S.then_r ?_ | refine S.inBlock_n ?_ | refine S.inBlock_r ?_ | refine S.inBlock_x rfl ?_ | refine S.noGoto_r ?_ | refine S.noGoto_n ?_ | refine S.noGoto_x ?_)
  exact S.fin (rs := [_]) (vs := [_]) Try.results20 (⟨rfl, trivial⟩)  (⟨rfl, rfl⟩) Sub.ent
theorem rLand_S (t : Nat) (n q : Int) (lv : SV) (os : List Flt) (hn : lv.n = os.length) (hm : os.length ≤ 2048) (i : Nat) (x : Flt) (hx : os[i]? = some x) (y : Int) (hi : idx y (os.map fl) = some i) :
    Spec Try.prog 18 [.pointer (some ⟨t, 0, none⟩), .int .u64 y] [blk t 62 (refC n q lv).toArray, own lv 59 3 (os.flatMap fltC), alls os fltB] fun Γ v Θ =>
      ∃ lv' : SV, v = .tuple #[.agg #[.int .i64 x.dst, x.v.v], .int .i64 0] ∧ lv'.n = (os.eraseIdx i).length ∧ Θ = fltB x :: blk t 62 (refC n q lv').toArray :: own lv' 59 3 ((os.eraseIdx i).flatMap fltC) :: alls (os.eraseIdx i) fltB :: Γ := by
  refine Spec.of_body Try.func18 rfl Try.ntmps18 rfl ?_
  intro w0 Γ
  show S _ w0 [(0, .pointer (some ⟨t, 0, none⟩)), (1, .int .u64 y)] (blk t 62 (refC n q lv).toArray :: own lv 59 3 (os.flatMap fltC) :: alls os fltB :: Γ) _
  have hl := (List.getElem?_eq_some_iff.1 hx).1
  refine S.ownSome lv (by omega) fun b off hb hlen hnc hcm => ?_
  refine S.seq fun K1 hK1 => ?_
  refine S.region rfl ?_
  refine S.op (S.alloc Try.z34 rfl ?_)
  intro b4
  refine S.op (S.q (q_assign rfl) rfl rfl ?_)
  first | with_reducible refine S.nilK ?_ | refine S.nil ?_
  refine hK1 _ _ ?_
  refine S.seq fun K2 hK2 => ?_
  refine S.region rfl ?_
  refine S.op (S.q (q_move rfl) rfl rfl ?_)
  refine S.op (S.q (q_move rfl) rfl rfl ?_)
  refine S.op (S.call Try.en20 (vs := [_, _]) ⟨rfl, rfl, trivial⟩ (rFind_S t n q lv os hn hm y) rfl ?_)
  rintro v Θ ⟨rfl, rfl⟩
  rw [show findR y (some (q, os.map fl)) = (i : Int) by simp only [findR, hi]]
  refine S.op (S.q (q_assign rfl) rfl rfl ?_)
  first | with_reducible refine S.nilK ?_ | refine S.nil ?_
  refine hK2 _ _ ?_
  refine S.seq fun K3 hK3 => ?_
  refine S.seq fun K4 hK4 => ?_
  refine S.region rfl ?_
  refine S.op (S.q (q_move rfl) rfl rfl ?_)
  refine S.op (S.q (q_lt rfl rfl) rfl rfl ?_)
  first | with_reducible refine S.nilK ?_ | refine S.nil ?_
  refine hK4 _ _ ?_
  refine S.condD rfl (fun h1 => ?_) (fun h1 => ?_)
  · exact absurd h1 (by omega)
  · refine S.skip ?_
    with_reducible repeat (first | refine S.then_n ?_ | refine S.then_x ?_ | refine S.then_r ?_ | refine S.inBlock_n ?_ | refine S.inBlock_r ?_ | refine S.inBlock_x rfl ?_ | refine S.noGoto_r ?_ | refine S.noGoto_n ?_ | refine S.noGoto_x ?_)
    refine hK3 _ _ ?_
    refine S.seq fun K5 hK5 => ?_
    refine S.region rfl ?_
    refine S.op (S.q (q_move rfl) rfl rfl ?_)
    refine S.op (S.q (q_nilCheck rfl) rfl rfl ?_)
    refine S.op (S.q (q_field Try.fo62_2 rfl) rfl rfl ?_)
    refine S.op (S.q (q_load Try.at60 rfl rfl) rfl rfl ?_)
    refine S.op (S.q (q_move rfl) rfl rfl ?_)
    refine S.op (S.q (q_indexO (i) Try.el60 rfl hb rfl rfl (by omega)) rfl rfl ?_)
    refine S.op (S.q (q_field Try.fo59_1 rfl) rfl rfl ?_)
    refine S.op (S.q (q_loadOwS (lv) (i * 3 + 1) [_, _] Try.ag34 rfl hb (by first | rfl | exact Nat.add_assoc _ _ _ | omega) rfl (flt_seg hx)) rfl rfl ?_)
    refine S.op (S.alloc Try.z34 rfl ?_)
    intro b7
    refine S.op (S.storeS (cs' := [_, _]) Try.ag34 rfl rfl rfl rfl rfl rfl ?_)
    first | with_reducible refine S.nilK ?_ | refine S.nil ?_
    refine hK5 _ _ ?_
    refine S.seq fun K6 hK6 => ?_
    refine S.draw ([blk t 62 (refC n q lv).toArray]) [19] Try.mixed ?_
    refine S.dr_take 0 [17, 18, 19] rfl (by kernel_rfl) rfl rfl rfl (q_move rfl) Sub.ent ?_
    refine S.dr_take 2 [3, 4, 5, 7, 8, 16, 17, 18, 19] rfl (by kernel_rfl) rfl rfl rfl (q_move rfl) Sub.ent ?_
    refine S.dr_take 3 [4, 5, 7, 8, 16, 17, 18, 19] rfl (by kernel_rfl) rfl rfl rfl (q_nilCheck rfl) Sub.ent ?_
    refine S.dr_take 4 [5, 7, 8, 16, 17, 18, 19] rfl (by kernel_rfl) rfl rfl rfl (q_field Try.fo62_2 rfl) Sub.ent ?_
    refine S.dr_take 5 [7, 8, 16, 17, 18, 19] rfl (by kernel_rfl) rfl rfl rfl (q_load Try.at60 rfl rfl) Sub.ent ?_
    refine S.dr_take 6 [7, 8, 16, 17, 18, 19] rfl (by kernel_rfl) rfl rfl rfl (q_move rfl) Sub.ent ?_
    refine S.dr_take 7 [8, 16, 17, 18, 19] rfl (by kernel_rfl) rfl rfl rfl (q_sliceTo (i) Try.el60 rfl rfl rfl (by omega)) Sub.ent ?_
    refine S.dr_take 9 [10, 11, 12, 15, 16, 17, 18, 19] rfl (by kernel_rfl) rfl rfl rfl (q_move rfl) Sub.ent ?_
    refine S.dr_take 10 [11, 12, 15, 16, 17, 18, 19] rfl (by kernel_rfl) rfl rfl rfl (q_nilCheck rfl) Sub.ent ?_
    refine S.dr_take 11 [12, 15, 16, 17, 18, 19] rfl (by kernel_rfl) rfl rfl rfl (q_field Try.fo62_2 rfl) Sub.ent ?_
    refine S.dr_take 12 [15, 16, 17, 18, 19] rfl (by kernel_rfl) rfl rfl rfl (q_load Try.at60 rfl rfl) Sub.ent ?_
    refine S.dr_take 13 [14, 15, 16, 17, 18, 19] rfl (by kernel_rfl) rfl rfl rfl (q_move rfl) Sub.ent ?_
    refine S.dr_take 14 [15, 16, 17, 18, 19] rfl (by kernel_rfl) rfl rfl rfl (q_add rfl rfl (inI64 (by omega) (by omega))) Sub.ent ?_
    refine S.dr_take 15 [16, 17, 18, 19] rfl (by kernel_rfl) rfl rfl rfl (q_sliceFrom (i + 1) Try.el60 rfl rfl rfl (by omega)) Sub.ent ?_
    refine S.dr_1 (i := 1) (by kernel_rfl) rfl rfl ?_
    refine  (S.buildSlice0 Try.underlying60 Try.inf59 rfl ?_)
    intro b23 hb23
    refine S.dr_k rfl Sub.ent ?_
    refine S.dr_1 (i := 8) (by kernel_rfl) rfl rfl ?_
    refine  (S.appendOw (s := b23) (i) ((os.take i).flatMap fltC) Try.underlying60 Try.inf59 rfl rfl rfl (fun w hs => own_take (HasOw.slAt inferInstance hs) (by omega)) (rAllOne _) (⟨by omega, by omega⟩) rfl ?_)
    intro s1 hs1
    rw [List.nil_append]
    refine S.dr_k rfl Sub.ent ?_
    refine S.dr_1 (i := 16) (by kernel_rfl) rfl rfl ?_
    refine  (S.appendOw (s := s1) (lv.n - (i + 1)) ((os.drop (i + 1)).flatMap fltC) Try.underlying60 Try.inf59 rfl rfl rfl (fun w hs => own_drop (HasOw.slAt inferInstance hs) (by omega)) (rAllOne _) (⟨by omega, by omega⟩) rfl ?_)
    intro lv' hlv'
    refine S.dr_k rfl Sub.ent ?_
    refine S.dr_take 17 [18, 19] rfl (by kernel_rfl) rfl rfl rfl (q_nilCheck rfl) Sub.ent ?_
    refine S.dr_take 18 [19] rfl (by kernel_rfl) rfl rfl rfl (q_field Try.fo62_2 rfl) Sub.ent ?_
    refine S.dr_1 (i := 19) (by kernel_rfl) rfl rfl ?_
    refine  (S.store (cs' := [_, _, _]) Try.at60 rfl rfl rfl rfl rfl ?_)
    refine S.dr_late ([]) [] rfl ?_
    first | with_reducible refine S.dr_doneK (by kernel_rfl) ?_ | refine S.dr_done (by kernel_rfl) ?_
    refine hK6 _ _ ?_
    refine S.seq fun K7 hK7 => ?_
    refine S.region rfl ?_
    refine S.op (S.q (q_loadS [_, _] Try.ag34 rfl rfl ⟨rfl, rfl, trivial⟩) rfl rfl ?_)
    refine S.op (S.storeS (cs' := [_, _]) Try.ag34 rfl rfl rfl rfl rfl rfl ?_)
    refine S.op (S.q (q_assign rfl) rfl rfl ?_)
    first | with_reducible refine S.nilK ?_ | refine S.nil ?_
    refine hK7 _ _ ?_
    refine S.ret ?_
    with_reducible repeat (first | refine S.then_n ?_ | refine S.then_x ?_ | refine S.then_r ?_ | refine S.inBlock_n ?_ | refine S.inBlock_r ?_ | refine S.inBlock_x rfl ?_ | refine S.noGoto_r ?_ | refine S.noGoto_n ?_ | refine S.noGoto_x ?_)
    rw [← List.flatMap_append, ← List.eraseIdx_eq_take_drop_succ]
    refine S.conv (alls os fltB) (flt_out hx _) ?_
    exact S.fin (rs := [_, _]) (vs := [_, _]) Try.results18 (⟨⟨_, _, rfl, lod_agg [_, _] Try.ag34 rfl ⟨rfl, rfl, trivial⟩⟩, rfl, trivial⟩)  (⟨lv', rfl, by rw [List.length_eraseIdx, if_pos hl]; omega, rfl⟩) Sub.ent
theorem rLandNo_S (t : Nat) (n q : Int) (lv : SV) (os : List Flt) (hn : lv.n = os.length) (hm : os.length ≤ 2048) (y : Int) (hi : idx y (os.map fl) = none) :
    Spec Try.prog 18 [.pointer (some ⟨t, 0, none⟩), .int .u64 y] [blk t 62 (refC n q lv).toArray, own lv 59 3 (os.flatMap fltC)] fun Γ v Θ =>
      v = .tuple #[.agg #[.int .i64 0, SV.nil.v], .int .i64 6] ∧ Θ = blk t 62 (refC n q lv).toArray :: own lv 59 3 (os.flatMap fltC) :: Γ := by
  refine Spec.of_body Try.func18 rfl Try.ntmps18 rfl ?_
  intro w0 Γ
  show S _ w0 [(0, .pointer (some ⟨t, 0, none⟩)), (1, .int .u64 y)] (blk t 62 (refC n q lv).toArray :: own lv 59 3 (os.flatMap fltC) :: Γ) _
  refine S.seq fun K1 hK1 => ?_
  refine S.region rfl ?_
  refine S.op (S.alloc Try.z34 rfl ?_)
  intro b4
  refine S.op (S.q (q_assign rfl) rfl rfl ?_)
  first | with_reducible refine S.nilK ?_ | refine S.nil ?_
  refine hK1 _ _ ?_
  refine S.seq fun K2 hK2 => ?_
  refine S.region rfl ?_
  refine S.op (S.q (q_move rfl) rfl rfl ?_)
  refine S.op (S.q (q_move rfl) rfl rfl ?_)
  refine S.op (S.call Try.en20 (vs := [_, _]) ⟨rfl, rfl, trivial⟩ (rFind_S t n q lv os hn hm y) rfl ?_)
  rintro v Θ ⟨rfl, rfl⟩
  rw [show findR y (some (q, os.map fl)) = -1 by simp only [findR, hi]]
  refine S.op (S.q (q_assign rfl) rfl rfl ?_)
  first | with_reducible refine S.nilK ?_ | refine S.nil ?_
  refine hK2 _ _ ?_
  refine S.seq fun K3 hK3 => ?_
  refine S.seq fun K4 hK4 => ?_
  refine S.region rfl ?_
  refine S.op (S.q (q_move rfl) rfl rfl ?_)
  refine S.op (S.q (q_lt rfl rfl) rfl rfl ?_)
  first | with_reducible refine S.nilK ?_ | refine S.nil ?_
  refine hK4 _ _ ?_
  refine S.condD rfl (fun h1 => ?_) (fun h1 => ?_)
  · refine S.seq fun K5 hK5 => ?_
    refine S.region rfl ?_
    refine S.op (S.q (q_build (pvs := []) [_, _] Try.z34 Try.p34 trivial rfl) rfl rfl ?_)
    refine S.op (S.storeS (cs' := [_, _]) Try.ag34 rfl rfl rfl rfl rfl rfl ?_)
    refine S.op (S.q (q_assign rfl) rfl rfl ?_)
    first | with_reducible refine S.nilK ?_ | refine S.nil ?_
    refine hK5 _ _ ?_
    refine S.ret ?_
    with_reducible repeat (first | refine S.then_n ?_ | refine S.then_x ?_ | refine S.then_r ?_ | refine S.inBlock_n ?_ | refine S.inBlock_r ?_ | refine S.inBlock_x rfl ?_ | refine S.noGoto_r ?_ | refine S.noGoto_n ?_ | refine S.noGoto_x ?_)
    exact S.fin (rs := [_, _]) (vs := [_, _]) Try.results18 (⟨⟨_, _, rfl, lod_agg [_, _] Try.ag34 rfl ⟨rfl, rfl, trivial⟩⟩, rfl, trivial⟩)  (⟨rfl, rfl⟩) Sub.ent
  · exact absurd (by omega) h1
theorem rLandNil_S (y : Int) :
    Spec Try.prog 18 [.pointer none, .int .u64 y] [] fun Γ v Θ => v = .tuple #[.agg #[.int .i64 0, SV.nil.v], .int .i64 6] ∧ Θ = Γ := by
  refine Spec.of_body Try.func18 rfl Try.ntmps18 rfl ?_
  intro w0 Γ
  show S _ w0 [(0, .pointer none), (1, .int .u64 y)] Γ _
  refine S.seq fun K1 hK1 => ?_
  refine S.region rfl ?_
  refine S.op (S.alloc Try.z34 rfl ?_)
  intro b4
  refine S.op (S.q (q_assign rfl) rfl rfl ?_)
  first | with_reducible refine S.nilK ?_ | refine S.nil ?_
  refine hK1 _ _ ?_
  refine S.seq fun K2 hK2 => ?_
  refine S.region rfl ?_
  refine S.op (S.q (q_move rfl) rfl rfl ?_)
  refine S.op (S.q (q_move rfl) rfl rfl ?_)
  refine S.op (S.call Try.en20 (vs := [_, _]) ⟨rfl, rfl, trivial⟩ (rFindNil_S y) rfl ?_)
  rintro v Θ ⟨rfl, rfl⟩
  refine S.op (S.q (q_assign rfl) rfl rfl ?_)
  first | with_reducible refine S.nilK ?_ | refine S.nil ?_
  refine hK2 _ _ ?_
  refine S.seq fun K3 hK3 => ?_
  refine S.seq fun K4 hK4 => ?_
  refine S.region rfl ?_
  refine S.op (S.q (q_move rfl) rfl rfl ?_)
  refine S.op (S.q (q_lt rfl rfl) rfl rfl ?_)
  first | with_reducible refine S.nilK ?_ | refine S.nil ?_
  refine hK4 _ _ ?_
  refine S.condD rfl (fun h1 => ?_) (fun h1 => ?_)
  · refine S.seq fun K5 hK5 => ?_
    refine S.region rfl ?_
    refine S.op (S.q (q_build (pvs := []) [_, _] Try.z34 Try.p34 trivial rfl) rfl rfl ?_)
    refine S.op (S.storeS (cs' := [_, _]) Try.ag34 rfl rfl rfl rfl rfl rfl ?_)
    refine S.op (S.q (q_assign rfl) rfl rfl ?_)
    first | with_reducible refine S.nilK ?_ | refine S.nil ?_
    refine hK5 _ _ ?_
    refine S.ret ?_
    with_reducible repeat (first | refine S.then_n ?_ | refine S.then_x ?_ | refine S.then_r ?_ | refine S.inBlock_n ?_ | refine S.inBlock_r ?_ | refine S.inBlock_x rfl ?_ | refine S.noGoto_r ?_ | refine S.noGoto_n ?_ | refine S.noGoto_x ?_)
    exact S.fin (rs := [_, _]) (vs := [_, _]) Try.results18 (⟨⟨_, _, rfl, lod_agg [_, _] Try.ag34 rfl ⟨rfl, rfl, trivial⟩⟩, rfl, trivial⟩)  (⟨rfl, rfl⟩) Sub.ent
  · exact absurd (by omega) h1
end Go.Proofs.Ythbckdjncmipeaa
