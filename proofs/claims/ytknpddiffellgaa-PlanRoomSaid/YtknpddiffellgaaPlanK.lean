/- The document's example; what the laws are handed. -/
import Derived.Test.YtknpddiffellgaaPlanJ
import Derived.Test.YtknpddiffellgaaLaw
namespace Go.Proofs.Ytknpddiffellgaa
open Go.RowKit
set_option maxRecDepth 20000
set_option linter.unusedVariables false
theorem two_map {os : List SR} {x y : St} (h : os.map SR.x = [x, y]) : ∃ v w, os = [⟨v, x⟩, ⟨w, y⟩] := by
  match os, h with
  | [⟨v, a⟩, ⟨w, b⟩], h =>
    simp only [List.map_cons, List.map_nil, List.cons.injEq, and_true] at h
    exact ⟨v, w, by rw [h.1, h.2]⟩
abbrev rowA (b : Nat) : Assn := blk b 3 #[.int .i64 5, .int .i64 5, .int .i64 0]
abbrev topA (b c : Nat) : Assn := blk c 25 #[.slice (some ⟨b, 0, none⟩) 3 3]
theorem rdA (b c : Nat) : RdP (stars [topA b c, rowA b]) ⟨some ⟨c, 0, none⟩, 1, 1⟩ [⟨⟨some ⟨b, 0, none⟩, 3, 3⟩, [5, 5, 0]⟩] := by
  refine ⟨fun Γ w hs => ?_, fun {i r} hr Γ w hs => ?_⟩
  · have h1 : Sat w (topA b c :: rowA b :: Γ) := hs.ent (Ent.unpack [topA b c, rowA b] Γ)
    exact blk_slAt (b := c) (cs := [.slice (some ⟨b, 0, none⟩) 3 3]) (m := 1) (sz := 1) rfl (by unfold maxLen; omega) w h1
  · have h1 : Sat w (topA b c :: rowA b :: Γ) := hs.ent (Ent.unpack [topA b c, rowA b] Γ)
    have hi : i < 1 := (List.getElem?_eq_some_iff.1 hr).1
    obtain rfl : i = 0 := by omega
    cases hr
    exact blk_slAt (b := b) (cs := [.int .i64 5, .int .i64 5, .int .i64 0]) (m := 3) (sz := 1) rfl (by unfold maxLen; omega) w h1
theorem ex_plan : planR [[5, 5, 0]] [⟨2, 4⟩, ⟨1, 5⟩] = [⟨5, 0, [0, 2], true⟩, ⟨5, 0, [1], true⟩] := by decide
theorem ex_now : nowR [[5, 5, 0]] [⟨1, 5⟩, ⟨2, 4⟩] = [0] := by decide
theorem ex_sml : Sml [[5, 5, 0]] := ⟨by simp, fun r hr => by simp only [List.mem_cons, List.not_mem_nil, or_false] at hr; subst hr; simp⟩
set_option maxHeartbeats 2000000 in
theorem awake_P (W : World) : PureS Try.prog 11 [] W (.bool true) := by
  refine Spec.of_body Try.func11 rfl Try.ntmps11 rfl ?_
  intro w0 Γ
  show S _ w0 [] (old W :: Γ) _
  refine S.seq fun K1 hK1 => ?_
  refine S.region rfl ?_
  refine S.op (S.q (q_assign rfl) rfl rfl ?_)
  first | with_reducible refine S.nilK ?_ | refine S.nil ?_
  refine hK1 _ _ ?_
  refine S.seq fun K2 hK2 => ?_
  refine S.region rfl ?_
  refine S.op (S.buildSlice (pvs := [(_, _), (_, _), (_, _)]) [_, _, _] Try.underlying25 Try.inf3 rfl rfl ⟨⟨rfl, rfl⟩, ⟨rfl, rfl⟩, ⟨rfl, rfl⟩, trivial⟩ rfl rfl ?_)
  intro b4
  refine S.op (S.buildSlice (pvs := [(_, _)]) [_] Try.underlying29 Try.inf25 rfl rfl ⟨⟨rfl, rfl⟩, trivial⟩ rfl rfl ?_)
  intro b5
  refine S.op (S.q (q_assign rfl) rfl rfl ?_)
  first | with_reducible refine S.nilK ?_ | refine S.nil ?_
  refine hK2 _ _ ?_
  refine S.seq fun K3 hK3 => ?_
  refine S.region rfl ?_
  refine S.conv2 (topA b4 b5) (rowA b4) (Ent.pack [topA b4 b5, rowA b4] _) ?_
  refine S.op (S.q (q_move rfl) rfl rfl ?_)
  refine S.op (S.q (q_build (pvs := [(_, _), (_, _)]) [_, _] Try.z34 Try.p34 ⟨⟨rfl, rfl⟩, ⟨rfl, rfl⟩, trivial⟩ rfl) rfl rfl ?_)
  refine S.op (S.q (q_build (pvs := [(_, _), (_, _)]) [_, _] Try.z34 Try.p34 ⟨⟨rfl, rfl⟩, ⟨rfl, rfl⟩, trivial⟩ rfl) rfl rfl ?_)
  refine S.op (S.buildSlice (pvs := [(_, _), (_, _)]) [_, _, _, _] Try.underlying42 Try.inf34 rfl rfl ⟨⟨rfl, rfl⟩, ⟨rfl, rfl⟩, trivial⟩ rfl rfl ?_)
  intro b9
  refine S.op (S.call Try.en21 (vs := [_, _]) ⟨rfl, rfl, trivial⟩ (Plan_S (stars [topA b4 b5, rowA b4]) (blk b9 34 #[.int .i64 2, .int .i64 4, .int .i64 1, .int .i64 5]) ⟨some ⟨b5, 0, none⟩, 1, 1⟩ [⟨⟨some ⟨b4, 0, none⟩, 3, 3⟩, [5, 5, 0]⟩] ⟨some ⟨b9, 0, none⟩, 2, 2⟩ [⟨2, 4⟩, ⟨1, 5⟩] ex_sml (by simp) (rdA b4 b5) (fun Γ w hs => blk_slAt (b := b9) (cs := [.int .i64 2, .int .i64 4, .int .i64 1, .int .i64 5]) (m := 2) (sz := 2) rfl (by unfold maxLen; omega) w hs)) rfl ?_)
  rintro v Θ ⟨ua, oa, rfl, hoa, rfl⟩
  obtain ⟨va, vb, rfl⟩ := two_map (hoa.trans ex_plan)
  refine S.op (S.q (q_assign rfl) rfl rfl ?_)
  first | with_reducible refine S.nilK ?_ | refine S.nil ?_
  refine hK3 _ _ ?_
  refine S.seq fun K4 hK4 => ?_
  refine S.region rfl ?_
  refine S.op (S.q (q_move rfl) rfl rfl ?_)
  refine S.op (S.q (q_build (pvs := [(_, _), (_, _)]) [_, _] Try.z34 Try.p34 ⟨⟨rfl, rfl⟩, ⟨rfl, rfl⟩, trivial⟩ rfl) rfl rfl ?_)
  refine S.op (S.q (q_build (pvs := [(_, _), (_, _)]) [_, _] Try.z34 Try.p34 ⟨⟨rfl, rfl⟩, ⟨rfl, rfl⟩, trivial⟩ rfl) rfl rfl ?_)
  refine S.op (S.buildSlice (pvs := [(_, _), (_, _)]) [_, _, _, _] Try.underlying42 Try.inf34 rfl rfl ⟨⟨rfl, rfl⟩, ⟨rfl, rfl⟩, trivial⟩ rfl rfl ?_)
  intro b14
  refine S.op (S.call Try.en23 (vs := [_, _]) ⟨rfl, rfl, trivial⟩ (Now_S (stars [topA b4 b5, rowA b4]) (blk b14 34 #[.int .i64 1, .int .i64 5, .int .i64 2, .int .i64 4]) ⟨some ⟨b5, 0, none⟩, 1, 1⟩ [⟨⟨some ⟨b4, 0, none⟩, 3, 3⟩, [5, 5, 0]⟩] ⟨some ⟨b14, 0, none⟩, 2, 2⟩ [⟨1, 5⟩, ⟨2, 4⟩] ex_sml (by simp) (rdA b4 b5) (fun Γ w hs => blk_slAt (b := b14) (cs := [.int .i64 1, .int .i64 5, .int .i64 2, .int .i64 4]) (m := 2) (sz := 2) rfl (by unfold maxLen; omega) w hs)) rfl ?_)
  rintro v Θ ⟨ub, rfl, rfl⟩
  rw [show nowR (dat [⟨⟨some ⟨b4, 0, none⟩, 3, 3⟩, [5, 5, 0]⟩]) [⟨1, 5⟩, ⟨2, 4⟩] = [0] from ex_now]
  refine S.conv (alls [SR.mk va ⟨5, 0, [0, 2], true⟩, SR.mk vb ⟨5, 0, [1], true⟩] srB) (Ent.allsUncons srB _ _ _) ?_
  refine S.rCap (rdOwnS (u := ua) (e := 32) (os := [SR.mk va ⟨5, 0, [0, 2], true⟩, SR.mk vb ⟨5, 0, [1], true⟩])) fun hua _ _ => ?_
  refine S.rCap (rdOwnI (u := ub) (e := 3) (l := [0])) fun hub _ _ => ?_
  refine S.rCap (rdOwnI (u := va) (e := 3) (l := [0, 2])) fun hva _ _ => ?_
  simp only [List.length_cons, List.length_nil] at hua hub hva
  refine S.ownSome ua (by omega) fun bA oA hbA _ _ _ => ?_
  refine S.ownSome ub (by omega) fun bB oB hbB _ _ _ => ?_
  refine S.ownSome va (by omega) fun bC oC hbC _ _ _ => ?_
  refine S.op (S.q (q_assign rfl) rfl rfl ?_)
  first | with_reducible refine S.nilK ?_ | refine S.nil ?_
  refine hK4 _ _ ?_
  refine S.seq fun K5 hK5 => ?_
  refine S.regionG ?_
  refine S.g_op rfl (S.q (q_move rfl) rfl rfl ?_)
  refine S.g_op rfl (S.q (q_len Try.underlying45 rfl) rfl rfl ?_)
  refine S.g_op rfl (S.q (q_eq rfl rfl) rfl rfl ?_)
  refine S.g_op rfl (S.q (q_move rfl) rfl rfl ?_)
  refine S.g_yes rfl rfl rfl (decide_eq_true (show ((ua.n : Nat) : Int) = 2 by omega)) (S.q (q_move rfl) rfl rfl ?_)
  refine S.g_yes rfl rfl rfl (decide_eq_true (show ((ua.n : Nat) : Int) = 2 by omega)) (S.q (q_indexO (0) Try.el45 rfl hbA rfl rfl (by omega)) rfl rfl ?_)
  refine S.g_yes rfl rfl rfl (decide_eq_true (show ((ua.n : Nat) : Int) = 2 by omega)) (S.q (q_field Try.fo32_0 rfl) rfl rfl ?_)
  refine S.g_yes rfl rfl rfl (decide_eq_true (show ((ua.n : Nat) : Int) = 2 by omega)) (S.q (q_loadOw (ua) (0) Try.at3 rfl hbA (by first | rfl | exact Nat.add_assoc _ _ _ | omega) (rfl)) rfl rfl ?_)
  refine S.g_yes rfl rfl rfl (decide_eq_true (show ((ua.n : Nat) : Int) = 2 by omega)) (S.q (q_eq rfl rfl) rfl rfl ?_)
  refine S.g_op rfl (S.q (q_pickT rfl (decide_eq_true (show ((ua.n : Nat) : Int) = 2 by omega)) rfl) rfl rfl ?_)
  refine S.g_op rfl (S.q (q_move rfl) rfl rfl ?_)
  refine S.g_yes rfl rfl rfl (decide_eq_true rfl) (S.q (q_move rfl) rfl rfl ?_)
  refine S.g_yes rfl rfl rfl (decide_eq_true rfl) (S.q (q_indexO (0) Try.el45 rfl hbA rfl rfl (by omega)) rfl rfl ?_)
  refine S.g_yes rfl rfl rfl (decide_eq_true rfl) (S.q (q_field Try.fo32_2 rfl) rfl rfl ?_)
  refine S.g_yes rfl rfl rfl (decide_eq_true rfl) (S.q (q_loadOw (ua) (2) Try.at25 rfl hbA (by first | rfl | exact Nat.add_assoc _ _ _ | omega) (rfl)) rfl rfl ?_)
  refine S.g_yes rfl rfl rfl (decide_eq_true rfl) (S.q (q_len Try.underlying25 rfl) rfl rfl ?_)
  refine S.g_yes rfl rfl rfl (decide_eq_true rfl) (S.q (q_eq rfl rfl) rfl rfl ?_)
  refine S.g_op rfl (S.q (q_pickT rfl (decide_eq_true rfl) rfl) rfl rfl ?_)
  refine S.g_op rfl (S.q (q_move rfl) rfl rfl ?_)
  refine S.g_yes rfl rfl rfl (decide_eq_true (show ((va.n : Nat) : Int) = 2 by omega)) (S.q (q_move rfl) rfl rfl ?_)
  refine S.g_yes rfl rfl rfl (decide_eq_true (show ((va.n : Nat) : Int) = 2 by omega)) (S.q (q_indexO (0) Try.el45 rfl hbA rfl rfl (by omega)) rfl rfl ?_)
  refine S.g_yes rfl rfl rfl (decide_eq_true (show ((va.n : Nat) : Int) = 2 by omega)) (S.q (q_field Try.fo32_2 rfl) rfl rfl ?_)
  refine S.g_yes rfl rfl rfl (decide_eq_true (show ((va.n : Nat) : Int) = 2 by omega)) (S.q (q_loadOw (ua) (2) Try.at25 rfl hbA (by first | rfl | exact Nat.add_assoc _ _ _ | omega) (rfl)) rfl rfl ?_)
  refine S.g_yes rfl rfl rfl (decide_eq_true (show ((va.n : Nat) : Int) = 2 by omega)) (S.q (q_indexO (1) Try.el25 rfl hbC rfl rfl ((show 1 < va.n by omega))) rfl rfl ?_)
  refine S.g_yes rfl rfl rfl (decide_eq_true (show ((va.n : Nat) : Int) = 2 by omega)) (S.q (q_loadOw (va) (1) Try.at3 rfl hbC (by first | rfl | exact Nat.add_assoc _ _ _ | omega) (rfl)) rfl rfl ?_)
  refine S.g_yes rfl rfl rfl (decide_eq_true (show ((va.n : Nat) : Int) = 2 by omega)) (S.q (q_eq rfl rfl) rfl rfl ?_)
  refine S.g_op rfl (S.q (q_pickT rfl (decide_eq_true (show ((va.n : Nat) : Int) = 2 by omega)) rfl) rfl rfl ?_)
  refine S.g_op rfl (S.q (q_move rfl) rfl rfl ?_)
  refine S.g_yes rfl rfl rfl (decide_eq_true rfl) (S.q (q_move rfl) rfl rfl ?_)
  refine S.g_yes rfl rfl rfl (decide_eq_true rfl) (S.q (q_indexO (1) Try.el45 rfl hbA rfl rfl (by omega)) rfl rfl ?_)
  refine S.g_yes rfl rfl rfl (decide_eq_true rfl) (S.q (q_field Try.fo32_0 rfl) rfl rfl ?_)
  refine S.g_yes rfl rfl rfl (decide_eq_true rfl) (S.q (q_loadOw (ua) (4) Try.at3 rfl hbA (by first | rfl | exact Nat.add_assoc _ _ _ | omega) (rfl)) rfl rfl ?_)
  refine S.g_yes rfl rfl rfl (decide_eq_true rfl) (S.q (q_eq rfl rfl) rfl rfl ?_)
  refine S.g_op rfl (S.q (q_pickT rfl (decide_eq_true rfl) rfl) rfl rfl ?_)
  refine S.g_op rfl (S.q (q_move rfl) rfl rfl ?_)
  refine S.g_yes rfl rfl rfl (decide_eq_true rfl) (S.q (q_move rfl) rfl rfl ?_)
  refine S.g_yes rfl rfl rfl (decide_eq_true rfl) (S.q (q_len Try.underlying25 rfl) rfl rfl ?_)
  refine S.g_yes rfl rfl rfl (decide_eq_true rfl) (S.q (q_eq rfl rfl) rfl rfl ?_)
  refine S.g_op rfl (S.q (q_pickT rfl (decide_eq_true rfl) rfl) rfl rfl ?_)
  refine S.g_op rfl (S.q (q_move rfl) rfl rfl ?_)
  refine S.g_yes rfl rfl rfl (decide_eq_true (show ((ub.n : Nat) : Int) = 1 by omega)) (S.q (q_move rfl) rfl rfl ?_)
  refine S.g_yes rfl rfl rfl (decide_eq_true (show ((ub.n : Nat) : Int) = 1 by omega)) (S.q (q_indexO (0) Try.el25 rfl hbB rfl rfl (by omega)) rfl rfl ?_)
  refine S.g_yes rfl rfl rfl (decide_eq_true (show ((ub.n : Nat) : Int) = 1 by omega)) (S.q (q_loadOw (ub) (0) Try.at3 rfl hbB (by first | rfl | exact Nat.add_assoc _ _ _ | omega) (rfl)) rfl rfl ?_)
  refine S.g_yes rfl rfl rfl (decide_eq_true (show ((ub.n : Nat) : Int) = 1 by omega)) (S.q (q_eq rfl rfl) rfl rfl ?_)
  refine S.g_op rfl (S.q (q_pickT rfl (decide_eq_true (show ((ub.n : Nat) : Int) = 1 by omega)) rfl) rfl rfl ?_)
  refine S.g_op rfl (S.q (q_assign rfl) rfl rfl ?_)
  first | with_reducible refine S.g_nilK ?_ | refine S.g_nil ?_
  refine hK5 _ _ ?_
  refine S.ret ?_
  with_reducible repeat (first | refine S.then_n ?_ | refine S.then_x ?_ | refine S.then_r ?_ | refine S.inBlock_n ?_ | refine S.inBlock_r ?_ | refine S.inBlock_x rfl ?_ | refine S.noGoto_r ?_ | refine S.noGoto_n ?_ | refine S.noGoto_x ?_)
  exact S.fin (rs := [_]) (vs := [_]) Try.results11 (⟨rfl, trivial⟩)  (⟨rfl, rfl⟩) Sub.ent
abbrev tsInts : TS := .slice 1 (.int .i64)
theorem rd_ints {W : World} {cs : List Value} (h : Rd W tsInts cs) : ∃ (s : SV) (l : List Int), cs = [s.v] ∧ SlAt W s.v l.length 1 (ints l) := by
  obtain ⟨s, l, h1, h2, h3, h4, _⟩ := rd_slice (α := Int) (encA := fun x => [Value.int .i64 x]) (p := fun _ => True) (fun cs hr _ => by obtain ⟨n, rfl, hw⟩ := hr; exact ⟨n, rfl, trivial⟩) h (by omega)
  refine ⟨s, l, h1, ?_⟩
  rw [ints_flat]
  exact h3
theorem rd_prof {W : World} {cs : List Value} (h : Rd W (.slice 1 tsInts) cs) : ∃ (s : SV) (rs : List RW), cs = [s.v] ∧ RdP (old W) s rs := by
  obtain ⟨s, rs, h1, h2, h3, h4, _⟩ := rd_slice (α := RW) (encA := rwC) (p := fun r => SlAt W r.v.v r.d.length 1 (ints r.d)) (fun cs hr _ => by obtain ⟨s, l, h1, h2⟩ := rd_ints hr; exact ⟨⟨s, l⟩, h1, h2⟩) h (by omega)
  exact ⟨s, rs, h1, RdS.old h3, fun hr => RdS.old (h4 _ (List.mem_of_getElem? hr))⟩
abbrev tsAsk : TS := .cat 1 (.int .i64) (.cat 1 (.int .i64) .nil)
theorem rd_ask {W : World} {cs : List Value} (h : Rd W tsAsk cs) : ∃ a : Ak, cs = akC a ∧ (-9223372036854775808 ≤ a.k ∧ a.k ≤ 9223372036854775807) := by
  obtain ⟨_, _, rfl, _, ⟨k, rfl, hk⟩, _, _, rfl, _, ⟨l, rfl, _⟩, rfl⟩ := h
  exact ⟨⟨k, l⟩, rfl, i64_rng hk⟩
theorem rd_asks {W : World} {cs : List Value} (h : Rd W (.slice 2 tsAsk) cs) : ∃ (s : SV) (al : List Ak), cs = [s.v] ∧ RdS (old W) s al.length 2 (al.flatMap akC) := by
  obtain ⟨s, al, h1, h2, h3, h4, _⟩ := rd_slice (α := Ak) (encA := akC) (p := fun _ => True) (fun cs hr _ => by obtain ⟨a, h1, _⟩ := rd_ask hr; exact ⟨a, h1, trivial⟩) h (by omega)
  exact ⟨s, al, h1, RdS.old h3⟩
abbrev tsStart : TS := .cat 1 (.int .i64) (.cat 1 (.int .i64) (.cat 1 tsInts (.cat 1 .bool .nil)))
theorem rd_start {W : World} {cs : List Value} (h : Rd W tsStart cs) : ∃ (u : SV) (x : St), cs = stC u x ∧ RdS (old W) u x.nodes.length 1 (ints x.nodes) := by
  obtain ⟨_, _, rfl, _, ⟨a, rfl, _⟩, _, _, rfl, _, ⟨r, rfl, _⟩, _, _, rfl, _, hn, _, _, rfl, _, ⟨ok, rfl⟩, rfl⟩ := h
  obtain ⟨u, l, rfl, h1⟩ := rd_ints hn
  exact ⟨u, ⟨a, r, l, ok⟩, rfl, RdS.old h1⟩
end Go.Proofs.Ytknpddiffellgaa
