/- The document's example; reading of arguments. -/
import Derived.Test.YthpfljiabhjodaaPrioH
namespace Go.Proofs.Ythpfljiabhjodaa
open Go.RowKit
set_option maxRecDepth 20000
abbrev its : List It := [⟨1, 0, 0⟩, ⟨2, 3, 0⟩, ⟨3, 3, 0⟩]
def stA (k : Nat) : HSt := (its.take k).foldl (fun s x => (pushR x s).2) (some [])
theorem stA_step {k : Nat} {x : It} (hx : its[k]? = some x) : (pushR x (stA k)).1 = 0 ∧ (pushR x (stA k)).2 = stA (k + 1) ∧ lenR (stA k) ≤ 999 := by
  have hk := (List.getElem?_eq_some_iff.1 hx).1
  simp only [List.length_cons, List.length_nil] at hk
  rcases (show k = 0 ∨ k = 1 ∨ k = 2 by omega) with rfl | rfl | rfl <;> (cases hx; decide)
theorem awake_S : Spec Try.prog 8 [] [] fun Γ v Θ => v = .bool true ∧ Θ = Γ := by
  refine Spec.of_body Try.func8 rfl Try.ntmps8 rfl ?_
  intro w0 Γ
  show S _ w0 [] Γ _
  refine S.seq fun K1 hK1 => ?_
  refine S.region rfl ?_
  refine S.op (S.q (q_assign rfl) rfl rfl ?_)
  first | with_reducible refine S.nilK ?_ | refine S.nil ?_
  refine hK1 _ _ ?_
  refine S.seq fun K2 hK2 => ?_
  refine S.region rfl ?_
  refine S.op (S.call Try.en11 (vs := []) trivial (HNew_S) rfl ?_)
  rintro v Θ ⟨pa, rfl, rfl⟩
  refine S.op (S.q (q_assign rfl) rfl rfl ?_)
  first | with_reducible refine S.nilK ?_ | refine S.nil ?_
  refine hK2 _ _ ?_
  refine S.seq fun K3 hK3 => ?_
  refine S.seq fun K4 hK4 => ?_
  refine S.region rfl ?_
  refine S.op (S.q (q_build (pvs := [(_, _)]) [_, _, _] Try.z25 Try.p25 ⟨⟨rfl, rfl⟩, trivial⟩ rfl) rfl rfl ?_)
  refine S.op (S.q (q_build (pvs := [(_, _), (_, _)]) [_, _, _] Try.z25 Try.p25 ⟨⟨rfl, rfl⟩, ⟨rfl, rfl⟩, trivial⟩ rfl) rfl rfl ?_)
  refine S.op (S.q (q_build (pvs := [(_, _), (_, _)]) [_, _, _] Try.z25 Try.p25 ⟨⟨rfl, rfl⟩, ⟨rfl, rfl⟩, trivial⟩ rfl) rfl rfl ?_)
  refine S.op (S.buildSlice (pvs := [(_, _), (_, _), (_, _)]) [_, _, _, _, _, _, _, _, _] Try.underlying52 Try.inf25 rfl rfl ⟨⟨rfl, rfl⟩, ⟨rfl, rfl⟩, ⟨rfl, rfl⟩, trivial⟩ rfl rfl ?_)
  intro b14
  refine S.op (S.q (q_len Try.underlying52 rfl) rfl rfl ?_)
  refine S.conv (blk b14 25 #[.int .u32 1, .int .u8 0, .int .u32 0, .int .u32 2, .int .u8 3, .int .u32 0, .int .u32 3, .int .u8 3, .int .u32 0]) (show Ent _ (own ⟨some ⟨b14, 0, none⟩, 3, 3⟩ 25 3 (its.flatMap itC) :: _) from Ent.blkOwn b14 25 3 3 (its.flatMap itC) rfl (by unfold maxLen; omega) _) ?_
  refine S.conv (HI pa (some [])) (show Ent _ (HI pa (stA 0) :: _) from Ent.refl _) ?_
  refine S.op (S.q (q_move rfl) rfl rfl ?_)
  first | with_reducible refine S.nilK ?_ | refine S.nil ?_
  refine hK4 _ _ ?_
  refine S.block ?_
  refine S.loop (fun m ρ' Γ' => ∃ k : Nat, m + k = 3 ∧ ρ' = [(1, .pointer pa), (14, .slice (some ⟨b14, 0, none⟩) 3 3), (15, .int .i64 3), (16, .int .i64 k)] ∧ Γ' = HI pa (stA k) :: own ⟨some ⟨b14, 0, none⟩, 3, 3⟩ 25 3 (its.flatMap itC) :: Γ) (m := _) (ρ0 := _) (Γ0 := _) (⟨0, rfl, rfl, rfl⟩) (by repeat (first | exact trivial | refine ⟨rfl, ?_⟩)) Sub.ent ?_
  rintro m ρ' Γ' ⟨k, hmk, rfl, rfl⟩
  refine S.seq fun K5 hK5 => ?_
  refine S.region rfl ?_
  refine S.op (S.q (q_lt rfl rfl) rfl rfl ?_)
  first | with_reducible refine S.nilK ?_ | refine S.nil ?_
  refine hK5 _ _ ?_
  refine S.seq fun K6 hK6 => ?_
  refine S.condD rfl (fun h1 => ?_) (fun h1 => ?_)
  · obtain ⟨x, hx⟩ := getE (l := its) (i := k) (by simp only [List.length_cons, List.length_nil]; omega)
    obtain ⟨hp1, hp2, hp3⟩ := stA_step hx
    refine S.skip ?_
    with_reducible repeat (first | refine S.then_n ?_ | refine S.then_x ?_ | refine S.then_r ?_ | refine S.inBlock_n ?_ | refine S.inBlock_r ?_ | refine S.inBlock_x rfl ?_ | refine S.noGoto_r ?_ | refine S.noGoto_n ?_ | refine S.noGoto_x ?_)
    refine hK6 _ _ ?_
    refine S.seq fun K7 hK7 => ?_
    refine S.block ?_
    refine S.seq fun K8 hK8 => ?_
    refine S.region rfl ?_
    refine S.op (S.q (q_indexO (k) Try.el52 rfl rfl rfl rfl (by show k < 3; omega)) rfl rfl ?_)
    refine S.op (S.q (q_loadOwS (⟨some ⟨b14, 0, none⟩, 3, 3⟩) (k * 3) [_, _, _] Try.ag25 rfl rfl (by first | rfl | exact Nat.add_assoc _ _ _ | omega) rfl (flat_seg (enc := itC) (sz := 3) (fun _ => rfl) hx)) rfl rfl ?_)
    refine S.op (S.alloc Try.z25 rfl ?_)
    intro b3
    refine S.op (S.storeS (cs' := [_, _, _]) Try.ag25 rfl rfl rfl rfl rfl rfl ?_)
    first | with_reducible refine S.nilK ?_ | refine S.nil ?_
    refine hK8 _ _ ?_
    refine S.seq fun K9 hK9 => ?_
    refine S.region rfl ?_
    refine S.op (S.q (q_move rfl) rfl rfl ?_)
    refine S.op (S.q (q_loadS [_, _, _] Try.ag25 rfl rfl ⟨rfl, rfl, rfl, trivial⟩) rfl rfl ?_)
    refine S.op (S.call Try.en12 (vs := [_, _]) ⟨rfl, rfl, trivial⟩ (HPush_S pa (stA k) x hp3) rfl ?_)
    rintro v Θ ⟨rfl, rfl⟩
    rw [hp1, hp2]
    refine S.op (S.q (q_ne rfl rfl) rfl rfl ?_)
    first | with_reducible refine S.nilK ?_ | refine S.nil ?_
    refine hK9 _ _ ?_
    refine S.condF rfl ?_
    refine S.skip ?_
    with_reducible repeat (first | refine S.then_n ?_ | refine S.then_x ?_ | refine S.then_r ?_ | refine S.inBlock_n ?_ | refine S.inBlock_r ?_ | refine S.inBlock_x rfl ?_ | refine S.noGoto_r ?_ | refine S.noGoto_n ?_ | refine S.noGoto_x ?_)
    with_reducible repeat (first | refine S.then_n ?_ | refine S.then_x ?_ | refine S.then_r ?_ | refine S.inBlock_n ?_ | refine S.inBlock_r ?_ | refine S.inBlock_x rfl ?_ | refine S.noGoto_r ?_ | refine S.noGoto_n ?_ | refine S.noGoto_x ?_)
    refine hK7 _ _ ?_
    refine S.region rfl ?_
    refine S.op (S.q (q_add rfl rfl (inI64 (by omega) (by omega))) rfl rfl ?_)
    refine S.op (S.q (q_move rfl) rfl rfl ?_)
    first | with_reducible refine S.nilK ?_ | refine S.nil ?_
    with_reducible repeat (first | refine S.then_n ?_ | refine S.then_x ?_ | refine S.then_r ?_ | refine S.inBlock_n ?_ | refine S.inBlock_r ?_ | refine S.inBlock_x rfl ?_ | refine S.noGoto_r ?_ | refine S.noGoto_n ?_ | refine S.noGoto_x ?_)
    exact S.next (m - 1) (⟨k + 1, by omega, rfl, rfl⟩) (by omega) (by repeat (first | exact trivial | refine ⟨rfl, ?_⟩)) Sub.ent
  · refine S.exit ?_
    with_reducible repeat (first | refine S.then_n ?_ | refine S.then_x ?_ | refine S.then_r ?_ | refine S.inBlock_n ?_ | refine S.inBlock_r ?_ | refine S.inBlock_x rfl ?_ | refine S.noGoto_r ?_ | refine S.noGoto_n ?_ | refine S.noGoto_x ?_)
    with_reducible refine S.inBlock_s ?_
    with_reducible repeat (first | refine S.then_n ?_ | refine S.then_x ?_ | refine S.then_r ?_ | refine S.inBlock_n ?_ | refine S.inBlock_r ?_ | refine S.inBlock_x rfl ?_ | refine S.noGoto_r ?_ | refine S.noGoto_n ?_ | refine S.noGoto_x ?_)
    refine hK3 _ _ ?_
    refine S.seq fun K10 hK10 => ?_
    refine S.region rfl ?_
    obtain rfl : k = 3 := by omega
    refine S.op (S.q (q_move rfl) rfl rfl ?_)
    refine S.op (S.call Try.en13 (vs := [_]) ⟨rfl, trivial⟩ (HPop_S pa (stA 3) (by decide)) rfl ?_)
    rintro v Θ ⟨rfl, rfl⟩
    rw [show popR (stA 3) = (⟨2, 3, 0⟩, true, some [⟨3, 3, 0⟩, ⟨1, 0, 0⟩]) by decide]
    refine S.op (S.q (q_move rfl) rfl rfl ?_)
    refine S.op (S.q (q_extract rfl rfl) rfl rfl ?_)
    refine S.op (S.q (q_extract rfl rfl) rfl rfl ?_)
    refine S.op (S.alloc Try.z25 rfl ?_)
    intro b4
    refine S.op (S.storeS (cs' := [_, _, _]) Try.ag25 rfl rfl rfl rfl rfl rfl ?_)
    refine S.op (S.q (q_assign rfl) rfl rfl ?_)
    first | with_reducible refine S.nilK ?_ | refine S.nil ?_
    refine hK10 _ _ ?_
    refine S.seq fun K11 hK11 => ?_
    refine S.region rfl ?_
    refine S.op (S.q (q_move rfl) rfl rfl ?_)
    refine S.op (S.call Try.en13 (vs := [_]) ⟨rfl, trivial⟩ (HPop_S pa (some [⟨3, 3, 0⟩, ⟨1, 0, 0⟩]) (by decide)) rfl ?_)
    rintro v Θ ⟨rfl, rfl⟩
    rw [show popR (some [⟨3, 3, 0⟩, ⟨1, 0, 0⟩]) = (⟨3, 3, 0⟩, true, some [⟨1, 0, 0⟩]) by decide]
    refine S.op (S.q (q_move rfl) rfl rfl ?_)
    refine S.op (S.q (q_extract rfl rfl) rfl rfl ?_)
    refine S.op (S.q (q_extract rfl rfl) rfl rfl ?_)
    refine S.op (S.alloc Try.z25 rfl ?_)
    intro b6
    refine S.op (S.storeS (cs' := [_, _, _]) Try.ag25 rfl rfl rfl rfl rfl rfl ?_)
    refine S.op (S.q (q_assign rfl) rfl rfl ?_)
    first | with_reducible refine S.nilK ?_ | refine S.nil ?_
    refine hK11 _ _ ?_
    refine S.seq fun K12 hK12 => ?_
    refine S.region rfl ?_
    refine S.op (S.q (q_move rfl) rfl rfl ?_)
    refine S.op (S.call Try.en13 (vs := [_]) ⟨rfl, trivial⟩ (HPop_S pa (some [⟨1, 0, 0⟩]) (by decide)) rfl ?_)
    rintro v Θ ⟨rfl, rfl⟩
    rw [show popR (some [⟨1, 0, 0⟩]) = (⟨1, 0, 0⟩, true, some []) by decide]
    refine S.op (S.q (q_move rfl) rfl rfl ?_)
    refine S.op (S.q (q_extract rfl rfl) rfl rfl ?_)
    refine S.op (S.q (q_extract rfl rfl) rfl rfl ?_)
    refine S.op (S.alloc Try.z25 rfl ?_)
    intro b8
    refine S.op (S.storeS (cs' := [_, _, _]) Try.ag25 rfl rfl rfl rfl rfl rfl ?_)
    refine S.op (S.q (q_assign rfl) rfl rfl ?_)
    first | with_reducible refine S.nilK ?_ | refine S.nil ?_
    refine hK12 _ _ ?_
    refine S.seq fun K13 hK13 => ?_
    refine S.regionG ?_
    refine S.g_op rfl (S.q (q_field Try.fo25_0 rfl) rfl rfl ?_)
    refine S.g_op rfl (S.q (q_load Try.at22 rfl rfl) rfl rfl ?_)
    refine S.g_op rfl (S.q (q_eq rfl rfl) rfl rfl ?_)
    refine S.g_op rfl (S.q (q_move rfl) rfl rfl ?_)
    refine S.g_yes rfl rfl rfl (rfl) (S.q (q_field Try.fo25_0 rfl) rfl rfl ?_)
    refine S.g_yes rfl rfl rfl (rfl) (S.q (q_load Try.at22 rfl rfl) rfl rfl ?_)
    refine S.g_yes rfl rfl rfl (rfl) (S.q (q_eq rfl rfl) rfl rfl ?_)
    refine S.g_op rfl (S.q (q_pickT rfl (rfl) rfl) rfl rfl ?_)
    refine S.g_op rfl (S.q (q_move rfl) rfl rfl ?_)
    refine S.g_yes rfl rfl rfl (rfl) (S.q (q_field Try.fo25_0 rfl) rfl rfl ?_)
    refine S.g_yes rfl rfl rfl (rfl) (S.q (q_load Try.at22 rfl rfl) rfl rfl ?_)
    refine S.g_yes rfl rfl rfl (rfl) (S.q (q_eq rfl rfl) rfl rfl ?_)
    refine S.g_op rfl (S.q (q_pickT rfl (rfl) rfl) rfl rfl ?_)
    refine S.g_op rfl (S.q (q_move rfl) rfl rfl ?_)
    refine S.g_yes rfl rfl rfl (rfl) (S.q (q_move rfl) rfl rfl ?_)
    refine S.g_op rfl (S.q (q_pickT rfl (rfl) rfl) rfl rfl ?_)
    refine S.g_op rfl (S.q (q_move rfl) rfl rfl ?_)
    refine S.g_yes rfl rfl rfl (rfl) (S.q (q_move rfl) rfl rfl ?_)
    refine S.g_yes rfl rfl rfl (rfl) (S.call Try.en14 (vs := [_]) ⟨rfl, trivial⟩ (Len_S pa (some [])) rfl ?_)
    rintro v Θ ⟨rfl, rfl⟩
    refine S.g_yes rfl rfl rfl (rfl) (S.q (q_eq rfl rfl) rfl rfl ?_)
    refine S.g_op rfl (S.q (q_pickT rfl (rfl) rfl) rfl rfl ?_)
    refine S.g_op rfl (S.q (q_assign rfl) rfl rfl ?_)
    first | with_reducible refine S.g_nilK ?_ | refine S.g_nil ?_
    refine hK13 _ _ ?_
    refine S.ret ?_
    with_reducible repeat (first | refine S.then_n ?_ | refine S.then_x ?_ | refine S.then_r ?_ | refine S.inBlock_n ?_ | refine S.inBlock_r ?_ | refine S.inBlock_x rfl ?_ | refine S.noGoto_r ?_ | refine S.noGoto_n ?_ | refine S.noGoto_x ?_)
    exact S.fin (rs := [_]) (vs := [_]) Try.results8 (⟨rfl, trivial⟩)  (⟨rfl, rfl⟩) Sub.ent
theorem rd_item {W : World} {cs : List Value} (h : Rd W (.cat 1 (.int .u32) (.cat 1 (.int .u8) (.cat 1 (.int .u32) .nil))) cs) : ∃ x : It, cs = itC x := by
  obtain ⟨_, _, rfl, _, ⟨a, rfl, _⟩, _, _, rfl, _, ⟨b, rfl, _⟩, _, _, rfl, _, ⟨c, rfl, _⟩, rfl⟩ := h
  exact ⟨⟨a, b, c⟩, rfl⟩
theorem rd_items {W : World} {cs : List Value} (h : Rd W (.slice 3 (.cat 1 (.int .u32) (.cat 1 (.int .u8) (.cat 1 (.int .u32) .nil)))) cs) :
    ∃ (s : SV) (rs : List It), cs = [s.v] ∧ s.n = rs.length ∧ SlAt W s.v rs.length 3 (rs.flatMap itC) := by
  obtain ⟨s, rs, h1, h2, h3, _, _⟩ := rd_slice (α := It) (encA := itC) (p := fun _ => True) (fun cs hr _ => by
    obtain ⟨x, rfl⟩ := rd_item hr
    exact ⟨x, rfl, trivial⟩) h (by omega)
  exact ⟨s, rs, h1, h2, h3⟩
end Go.Proofs.Ythpfljiabhjodaa
