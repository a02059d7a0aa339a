/- Talk's functions, as contracts of the states. -/
import Derived.Test.YtdlddggjjibeaaaFacts
import Derived.Test.YtdlddggjjibeaaaMore
import Derived.Test.YtdlddggjjibeaaaBytes
namespace Go.Proofs.Ytdlddggjjibeaaa
open Go.RowKit
/-- Bytes that are owned. -/
abbrev obytes (s : SV) (l : List Int) : Assn := own s 5 1 (bcells l)
abbrev tk (nd ep lf said hd : Int) (ov : SV) : List Value := [.int .u8 nd, .int .u32 ep, .int .u32 lf, .int .u32 0, .int .u32 0, .bool false, .slice none 0 0, .int .u32 said, ov.v, .int .u32 hd]
theorem New_S (nd ep lf : Int) : Spec Try.prog 10 [.int .u8 nd, .int .u32 ep, .int .u32 lf] [] fun Γ v Θ => ∃ t, v = .pointer (some ⟨t, 0, none⟩) ∧ Θ = blk t 72 (tk nd ep lf 0 0 SV.nil).toArray :: Γ := by
  refine Spec.of_body Try.func10 rfl Try.ntmps10 rfl ?_
  intro w0 Γ
  show S _ w0 [(0, .int .u8 nd), (1, .int .u32 ep), (2, .int .u32 lf)] Γ _
  refine S.seq fun K1 hK1 => ?_
  refine S.region rfl ?_
  refine S.op (S.q (q_assign rfl) rfl rfl ?_)
  first | with_reducible refine S.nilK ?_ | refine S.nil ?_
  refine hK1 _ _ ?_
  refine S.seq fun K2 hK2 => ?_
  refine S.region rfl ?_
  refine S.op (S.q (q_move rfl) rfl rfl ?_)
  refine S.op (S.q (q_move rfl) rfl rfl ?_)
  refine S.op (S.q (q_move rfl) rfl rfl ?_)
  refine S.op (S.q (q_build (pvs := [(_, _), (_, _), (_, _)]) [_, _, _, _, _, _, _] Try.z34 Try.p34 ⟨⟨rfl, rfl⟩, ⟨rfl, rfl⟩, ⟨rfl, rfl⟩, trivial⟩ rfl) rfl rfl ?_)
  refine S.op (S.q (q_build (pvs := [(_, _)]) [_, _, _, _, _, _, _, _, _, _] Try.z72 Try.p72 ⟨⟨rfl, rfl⟩, trivial⟩ rfl) rfl rfl ?_)
  refine S.op (S.box (cs := [_, _, _, _, _, _, _, _, _, _]) rfl rfl rfl ?_)
  intro b12
  refine S.op (S.q (q_assign rfl) rfl rfl ?_)
  first | with_reducible refine S.nilK ?_ | refine S.nil ?_
  refine hK2 _ _ ?_
  refine S.ret ?_
  with_reducible repeat (first | refine S.then_n ?_ | refine S.then_x ?_ | refine S.then_r ?_ | refine S.inBlock_n ?_ | refine S.inBlock_r ?_ | refine S.inBlock_x rfl ?_ | refine S.noGoto_r ?_ | refine S.noGoto_n ?_ | refine S.noGoto_x ?_)
  exact S.fin (rs := [_]) (vs := [_]) Try.results10 (⟨rfl, trivial⟩)  (⟨b12, rfl, rfl⟩) Sub.ent
theorem Clone_S (p : Value) (l : List Int) (R : Assn) (hR : ∀ Γ w, Sat w (R :: Γ) → BytesAt w p l) (hl : l.length ≤ 140737488355328) : Spec Try.prog 29 [p] [R] fun Γ v Θ => ∃ s, v = s.v ∧ s.n = l.length ∧ Θ = obytes s l :: R :: Γ := by
  intro Γ w hs
  refine (Clone_any p l w (hR _ _ hs) hl).mono ?_
  rintro e w' ⟨d, rfl, g, own, hb, hg⟩
  obtain ⟨_, ao, c, rfl, _⟩ := own.sl
  refine ⟨_, _, rfl, ⟨⟨ao, l.length, c⟩, rfl, rfl, rfl⟩, ?_, ⟨hb.os, hb.tape, hb.output, hb.size⟩⟩
  exact hs.addOwn own hb.block hg
theorem packet_S (t : Nat) (nd ep lf said hd sq wt : Int) (ov p : SV) (l : List Int) (R : Assn) (hR : ∀ Γ w, Sat w (R :: Γ) → BytesAt w p.v l) (hl : l.length ≤ 140737488355328) :
    Spec Try.prog 28 [.pointer (some ⟨t, 0, none⟩), .agg #[.int .u32 sq, p.v, .int .i64 wt]] [blk t 72 (tk nd ep lf said hd ov).toArray, R] fun Γ v Θ =>
      ∃ s : SV, v = .agg #[.int .u8 nd, .int .u32 ep, .int .u32 lf, .int .u32 sq, .int .u32 hd, .bool false, s.v] ∧ s.n = l.length ∧ Θ = obytes s l :: blk t 72 (tk nd ep lf said hd ov).toArray :: R :: Γ := by
  refine Spec.of_body Try.func28 rfl Try.ntmps28 rfl ?_
  intro w0 Γ
  show S _ w0 [(0, .pointer (some ⟨t, 0, none⟩)), (1, .agg #[.int .u32 sq, p.v, .int .i64 wt])] (blk t 72 (tk nd ep lf said hd ov).toArray :: R :: Γ) _
  refine S.seq fun K1 hK1 => ?_
  refine S.region rfl ?_
  refine S.op (S.box (cs := [_, _, _]) rfl rfl rfl ?_)
  intro b3
  refine S.op (S.alloc Try.z34 rfl ?_)
  intro b4
  first | with_reducible refine S.nilK ?_ | refine S.nil ?_
  refine hK1 _ _ ?_
  refine S.seq fun K2 hK2 => ?_
  refine S.region rfl ?_
  refine S.op (S.q (q_move rfl) rfl rfl ?_)
  refine S.op (S.q (q_nilCheck rfl) rfl rfl ?_)
  refine S.op (S.q (q_field Try.fo72_0 rfl) rfl rfl ?_)
  refine S.op (S.q (q_loadS [_, _, _, _, _, _, _] Try.ag34 rfl rfl ⟨rfl, rfl, rfl, rfl, rfl, rfl, rfl, trivial⟩) rfl rfl ?_)
  refine S.op (S.alloc Try.z34 rfl ?_)
  intro b5
  refine S.op (S.storeS (cs' := [_, _, _, _, _, _, _]) Try.ag34 rfl rfl rfl rfl rfl rfl ?_)
  first | with_reducible refine S.nilK ?_ | refine S.nil ?_
  refine hK2 _ _ ?_
  refine S.seq fun K3 hK3 => ?_
  refine S.draw ([blk t 72 (tk nd ep lf said hd ov).toArray, blk b3 76 #[.int .u32 sq, p.v, .int .i64 wt]]) [] Try.mixed ?_
  refine S.dr_take 0 [] rfl (by kernel_rfl) rfl rfl rfl (q_field Try.fo76_0 rfl) Sub.ent ?_
  refine S.dr_take 1 [] rfl (by kernel_rfl) rfl rfl rfl (q_load Try.at26 rfl rfl) Sub.ent ?_
  refine S.dr_take 2 [] rfl (by kernel_rfl) rfl rfl rfl (q_move rfl) Sub.ent ?_
  refine S.dr_take 3 [] rfl (by kernel_rfl) rfl rfl rfl (q_nilCheck rfl) Sub.ent ?_
  refine S.dr_take 4 [] rfl (by kernel_rfl) rfl rfl rfl (q_field Try.fo72_3 rfl) Sub.ent ?_
  refine S.dr_take 5 [] rfl (by kernel_rfl) rfl rfl rfl (q_load Try.at26 rfl rfl) Sub.ent ?_
  refine S.dr_take 6 [] rfl (by kernel_rfl) rfl rfl rfl (q_field Try.fo76_1 rfl) Sub.ent ?_
  refine S.dr_take 7 [] rfl (by kernel_rfl) rfl rfl rfl (q_load Try.at32 rfl rfl) Sub.ent ?_
  refine S.dr_take 9 [] rfl (by kernel_rfl) rfl rfl rfl (q_field Try.fo34_3 rfl) Sub.ent ?_
  refine S.dr_1 (i := 8) (by kernel_rfl) rfl rfl ?_
  refine  (S.call Try.en29 (vs := [_]) ⟨rfl, trivial⟩ (Clone_S p.v l R hR hl) rfl ?_)
  rintro v Θ ⟨s, rfl, hs, rfl⟩
  refine S.dr_k rfl Sub.ent ?_
  refine S.dr_1 (i := 10) (by kernel_rfl) rfl rfl ?_
  refine  (S.store (cs' := [_, _, _, _, _, _, _]) Try.at26 rfl rfl rfl rfl rfl ?_)
  refine S.dr_k rfl Sub.ent ?_
  refine S.dr_take 11 [] rfl (by kernel_rfl) rfl rfl rfl (q_field Try.fo34_4 rfl) Sub.ent ?_
  refine S.dr_1 (i := 12) (by kernel_rfl) rfl rfl ?_
  refine  (S.store (cs' := [_, _, _, _, _, _, _]) Try.at26 rfl rfl rfl rfl rfl ?_)
  refine S.dr_k rfl Sub.ent ?_
  refine S.dr_take 13 [] rfl (by kernel_rfl) rfl rfl rfl (q_field Try.fo34_6 rfl) Sub.ent ?_
  refine S.dr_1 (i := 14) (by kernel_rfl) rfl rfl ?_
  refine  (S.store (cs' := [_, _, _, _, _, _, _]) Try.at32 rfl rfl rfl rfl rfl ?_)
  refine S.dr_k rfl Sub.ent ?_
  first | with_reducible refine S.dr_doneK (by kernel_rfl) ?_ | refine S.dr_done (by kernel_rfl) ?_
  refine hK3 _ _ ?_
  refine S.seq fun K4 hK4 => ?_
  refine S.region rfl ?_
  refine S.op (S.q (q_loadS [_, _, _, _, _, _, _] Try.ag34 rfl rfl ⟨rfl, rfl, rfl, rfl, rfl, rfl, rfl, trivial⟩) rfl rfl ?_)
  refine S.op (S.storeS (cs' := [_, _, _, _, _, _, _]) Try.ag34 rfl rfl rfl rfl rfl rfl ?_)
  first | with_reducible refine S.nilK ?_ | refine S.nil ?_
  refine hK4 _ _ ?_
  refine S.ret ?_
  with_reducible repeat (first | refine S.then_n ?_ | refine S.then_x ?_ | refine S.then_r ?_ | refine S.inBlock_n ?_ | refine S.inBlock_r ?_ | refine S.inBlock_x rfl ?_ | refine S.noGoto_r ?_ | refine S.noGoto_n ?_ | refine S.noGoto_x ?_)
  exact S.fin (rs := [_]) (vs := [_]) Try.results28 (⟨⟨_, _, rfl, lod_agg [_, _, _, _, _, _, _] Try.ag34 rfl ⟨rfl, rfl, rfl, rfl, rfl, rfl, rfl, trivial⟩⟩, trivial⟩)  (⟨s, rfl, hs, rfl⟩) Sub.ent
end Go.Proofs.Ytdlddggjjibeaaa
