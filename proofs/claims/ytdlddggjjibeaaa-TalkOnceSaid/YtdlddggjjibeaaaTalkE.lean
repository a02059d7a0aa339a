/- Talk: the document's example. -/
import Derived.Test.YtdlddggjjibeaaaTalkD
import Derived.Test.YtdlddggjjibeaaaMisc
namespace Go.Proofs.Ytdlddggjjibeaaa
open Go.RowKit
/-- A talk to which nothing was said. -/
theorem S.talk0 {n : Nat} {w0 : World} {ρ : Env} {Γ : List Assn} {φ : Act → World → Prop} (k : S n w0 ρ (own SV.nil 76 3 (([] : List Slt).flatMap sltC) :: alls [] sltB :: Γ) φ) : S n w0 ρ Γ φ :=
  S.ent ((Ent.allsNil sltB Γ).trans (Ent.ownNil _ _)) k
theorem bytes_in {Γ Δ : List Assn} {g : SV} {l : List Int} [h : HasOw Γ g 5 1 (bcells l) Δ] {w : World} (hs : Sat w Γ) : BytesAt w g.v l := obytes_at (hs.ent h.ent)
theorem awake_S : Spec Try.prog 9 [] [] fun Γ v Θ => v = .bool true ∧ Θ = Γ := by
  refine Spec.of_body Try.func9 rfl Try.ntmps9 rfl ?_
  intro w0 Γ
  show S _ w0 [] Γ _
  refine S.seq fun K1 hK1 => ?_
  refine S.region rfl ?_
  refine S.op (S.q (q_assign rfl) rfl rfl ?_)
  first | with_reducible refine S.nilK ?_ | refine S.nil ?_
  refine hK1 _ _ ?_
  refine S.seq fun K2 hK2 => ?_
  refine S.region rfl ?_
  refine S.op (S.call Try.en10 (vs := [_, _, _]) ⟨rfl, rfl, rfl, trivial⟩ (New_S 1 1 1) rfl ?_)
  rintro v Θ ⟨ta, rfl, rfl⟩
  refine S.op (S.call Try.en10 (vs := [_, _, _]) ⟨rfl, rfl, rfl, trivial⟩ (New_S 1 1 1) rfl ?_)
  rintro v Θ ⟨tb, rfl, rfl⟩
  refine S.op (S.q (q_assign rfl) rfl rfl ?_)
  refine S.op (S.q (q_assign rfl) rfl rfl ?_)
  first | with_reducible refine S.nilK ?_ | refine S.nil ?_
  refine hK2 _ _ ?_
  refine S.seq fun K3 hK3 => ?_
  refine S.region rfl ?_
  refine S.op (S.q (q_move rfl) rfl rfl ?_)
  refine S.op (S.buildSlice (pvs := [(_, _)]) [_] Try.underlying32 Try.inf5 rfl rfl ⟨⟨rfl, rfl⟩, trivial⟩ rfl rfl ?_)
  intro b17
  refine S.op (S.convBytes Try.underlying32 Try.it5 rfl rfl ?_)
  refine S.talk0 ?_
  refine S.op (S.call Try.en15 (vs := [_, _]) ⟨rfl, rfl, trivial⟩ (Say_S ta 1 1 1 0 0 SV.nil [] ⟨some ⟨b17, 0, none⟩, 1, 1⟩ [97] (rblk b17 5 #[.int .u8 97]) (fun Γ w h => rblk_slAt (cs := [.int .u8 97]) rfl (show 1 ≤ maxLen by unfold maxLen; omega) h) rfl (by decide) (by decide) (by decide) (by decide)) rfl ?_)
  rintro v Θ ⟨x, ov1, u1, rfl, hx, rfl⟩
  refine S.op (S.q (q_move rfl) rfl rfl ?_)
  refine S.op (S.q (q_extract rfl rfl) rfl rfl ?_)
  refine S.op (S.q (q_extract rfl rfl) rfl rfl ?_)
  refine S.op (S.alloc Try.z34 rfl ?_)
  intro b3
  refine S.op (S.storeS (cs' := [_, _, _, _, _, _, _]) Try.ag34 rfl rfl rfl rfl rfl rfl ?_)
  refine S.op (S.q (q_assign rfl) rfl rfl ?_)
  first | with_reducible refine S.nilK ?_ | refine S.nil ?_
  refine hK3 _ _ ?_
  refine S.seq fun K4 hK4 => ?_
  refine S.region rfl ?_
  refine S.op (S.q (q_move rfl) rfl rfl ?_)
  refine S.op (S.buildSlice (pvs := [(_, _)]) [_] Try.underlying32 Try.inf5 rfl rfl ⟨⟨rfl, rfl⟩, trivial⟩ rfl rfl ?_)
  intro b24
  refine S.op (S.convBytes Try.underlying32 Try.it5 rfl rfl ?_)
  refine S.op (S.call Try.en15 (vs := [_, _]) ⟨rfl, rfl, trivial⟩ (Say_S ta 1 1 1 (0 + 1) 0 ov1 ([] ++ [⟨0 + 1, [97], 0, u1⟩]) ⟨some ⟨b24, 0, none⟩, 1, 1⟩ [98] (rblk b24 5 #[.int .u8 98]) (fun Γ w h => rblk_slAt (cs := [.int .u8 98]) rfl (show 1 ≤ maxLen by unfold maxLen; omega) h) rfl (by decide) (by simp) (by decide) (by decide)) rfl ?_)
  rintro v Θ ⟨y, ov2, u2, rfl, hy, rfl⟩
  refine S.op (S.q (q_move rfl) rfl rfl ?_)
  refine S.op (S.q (q_extract rfl rfl) rfl rfl ?_)
  refine S.op (S.q (q_extract rfl rfl) rfl rfl ?_)
  refine S.op (S.alloc Try.z34 rfl ?_)
  intro b5
  refine S.op (S.storeS (cs' := [_, _, _, _, _, _, _]) Try.ag34 rfl rfl rfl rfl rfl rfl ?_)
  refine S.op (S.q (q_assign rfl) rfl rfl ?_)
  first | with_reducible refine S.nilK ?_ | refine S.nil ?_
  refine hK4 _ _ ?_
  refine S.seq fun K5 hK5 => ?_
  refine S.region rfl ?_
  refine S.op (S.q (q_move rfl) rfl rfl ?_)
  refine S.op (S.q (q_loadS [_, _, _, _, _, _, _] Try.ag34 rfl rfl ⟨rfl, rfl, rfl, rfl, rfl, rfl, rfl, trivial⟩) rfl rfl ?_)
  refine S.talk0 ?_
  refine S.op (S.call Try.en12 (vs := [_, _]) ⟨rfl, rfl, trivial⟩ (HearOld_S tb 1 1 1 0 0 SV.nil [] 1 1 1 (0 + 1 + 1) 0 false y (by decide) (by decide) (by decide) (by decide)) rfl ?_)
  rintro v Θ ⟨ov3, u3, rfl, hu3, rfl⟩
  refine S.op (S.q (q_move rfl) rfl rfl ?_)
  refine S.op (S.q (q_extract rfl rfl) rfl rfl ?_)
  refine S.op (S.q (q_extract rfl rfl) rfl rfl ?_)
  refine S.op (S.q (q_extract rfl rfl) rfl rfl ?_)
  refine S.op (S.q (q_extract rfl rfl) rfl rfl ?_)
  refine S.op (S.alloc Try.z34 rfl ?_)
  intro b9
  refine S.op (S.q (q_assign rfl) rfl rfl ?_)
  refine S.op (S.q (q_assign rfl) rfl rfl ?_)
  refine S.op (S.storeS (cs' := [_, _, _, _, _, _, _]) Try.ag34 rfl rfl rfl rfl rfl rfl ?_)
  refine S.op (S.q (q_assign rfl) rfl rfl ?_)
  first | with_reducible refine S.nilK ?_ | refine S.nil ?_
  refine hK5 _ _ ?_
  refine S.seq fun K6 hK6 => ?_
  refine S.seq fun K7 hK7 => ?_
  refine S.regionG ?_
  refine S.g_op rfl (S.q (q_move rfl) rfl rfl ?_)
  refine S.g_op rfl (S.q (q_move rfl) rfl rfl ?_)
  refine S.g_yes rfl rfl rfl (rfl) (S.q (q_move rfl) rfl rfl ?_)
  refine S.g_yes rfl rfl rfl (rfl) (S.q (q_not rfl) rfl rfl ?_)
  refine S.g_op rfl (S.q (q_pickF rfl (rfl) rfl) rfl rfl ?_)
  refine S.g_op rfl (S.q (q_move rfl) rfl rfl ?_)
  refine S.g_yes rfl rfl rfl (rfl) (S.q (q_field Try.fo34_4 rfl) rfl rfl ?_)
  refine S.g_yes rfl rfl rfl (rfl) (S.q (q_load Try.at26 rfl rfl) rfl rfl ?_)
  refine S.g_yes rfl rfl rfl (rfl) (S.q (q_ne rfl rfl) rfl rfl ?_)
  refine S.g_op rfl (S.q (q_pickF rfl (rfl) rfl) rfl rfl ?_)
  first | with_reducible refine S.g_nilK ?_ | refine S.g_nil ?_
  refine hK7 _ _ ?_
  refine S.condD rfl (fun h1 => ?_) (fun h1 => ?_)
  · exact absurd rfl h1
  · refine S.skip ?_
    with_reducible repeat (first | refine S.then_n ?_ | refine S.then_x ?_ | refine S.then_r ?_ | refine S.inBlock_n ?_ | refine S.inBlock_r ?_ | refine S.inBlock_x rfl ?_ | refine S.noGoto_r ?_ | refine S.noGoto_n ?_ | refine S.noGoto_x ?_)
    refine hK6 _ _ ?_
    refine S.seq fun K8 hK8 => ?_
    refine S.region rfl ?_
    refine S.op (S.q (q_move rfl) rfl rfl ?_)
    refine S.op (S.q (q_loadS [_, _, _, _, _, _, _] Try.ag34 rfl rfl ⟨rfl, rfl, rfl, rfl, rfl, rfl, rfl, trivial⟩) rfl rfl ?_)
    refine S.op (S.call Try.en12 (vs := [_, _]) ⟨rfl, rfl, trivial⟩ (HearNew_S tb 1 1 1 0 0 ov3 (ans 0 []) 1 1 1 (0 + 1) 0 false x [97] (obytes x [97]) (fun Γ w h => obytes_at h) (by decide) (by decide) (by decide) (by decide)) rfl ?_)
    rintro v Θ ⟨ov4, u4, g, rfl, hu4, hg, rfl⟩
    refine S.op (S.q (q_move rfl) rfl rfl ?_)
    refine S.op (S.q (q_extract rfl rfl) rfl rfl ?_)
    refine S.op (S.q (q_extract rfl rfl) rfl rfl ?_)
    refine S.op (S.q (q_extract rfl rfl) rfl rfl ?_)
    refine S.op (S.q (q_extract rfl rfl) rfl rfl ?_)
    refine S.op (S.q (q_assign rfl) rfl rfl ?_)
    refine S.op (S.q (q_assign rfl) rfl rfl ?_)
    refine S.op (S.storeS (cs' := [_, _, _, _, _, _, _]) Try.ag34 rfl rfl rfl rfl rfl rfl ?_)
    refine S.op (S.q (q_assign rfl) rfl rfl ?_)
    first | with_reducible refine S.nilK ?_ | refine S.nil ?_
    refine hK8 _ _ ?_
    refine S.seq fun K9 hK9 => ?_
    refine S.regionG ?_
    refine S.g_op rfl (S.q (q_move rfl) rfl rfl ?_)
    refine S.g_op rfl (S.q (q_move rfl) rfl rfl ?_)
    refine S.g_yes rfl rfl rfl (rfl) (S.q (q_move rfl) rfl rfl ?_)
    refine S.g_yes rfl rfl rfl (rfl) (S.q (q_bytesStr (xs := [97]) Try.underlying32 Try.it5 Try.underlying9 rfl (fun w hs => bytes_in hs)) rfl rfl ?_)
    refine S.g_yes rfl rfl rfl (rfl) (S.q (q_eqStr rfl rfl) rfl rfl ?_)
    refine S.g_op rfl (S.q (q_pickT rfl (rfl) rfl) rfl rfl ?_)
    refine S.g_op rfl (S.q (q_move rfl) rfl rfl ?_)
    refine S.g_yes rfl rfl rfl ((by rw [show strOfNums [97] = (⟨#[97]⟩ : ByteArray) from rfl]; exact beq_self_eq_true _)) (S.q (q_field Try.fo34_4 rfl) rfl rfl ?_)
    refine S.g_yes rfl rfl rfl ((by rw [show strOfNums [97] = (⟨#[97]⟩ : ByteArray) from rfl]; exact beq_self_eq_true _)) (S.q (q_load Try.at26 rfl rfl) rfl rfl ?_)
    refine S.g_yes rfl rfl rfl ((by rw [show strOfNums [97] = (⟨#[97]⟩ : ByteArray) from rfl]; exact beq_self_eq_true _)) (S.q (q_eq rfl rfl) rfl rfl ?_)
    refine S.g_op rfl (S.q (q_pickT rfl ((by rw [show strOfNums [97] = (⟨#[97]⟩ : ByteArray) from rfl]; exact beq_self_eq_true _)) rfl) rfl rfl ?_)
    refine S.g_op rfl (S.q (q_move rfl) rfl rfl ?_)
    refine S.g_yes rfl rfl rfl ((by decide)) (S.q (q_move rfl) rfl rfl ?_)
    refine S.g_yes rfl rfl rfl ((by decide)) (S.call Try.en14 (vs := [_]) ⟨rfl, trivial⟩ (Tick_S ta 1 1 1 (0 + 1 + 1) 0 ov2 (([] ++ [⟨0 + 1, [97], 0, u1⟩]) ++ [⟨0 + 1 + 1, [98], 0, u2⟩]) (by simp) (by simp) (by simp)) rfl ?_)
    rintro v Θ (⟨hq, rfl, rfl⟩ | ⟨hq, _⟩)
    case inr => simp [quiet] at hq
    refine S.g_yes rfl rfl rfl ((by decide)) (S.q (q_len Try.underlying30 rfl) rfl rfl ?_)
    refine S.g_yes rfl rfl rfl ((by decide)) (S.q (q_eq rfl rfl) rfl rfl ?_)
    refine S.g_op rfl (S.q (q_pickT rfl ((by decide)) rfl) rfl rfl ?_)
    refine S.g_op rfl (S.q (q_move rfl) rfl rfl ?_)
    refine S.g_yes rfl rfl rfl ((by decide)) (S.q (q_move rfl) rfl rfl ?_)
    refine S.conv (alls (([] ++ [⟨0 + 1, [97], 0, u1⟩]) ++ [⟨0 + 1 + 1, [98], 0, u2⟩]) sltB) (Ent.allsCongr (G := sltB) (ps := List.map inc (([] ++ [⟨0 + 1, [97], 0, u1⟩]) ++ [⟨0 + 1 + 1, [98], 0, u2⟩])) rfl _) ?_
    refine S.g_yes rfl rfl rfl ((by decide)) (S.call Try.en14 (vs := [_]) ⟨rfl, trivial⟩ (Tick_S ta 1 1 1 (0 + 1 + 1) 0 ov2 (List.map inc (([] ++ [⟨0 + 1, [97], 0, u1⟩]) ++ [⟨0 + 1 + 1, [98], 0, u2⟩])) (by simp [inc]) (by simp [inc]) (by simp)) rfl ?_)
    rintro v Θ (⟨hq2, rfl, rfl⟩ | ⟨hq2, out, ps, rfl, hps, rfl⟩)
    case inl => simp [quiet, inc] at hq2
    refine S.ownLen out fun holn _ _ => ?_
    rw [flat_length (sz := 7) (fun _ => rfl)] at holn
    have hpl := congrArg List.length hps
    simp only [List.length_map, List.length_append, List.length_cons, List.length_nil] at hpl
    refine S.g_yes rfl rfl rfl ((by decide)) (S.q (q_len Try.underlying30 rfl) rfl rfl ?_)
    refine S.g_yes rfl rfl rfl ((by decide)) (S.q (q_eq rfl rfl) rfl rfl ?_)
    refine S.g_op rfl (S.q (q_pickT rfl ((by decide)) rfl) rfl rfl ?_)
    refine S.g_op rfl (S.q (q_assign rfl) rfl rfl ?_)
    first | with_reducible refine S.g_nilK ?_ | refine S.g_nil ?_
    refine hK9 _ _ ?_
    refine S.ret ?_
    with_reducible repeat (first | refine S.then_n ?_ | refine S.then_x ?_ | refine S.then_r ?_ | refine S.inBlock_n ?_ | refine S.inBlock_r ?_ | refine S.inBlock_x rfl ?_ | refine S.noGoto_r ?_ | refine S.noGoto_n ?_ | refine S.noGoto_x ?_)
    exact S.fin (rs := [_]) (vs := [_]) Try.results9 (⟨rfl, trivial⟩)  (⟨by simp only [resV]; rw [decide_eq_true (show (out.n : Int) = 2 by omega)], rfl⟩) Sub.ent
end Go.Proofs.Ytdlddggjjibeaaa
