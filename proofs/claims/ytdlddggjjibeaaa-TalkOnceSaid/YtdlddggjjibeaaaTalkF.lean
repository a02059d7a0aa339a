/- Talk: numbers in order; what laws say. -/
import Derived.Test.YtdlddggjjibeaaaTalkE
import Derived.Test.YtdlddggjjibeaaaLaw
namespace Go.Proofs.Ytdlddggjjibeaaa
open Go.RowKit
/-- The things' numbers go on from b. -/
def Seqs (b : Int) (os : List Slt) : Prop := ∀ (i : Nat) (x : Slt), os[i]? = some x → x.seq = b + 1 + (i : Int)
theorem Seqs.nil (b : Int) : Seqs b [] := fun i x h => by simp at h
theorem Seqs.snoc {b : Int} {os : List Slt} (h : Seqs b os) (x : Slt) (hx : x.seq = b + 1 + (os.length : Int)) : Seqs b (os ++ [x]) := fun i y hy => by
  by_cases hi : i < os.length
  · rw [List.getElem?_append_left hi] at hy; exact h i y hy
  · rw [List.getElem?_append_right (by omega)] at hy
    have h1 := (List.getElem?_eq_some_iff.1 hy).1
    simp at h1
    have : i = os.length := by omega
    subst this
    simp at hy
    subst hy
    exact hx
theorem Seqs.drop {b : Int} {os : List Slt} (h : Seqs b os) (k : Nat) : Seqs (b + k) (os.drop k) := fun i x hx => by
  rw [List.getElem?_drop] at hx
  have := h _ x hx
  omega
theorem Seqs.ans {b a : Int} {os : List Slt} (h : Seqs b os) (ha : a ≤ b + os.length) : ans a os = os.drop (a - b).toNat := by
  induction os generalizing b with
  | nil => simp
  | cons x os ih =>
    have hx := h 0 x rfl
    have ht : Seqs (b + 1) os := by have := h.drop 1; simpa using this
    by_cases hc : x.seq ≤ a
    · rw [show Go.Proofs.Ytdlddggjjibeaaa.ans a (x :: os) = Go.Proofs.Ytdlddggjjibeaaa.ans a os from List.dropWhile_cons_of_pos (by simpa using hc)]
      rw [ih ht (by simp only [List.length_cons] at ha; omega)]
      rw [show (a - b).toNat = (a - (b + 1)).toNat + 1 by omega, List.drop_succ_cons]
    · rw [show Go.Proofs.Ytdlddggjjibeaaa.ans a (x :: os) = x :: os from List.dropWhile_cons_of_neg (by simpa using hc)]
      rw [show (a - b).toNat = 0 by omega, List.drop_zero]
/-- Say, whether there is room or not. -/
theorem SayAny_S (t : Nat) (nd ep lf said hd : Int) (ov : SV) (os : List Slt) (hn : ov.n = os.length) (hs0 : 0 ≤ said) (hs : said < 4294967295) :
    Spec Try.prog 15 [.pointer (some ⟨t, 0, none⟩), .slice none 0 0] [blk t 72 (tk nd ep lf said hd ov).toArray, own ov 76 3 (os.flatMap sltC), alls os sltB] fun Γ v Θ =>
      ∃ n' e' l' q ak sv er, v = .tuple #[.agg (pkC n' e' l' q ak false sv).toArray, .int .i64 er] ∧ (os.length < 256 → er = 0) ∧ (256 ≤ os.length → er = 8) ∧ Θ = Γ := by
  have ht : ∀ Γ : List Assn, Ent Γ ((fun _ => True : Assn) :: Γ) := fun Γ h hs => ⟨HL.emp, h, HL.emp_disj _, HL.emp_le _, HL.le.refl _, trivial, hs⟩
  by_cases h : os.length < 256
  · refine (Say_S t nd ep lf said hd ov os SV.nil [] (fun _ => True) (fun _ _ _ => SlAt.nil _ _) rfl (by simp) h hs0 hs).weaken fun Γ => ⟨Γ, (((ht Γ).cons _).cons _).cons _, ?_⟩
    rintro v Θ ⟨s, ov', u, rfl, hsn, rfl⟩
    exact ⟨Γ, ⟨_, _, _, _, _, _, _, rfl, fun _ => rfl, fun h' => absurd h (by omega), rfl⟩, Sub.ent⟩
  · refine (SayFull_S t nd ep lf said hd ov SV.nil (fun _ => True) (by simp) (.inl (by omega))).weaken fun Γ => ⟨Γ, (((Ent.drop _ _).cons _).trans ((Ent.drop _ _).cons _)).trans ((ht Γ).cons _), ?_⟩
    rintro v Θ ⟨rfl, rfl⟩
    exact ⟨Γ, ⟨0, 0, 0, 0, 0, SV.nil, 8, rfl, fun h' => absurd h' h, fun _ => rfl, rfl⟩, Sub.ent⟩
set_option maxHeartbeats 400000 in
theorem TalkFull_S (ack : Int) (ha : 0 ≤ ack ∧ ack ≤ 65535) (W : World) : LawS 4 [.int .u16 ack] W := by
  refine Spec.of_body Try.func4 rfl Try.ntmps4 rfl ?_
  intro w0 Γ
  show S _ w0 [(0, .int .u16 ack)] (old W :: Γ) _
  have hk : 0 ≤ ack % 257 ∧ ack % 257 ≤ 256 := by omega
  refine S.seq fun K1 hK1 => ?_
  refine S.region rfl ?_
  refine S.op (S.q (q_assign rfl) rfl rfl ?_)
  first | with_reducible refine S.nilK ?_ | refine S.nil ?_
  refine hK1 _ _ ?_
  refine S.seq fun K2 hK2 => ?_
  refine S.seq fun K3 hK3 => ?_
  refine S.region rfl ?_
  refine S.op (S.call Try.en9 (vs := []) trivial (awake_S) rfl ?_)
  rintro v Θ ⟨rfl, rfl⟩
  refine S.op (S.q (q_not rfl) rfl rfl ?_)
  first | with_reducible refine S.nilK ?_ | refine S.nil ?_
  refine hK3 _ _ ?_
  refine S.condF rfl ?_
  refine S.skip ?_
  with_reducible repeat (first | refine S.then_n ?_ | refine S.then_x ?_ | refine S.then_r ?_ | refine S.inBlock_n ?_ | refine S.inBlock_r ?_ | refine S.inBlock_x rfl ?_ | refine S.noGoto_r ?_ | refine S.noGoto_n ?_ | refine S.noGoto_x ?_)
  refine hK2 _ _ ?_
  refine S.seq fun K4 hK4 => ?_
  refine S.region rfl ?_
  refine S.op (S.call Try.en10 (vs := [_, _, _]) ⟨rfl, rfl, rfl, trivial⟩ (New_S 0 1 1) rfl ?_)
  rintro v Θ ⟨t, rfl, rfl⟩
  refine S.op (S.q (q_assign rfl) rfl rfl ?_)
  first | with_reducible refine S.nilK ?_ | refine S.nil ?_
  refine hK4 _ _ ?_
  refine S.seq fun K5 hK5 => ?_
  refine S.seq fun K6 hK6 => ?_
  refine S.region rfl ?_
  refine S.talk0 ?_
  refine S.op (S.q (q_move rfl) rfl rfl ?_)
  first | with_reducible refine S.nilK ?_ | refine S.nil ?_
  refine hK6 _ _ ?_
  refine S.block ?_
  refine S.loop (fun m ρ' Γ' => ∃ (k : Nat) (said : Int) (ov : SV) (os : List Slt), m + k = 256 ∧ said = k ∧ os.length = k ∧ Seqs 0 os ∧ ρ' = [(0, .int .u16 ack), (3, .pointer (some ⟨t, 0, none⟩)), (16, .int .i64 k)] ∧ Γ' = blk t 72 (tk 0 1 1 said 0 ov).toArray :: own ov 76 3 (os.flatMap sltC) :: alls os sltB :: old W :: Γ) (m := _) (ρ0 := _) (Γ0 := _) (⟨0, 0, SV.nil, [], rfl, rfl, rfl, Seqs.nil _, rfl, rfl⟩) (by repeat (first | exact trivial | refine ⟨rfl, ?_⟩)) Sub.ent ?_
  rintro m ρ' Γ' ⟨k, said, ov, os, hk1, hsaid, hos, hsq, rfl, rfl⟩
  refine S.seq fun K7 hK7 => ?_
  refine S.region rfl ?_
  refine S.op (S.q (q_lt rfl rfl) rfl rfl ?_)
  first | with_reducible refine S.nilK ?_ | refine S.nil ?_
  refine hK7 _ _ ?_
  refine S.seq fun K8 hK8 => ?_
  refine S.condD rfl (fun h2 => ?_) (fun h2 => ?_)
  · refine S.skip ?_
    with_reducible repeat (first | refine S.then_n ?_ | refine S.then_x ?_ | refine S.then_r ?_ | refine S.inBlock_n ?_ | refine S.inBlock_r ?_ | refine S.inBlock_x rfl ?_ | refine S.noGoto_r ?_ | refine S.noGoto_n ?_ | refine S.noGoto_x ?_)
    refine hK8 _ _ ?_
    refine S.seq fun K9 hK9 => ?_
    refine S.block ?_
    refine S.seq fun K10 hK10 => ?_
    refine S.region rfl ?_
    refine S.op (S.q (q_move rfl) rfl rfl ?_)
    refine S.addTrue ?_
    refine S.op (S.call Try.en15 (vs := [_, _]) ⟨rfl, rfl, trivial⟩ (Say_S t 0 1 1 said 0 ov os SV.nil [] (fun _ => True) (fun _ _ _ => SlAt.nil _ _) rfl (by simp) (by omega) (by omega) (by omega)) rfl ?_)
    rintro v Θ ⟨s, ov', u, rfl, hs, rfl⟩
    refine S.op (S.q (q_move rfl) rfl rfl ?_)
    refine S.op (S.q (q_extract rfl rfl) rfl rfl ?_)
    refine S.op (S.q (q_extract rfl rfl) rfl rfl ?_)
    refine S.op (S.alloc Try.z34 rfl ?_)
    intro b4
    refine S.op (S.storeS (cs' := [_, _, _, _, _, _, _]) Try.ag34 rfl rfl rfl rfl rfl rfl ?_)
    refine S.op (S.q (q_assign rfl) rfl rfl ?_)
    first | with_reducible refine S.nilK ?_ | refine S.nil ?_
    refine hK10 _ _ ?_
    refine S.seq fun K11 hK11 => ?_
    refine S.region rfl ?_
    refine S.op (S.q (q_move rfl) rfl rfl ?_)
    refine S.op (S.q (q_ne rfl rfl) rfl rfl ?_)
    first | with_reducible refine S.nilK ?_ | refine S.nil ?_
    refine hK11 _ _ ?_
    refine S.condD rfl (fun h3 => ?_) (fun h3 => ?_)
    · exact absurd rfl h3
    · refine S.skip ?_
      with_reducible repeat (first | refine S.then_n ?_ | refine S.then_x ?_ | refine S.then_r ?_ | refine S.inBlock_n ?_ | refine S.inBlock_r ?_ | refine S.inBlock_x rfl ?_ | refine S.noGoto_r ?_ | refine S.noGoto_n ?_ | refine S.noGoto_x ?_)
      with_reducible repeat (first | refine S.then_n ?_ | refine S.then_x ?_ | refine S.then_r ?_ | refine S.inBlock_n ?_ | refine S.inBlock_r ?_ | refine S.inBlock_x rfl ?_ | refine S.noGoto_r ?_ | refine S.noGoto_n ?_ | refine S.noGoto_x ?_)
      refine hK9 _ _ ?_
      refine S.region rfl ?_
      refine S.op (S.q (q_add rfl rfl (inI64 (by omega) (by omega))) rfl rfl ?_)
      refine S.op (S.q (q_move rfl) rfl rfl ?_)
      first | with_reducible refine S.nilK ?_ | refine S.nil ?_
      with_reducible repeat (first | refine S.then_n ?_ | refine S.then_x ?_ | refine S.then_r ?_ | refine S.inBlock_n ?_ | refine S.inBlock_r ?_ | refine S.inBlock_x rfl ?_ | refine S.noGoto_r ?_ | refine S.noGoto_n ?_ | refine S.noGoto_x ?_)
      exact S.next (256 - (k + 1)) (⟨k + 1, said + 1, ov', os ++ [⟨said + 1, [], 0, u⟩], by omega, by omega, by simp [hos], hsq.snoc _ (by simp only; omega), rfl, rfl⟩) (by omega) (by repeat (first | exact trivial | refine ⟨rfl, ?_⟩)) Sub.ent
  · have hk256 : k = 256 := by omega
    refine S.ownLen ov fun hlen _ _ => ?_
    rw [flat_length sltC_len] at hlen
    refine S.exit ?_
    with_reducible repeat (first | refine S.then_n ?_ | refine S.then_x ?_ | refine S.then_r ?_ | refine S.inBlock_n ?_ | refine S.inBlock_r ?_ | refine S.inBlock_x rfl ?_ | refine S.noGoto_r ?_ | refine S.noGoto_n ?_ | refine S.noGoto_x ?_)
    with_reducible refine S.inBlock_s ?_
    with_reducible repeat (first | refine S.then_n ?_ | refine S.then_x ?_ | refine S.then_r ?_ | refine S.inBlock_n ?_ | refine S.inBlock_r ?_ | refine S.inBlock_x rfl ?_ | refine S.noGoto_r ?_ | refine S.noGoto_n ?_ | refine S.noGoto_x ?_)
    refine hK5 _ _ ?_
    refine S.seq fun K12 hK12 => ?_
    refine S.seq fun K13 hK13 => ?_
    refine S.region rfl ?_
    refine S.op (S.q (q_move rfl) rfl rfl ?_)
    refine S.addTrue ?_
    refine S.op (S.call Try.en15 (vs := [_, _]) ⟨rfl, rfl, trivial⟩ (SayFull_S t 0 1 1 said 0 ov SV.nil (fun _ => True) (by simp) (.inl (by omega))) rfl ?_)
    rintro v Θ ⟨rfl, rfl⟩
    refine S.op (S.q (q_move rfl) rfl rfl ?_)
    refine S.op (S.q (q_extract rfl rfl) rfl rfl ?_)
    refine S.op (S.q (q_extract rfl rfl) rfl rfl ?_)
    refine S.op (S.alloc Try.z34 rfl ?_)
    intro b6
    refine S.op (S.storeS (cs' := [_, _, _, _, _, _, _]) Try.ag34 rfl rfl rfl rfl rfl rfl ?_)
    refine S.op (S.q (q_assign rfl) rfl rfl ?_)
    first | with_reducible refine S.nilK ?_ | refine S.nil ?_
    refine hK13 _ _ ?_
    refine S.seq fun K14 hK14 => ?_
    refine S.regionG ?_
    refine S.g_op rfl (S.q (q_move rfl) rfl rfl ?_)
    refine S.g_op rfl (S.q (q_ne rfl rfl) rfl rfl ?_)
    refine S.g_op rfl (S.q (q_move rfl) rfl rfl ?_)
    refine S.g_yes rfl rfl rfl ((by decide)) (S.q (q_move rfl) rfl rfl ?_)
    refine S.g_yes rfl rfl rfl ((by decide)) (S.call Try.en17 (vs := [_]) ⟨rfl, trivial⟩ (Open_S t 0 1 1 said 0 ov) rfl ?_)
    rintro v Θ ⟨rfl, rfl⟩
    refine S.g_yes rfl rfl rfl ((by decide)) (S.q (q_ne rfl rfl) rfl rfl ?_)
    refine S.g_op rfl (S.q (q_pickF rfl ((by decide)) rfl) rfl rfl ?_)
    first | with_reducible refine S.g_nilK ?_ | refine S.g_nil ?_
    refine hK14 _ _ ?_
    refine S.condD rfl (fun h4 => ?_) (fun h4 => ?_)
    · exact absurd (show (ov.n : Int) = 256 by omega) h4
    · refine S.skip ?_
      with_reducible repeat (first | refine S.then_n ?_ | refine S.then_x ?_ | refine S.then_r ?_ | refine S.inBlock_n ?_ | refine S.inBlock_r ?_ | refine S.inBlock_x rfl ?_ | refine S.noGoto_r ?_ | refine S.noGoto_n ?_ | refine S.noGoto_x ?_)
      refine hK12 _ _ ?_
      refine S.seq fun K15 hK15 => ?_
      refine S.region rfl ?_
      refine S.op (S.q (q_move rfl) rfl rfl ?_)
      refine S.op (S.q (q_conv Try.it26 (by rw [Try.underlying47]; rfl) rfl (inU32 (by omega) (by omega))) rfl rfl ?_)
      refine S.op (S.q (q_rem rfl rfl (⟨by omega, by omega⟩)) rfl rfl ?_)
      refine S.op (S.q (q_assign rfl) rfl rfl ?_)
      first | with_reducible refine S.nilK ?_ | refine S.nil ?_
      refine hK15 _ _ ?_
      refine S.seq fun K16 hK16 => ?_
      refine S.region rfl ?_
      refine S.op (S.q (q_move rfl) rfl rfl ?_)
      refine S.op (S.q (q_move rfl) rfl rfl ?_)
      refine S.op (S.q (q_build (pvs := [(_, _), (_, _), (_, _)]) [_, _, _, _, _, _, _] Try.z34 Try.p34 ⟨⟨rfl, rfl⟩, ⟨rfl, rfl⟩, ⟨rfl, rfl⟩, trivial⟩ rfl) rfl rfl ?_)
      refine S.op (S.call Try.en12 (vs := [_, _]) ⟨rfl, rfl, trivial⟩ (HearZero_S t 0 1 1 said 0 ov os 0 1 1 0 (ack % 257) false SV.nil (by simp [mineB]; omega) rfl) rfl ?_)
      rintro v Θ ⟨ov2, rfl, rfl⟩
      have hans : (ans (ack % 257) os).length = os.length - (ack % 257).toNat := by rw [hsq.ans (by omega), List.length_drop]; omega
      refine S.ownLen ov2 fun hlen2 _ _ => ?_
      rw [flat_length sltC_len] at hlen2
      first | with_reducible refine S.nilK ?_ | refine S.nil ?_
      refine hK16 _ _ ?_
      refine S.seq fun K17 hK17 => ?_
      refine S.region rfl ?_
      refine S.op (S.q (q_move rfl) rfl rfl ?_)
      refine S.op (S.call Try.en15 (vs := [_, _]) ⟨rfl, rfl, trivial⟩ (SayAny_S t 0 1 1 said 0 ov2 (ans (ack % 257) os) (by omega) (by omega) (by omega)) rfl ?_)
      rintro v Θ ⟨n', e', l', q, ak, sv, er, rfl, he0, he8, rfl⟩
      refine S.op (S.q (q_move rfl) rfl rfl ?_)
      refine S.op (S.q (q_extract rfl rfl) rfl rfl ?_)
      refine S.op (S.q (q_extract rfl rfl) rfl rfl ?_)
      refine S.op (S.alloc Try.z34 rfl ?_)
      intro b9
      refine S.op (S.storeS (cs' := [_, _, _, _, _, _, _]) Try.ag34 rfl rfl rfl rfl rfl rfl ?_)
      refine S.op (S.q (q_assign rfl) rfl rfl ?_)
      first | with_reducible refine S.nilK ?_ | refine S.nil ?_
      refine hK17 _ _ ?_
      refine S.seq fun K18 hK18 => ?_
      refine S.region rfl ?_
      refine S.op (S.q (q_move rfl) rfl rfl ?_)
      refine S.op (S.makeSlice (2048) (2048) Try.underlying32 Try.inf5 rfl rfl rfl rfl rfl (by omega) (⟨by omega, by omega⟩) rfl ?_)
      intro mk hmk
      refine S.addTrue ?_
      refine S.op (S.call Try.en15 (vs := [_, _]) ⟨rfl, rfl, trivial⟩ (SayLong_S t mk (by omega) (fun _ => True)) rfl ?_)
      rintro v Θ ⟨rfl, rfl⟩
      refine S.op (S.q (q_move rfl) rfl rfl ?_)
      refine S.op (S.q (q_extract rfl rfl) rfl rfl ?_)
      refine S.op (S.q (q_extract rfl rfl) rfl rfl ?_)
      refine S.op (S.alloc Try.z34 rfl ?_)
      intro b11
      refine S.op (S.storeS (cs' := [_, _, _, _, _, _, _]) Try.ag34 rfl rfl rfl rfl rfl rfl ?_)
      refine S.op (S.q (q_assign rfl) rfl rfl ?_)
      first | with_reducible refine S.nilK ?_ | refine S.nil ?_
      refine hK18 _ _ ?_
      refine S.seq fun K19 hK19 => ?_
      refine S.regionG ?_
      have hfin : (decide (er = 0) == decide (0 < ack % 257)) = true := by
        by_cases h0 : 0 < ack % 257
        · rw [he0 (by omega)]; simp [h0]
        · rw [he8 (by omega)]; simp [h0]
      refine S.g_op rfl (S.q (q_move rfl) rfl rfl ?_)
      refine S.g_op rfl (S.q (q_eq rfl rfl) rfl rfl ?_)
      refine S.g_op rfl (S.q (q_move rfl) rfl rfl ?_)
      refine S.g_op rfl (S.q (q_gt rfl rfl) rfl rfl ?_)
      refine S.g_op rfl (S.q (q_eqB Try.underlying4 rfl rfl) rfl rfl ?_)
      refine S.g_op rfl (S.q (q_move rfl) rfl rfl ?_)
      refine S.g_yes rfl rfl rfl (hfin) (S.q (q_move rfl) rfl rfl ?_)
      refine S.g_yes rfl rfl rfl (hfin) (S.q (q_eq rfl rfl) rfl rfl ?_)
      refine S.g_op rfl (S.q (q_pickT rfl (hfin) rfl) rfl rfl ?_)
      refine S.g_op rfl (S.q (q_assign rfl) rfl rfl ?_)
      first | with_reducible refine S.g_nilK ?_ | refine S.g_nil ?_
      refine hK19 _ _ ?_
      refine S.ret ?_
      with_reducible repeat (first | refine S.then_n ?_ | refine S.then_x ?_ | refine S.then_r ?_ | refine S.inBlock_n ?_ | refine S.inBlock_r ?_ | refine S.inBlock_x rfl ?_ | refine S.noGoto_r ?_ | refine S.noGoto_n ?_ | refine S.noGoto_x ?_)
      exact S.fin (rs := [_]) (vs := [_]) Try.results4 (⟨rfl, trivial⟩)  (⟨by simp [resV], rfl⟩) Sub.ent
end Go.Proofs.Ytdlddggjjibeaaa
