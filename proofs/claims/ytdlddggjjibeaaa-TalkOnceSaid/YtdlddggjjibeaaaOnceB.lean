/- TalkOnce: the closure that hears, at end i. -/
import Derived.Test.YtdlddggjjibeaaaTalkN
import Derived.Test.YtdlddggjjibeaaaTwo
namespace Go.Proofs.Ytdlddggjjibeaaa
open Go.RowKit
/-- A packet in the air. -/
structure PkA where
  k : Pak
  v : SV
abbrev paE (x : PkA) : List Value := pakC x.k x.v
def paB (x : PkA) : Assn := obytes x.v x.k.d
theorem paE_len : ∀ x, (paE x).length = 7 := fun _ => rfl
/-- A list that got one more, or not. -/
def More {α : Type} (b : Bool) (x : α) (l l' : List α) : Prop := (b = true ∧ l' = l ++ [x]) ∨ (b = false ∧ l' = l)
theorem upd_id (f : Nat → SV) (i j : Nat) : upd f i (f i) j = f j := by
  unfold upd
  split
  · rename_i h; rw [h]
  · rfl
theorem upd_v (f : Nat → SV) (i : Nat) (x : SV) (j : Nat) : upd (fun j => (f j).v) i x.v j = (upd f i x j).v := by unfold upd; split <;> rfl
set_option maxHeartbeats 800000 in
theorem hear_S (t3 t5 t6 : Nat) (i : Nat) (hi : i < 2) (pp : Nat → Option Addr) (st : Sto) (m : Nat) (hm : m ≤ 200) (ok : OkT m st) (k : Pak) (dv : SV) (R : Assn) (hR : ∀ Γ w, Sat w (R :: Γ) → BytesAt w dv.v k.d) (hl : k.d.length ≤ 60) (c a : Nat → SV) (C : List BR) (A : List PkA) (hC : C.length ≤ 100000) (hA : A.length ≤ 100000) :
    Spec Try.prog 11 [.int .i64 i, .agg (pakC k dv).toArray, .pointer (some ⟨t3, 0, none⟩), .pointer (some ⟨t5, 0, none⟩), .pointer (some ⟨t6, 0, none⟩)]
      [blk t3 27 #[.pointer (pp 0), .pointer (pp 1)], TI 2 3 4 (pp i) st, R, blk t5 29 #[(c 0).v, (c 1).v], own (c i) 32 1 (C.flatMap brC), alls C brB, blk t6 31 #[(a 0).v, (a 1).v], own (a (1 - i)) 34 7 (A.flatMap paE), alls A paB] fun Γ _ Θ =>
      ∃ (c0' a1' g u : SV) (C' : List BR) (A' : List PkA), More (hearR 2 3 4 k st).2.1 ⟨g, (hearR 2 3 4 k st).1⟩ C C' ∧ More (hearR 2 3 4 k st).2.2.2.1 ⟨(hearR 2 3 4 k st).2.2.1, u⟩ A A' ∧
        Θ = blk t3 27 #[.pointer (pp 0), .pointer (pp 1)] :: TI 2 3 4 (pp i) (hearR 2 3 4 k st).2.2.2.2 :: R :: blk t5 29 #[(upd c i c0' 0).v, (upd c i c0' 1).v] :: own c0' 32 1 (C'.flatMap brC) :: alls C' brB :: blk t6 31 #[(upd a (1 - i) a1' 0).v, (upd a (1 - i) a1' 1).v] :: own a1' 34 7 (A'.flatMap paE) :: alls A' paB :: Γ := by
  refine Spec.of_body Try.func11 rfl Try.ntmps11 rfl ?_
  intro w0 Γ
  show S _ w0 [(0, .int .i64 i), (1, .agg (pakC k dv).toArray), (2, .pointer (some ⟨t3, 0, none⟩)), (3, .pointer (some ⟨t5, 0, none⟩)), (4, .pointer (some ⟨t6, 0, none⟩))] (blk t3 27 #[.pointer (pp 0), .pointer (pp 1)] :: TI 2 3 4 (pp i) st :: R :: blk t5 29 #[(c 0).v, (c 1).v] :: own (c i) 32 1 (C.flatMap brC) :: alls C brB :: blk t6 31 #[(a 0).v, (a 1).v] :: own (a (1 - i)) 34 7 (A.flatMap paE) :: alls A paB :: Γ) _
  obtain ⟨D1, hD1⟩ : ∃ D1, D1 = (hearR 2 3 4 k st).1 := ⟨_, rfl⟩
  obtain ⟨B1, hB1⟩ : ∃ B1, B1 = (hearR 2 3 4 k st).2.1 := ⟨_, rfl⟩
  obtain ⟨Q2, hQ2⟩ : ∃ Q2, Q2 = (hearR 2 3 4 k st).2.2.1 := ⟨_, rfl⟩
  obtain ⟨B2, hB2⟩ : ∃ B2, B2 = (hearR 2 3 4 k st).2.2.2.1 := ⟨_, rfl⟩
  obtain ⟨st', hst'⟩ : ∃ st', st' = (hearR 2 3 4 k st).2.2.2.2 := ⟨_, rfl⟩
  rw [← hD1, ← hB1, ← hQ2, ← hB2, ← hst']
  refine S.ownLen (c i) fun hc0 _ _ => ?_
  refine S.ownLen (a (1 - i)) fun ha1 _ _ => ?_
  rw [flat_length brC_len] at hc0
  rw [flat_length paE_len] at ha1
  refine S.seq fun K1 hK1 => ?_
  refine S.region rfl ?_
  refine S.op (S.box (cs := [_, _, _, _, _, _, _]) rfl rfl rfl ?_)
  intro b6
  first | with_reducible refine S.nilK ?_ | refine S.nil ?_
  refine hK1 _ _ ?_
  refine S.seq fun K2 hK2 => ?_
  refine S.draw ([blk t3 27 #[.pointer (pp 0), .pointer (pp 1)], blk b6 34 (pakC k dv).toArray]) [] Try.mixed ?_
  refine S.dr_take 0 [] rfl (by kernel_rfl) rfl rfl rfl (q_move rfl) Sub.ent ?_
  refine S.dr_take 1 [] rfl (by kernel_rfl) rfl rfl rfl (q_indexTwo i Try.ar27 rfl rfl rfl hi) Sub.ent ?_
  refine S.dr_take 2 [] rfl (by kernel_rfl) rfl rfl rfl (q_loadTwo (fun j => .pointer (pp j)) i hi Try.at24 rfl) Sub.ent ?_
  refine S.dr_take 3 [] rfl (by kernel_rfl) rfl rfl rfl (q_loadS [_, _, _, _, _, _, _] Try.ag34 rfl rfl ⟨rfl, rfl, rfl, rfl, rfl, rfl, rfl, trivial⟩) Sub.ent ?_
  refine S.dr_2 (i := 4) (j := 10) (by kernel_rfl) rfl rfl rfl rfl ?_ ?_
  · refine  (S.call Try.en12 (vs := [_, _]) ⟨rfl, rfl, trivial⟩ (THear 2 3 4 (pp i) st m hm ok k dv R hR hl) rfl ?_)
    rintro v Θ ⟨g, u, rfl, rfl⟩
    rw [← hD1, ← hB1, ← hQ2, ← hB2, ← hst']
    refine S.dr_k rfl Sub.ent ?_
    refine S.dr_take 5 [] rfl (by kernel_rfl) rfl rfl rfl (q_move rfl) Sub.ent ?_
    refine S.dr_take 6 [] rfl (by kernel_rfl) rfl rfl rfl (q_extract rfl rfl) Sub.ent ?_
    refine S.dr_take 7 [] rfl (by kernel_rfl) rfl rfl rfl (q_extract rfl rfl) Sub.ent ?_
    refine S.dr_take 8 [] rfl (by kernel_rfl) rfl rfl rfl (q_extract rfl rfl) Sub.ent ?_
    refine S.dr_take 9 [] rfl (by kernel_rfl) rfl rfl rfl (q_extract rfl rfl) Sub.ent ?_
    refine S.dr_1 (i := 10) (by kernel_rfl) rfl rfl ?_
    refine  (S.alloc Try.z34 rfl ?_)
    intro b9
    refine S.dr_k rfl Sub.ent ?_
    refine S.dr_take 11 [] rfl (by kernel_rfl) rfl rfl rfl (q_assign rfl) Sub.ent ?_
    refine S.dr_take 12 [] rfl (by kernel_rfl) rfl rfl rfl (q_assign rfl) Sub.ent ?_
    refine S.dr_1 (i := 13) (by kernel_rfl) rfl rfl ?_
    refine  (S.storeS (cs' := [_, _, _, _, _, _, _]) Try.ag34 rfl rfl rfl rfl rfl rfl ?_)
    refine S.dr_k rfl Sub.ent ?_
    refine S.dr_take 14 [] rfl (by kernel_rfl) rfl rfl rfl (q_assign rfl) Sub.ent ?_
    first | with_reducible refine S.dr_doneK (by kernel_rfl) ?_ | refine S.dr_done (by kernel_rfl) ?_
    refine hK2 _ _ ?_
    refine S.seq fun K3 hK3 => ?_
    refine S.seq fun K4 hK4 => ?_
    refine S.region rfl ?_
    refine S.op (S.q (q_move rfl) rfl rfl ?_)
    first | with_reducible refine S.nilK ?_ | refine S.nil ?_
    refine hK4 _ _ ?_
    refine S.cut (fun ρ' Γ' => ∃ (c0' g' : SV) (C' : List BR), More B1 ⟨g', D1⟩ C C' ∧ ρ' = [(0, .int .i64 i), (4, .pointer (some ⟨t6, 0, none⟩)), (9, .pointer (some ⟨b9, 0, none⟩)), (10, .bool B2)] ∧ Γ' = obytes u Q2.d :: blk b9 34 (pakC Q2 u).toArray :: blk t3 27 #[.pointer (pp 0), .pointer (pp 1)] :: TI 2 3 4 (pp i) st' :: R :: blk t5 29 #[(upd c i c0' 0).v, (upd c i c0' 1).v] :: own c0' 32 1 (C'.flatMap brC) :: alls C' brB :: blk t6 31 #[(a 0).v, (a 1).v] :: own (a (1 - i)) 34 7 (A.flatMap paE) :: alls A paB :: Γ) ?_ ?_
    · refine S.cond rfl (fun h1 => ?_) (fun h1 => ?_)
      · refine S.region rfl ?_
        refine S.op (S.q (q_move rfl) rfl rfl ?_)
        refine S.op (S.q (q_move rfl) rfl rfl ?_)
        refine S.op (S.q (q_indexTwo i Try.ar29 rfl rfl rfl hi) rfl rfl ?_)
        refine S.op (S.q (q_loadTwo (fun j => (c j).v) i hi Try.at28 rfl) rfl rfl ?_)
        refine S.op (S.q (q_move rfl) rfl rfl ?_)
        refine S.op (S.buildSlice (pvs := [(_, _)]) [_] Try.underlying28 Try.inf32 rfl rfl ⟨⟨rfl, rfl⟩, trivial⟩ rfl rfl ?_)
        intro b27
        refine S.op (S.appendOw (s := c i) (1) ([g.v]) Try.underlying28 Try.inf32 rfl rfl rfl (blk_slAt (b := b27) rfl (by unfold maxLen; omega)) (by first | rfl | exact allOne_bcells _) (⟨by omega, by omega⟩) rfl ?_)
        intro c0' hc0'
        refine S.op (S.q (q_indexTwo i Try.ar29 rfl rfl rfl hi) rfl rfl ?_)
        refine S.op (S.storeTwo (fun j => (c j).v) i hi Try.at28 rfl rfl rfl ?_)
        first | with_reducible refine S.nilK ?_ | refine S.nil ?_
        with_reducible repeat (first | refine S.then_n ?_ | refine S.then_x ?_ | refine S.then_r ?_ | refine S.inBlock_n ?_ | refine S.inBlock_r ?_ | refine S.inBlock_x rfl ?_ | refine S.noGoto_r ?_ | refine S.noGoto_n ?_ | refine S.noGoto_x ?_)
        first
        | (rw [upd_v, upd_v, show C.flatMap brC ++ [g.v] = _ from flat_snoc brC C (⟨g, D1⟩ : BR)]; refine S.conv2 (obytes g D1) (alls C brB) (Ent.allsSnoc brB C (⟨g, D1⟩ : BR) _) ?_; exact S.meet ⟨c0', g, C ++ [⟨g, D1⟩], .inl ⟨h1, rfl⟩, rfl, rfl⟩ ⟨rfl, rfl, rfl, rfl, trivial⟩ Sub.ent)
        | (rw [show (c 0).v = (upd c i (c i) 0).v by rw [upd_id], show (c 1).v = (upd c i (c i) 1).v by rw [upd_id]]; exact S.meet ⟨c i, g, C, .inr ⟨h1, rfl⟩, rfl, rfl⟩ ⟨rfl, rfl, rfl, rfl, trivial⟩ Sub.ent)
      · refine S.skip ?_
        with_reducible repeat (first | refine S.then_n ?_ | refine S.then_x ?_ | refine S.then_r ?_ | refine S.inBlock_n ?_ | refine S.inBlock_r ?_ | refine S.inBlock_x rfl ?_ | refine S.noGoto_r ?_ | refine S.noGoto_n ?_ | refine S.noGoto_x ?_)
        with_reducible repeat (first | refine S.then_n ?_ | refine S.then_x ?_ | refine S.then_r ?_ | refine S.inBlock_n ?_ | refine S.inBlock_r ?_ | refine S.inBlock_x rfl ?_ | refine S.noGoto_r ?_ | refine S.noGoto_n ?_ | refine S.noGoto_x ?_)
        first
        | (rw [upd_v, upd_v, show C.flatMap brC ++ [g.v] = _ from flat_snoc brC C (⟨g, D1⟩ : BR)]; refine S.conv2 (obytes g D1) (alls C brB) (Ent.allsSnoc brB C (⟨g, D1⟩ : BR) _) ?_; exact S.meet ⟨c0', g, C ++ [⟨g, D1⟩], .inl ⟨h1, rfl⟩, rfl, rfl⟩ ⟨rfl, rfl, rfl, rfl, trivial⟩ Sub.ent)
        | (rw [show (c 0).v = (upd c i (c i) 0).v by rw [upd_id], show (c 1).v = (upd c i (c i) 1).v by rw [upd_id]]; exact S.meet ⟨c i, g, C, .inr ⟨h1, rfl⟩, rfl, rfl⟩ ⟨rfl, rfl, rfl, rfl, trivial⟩ Sub.ent)
    · rintro ρ' Γ' ⟨c0', g', C', hC', rfl, rfl⟩
      refine hK3 _ _ ?_
      refine S.seq fun K5 hK5 => ?_
      refine S.region rfl ?_
      refine S.op (S.q (q_move rfl) rfl rfl ?_)
      first | with_reducible refine S.nilK ?_ | refine S.nil ?_
      refine hK5 _ _ ?_
      refine S.cond rfl (fun h2 => ?_) (fun h2 => ?_)
      · refine S.draw ([blk t6 31 #[(a 0).v, (a 1).v], blk b9 34 (pakC Q2 u).toArray]) [10] Try.mixed ?_
        refine S.dr_take 0 [1, 9, 10] rfl (by kernel_rfl) rfl rfl rfl (q_move rfl) Sub.ent ?_
        refine S.dr_take 1 [9, 10] rfl (by kernel_rfl) rfl rfl rfl (q_sub rfl rfl (inI64 (by omega) (by omega))) Sub.ent ?_
        refine S.dr_take 2 [3, 4, 5, 8, 9, 10] rfl (by kernel_rfl) rfl rfl rfl (q_move rfl) Sub.ent ?_
        refine S.dr_take 3 [4, 5, 8, 9, 10] rfl (by kernel_rfl) rfl rfl rfl (q_sub rfl rfl (inI64 (by omega) (by omega))) Sub.ent ?_
        refine S.dr_take 4 [5, 8, 9, 10] rfl (by kernel_rfl) rfl rfl rfl (q_indexTwo (1 - i) Try.ar31 rfl rfl (by omega) (by omega)) Sub.ent ?_
        refine S.dr_take 5 [8, 9, 10] rfl (by kernel_rfl) rfl rfl rfl (q_loadTwo (fun j => (a j).v) (1 - i) (by omega) Try.at30 rfl) Sub.ent ?_
        refine S.dr_take 6 [7, 8, 9, 10] rfl (by kernel_rfl) rfl rfl rfl (q_loadS [_, _, _, _, _, _, _] Try.ag34 rfl rfl ⟨rfl, rfl, rfl, rfl, rfl, rfl, rfl, trivial⟩) Sub.ent ?_
        refine S.dr_1 (i := 7) (by kernel_rfl) rfl rfl ?_
        refine  (S.buildSlice (pvs := [(_, _)]) [_, _, _, _, _, _, _] Try.underlying30 Try.inf34 rfl rfl ⟨⟨rfl, rfl⟩, trivial⟩ rfl rfl ?_)
        intro b38
        refine S.dr_k rfl Sub.ent ?_
        refine S.dr_1 (i := 8) (by kernel_rfl) rfl rfl ?_
        refine  (S.appendOw (s := a (1 - i)) (1) (pakC Q2 u) Try.underlying30 Try.inf34 rfl rfl rfl (blk_slAt (b := b38) rfl (by unfold maxLen; omega)) (by first | rfl | exact allOne_bcells _) (⟨by omega, by omega⟩) rfl ?_)
        intro a1' ha1'
        rw [show A.flatMap paE ++ pakC Q2 u = _ from flat_snoc paE A (⟨Q2, u⟩ : PkA)]
        refine S.conv2 (obytes u Q2.d) (alls A paB) (Ent.allsSnoc paB A (⟨Q2, u⟩ : PkA) _) ?_
        refine S.dr_k rfl Sub.ent ?_
        refine S.dr_take 9 [10] rfl (by kernel_rfl) rfl rfl rfl (q_indexTwo (1 - i) Try.ar31 rfl rfl (by omega) (by omega)) Sub.ent ?_
        refine S.dr_1 (i := 10) (by kernel_rfl) rfl rfl ?_
        refine  (S.storeTwo (fun j => (a j).v) (1 - i) (by omega) Try.at30 rfl rfl rfl ?_)
        refine S.dr_late ([]) [] rfl ?_
        first | with_reducible refine S.dr_doneK (by kernel_rfl) ?_ | refine S.dr_done (by kernel_rfl) ?_
        with_reducible repeat (first | refine S.then_n ?_ | refine S.then_x ?_ | refine S.then_r ?_ | refine S.inBlock_n ?_ | refine S.inBlock_r ?_ | refine S.inBlock_x rfl ?_ | refine S.noGoto_r ?_ | refine S.noGoto_n ?_ | refine S.noGoto_x ?_)
        first
        | rw [upd_v, upd_v]
        | rw [show (a 0).v = (upd a (1 - i) (a (1 - i)) 0).v by rw [upd_id], show (a 1).v = (upd a (1 - i) (a (1 - i)) 1).v by rw [upd_id]]
        exact S.finN (rs := []) (vs := []) Try.results11 (trivial)  (by first | exact ⟨c0', a1', g', u, C', A ++ [⟨Q2, u⟩], hC', .inl ⟨h2, rfl⟩, rfl⟩ | exact ⟨c0', a (1 - i), g', u, C', A, hC', .inr ⟨h2, rfl⟩, rfl⟩) Sub.ent
      · refine S.skip ?_
        with_reducible repeat (first | refine S.then_n ?_ | refine S.then_x ?_ | refine S.then_r ?_ | refine S.inBlock_n ?_ | refine S.inBlock_r ?_ | refine S.inBlock_x rfl ?_ | refine S.noGoto_r ?_ | refine S.noGoto_n ?_ | refine S.noGoto_x ?_)
        with_reducible repeat (first | refine S.then_n ?_ | refine S.then_x ?_ | refine S.then_r ?_ | refine S.inBlock_n ?_ | refine S.inBlock_r ?_ | refine S.inBlock_x rfl ?_ | refine S.noGoto_r ?_ | refine S.noGoto_n ?_ | refine S.noGoto_x ?_)
        first
        | rw [upd_v, upd_v]
        | rw [show (a 0).v = (upd a (1 - i) (a (1 - i)) 0).v by rw [upd_id], show (a 1).v = (upd a (1 - i) (a (1 - i)) 1).v by rw [upd_id]]
        exact S.finN (rs := []) (vs := []) Try.results11 (trivial)  (by first | exact ⟨c0', a1', g', u, C', A ++ [⟨Q2, u⟩], hC', .inl ⟨h2, rfl⟩, rfl⟩ | exact ⟨c0', a (1 - i), g', u, C', A, hC', .inr ⟨h2, rfl⟩, rfl⟩) Sub.ent
  · refine  (S.alloc Try.z34 rfl ?_)
    intro b9
    refine S.dr_k rfl Sub.ent ?_
    refine S.dr_1 (i := 4) (by kernel_rfl) rfl rfl ?_
    refine  (S.call Try.en12 (vs := [_, _]) ⟨rfl, rfl, trivial⟩ (THear 2 3 4 (pp i) st m hm ok k dv R hR hl) rfl ?_)
    rintro v Θ ⟨g, u, rfl, rfl⟩
    rw [← hD1, ← hB1, ← hQ2, ← hB2, ← hst']
    refine S.dr_k rfl Sub.ent ?_
    refine S.dr_take 5 [] rfl (by kernel_rfl) rfl rfl rfl (q_move rfl) Sub.ent ?_
    refine S.dr_take 6 [] rfl (by kernel_rfl) rfl rfl rfl (q_extract rfl rfl) Sub.ent ?_
    refine S.dr_take 7 [] rfl (by kernel_rfl) rfl rfl rfl (q_extract rfl rfl) Sub.ent ?_
    refine S.dr_take 8 [] rfl (by kernel_rfl) rfl rfl rfl (q_extract rfl rfl) Sub.ent ?_
    refine S.dr_take 9 [] rfl (by kernel_rfl) rfl rfl rfl (q_extract rfl rfl) Sub.ent ?_
    refine S.dr_take 11 [] rfl (by kernel_rfl) rfl rfl rfl (q_assign rfl) Sub.ent ?_
    refine S.dr_take 12 [] rfl (by kernel_rfl) rfl rfl rfl (q_assign rfl) Sub.ent ?_
    refine S.dr_1 (i := 13) (by kernel_rfl) rfl rfl ?_
    refine  (S.storeS (cs' := [_, _, _, _, _, _, _]) Try.ag34 rfl rfl rfl rfl rfl rfl ?_)
    refine S.dr_k rfl Sub.ent ?_
    refine S.dr_take 14 [] rfl (by kernel_rfl) rfl rfl rfl (q_assign rfl) Sub.ent ?_
    first | with_reducible refine S.dr_doneK (by kernel_rfl) ?_ | refine S.dr_done (by kernel_rfl) ?_
    refine hK2 _ _ ?_
    refine S.seq fun K6 hK6 => ?_
    refine S.seq fun K7 hK7 => ?_
    refine S.region rfl ?_
    refine S.op (S.q (q_move rfl) rfl rfl ?_)
    first | with_reducible refine S.nilK ?_ | refine S.nil ?_
    refine hK7 _ _ ?_
    refine S.cut (fun ρ' Γ' => ∃ (c0' g' : SV) (C' : List BR), More B1 ⟨g', D1⟩ C C' ∧ ρ' = [(0, .int .i64 i), (4, .pointer (some ⟨t6, 0, none⟩)), (9, .pointer (some ⟨b9, 0, none⟩)), (10, .bool B2)] ∧ Γ' = obytes u Q2.d :: blk b9 34 (pakC Q2 u).toArray :: blk t3 27 #[.pointer (pp 0), .pointer (pp 1)] :: TI 2 3 4 (pp i) st' :: R :: blk t5 29 #[(upd c i c0' 0).v, (upd c i c0' 1).v] :: own c0' 32 1 (C'.flatMap brC) :: alls C' brB :: blk t6 31 #[(a 0).v, (a 1).v] :: own (a (1 - i)) 34 7 (A.flatMap paE) :: alls A paB :: Γ) ?_ ?_
    · refine S.cond rfl (fun h1 => ?_) (fun h1 => ?_)
      · refine S.region rfl ?_
        refine S.op (S.q (q_move rfl) rfl rfl ?_)
        refine S.op (S.q (q_move rfl) rfl rfl ?_)
        refine S.op (S.q (q_indexTwo i Try.ar29 rfl rfl rfl hi) rfl rfl ?_)
        refine S.op (S.q (q_loadTwo (fun j => (c j).v) i hi Try.at28 rfl) rfl rfl ?_)
        refine S.op (S.q (q_move rfl) rfl rfl ?_)
        refine S.op (S.buildSlice (pvs := [(_, _)]) [_] Try.underlying28 Try.inf32 rfl rfl ⟨⟨rfl, rfl⟩, trivial⟩ rfl rfl ?_)
        intro b27
        refine S.op (S.appendOw (s := c i) (1) ([g.v]) Try.underlying28 Try.inf32 rfl rfl rfl (blk_slAt (b := b27) rfl (by unfold maxLen; omega)) (by first | rfl | exact allOne_bcells _) (⟨by omega, by omega⟩) rfl ?_)
        intro c0' hc0'
        refine S.op (S.q (q_indexTwo i Try.ar29 rfl rfl rfl hi) rfl rfl ?_)
        refine S.op (S.storeTwo (fun j => (c j).v) i hi Try.at28 rfl rfl rfl ?_)
        first | with_reducible refine S.nilK ?_ | refine S.nil ?_
        with_reducible repeat (first | refine S.then_n ?_ | refine S.then_x ?_ | refine S.then_r ?_ | refine S.inBlock_n ?_ | refine S.inBlock_r ?_ | refine S.inBlock_x rfl ?_ | refine S.noGoto_r ?_ | refine S.noGoto_n ?_ | refine S.noGoto_x ?_)
        first
        | (rw [upd_v, upd_v, show C.flatMap brC ++ [g.v] = _ from flat_snoc brC C (⟨g, D1⟩ : BR)]; refine S.conv2 (obytes g D1) (alls C brB) (Ent.allsSnoc brB C (⟨g, D1⟩ : BR) _) ?_; exact S.meet ⟨c0', g, C ++ [⟨g, D1⟩], .inl ⟨h1, rfl⟩, rfl, rfl⟩ ⟨rfl, rfl, rfl, rfl, trivial⟩ Sub.ent)
        | (rw [show (c 0).v = (upd c i (c i) 0).v by rw [upd_id], show (c 1).v = (upd c i (c i) 1).v by rw [upd_id]]; exact S.meet ⟨c i, g, C, .inr ⟨h1, rfl⟩, rfl, rfl⟩ ⟨rfl, rfl, rfl, rfl, trivial⟩ Sub.ent)
      · refine S.skip ?_
        with_reducible repeat (first | refine S.then_n ?_ | refine S.then_x ?_ | refine S.then_r ?_ | refine S.inBlock_n ?_ | refine S.inBlock_r ?_ | refine S.inBlock_x rfl ?_ | refine S.noGoto_r ?_ | refine S.noGoto_n ?_ | refine S.noGoto_x ?_)
        with_reducible repeat (first | refine S.then_n ?_ | refine S.then_x ?_ | refine S.then_r ?_ | refine S.inBlock_n ?_ | refine S.inBlock_r ?_ | refine S.inBlock_x rfl ?_ | refine S.noGoto_r ?_ | refine S.noGoto_n ?_ | refine S.noGoto_x ?_)
        first
        | (rw [upd_v, upd_v, show C.flatMap brC ++ [g.v] = _ from flat_snoc brC C (⟨g, D1⟩ : BR)]; refine S.conv2 (obytes g D1) (alls C brB) (Ent.allsSnoc brB C (⟨g, D1⟩ : BR) _) ?_; exact S.meet ⟨c0', g, C ++ [⟨g, D1⟩], .inl ⟨h1, rfl⟩, rfl, rfl⟩ ⟨rfl, rfl, rfl, rfl, trivial⟩ Sub.ent)
        | (rw [show (c 0).v = (upd c i (c i) 0).v by rw [upd_id], show (c 1).v = (upd c i (c i) 1).v by rw [upd_id]]; exact S.meet ⟨c i, g, C, .inr ⟨h1, rfl⟩, rfl, rfl⟩ ⟨rfl, rfl, rfl, rfl, trivial⟩ Sub.ent)
    · rintro ρ' Γ' ⟨c0', g', C', hC', rfl, rfl⟩
      refine hK6 _ _ ?_
      refine S.seq fun K8 hK8 => ?_
      refine S.region rfl ?_
      refine S.op (S.q (q_move rfl) rfl rfl ?_)
      first | with_reducible refine S.nilK ?_ | refine S.nil ?_
      refine hK8 _ _ ?_
      refine S.cond rfl (fun h2 => ?_) (fun h2 => ?_)
      · refine S.draw ([blk t6 31 #[(a 0).v, (a 1).v], blk b9 34 (pakC Q2 u).toArray]) [10] Try.mixed ?_
        refine S.dr_take 0 [1, 9, 10] rfl (by kernel_rfl) rfl rfl rfl (q_move rfl) Sub.ent ?_
        refine S.dr_take 1 [9, 10] rfl (by kernel_rfl) rfl rfl rfl (q_sub rfl rfl (inI64 (by omega) (by omega))) Sub.ent ?_
        refine S.dr_take 2 [3, 4, 5, 8, 9, 10] rfl (by kernel_rfl) rfl rfl rfl (q_move rfl) Sub.ent ?_
        refine S.dr_take 3 [4, 5, 8, 9, 10] rfl (by kernel_rfl) rfl rfl rfl (q_sub rfl rfl (inI64 (by omega) (by omega))) Sub.ent ?_
        refine S.dr_take 4 [5, 8, 9, 10] rfl (by kernel_rfl) rfl rfl rfl (q_indexTwo (1 - i) Try.ar31 rfl rfl (by omega) (by omega)) Sub.ent ?_
        refine S.dr_take 5 [8, 9, 10] rfl (by kernel_rfl) rfl rfl rfl (q_loadTwo (fun j => (a j).v) (1 - i) (by omega) Try.at30 rfl) Sub.ent ?_
        refine S.dr_take 6 [7, 8, 9, 10] rfl (by kernel_rfl) rfl rfl rfl (q_loadS [_, _, _, _, _, _, _] Try.ag34 rfl rfl ⟨rfl, rfl, rfl, rfl, rfl, rfl, rfl, trivial⟩) Sub.ent ?_
        refine S.dr_1 (i := 7) (by kernel_rfl) rfl rfl ?_
        refine  (S.buildSlice (pvs := [(_, _)]) [_, _, _, _, _, _, _] Try.underlying30 Try.inf34 rfl rfl ⟨⟨rfl, rfl⟩, trivial⟩ rfl rfl ?_)
        intro b38
        refine S.dr_k rfl Sub.ent ?_
        refine S.dr_1 (i := 8) (by kernel_rfl) rfl rfl ?_
        refine  (S.appendOw (s := a (1 - i)) (1) (pakC Q2 u) Try.underlying30 Try.inf34 rfl rfl rfl (blk_slAt (b := b38) rfl (by unfold maxLen; omega)) (by first | rfl | exact allOne_bcells _) (⟨by omega, by omega⟩) rfl ?_)
        intro a1' ha1'
        rw [show A.flatMap paE ++ pakC Q2 u = _ from flat_snoc paE A (⟨Q2, u⟩ : PkA)]
        refine S.conv2 (obytes u Q2.d) (alls A paB) (Ent.allsSnoc paB A (⟨Q2, u⟩ : PkA) _) ?_
        refine S.dr_k rfl Sub.ent ?_
        refine S.dr_take 9 [10] rfl (by kernel_rfl) rfl rfl rfl (q_indexTwo (1 - i) Try.ar31 rfl rfl (by omega) (by omega)) Sub.ent ?_
        refine S.dr_1 (i := 10) (by kernel_rfl) rfl rfl ?_
        refine  (S.storeTwo (fun j => (a j).v) (1 - i) (by omega) Try.at30 rfl rfl rfl ?_)
        refine S.dr_late ([]) [] rfl ?_
        first | with_reducible refine S.dr_doneK (by kernel_rfl) ?_ | refine S.dr_done (by kernel_rfl) ?_
        with_reducible repeat (first | refine S.then_n ?_ | refine S.then_x ?_ | refine S.then_r ?_ | refine S.inBlock_n ?_ | refine S.inBlock_r ?_ | refine S.inBlock_x rfl ?_ | refine S.noGoto_r ?_ | refine S.noGoto_n ?_ | refine S.noGoto_x ?_)
        first
        | rw [upd_v, upd_v]
        | rw [show (a 0).v = (upd a (1 - i) (a (1 - i)) 0).v by rw [upd_id], show (a 1).v = (upd a (1 - i) (a (1 - i)) 1).v by rw [upd_id]]
        exact S.finN (rs := []) (vs := []) Try.results11 (trivial)  (by first | exact ⟨c0', a1', g', u, C', A ++ [⟨Q2, u⟩], hC', .inl ⟨h2, rfl⟩, rfl⟩ | exact ⟨c0', a (1 - i), g', u, C', A, hC', .inr ⟨h2, rfl⟩, rfl⟩) Sub.ent
      · refine S.skip ?_
        with_reducible repeat (first | refine S.then_n ?_ | refine S.then_x ?_ | refine S.then_r ?_ | refine S.inBlock_n ?_ | refine S.inBlock_r ?_ | refine S.inBlock_x rfl ?_ | refine S.noGoto_r ?_ | refine S.noGoto_n ?_ | refine S.noGoto_x ?_)
        with_reducible repeat (first | refine S.then_n ?_ | refine S.then_x ?_ | refine S.then_r ?_ | refine S.inBlock_n ?_ | refine S.inBlock_r ?_ | refine S.inBlock_x rfl ?_ | refine S.noGoto_r ?_ | refine S.noGoto_n ?_ | refine S.noGoto_x ?_)
        first
        | rw [upd_v, upd_v]
        | rw [show (a 0).v = (upd a (1 - i) (a (1 - i)) 0).v by rw [upd_id], show (a 1).v = (upd a (1 - i) (a (1 - i)) 1).v by rw [upd_id]]
        exact S.finN (rs := []) (vs := []) Try.results11 (trivial)  (by first | exact ⟨c0', a1', g', u, C', A ++ [⟨Q2, u⟩], hC', .inl ⟨h2, rfl⟩, rfl⟩ | exact ⟨c0', a (1 - i), g', u, C', A, hC', .inr ⟨h2, rfl⟩, rfl⟩) Sub.ent
end Go.Proofs.Ytdlddggjjibeaaa
