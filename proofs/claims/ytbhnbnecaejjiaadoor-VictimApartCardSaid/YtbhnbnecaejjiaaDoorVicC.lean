/- Who has to make room: of a row; of all. -/
import Derived.Test.YtbhnbnecaejjiaaDoorVicB
namespace Go.Proofs.YtbhnbnecaejjiaaDoor
open Go.RowKit
set_option maxRecDepth 20000
def haveUp (m : Mx) (al : List Cd) (h0 : Nat) : Nat → Nat
  | 0 => h0
  | i + 1 => haveUp m al h0 i + givR m (al.getD i (0, 0)).1
theorem givR_le (m : Mx) (j : Nat) : givR m j ≤ 16 := by
  have h1 := upN_le m (ofR m j).2.1 (ofR m j).2.1.length
  have h2 := ofR_len m j
  unfold givR
  omega
theorem haveUp_le {m : Mx} {al : List Cd} {h0 : Nat} (h : h0 ≤ 16) : ∀ i, haveUp m al h0 i ≤ 16 + 16 * i
  | 0 => h
  | i + 1 => by
    have h1 := haveUp_le (m := m) (al := al) h i
    have h2 := givR_le m (al.getD i (0, 0)).1
    rw [haveUp]
    omega
/-- The least number that is enough. -/
def vicUp (m : Mx) (al : List Cd) (h0 : Nat) (k : Int) : Nat → Option Nat
  | 0 => none
  | i + 1 => match vicUp m al h0 k i with
    | some r => some r
    | none => if k ≤ (haveUp m al h0 i : Nat) then some i else none
theorem vicUp_mono {m : Mx} {al : List Cd} {h0 : Nat} {k : Int} {r : Nat} : ∀ {p i : Nat}, vicUp m al h0 k i = some r → i ≤ p → vicUp m al h0 k p = some r
  | 0, i, h, hp => by rwa [show i = 0 by omega] at h
  | p + 1, i, h, hp => by
    by_cases e : i = p + 1
    · rwa [e] at h
    · rw [vicUp, vicUp_mono h (by omega)]
def ofV (m : Mx) (row tier k : Int) (l : List Cd) : List Cd × Bool :=
  if k < 1 ∨ row < 0 ∨ (m.R : Int) ≤ row then ([], false)
  else match vicUp m (lesR m row tier l) (freeR m row) k ((lesR m row tier l).length + 1) with
    | some i => ((lesR m row tier l).take i, true)
    | none => ([], false)
theorem freeR_le (m : Mx) (z : Int) : freeR m z ≤ 16 := by
  unfold freeR
  split
  · exact lst_len _
  · omega
theorem lesR_len (m : Mx) (row tier : Int) (l : List Cd) : (lesR m row tier l).length ≤ l.length := by
  rw [lesR, (srtC_perm _).length_eq]
  exact lesUp_len m row tier l _
theorem flat_take {α : Type} {enc : α → List Value} {sz : Nat} (he : ∀ x, (enc x).length = sz) (os : List α) (k : Nat) : (os.flatMap enc).take (k * sz) = (os.take k).flatMap enc := by
  induction os generalizing k with
  | nil => simp
  | cons x l ih =>
    cases k with
    | zero => simp
    | succ k =>
      rw [List.flatMap_cons, List.take_succ_cons, List.flatMap_cons, List.take_append, he, List.take_of_length_le (by rw [he, Nat.succ_mul]; omega), show (k + 1) * sz - sz = k * sz by rw [Nat.succ_mul]; omega, ih]
set_option maxHeartbeats 1000000 in
theorem of_S (b : Nat) (m : Mx) (row tier k : Int) (R : Assn) (s : SV) (l : List Cd) (hsn : s.n = l.length) (hl : l.length ≤ 1000) (hR : RdS R s s.n 2 (l.flatMap cdC)) {W : World} (hW : TabW W) : Spec Tryd.prog 63 [.pointer (some ⟨b, 0, none⟩), .int .i64 row, s.v, .int .u8 tier, .int .i64 k] [MI b m, R, old W] fun Γ v Θ =>
    ∃ u : SV, v = .tuple #[u.v, .bool (ofV m row tier k l).2] ∧ u.n = (ofV m row tier k l).1.length ∧ Θ = own u 75 2 ((ofV m row tier k l).1.flatMap cdC) :: MI b m :: R :: old W :: Γ := by
  refine Spec.of_body Tryd.func63 rfl Tryd.ntmps63 rfl ?_
  intro w0 Γ
  show S _ w0 [(0, .pointer (some ⟨b, 0, none⟩)), (1, .int .i64 row), (2, s.v), (3, .int .u8 tier), (4, .int .i64 k)] (MI b m :: R :: old W :: Γ) _
  obtain ⟨al, hal⟩ : ∃ al, al = lesR m row tier l := ⟨_, rfl⟩
  have hall := lesR_len m row tier l
  rw [← hal] at hall
  have hfr := freeR_le m row
  refine S.seq fun K1 hK1 => ?_
  refine S.region rfl ?_
  refine S.op (S.q (q_assign rfl) rfl rfl ?_)
  refine S.op (S.q (q_assign rfl) rfl rfl ?_)
  first | with_reducible refine S.nilK ?_ | refine S.nil ?_
  refine hK1 _ _ ?_
  refine S.seq fun K2 hK2 => ?_
  refine S.seq fun K3 hK3 => ?_
  refine S.region rfl ?_
  refine S.op (S.q (q_move rfl) rfl rfl ?_)
  refine S.op (S.call Tryd.en16 (vs := [_]) ⟨rfl, trivial⟩ (Size_S b m) rfl ?_)
  rintro v Θ ⟨rfl, rfl⟩
  refine S.op (S.q (q_move rfl) rfl rfl ?_)
  refine S.op (S.q (q_extract rfl rfl) rfl rfl ?_)
  refine S.op (S.q (q_extract rfl rfl) rfl rfl ?_)
  refine S.op (S.q (q_assign rfl) rfl rfl ?_)
  refine S.op (S.q (q_assign rfl) rfl rfl ?_)
  first | with_reducible refine S.nilK ?_ | refine S.nil ?_
  refine hK3 _ _ ?_
  refine S.seq fun K4 hK4 => ?_
  refine S.regionG ?_
  refine S.g_op rfl (S.q (q_move rfl) rfl rfl ?_)
  refine S.g_op rfl (S.q (q_lt rfl rfl) rfl rfl ?_)
  refine S.g_op rfl (S.q (q_move rfl) rfl rfl ?_)
  by_cases hg2_2 : k < 1
  · have hfin : ofV m row tier k l = ([], false) := by rw [ofV, if_pos (.inl hg2_2)]
    refine S.g_no rfl rfl rfl (decide_eq_true hg2_2) rfl rfl ?_
    refine S.g_no rfl rfl rfl (decide_eq_true hg2_2) rfl rfl ?_
    refine S.g_op rfl (S.q (q_pickT rfl (decide_eq_true hg2_2) rfl) rfl rfl ?_)
    refine S.g_op rfl (S.q (q_move rfl) rfl rfl ?_)
    refine S.g_no rfl rfl rfl (rfl) rfl rfl ?_
    refine S.g_no rfl rfl rfl (rfl) rfl rfl ?_
    refine S.g_no rfl rfl rfl (rfl) rfl rfl ?_
    refine S.g_op rfl (S.q (q_pickT rfl (rfl) rfl) rfl rfl ?_)
    first | with_reducible refine S.g_nilK ?_ | refine S.g_nil ?_
    refine hK4 _ _ ?_
    refine S.condT rfl ?_
    refine S.seq fun K5 hK5 => ?_
    refine S.region rfl ?_
    refine S.op (S.q (q_assign rfl) rfl rfl ?_)
    refine S.op (S.q (q_assign rfl) rfl rfl ?_)
    first | with_reducible refine S.nilK ?_ | refine S.nil ?_
    refine hK5 _ _ ?_
    refine S.ret ?_
    with_reducible repeat (first | refine S.then_n ?_ | refine S.then_x ?_ | refine S.then_r ?_ | refine S.inBlock_n ?_ | refine S.inBlock_r ?_ | refine S.inBlock_x rfl ?_ | refine S.noGoto_r ?_ | refine S.noGoto_n ?_ | refine S.noGoto_x ?_)
    refine S.ent (Ent.ownNil 75 2) ?_
    show S _ w0 _ (own SV.nil 75 2 (([] : List Cd).flatMap cdC) :: _) _
    exact S.fin (rs := [_, _]) (vs := [_, _]) Tryd.results63 (⟨rfl, rfl, trivial⟩)  (⟨SV.nil, by rw [hfin]; rfl, by rw [hfin]; rfl, by rw [hfin]⟩) Sub.ent
  · refine S.g_yes rfl rfl rfl (decide_eq_false hg2_2) (S.q (q_move rfl) rfl rfl ?_)
    refine S.g_yes rfl rfl rfl (decide_eq_false hg2_2) (S.q (q_lt rfl rfl) rfl rfl ?_)
    refine S.g_op rfl (S.q (q_pickF rfl (decide_eq_false hg2_2) rfl) rfl rfl ?_)
    refine S.g_op rfl (S.q (q_move rfl) rfl rfl ?_)
    by_cases hg2_6 : row < 0
    · have hfin : ofV m row tier k l = ([], false) := by rw [ofV, if_pos (.inr (.inl hg2_6))]
      refine S.g_no rfl rfl rfl (decide_eq_true hg2_6) rfl rfl ?_
      refine S.g_no rfl rfl rfl (decide_eq_true hg2_6) rfl rfl ?_
      refine S.g_no rfl rfl rfl (decide_eq_true hg2_6) rfl rfl ?_
      refine S.g_op rfl (S.q (q_pickT rfl (decide_eq_true hg2_6) rfl) rfl rfl ?_)
      first | with_reducible refine S.g_nilK ?_ | refine S.g_nil ?_
      refine hK4 _ _ ?_
      refine S.condT rfl ?_
      refine S.seq fun K6 hK6 => ?_
      refine S.region rfl ?_
      refine S.op (S.q (q_assign rfl) rfl rfl ?_)
      refine S.op (S.q (q_assign rfl) rfl rfl ?_)
      first | with_reducible refine S.nilK ?_ | refine S.nil ?_
      refine hK6 _ _ ?_
      refine S.ret ?_
      with_reducible repeat (first | refine S.then_n ?_ | refine S.then_x ?_ | refine S.then_r ?_ | refine S.inBlock_n ?_ | refine S.inBlock_r ?_ | refine S.inBlock_x rfl ?_ | refine S.noGoto_r ?_ | refine S.noGoto_n ?_ | refine S.noGoto_x ?_)
      refine S.ent (Ent.ownNil 75 2) ?_
      show S _ w0 _ (own SV.nil 75 2 (([] : List Cd).flatMap cdC) :: _) _
      exact S.fin (rs := [_, _]) (vs := [_, _]) Tryd.results63 (⟨rfl, rfl, trivial⟩)  (⟨SV.nil, by rw [hfin]; rfl, by rw [hfin]; rfl, by rw [hfin]⟩) Sub.ent
    · refine S.g_yes rfl rfl rfl (decide_eq_false hg2_6) (S.q (q_move rfl) rfl rfl ?_)
      refine S.g_yes rfl rfl rfl (decide_eq_false hg2_6) (S.q (q_move rfl) rfl rfl ?_)
      refine S.g_yes rfl rfl rfl (decide_eq_false hg2_6) (S.q (q_ge rfl rfl) rfl rfl ?_)
      refine S.g_op rfl (S.q (q_pickF rfl (decide_eq_false hg2_6) rfl) rfl rfl ?_)
      first | with_reducible refine S.g_nilK ?_ | refine S.g_nil ?_
      refine hK4 _ _ ?_
      refine S.condD rfl (fun h1 => ?_) (fun h1 => ?_)
      · have hfin : ofV m row tier k l = ([], false) := by rw [ofV, if_pos (.inr (.inr (by omega)))]
        refine S.seq fun K7 hK7 => ?_
        refine S.region rfl ?_
        refine S.op (S.q (q_assign rfl) rfl rfl ?_)
        refine S.op (S.q (q_assign rfl) rfl rfl ?_)
        first | with_reducible refine S.nilK ?_ | refine S.nil ?_
        refine hK7 _ _ ?_
        refine S.ret ?_
        with_reducible repeat (first | refine S.then_n ?_ | refine S.then_x ?_ | refine S.then_r ?_ | refine S.inBlock_n ?_ | refine S.inBlock_r ?_ | refine S.inBlock_x rfl ?_ | refine S.noGoto_r ?_ | refine S.noGoto_n ?_ | refine S.noGoto_x ?_)
        refine S.ent (Ent.ownNil 75 2) ?_
        show S _ w0 _ (own SV.nil 75 2 (([] : List Cd).flatMap cdC) :: _) _
        exact S.fin (rs := [_, _]) (vs := [_, _]) Tryd.results63 (⟨rfl, rfl, trivial⟩)  (⟨SV.nil, by rw [hfin]; rfl, by rw [hfin]; rfl, by rw [hfin]⟩) Sub.ent
      · have hof : ofV m row tier k l = match vicUp m al (freeR m row) k (al.length + 1) with | some i => (al.take i, true) | none => ([], false) := by rw [ofV, if_neg (by omega), ← hal]
        refine S.skip ?_
        with_reducible repeat (first | refine S.then_n ?_ | refine S.then_x ?_ | refine S.then_r ?_ | refine S.inBlock_n ?_ | refine S.inBlock_r ?_ | refine S.inBlock_x rfl ?_ | refine S.noGoto_r ?_ | refine S.noGoto_n ?_ | refine S.noGoto_x ?_)
        refine hK2 _ _ ?_
        refine S.seq fun K8 hK8 => ?_
        refine S.region rfl ?_
        refine S.op (S.q (q_move rfl) rfl rfl ?_)
        refine S.op (S.q (q_move rfl) rfl rfl ?_)
        refine S.op (S.call Tryd.en33 (vs := [_, _]) ⟨rfl, rfl, trivial⟩ (Free_S b m row) rfl ?_)
        rintro v Θ ⟨rfl, rfl⟩
        refine S.op (S.q (q_assign rfl) rfl rfl ?_)
        first | with_reducible refine S.nilK ?_ | refine S.nil ?_
        refine hK8 _ _ ?_
        refine S.seq fun K9 hK9 => ?_
        refine S.region rfl ?_
        refine S.op (S.q (q_move rfl) rfl rfl ?_)
        refine S.op (S.q (q_move rfl) rfl rfl ?_)
        refine S.op (S.q (q_move rfl) rfl rfl ?_)
        refine S.op (S.q (q_move rfl) rfl rfl ?_)
        refine S.op (S.call Tryd.en80 (vs := [_, _, _, _]) ⟨rfl, rfl, rfl, rfl, trivial⟩ (lesser_S b m row tier R s l hsn hl hR hW) rfl ?_)
        rintro v Θ ⟨u, rfl, hun, rfl⟩
        rw [← hal] at hun ⊢
        refine S.ownLen u fun hul1 hul2 hul3 => ?_
        refine S.op (S.q (q_assign rfl) rfl rfl ?_)
        first | with_reducible refine S.nilK ?_ | refine S.nil ?_
        refine hK9 _ _ ?_
        refine S.seq fun K10 hK10 => ?_
        refine S.region rfl ?_
        refine S.op (S.q (q_assign rfl) rfl rfl ?_)
        first | with_reducible refine S.nilK ?_ | refine S.nil ?_
        refine hK10 _ _ ?_
        refine S.block ?_
        refine S.loop (fun q ρ' Γ' => ∃ i : Nat, q = al.length - i ∧ i ≤ al.length ∧ vicUp m al (freeR m row) k i = none ∧ ρ' = [(0, .pointer (some ⟨b, 0, none⟩)), (4, .int .i64 k), (14, .int .i64 (haveUp m al (freeR m row) i : Nat)), (15, u.v), (16, .int .i64 (i : Int))] ∧ Γ' = own u 75 2 (al.flatMap cdC) :: MI b m :: R :: old W :: Γ) (m := _) (ρ0 := _) (Γ0 := _) (⟨0, rfl, by omega, rfl, rfl, rfl⟩) (by repeat (first | exact trivial | refine ⟨rfl, ?_⟩)) Sub.ent ?_
        rintro q ρ' Γ' ⟨i, hq, hi, hno, rfl, rfl⟩
        have hle := haveUp_le (m := m) (al := al) hfr i
        refine S.seq fun K11 hK11 => ?_
        refine S.block ?_
        refine S.seq fun K12 hK12 => ?_
        refine S.seq fun K13 hK13 => ?_
        refine S.region rfl ?_
        refine S.op (S.q (q_move rfl) rfl rfl ?_)
        refine S.op (S.q (q_move rfl) rfl rfl ?_)
        refine S.op (S.q (q_ge rfl rfl) rfl rfl ?_)
        first | with_reducible refine S.nilK ?_ | refine S.nil ?_
        refine hK13 _ _ ?_
        refine S.condD rfl (fun h2 => ?_) (fun h2 => ?_)
        · have hv : vicUp m al (freeR m row) k (i + 1) = some i := by rw [vicUp, hno]; exact if_pos (by omega)
          have hfin : ofV m row tier k l = (al.take i, true) := by rw [hof, vicUp_mono hv (by omega)]
          refine S.seq fun K14 hK14 => ?_
          refine S.region rfl ?_
          refine S.op (S.q (q_move rfl) rfl rfl ?_)
          refine S.op (S.q (q_move rfl) rfl rfl ?_)
          refine S.op (S.q (q_sliceTo (i) Tryd.el64 rfl rfl rfl (by omega)) rfl rfl ?_)
          refine S.op (S.q (q_assign rfl) rfl rfl ?_)
          refine S.op (S.q (q_assign rfl) rfl rfl ?_)
          first | with_reducible refine S.nilK ?_ | refine S.nil ?_
          refine hK14 _ _ ?_
          refine S.ret ?_
          with_reducible repeat (first | refine S.then_n ?_ | refine S.then_x ?_ | refine S.then_r ?_ | refine S.inBlock_n ?_ | refine S.inBlock_r ?_ | refine S.inBlock_x rfl ?_ | refine S.noGoto_r ?_ | refine S.noGoto_n ?_ | refine S.noGoto_x ?_)
          refine S.conv (own u 75 2 (al.flatMap cdC)) (Ent.ownTake u 75 2 _ (k := i) (by omega) _) ?_
          rw [flat_take cdC_len al i]
          exact S.fin (rs := [_, _]) (vs := [_, _]) Tryd.results63 (⟨rfl, rfl, trivial⟩)  (⟨⟨u.a, i, u.c⟩, by rw [hfin]; rfl, by rw [hfin]; show i = (al.take i).length; rw [List.length_take]; omega, by rw [hfin]⟩) Sub.ent
        · have hv : vicUp m al (freeR m row) k (i + 1) = none := by rw [vicUp, hno]; exact if_neg (by omega)
          refine S.skip ?_
          with_reducible repeat (first | refine S.then_n ?_ | refine S.then_x ?_ | refine S.then_r ?_ | refine S.inBlock_n ?_ | refine S.inBlock_r ?_ | refine S.inBlock_x rfl ?_ | refine S.noGoto_r ?_ | refine S.noGoto_n ?_ | refine S.noGoto_x ?_)
          refine hK12 _ _ ?_
          refine S.seq fun K15 hK15 => ?_
          refine S.seq fun K16 hK16 => ?_
          refine S.region rfl ?_
          refine S.op (S.q (q_move rfl) rfl rfl ?_)
          refine S.op (S.q (q_move rfl) rfl rfl ?_)
          refine S.op (S.q (q_len Tryd.underlying64 rfl) rfl rfl ?_)
          refine S.op (S.q (q_eq rfl rfl) rfl rfl ?_)
          first | with_reducible refine S.nilK ?_ | refine S.nil ?_
          refine hK16 _ _ ?_
          refine S.condD rfl (fun h3 => ?_) (fun h3 => ?_)
          · have hfin : ofV m row tier k l = ([], false) := by rw [hof, show al.length + 1 = i + 1 by omega, hv]
            refine S.seq fun K17 hK17 => ?_
            refine S.region rfl ?_
            refine S.op (S.q (q_assign rfl) rfl rfl ?_)
            refine S.op (S.q (q_assign rfl) rfl rfl ?_)
            first | with_reducible refine S.nilK ?_ | refine S.nil ?_
            refine hK17 _ _ ?_
            refine S.ret ?_
            with_reducible repeat (first | refine S.then_n ?_ | refine S.then_x ?_ | refine S.then_r ?_ | refine S.inBlock_n ?_ | refine S.inBlock_r ?_ | refine S.inBlock_x rfl ?_ | refine S.noGoto_r ?_ | refine S.noGoto_n ?_ | refine S.noGoto_x ?_)
            refine S.ent (Ent.ownNil 75 2) ?_
            show S _ w0 _ (own SV.nil 75 2 (([] : List Cd).flatMap cdC) :: _) _
            exact S.fin (rs := [_, _]) (vs := [_, _]) Tryd.results63 (⟨rfl, rfl, trivial⟩)  (⟨SV.nil, by rw [hfin]; rfl, by rw [hfin]; rfl, by rw [hfin]⟩) Sub.ent
          · refine S.ownSome u (by omega) fun ub uo hua _ _ _ => ?_
            obtain ⟨x, hx⟩ := getE (show i < al.length by omega)
            have hxd : al.getD i (0, 0) = x := by simp [List.getD, hx]
            have hs : haveUp m al (freeR m row) (i + 1) = haveUp m al (freeR m row) i + givR m x.1 := by rw [haveUp, hxd]
            have hgl := givR_le m x.1
            refine S.skip ?_
            with_reducible repeat (first | refine S.then_n ?_ | refine S.then_x ?_ | refine S.then_r ?_ | refine S.inBlock_n ?_ | refine S.inBlock_r ?_ | refine S.inBlock_x rfl ?_ | refine S.noGoto_r ?_ | refine S.noGoto_n ?_ | refine S.noGoto_x ?_)
            refine hK15 _ _ ?_
            refine S.region rfl ?_
            refine S.op (S.q (q_move rfl) rfl rfl ?_)
            refine S.op (S.q (q_move rfl) rfl rfl ?_)
            refine S.op (S.q (q_move rfl) rfl rfl ?_)
            refine S.op (S.q (q_move rfl) rfl rfl ?_)
            refine S.op (S.q (q_indexO (i) Tryd.el64 rfl hua rfl rfl (by omega)) rfl rfl ?_)
            refine S.op (S.q (q_field Tryd.fo75_0 rfl) rfl rfl ?_)
            refine S.op (S.q (q_loadOw (u) (i * 2 + 0) Tryd.at36 rfl hua (by first | rfl | exact Nat.add_assoc _ _ _ | omega) (flat_get (enc := cdC) (sz := 2) (k := 0) (v := .int .u32 (x.1 : Int)) cdC_len hx rfl)) rfl rfl ?_)
            refine S.op (S.call Tryd.en81 (vs := [_, _]) ⟨rfl, rfl, trivial⟩ (gives_S b m x.1 hW) rfl ?_)
            rintro v Θ ⟨rfl, rfl⟩
            refine S.op (S.q (q_add rfl rfl (inI64 (by omega) (by omega))) rfl rfl ?_)
            refine S.op (S.q (q_assign rfl) rfl rfl ?_)
            first | with_reducible refine S.nilK ?_ | refine S.nil ?_
            with_reducible repeat (first | refine S.then_n ?_ | refine S.then_x ?_ | refine S.then_r ?_ | refine S.inBlock_n ?_ | refine S.inBlock_r ?_ | refine S.inBlock_x rfl ?_ | refine S.noGoto_r ?_ | refine S.noGoto_n ?_ | refine S.noGoto_x ?_)
            refine hK11 _ _ ?_
            refine S.region rfl ?_
            refine S.op (S.q (q_move rfl) rfl rfl ?_)
            refine S.op (S.q (q_add rfl rfl (inI64 (by omega) (by omega))) rfl rfl ?_)
            refine S.op (S.q (q_assign rfl) rfl rfl ?_)
            first | with_reducible refine S.nilK ?_ | refine S.nil ?_
            with_reducible repeat (first | refine S.then_n ?_ | refine S.then_x ?_ | refine S.then_r ?_ | refine S.inBlock_n ?_ | refine S.inBlock_r ?_ | refine S.inBlock_x rfl ?_ | refine S.noGoto_r ?_ | refine S.noGoto_n ?_ | refine S.noGoto_x ?_)
            exact S.next (q - 1) (⟨i + 1, by omega, by omega, hv, by rw [hs], rfl⟩) (by omega) (by repeat (first | exact trivial | refine ⟨rfl, ?_⟩)) Sub.ent
theorem VOf_S (b : Nat) (m : Mx) (row tier k : Int) (R : Assn) (s : SV) (l : List Cd) (hsn : s.n = l.length) (hl : l.length ≤ 1000) (hR : RdS R s s.n 2 (l.flatMap cdC)) {W : World} (hW : TabW W) : Spec Tryd.prog 36 [.pointer (some ⟨b, 0, none⟩), .int .i64 row, s.v, .int .u8 tier, .int .i64 k] [MI b m, R, old W] fun Γ v Θ =>
    ∃ u : SV, v = .tuple #[u.v, .bool (ofV m row tier k l).2] ∧ u.n = (ofV m row tier k l).1.length ∧ Θ = own u 36 1 (idsV (jobsR (ofV m row tier k l).1)) :: MI b m :: R :: old W :: Γ := by
  refine Spec.of_body Tryd.func36 rfl Tryd.ntmps36 rfl ?_
  intro w0 Γ
  show S _ w0 [(0, .pointer (some ⟨b, 0, none⟩)), (1, .int .i64 row), (2, s.v), (3, .int .u8 tier), (4, .int .i64 k)] (MI b m :: R :: old W :: Γ) _
  obtain ⟨vl, hvl⟩ : ∃ vl, vl = (ofV m row tier k l).1 := ⟨_, rfl⟩
  have hlen : vl.length ≤ 1000 := by
    rw [hvl]
    have := lesR_len m row tier l
    unfold ofV
    split
    · simp
    · split
      · simp only [List.length_take]; omega
      · simp
  refine S.seq fun K1 hK1 => ?_
  refine S.region rfl ?_
  refine S.op (S.q (q_assign rfl) rfl rfl ?_)
  refine S.op (S.q (q_assign rfl) rfl rfl ?_)
  first | with_reducible refine S.nilK ?_ | refine S.nil ?_
  refine hK1 _ _ ?_
  refine S.seq fun K2 hK2 => ?_
  refine S.region rfl ?_
  refine S.op (S.q (q_move rfl) rfl rfl ?_)
  refine S.op (S.q (q_move rfl) rfl rfl ?_)
  refine S.op (S.q (q_move rfl) rfl rfl ?_)
  refine S.op (S.q (q_move rfl) rfl rfl ?_)
  refine S.op (S.q (q_move rfl) rfl rfl ?_)
  refine S.op (S.call Tryd.en63 (vs := [_, _, _, _, _]) ⟨rfl, rfl, rfl, rfl, rfl, trivial⟩ (of_S b m row tier k R s l hsn hl hR hW) rfl ?_)
  rintro v Θ ⟨u, rfl, hun, rfl⟩
  rw [← hvl] at hun ⊢
  refine S.op (S.q (q_move rfl) rfl rfl ?_)
  refine S.op (S.q (q_extract rfl rfl) rfl rfl ?_)
  refine S.op (S.q (q_extract rfl rfl) rfl rfl ?_)
  refine S.op (S.q (q_assign rfl) rfl rfl ?_)
  refine S.op (S.q (q_assign rfl) rfl rfl ?_)
  first | with_reducible refine S.nilK ?_ | refine S.nil ?_
  refine hK2 _ _ ?_
  refine S.seq fun K3 hK3 => ?_
  refine S.region rfl ?_
  refine S.op (S.q (q_move rfl) rfl rfl ?_)
  refine S.op (S.call Tryd.en67 (vs := [_]) ⟨rfl, trivial⟩ (jobs_S (own u 75 2 (vl.flatMap cdC)) u vl hun hlen RdS.own) rfl ?_)
  rintro v Θ ⟨u2, rfl, hu2, rfl⟩
  refine S.op (S.q (q_move rfl) rfl rfl ?_)
  refine S.op (S.q (q_assign rfl) rfl rfl ?_)
  refine S.op (S.q (q_assign rfl) rfl rfl ?_)
  first | with_reducible refine S.nilK ?_ | refine S.nil ?_
  refine hK3 _ _ ?_
  refine S.ret ?_
  with_reducible repeat (first | refine S.then_n ?_ | refine S.then_x ?_ | refine S.then_r ?_ | refine S.inBlock_n ?_ | refine S.inBlock_r ?_ | refine S.inBlock_x rfl ?_ | refine S.noGoto_r ?_ | refine S.noGoto_n ?_ | refine S.noGoto_x ?_)
  exact S.fin (rs := [_, _]) (vs := [_, _]) Tryd.results36 (⟨rfl, rfl, trivial⟩)  (⟨u2, rfl, by rw [← hvl]; exact hu2, by rw [← hvl]⟩) Sub.ent
end Go.Proofs.YtbhnbnecaejjiaaDoor
