/- The document's answer for talk: Tick. -/
import Derived.Test.YtdlddggjjibeaaaTalkJ
namespace Go.Proofs.Ytdlddggjjibeaaa
open Go.RowKit
theorem rTickNil_S : Spec Try.prog 21 [.pointer none] [] fun Γ v Θ => v = .slice none 0 0 ∧ Θ = Γ := by
  refine Spec.of_body Try.func21 rfl Try.ntmps21 rfl ?_
  intro w0 Γ
  show S _ w0 [(0, .pointer none)] Γ _
  refine S.seq fun K1 hK1 => ?_
  refine S.region rfl ?_
  refine S.op (S.q (q_assign rfl) rfl rfl ?_)
  first | with_reducible refine S.nilK ?_ | refine S.nil ?_
  refine hK1 _ _ ?_
  refine S.seq fun K2 hK2 => ?_
  refine S.region rfl ?_
  refine S.op (S.q (q_assign rfl) rfl rfl ?_)
  first | with_reducible refine S.nilK ?_ | refine S.nil ?_
  refine hK2 _ _ ?_
  refine S.seq fun K3 hK3 => ?_
  refine S.seq fun K4 hK4 => ?_
  refine S.region rfl ?_
  refine S.op (S.q (q_move rfl) rfl rfl ?_)
  refine S.op (S.q (q_eqN Try.underlying51 rfl rfl) rfl rfl ?_)
  first | with_reducible refine S.nilK ?_ | refine S.nil ?_
  refine hK4 _ _ ?_
  refine S.condT rfl ?_
  refine S.seq fun K5 hK5 => ?_
  refine S.region rfl ?_
  refine S.op (S.q (q_assign rfl) rfl rfl ?_)
  first | with_reducible refine S.nilK ?_ | refine S.nil ?_
  refine hK5 _ _ ?_
  refine S.ret ?_
  with_reducible repeat (first | refine S.then_n ?_ | refine S.then_x ?_ | refine S.then_r ?_ | refine S.inBlock_n ?_ | refine S.inBlock_r ?_ | refine S.inBlock_x rfl ?_ | refine S.noGoto_r ?_ | refine S.noGoto_n ?_ | refine S.noGoto_x ?_)
  exact S.fin (rs := [_]) (vs := [_]) Try.results21 (⟨rfl, trivial⟩)  (⟨rfl, rfl⟩) Sub.ent
/-- Nothing is told now. -/
def quietR (ck : Int) (D : Nat) (tls : List Int) : Bool := match tls[D]? with
  | none => true
  | some k => decide (ck + 1 - k < 2)
/-- What is told: the things from D on. -/
def Tells (sds : List BR) (D : Nat) (ps : List Pk) : Prop := ∀ (i : Nat) (p : Pk), ps[i]? = some p → ∃ x, sds[D + i]? = some x ∧ p.data = x.l ∧ p.seq = ((D + i : Nat) : Int) + 1
theorem Tells.snoc {sds : List BR} {D : Nat} {ps : List Pk} (h : Tells sds D ps) {x : BR} {p : Pk} (hx : sds[D + ps.length]? = some x) (hd : p.data = x.l) (hq : p.seq = ((D + ps.length : Nat) : Int) + 1) : Tells sds D (ps ++ [p]) := fun i y hy => by
  by_cases hi : i < ps.length
  · rw [List.getElem?_append_left hi] at hy; exact h i y hy
  · rw [List.getElem?_append_right (by omega)] at hy
    have h1 := (List.getElem?_eq_some_iff.1 hy).1
    simp at h1
    have : i = ps.length := by omega
    subst this
    simp at hy
    subst hy
    exact ⟨x, hx, hd, hq⟩
set_option maxHeartbeats 800000 in
theorem rTick_S (t : Nat) (nd ep lf : Int) (sv tv : SV) (ck hd : Int) (D : Nat) (sds : List BR) (tls : List Int) (hn : sv.n = sds.length) (hsl : sds.length ≤ 900) (htl : tls.length = sds.length) (hD : D ≤ sds.length) (hck : 0 ≤ ck ∧ ck ≤ 1000) (htr : ∀ k ∈ tls, 0 ≤ k ∧ k ≤ ck) (hdl : ∀ x ∈ sds, x.l.length ≤ 140737488355328) :
    Spec Try.prog 21 [.pointer (some ⟨t, 0, none⟩)] [blk t 65 (rk nd ep lf sv tv ck D hd).toArray, own sv 32 1 (sds.flatMap brC), alls sds brB, own tv 3 1 (tls.flatMap tC)] fun Γ v Θ =>
      ∃ (out : SV) (ps : List Pk) (tls' : List Int), v = out.v ∧ ((quietR ck D tls = true ∧ ps = [] ∧ tls' = tls) ∨ (quietR ck D tls = false ∧ ps.length = sds.length - D ∧ Tells sds D ps ∧ tls'.length = tls.length ∧ (∀ j k, tls'[j]? = some k → D ≤ j → k = ck + 1) ∧ ∀ k ∈ tls', 0 ≤ k ∧ k ≤ ck + 1)) ∧
        Θ = alls ps pkB :: own out 34 7 (ps.flatMap (pkE nd ep lf hd)) :: blk t 65 (rk nd ep lf sv tv (ck + 1) D hd).toArray :: own sv 32 1 (sds.flatMap brC) :: alls sds brB :: own tv 3 1 (tls'.flatMap tC) :: Γ := by
  refine Spec.of_body Try.func21 rfl Try.ntmps21 rfl ?_
  intro w0 Γ
  show S _ w0 [(0, .pointer (some ⟨t, 0, none⟩))] (blk t 65 (rk nd ep lf sv tv ck D hd).toArray :: own sv 32 1 (sds.flatMap brC) :: alls sds brB :: own tv 3 1 (tls.flatMap tC) :: Γ) _
  refine S.ownLen tv fun htvl _ _ => ?_
  rw [flat_length tC_len] at htvl
  refine S.seq fun K1 hK1 => ?_
  refine S.region rfl ?_
  refine S.op (S.q (q_assign rfl) rfl rfl ?_)
  first | with_reducible refine S.nilK ?_ | refine S.nil ?_
  refine hK1 _ _ ?_
  refine S.seq fun K2 hK2 => ?_
  refine S.region rfl ?_
  refine S.op (S.q (q_assign rfl) rfl rfl ?_)
  first | with_reducible refine S.nilK ?_ | refine S.nil ?_
  refine hK2 _ _ ?_
  refine S.seq fun K3 hK3 => ?_
  refine S.seq fun K4 hK4 => ?_
  refine S.region rfl ?_
  refine S.op (S.q (q_move rfl) rfl rfl ?_)
  refine S.op (S.q (q_eqN Try.underlying51 rfl rfl) rfl rfl ?_)
  first | with_reducible refine S.nilK ?_ | refine S.nil ?_
  refine hK4 _ _ ?_
  refine S.condF rfl ?_
  refine S.skip ?_
  with_reducible repeat (first | refine S.then_n ?_ | refine S.then_x ?_ | refine S.then_r ?_ | refine S.inBlock_n ?_ | refine S.inBlock_r ?_ | refine S.inBlock_x rfl ?_ | refine S.noGoto_r ?_ | refine S.noGoto_n ?_ | refine S.noGoto_x ?_)
  refine hK3 _ _ ?_
  refine S.seq fun K5 hK5 => ?_
  refine S.region rfl ?_
  refine S.op (S.q (q_move rfl) rfl rfl ?_)
  refine S.op (S.q (q_nilCheck rfl) rfl rfl ?_)
  refine S.op (S.q (q_field Try.fo65_5 rfl) rfl rfl ?_)
  refine S.op (S.q (q_load Try.at3 rfl rfl) rfl rfl ?_)
  refine S.op (S.q (q_add rfl rfl (inI64 (by omega) (by omega))) rfl rfl ?_)
  refine S.op (S.q (q_nilCheck rfl) rfl rfl ?_)
  refine S.op (S.q (q_field Try.fo65_5 rfl) rfl rfl ?_)
  refine S.op (S.store (cs' := [_, _, _, _, _, _, _, _]) Try.at3 rfl rfl rfl rfl rfl ?_)
  first | with_reducible refine S.nilK ?_ | refine S.nil ?_
  refine hK5 _ _ ?_
  refine S.seq fun K6 hK6 => ?_
  refine S.seq fun K7 hK7 => ?_
  refine S.draw ([blk t 65 (rk nd ep lf sv tv (ck + 1) D hd).toArray, own tv 3 1 (tls.flatMap tC)]) [] Try.mixed ?_
  refine S.dr_take 0 [] rfl (by kernel_rfl) rfl rfl rfl (q_move rfl) Sub.ent ?_
  refine S.dr_take 1 [] rfl (by kernel_rfl) rfl rfl rfl (q_nilCheck rfl) Sub.ent ?_
  refine S.dr_take 2 [] rfl (by kernel_rfl) rfl rfl rfl (q_field Try.fo65_6 rfl) Sub.ent ?_
  refine S.dr_take 3 [] rfl (by kernel_rfl) rfl rfl rfl (q_load Try.at3 rfl rfl) Sub.ent ?_
  refine S.dr_take 4 [] rfl (by kernel_rfl) rfl rfl rfl (q_move rfl) Sub.ent ?_
  refine S.dr_take 5 [] rfl (by kernel_rfl) rfl rfl rfl (q_nilCheck rfl) Sub.ent ?_
  refine S.dr_take 6 [] rfl (by kernel_rfl) rfl rfl rfl (q_field Try.fo65_3 rfl) Sub.ent ?_
  refine S.dr_take 7 [] rfl (by kernel_rfl) rfl rfl rfl (q_load Try.at28 rfl rfl) Sub.ent ?_
  refine S.dr_take 8 [] rfl (by kernel_rfl) rfl rfl rfl (q_len Try.underlying28 rfl) Sub.ent ?_
  refine S.dr_take 9 [] rfl (by kernel_rfl) rfl rfl rfl (q_eq rfl rfl) Sub.ent ?_
  refine S.dr_take 10 [] rfl (by kernel_rfl) rfl rfl rfl (q_move rfl) Sub.ent ?_
  by_cases hg5_10 : (D : Int) = sv.n
  · have hq : quietR ck D tls = true := by unfold quietR; rw [List.getElem?_eq_none (by omega)]
    refine S.dr_takeN 11 [] rfl (by kernel_rfl) rfl rfl rfl (decide_eq_true hg5_10) rfl rfl Sub.ent ?_
    refine S.dr_takeN 12 [] rfl (by kernel_rfl) rfl rfl rfl (decide_eq_true hg5_10) rfl rfl Sub.ent ?_
    refine S.dr_takeN 13 [] rfl (by kernel_rfl) rfl rfl rfl (decide_eq_true hg5_10) rfl rfl Sub.ent ?_
    refine S.dr_takeN 14 [] rfl (by kernel_rfl) rfl rfl rfl (decide_eq_true hg5_10) rfl rfl Sub.ent ?_
    refine S.dr_takeN 15 [] rfl (by kernel_rfl) rfl rfl rfl (decide_eq_true hg5_10) rfl rfl Sub.ent ?_
    refine S.dr_takeN 16 [] rfl (by kernel_rfl) rfl rfl rfl (decide_eq_true hg5_10) rfl rfl Sub.ent ?_
    refine S.dr_takeN 17 [] rfl (by kernel_rfl) rfl rfl rfl (decide_eq_true hg5_10) rfl rfl Sub.ent ?_
    refine S.dr_takeN 18 [] rfl (by kernel_rfl) rfl rfl rfl (decide_eq_true hg5_10) rfl rfl Sub.ent ?_
    refine S.dr_takeN 19 [] rfl (by kernel_rfl) rfl rfl rfl (decide_eq_true hg5_10) rfl rfl Sub.ent ?_
    refine S.dr_takeN 20 [] rfl (by kernel_rfl) rfl rfl rfl (decide_eq_true hg5_10) rfl rfl Sub.ent ?_
    refine S.dr_takeN 21 [] rfl (by kernel_rfl) rfl rfl rfl (decide_eq_true hg5_10) rfl rfl Sub.ent ?_
    refine S.dr_takeN 22 [] rfl (by kernel_rfl) rfl rfl rfl (decide_eq_true hg5_10) rfl rfl Sub.ent ?_
    refine S.dr_takeN 23 [] rfl (by kernel_rfl) rfl rfl rfl (decide_eq_true hg5_10) rfl rfl Sub.ent ?_
    refine S.dr_takeN 24 [] rfl (by kernel_rfl) rfl rfl rfl (decide_eq_true hg5_10) rfl rfl Sub.ent ?_
    refine S.dr_takeN 25 [] rfl (by kernel_rfl) rfl rfl rfl (decide_eq_true hg5_10) rfl rfl Sub.ent ?_
    refine S.dr_takeN 26 [] rfl (by kernel_rfl) rfl rfl rfl (decide_eq_true hg5_10) rfl rfl Sub.ent ?_
    refine S.dr_take 27 [] rfl (by kernel_rfl) rfl rfl rfl (q_pickT rfl (decide_eq_true hg5_10) rfl) Sub.ent ?_
    first | with_reducible refine S.dr_doneK (by kernel_rfl) ?_ | refine S.dr_done (by kernel_rfl) ?_
    refine hK7 _ _ ?_
    refine S.condT rfl ?_
    refine S.seq fun K8 hK8 => ?_
    refine S.region rfl ?_
    refine S.op (S.q (q_assign rfl) rfl rfl ?_)
    first | with_reducible refine S.nilK ?_ | refine S.nil ?_
    refine hK8 _ _ ?_
    refine S.ret ?_
    with_reducible repeat (first | refine S.then_n ?_ | refine S.then_x ?_ | refine S.then_r ?_ | refine S.inBlock_n ?_ | refine S.inBlock_r ?_ | refine S.inBlock_x rfl ?_ | refine S.noGoto_r ?_ | refine S.noGoto_n ?_ | refine S.noGoto_x ?_)
    refine S.ent (show Ent _ (own SV.nil 34 7 (([] : List Pk).flatMap (pkE nd ep lf hd)) :: _) from Ent.ownNil _ _) ?_
    refine S.ent (Ent.allsNil pkB _) ?_
    exact S.fin (rs := [_]) (vs := [_]) Try.results21 (⟨rfl, trivial⟩)  (⟨SV.nil, [], tls, rfl, .inl ⟨by first | exact hqt | exact hq, rfl, rfl⟩, rfl⟩) Sub.ent
  · obtain ⟨k, hk⟩ := getE (l := tls) (i := D) (by omega)
    have hkr := htr k (List.mem_of_getElem? hk)
    have hq : quietR ck D tls = decide (ck + 1 - k < 2) := by unfold quietR; rw [hk]
    refine S.ownSome tv (by omega) fun bt offt hbt _ _ _ => ?_
    refine S.dr_takeY 11 [] rfl (by kernel_rfl) rfl rfl rfl (decide_eq_false hg5_10) rfl rfl (q_move rfl) Sub.ent ?_
    refine S.dr_takeY 12 [] rfl (by kernel_rfl) rfl rfl rfl (decide_eq_false hg5_10) rfl rfl (q_nilCheck rfl) Sub.ent ?_
    refine S.dr_takeY 13 [] rfl (by kernel_rfl) rfl rfl rfl (decide_eq_false hg5_10) rfl rfl (q_field Try.fo65_5 rfl) Sub.ent ?_
    refine S.dr_takeY 14 [] rfl (by kernel_rfl) rfl rfl rfl (decide_eq_false hg5_10) rfl rfl (q_load Try.at3 rfl rfl) Sub.ent ?_
    refine S.dr_takeY 15 [] rfl (by kernel_rfl) rfl rfl rfl (decide_eq_false hg5_10) rfl rfl (q_move rfl) Sub.ent ?_
    refine S.dr_takeY 16 [] rfl (by kernel_rfl) rfl rfl rfl (decide_eq_false hg5_10) rfl rfl (q_nilCheck rfl) Sub.ent ?_
    refine S.dr_takeY 17 [] rfl (by kernel_rfl) rfl rfl rfl (decide_eq_false hg5_10) rfl rfl (q_field Try.fo65_4 rfl) Sub.ent ?_
    refine S.dr_takeY 18 [] rfl (by kernel_rfl) rfl rfl rfl (decide_eq_false hg5_10) rfl rfl (q_load Try.at63 rfl rfl) Sub.ent ?_
    refine S.dr_takeY 19 [] rfl (by kernel_rfl) rfl rfl rfl (decide_eq_false hg5_10) rfl rfl (q_move rfl) Sub.ent ?_
    refine S.dr_takeY 20 [] rfl (by kernel_rfl) rfl rfl rfl (decide_eq_false hg5_10) rfl rfl (q_nilCheck rfl) Sub.ent ?_
    refine S.dr_takeY 21 [] rfl (by kernel_rfl) rfl rfl rfl (decide_eq_false hg5_10) rfl rfl (q_field Try.fo65_6 rfl) Sub.ent ?_
    refine S.dr_takeY 22 [] rfl (by kernel_rfl) rfl rfl rfl (decide_eq_false hg5_10) rfl rfl (q_load Try.at3 rfl rfl) Sub.ent ?_
    refine S.dr_takeY 23 [] rfl (by kernel_rfl) rfl rfl rfl (decide_eq_false hg5_10) rfl rfl (q_indexO (D) Try.el63 rfl hbt rfl rfl (by omega)) Sub.ent ?_
    refine S.dr_takeY 24 [] rfl (by kernel_rfl) rfl rfl rfl (decide_eq_false hg5_10) rfl rfl (q_loadOw (tv) (D * 1 + 0) Try.at3 rfl hbt (by first | rfl | exact Nat.add_assoc _ _ _ | omega) (flat_get tC_len hk rfl)) Sub.ent ?_
    refine S.dr_takeY 25 [] rfl (by kernel_rfl) rfl rfl rfl (decide_eq_false hg5_10) rfl rfl (q_sub rfl rfl (inI64 (by omega) (by omega))) Sub.ent ?_
    refine S.dr_takeY 26 [] rfl (by kernel_rfl) rfl rfl rfl (decide_eq_false hg5_10) rfl rfl (q_lt rfl rfl) Sub.ent ?_
    refine S.dr_take 27 [] rfl (by kernel_rfl) rfl rfl rfl (q_pickF rfl (decide_eq_false hg5_10) rfl) Sub.ent ?_
    first | with_reducible refine S.dr_doneK (by kernel_rfl) ?_ | refine S.dr_done (by kernel_rfl) ?_
    refine hK7 _ _ ?_
    refine S.condD rfl (fun h2 => ?_) (fun h2 => ?_)
    · have hqt : quietR ck D tls = true := by rw [hq]; exact decide_eq_true h2
      refine S.seq fun K9 hK9 => ?_
      refine S.region rfl ?_
      refine S.op (S.q (q_assign rfl) rfl rfl ?_)
      first | with_reducible refine S.nilK ?_ | refine S.nil ?_
      refine hK9 _ _ ?_
      refine S.ret ?_
      with_reducible repeat (first | refine S.then_n ?_ | refine S.then_x ?_ | refine S.then_r ?_ | refine S.inBlock_n ?_ | refine S.inBlock_r ?_ | refine S.inBlock_x rfl ?_ | refine S.noGoto_r ?_ | refine S.noGoto_n ?_ | refine S.noGoto_x ?_)
      refine S.ent (show Ent _ (own SV.nil 34 7 (([] : List Pk).flatMap (pkE nd ep lf hd)) :: _) from Ent.ownNil _ _) ?_
      refine S.ent (Ent.allsNil pkB _) ?_
      exact S.fin (rs := [_]) (vs := [_]) Try.results21 (⟨rfl, trivial⟩)  (⟨SV.nil, [], tls, rfl, .inl ⟨by first | exact hqt | exact hq, rfl, rfl⟩, rfl⟩) Sub.ent
    · have hqf : quietR ck D tls = false := by rw [hq]; exact decide_eq_false h2
      refine S.ent (show Ent _ (own SV.nil 34 7 (([] : List Pk).flatMap (pkE nd ep lf hd)) :: _) from Ent.ownNil _ _) ?_
      refine S.ent (Ent.allsNil pkB _) ?_
      refine S.skip ?_
      with_reducible repeat (first | refine S.then_n ?_ | refine S.then_x ?_ | refine S.then_r ?_ | refine S.inBlock_n ?_ | refine S.inBlock_r ?_ | refine S.inBlock_x rfl ?_ | refine S.noGoto_r ?_ | refine S.noGoto_n ?_ | refine S.noGoto_x ?_)
      refine hK6 _ _ ?_
      refine S.seq fun K10 hK10 => ?_
      refine S.seq fun K11 hK11 => ?_
      refine S.region rfl ?_
      refine S.op (S.q (q_move rfl) rfl rfl ?_)
      refine S.op (S.q (q_nilCheck rfl) rfl rfl ?_)
      refine S.op (S.q (q_field Try.fo65_6 rfl) rfl rfl ?_)
      refine S.op (S.q (q_load Try.at3 rfl rfl) rfl rfl ?_)
      refine S.op (S.q (q_assign rfl) rfl rfl ?_)
      first | with_reducible refine S.nilK ?_ | refine S.nil ?_
      refine hK11 _ _ ?_
      refine S.block ?_
      refine S.loop (fun m ρ' Γ' => ∃ (i : Nat) (out : SV) (ps : List Pk) (tls' : List Int), m + i = sds.length ∧ i = D + ps.length ∧ Tells sds D ps ∧ tls'.length = tls.length ∧ (∀ j k, tls'[j]? = some k → D ≤ j → j < i → k = ck + 1) ∧ (∀ k ∈ tls', 0 ≤ k ∧ k ≤ ck + 1) ∧ ρ' = [(0, .pointer (some ⟨t, 0, none⟩)), (3, out.v), (4, .int .i64 i)] ∧ Γ' = alls ps pkB :: own out 34 7 (ps.flatMap (pkE nd ep lf hd)) :: blk t 65 (rk nd ep lf sv tv (ck + 1) D hd).toArray :: own sv 32 1 (sds.flatMap brC) :: alls sds brB :: own tv 3 1 (tls'.flatMap tC) :: Γ) (m := _) (ρ0 := _) (Γ0 := _) (⟨D, SV.nil, [], tls, Nat.sub_add_cancel hD, rfl, fun i p h => (by simp at h), rfl, fun j k _ h1 h2 => absurd h1 (by omega), fun k hk => (by have := htr k hk; omega), rfl, rfl⟩) (by repeat (first | exact trivial | refine ⟨rfl, ?_⟩)) Sub.ent ?_
      rintro m ρ' Γ' ⟨i, out, ps, tls', hmi, hip, htell, htl', hset, hrng, rfl, rfl⟩
      refine S.seq fun K12 hK12 => ?_
      refine S.seq fun K13 hK13 => ?_
      refine S.region rfl ?_
      refine S.op (S.q (q_move rfl) rfl rfl ?_)
      refine S.op (S.q (q_move rfl) rfl rfl ?_)
      refine S.op (S.q (q_nilCheck rfl) rfl rfl ?_)
      refine S.op (S.q (q_field Try.fo65_3 rfl) rfl rfl ?_)
      refine S.op (S.q (q_load Try.at28 rfl rfl) rfl rfl ?_)
      refine S.op (S.q (q_len Try.underlying28 rfl) rfl rfl ?_)
      refine S.op (S.q (q_lt rfl rfl) rfl rfl ?_)
      first | with_reducible refine S.nilK ?_ | refine S.nil ?_
      refine hK13 _ _ ?_
      refine S.condD rfl (fun h3 => ?_) (fun h3 => ?_)
      · obtain ⟨x, hx⟩ := getE (l := sds) (i := i) (by omega)
        obtain ⟨kt, hkt⟩ := getE (l := tls') (i := i) (by omega)
        refine S.ownSome tv (by omega) fun bt2 offt2 hbt2 _ _ _ => ?_
        refine S.ownLen out fun holn _ _ => ?_
        rw [flat_length (sz := 7) (fun _ => rfl)] at holn
        refine S.skip ?_
        with_reducible repeat (first | refine S.then_n ?_ | refine S.then_x ?_ | refine S.then_r ?_ | refine S.inBlock_n ?_ | refine S.inBlock_r ?_ | refine S.inBlock_x rfl ?_ | refine S.noGoto_r ?_ | refine S.noGoto_n ?_ | refine S.noGoto_x ?_)
        refine hK12 _ _ ?_
        refine S.seq fun K14 hK14 => ?_
        refine S.block ?_
        refine S.seq fun K15 hK15 => ?_
        refine S.draw ([blk t 65 (rk nd ep lf sv tv (ck + 1) D hd).toArray]) [] Try.mixed ?_
        refine S.dr_take 0 [] rfl (by kernel_rfl) rfl rfl rfl (q_move rfl) Sub.ent ?_
        refine S.dr_take 1 [] rfl (by kernel_rfl) rfl rfl rfl (q_nilCheck rfl) Sub.ent ?_
        refine S.dr_take 2 [] rfl (by kernel_rfl) rfl rfl rfl (q_field Try.fo65_4 rfl) Sub.ent ?_
        refine S.dr_take 3 [] rfl (by kernel_rfl) rfl rfl rfl (q_load Try.at63 rfl rfl) Sub.ent ?_
        refine S.dr_take 4 [] rfl (by kernel_rfl) rfl rfl rfl (q_move rfl) Sub.ent ?_
        refine S.dr_take 5 [] rfl (by kernel_rfl) rfl rfl rfl (q_move rfl) Sub.ent ?_
        refine S.dr_take 6 [] rfl (by kernel_rfl) rfl rfl rfl (q_nilCheck rfl) Sub.ent ?_
        refine S.dr_take 7 [] rfl (by kernel_rfl) rfl rfl rfl (q_field Try.fo65_5 rfl) Sub.ent ?_
        refine S.dr_take 8 [] rfl (by kernel_rfl) rfl rfl rfl (q_load Try.at3 rfl rfl) Sub.ent ?_
        refine S.dr_take 9 [] rfl (by kernel_rfl) rfl rfl rfl (q_indexO (i) Try.el63 rfl hbt2 rfl rfl (by omega)) Sub.ent ?_
        refine S.dr_1 (i := 10) (by kernel_rfl) rfl rfl ?_
        refine  (S.storeOw (tv) (i * 1 + 0) Try.at3 rfl rfl rfl hbt2 (by first | rfl | exact Nat.add_assoc _ _ _ | omega) (by rw [flat_length tC_len]; omega) (flat_set tC_len (x' := ck + 1) hkt (by omega) rfl) ?_)
        refine S.dr_k rfl Sub.ent ?_
        first | with_reducible refine S.dr_doneK (by kernel_rfl) ?_ | refine S.dr_done (by kernel_rfl) ?_
        refine hK15 _ _ ?_
        refine S.region rfl ?_
        refine S.op (S.q (q_move rfl) rfl rfl ?_)
        refine S.op (S.q (q_move rfl) rfl rfl ?_)
        refine S.op (S.q (q_move rfl) rfl rfl ?_)
        refine S.op (S.call Try.en30 (vs := [_, _]) ⟨rfl, rfl, trivial⟩ (rPk_S t nd ep lf sv tv (ck + 1) D hd sds hn i x hx (hdl x (List.mem_of_getElem? hx)) (by omega)) rfl ?_)
        rintro v Θ ⟨u, rfl, rfl⟩
        refine S.op (S.buildSlice (pvs := [(_, _)]) [_, _, _, _, _, _, _] Try.underlying30 Try.inf34 rfl rfl ⟨⟨rfl, rfl⟩, trivial⟩ rfl rfl ?_)
        intro b69
        refine S.op (S.appendOw (s := out) (1) (pkE nd ep lf hd ⟨(i : Int) + 1, x.l, u⟩) Try.underlying30 Try.inf34 rfl rfl rfl (blk_slAt (b := b69) rfl (by unfold maxLen; omega)) (by first | rfl | exact allOne_bcells _) (⟨by omega, by omega⟩) rfl ?_)
        intro out' hout'
        refine S.op (S.q (q_assign rfl) rfl rfl ?_)
        first | with_reducible refine S.nilK ?_ | refine S.nil ?_
        with_reducible repeat (first | refine S.then_n ?_ | refine S.then_x ?_ | refine S.then_r ?_ | refine S.inBlock_n ?_ | refine S.inBlock_r ?_ | refine S.inBlock_x rfl ?_ | refine S.noGoto_r ?_ | refine S.noGoto_n ?_ | refine S.noGoto_x ?_)
        refine hK14 _ _ ?_
        refine S.region rfl ?_
        refine S.op (S.q (q_move rfl) rfl rfl ?_)
        refine S.op (S.q (q_add rfl rfl (inI64 (by omega) (by omega))) rfl rfl ?_)
        refine S.op (S.q (q_assign rfl) rfl rfl ?_)
        first | with_reducible refine S.nilK ?_ | refine S.nil ?_
        with_reducible repeat (first | refine S.then_n ?_ | refine S.then_x ?_ | refine S.then_r ?_ | refine S.inBlock_n ?_ | refine S.inBlock_r ?_ | refine S.inBlock_x rfl ?_ | refine S.noGoto_r ?_ | refine S.noGoto_n ?_ | refine S.noGoto_x ?_)
        have hset2 : ∀ j k, (tls'.set i (ck + 1))[j]? = some k → D ≤ j → j < i + 1 → k = ck + 1 := fun j k hj h1 h2 => by
          by_cases hji : j = i
          · subst hji; rw [List.getElem?_set_self (by omega)] at hj; cases hj; rfl
          · rw [List.getElem?_set_ne (by omega)] at hj; exact hset j k hj h1 (by omega)
        have hrng2 : ∀ k ∈ tls'.set i (ck + 1), 0 ≤ k ∧ k ≤ ck + 1 := fun k hk => by
          rcases List.mem_or_eq_of_mem_set hk with h | h
          · exact hrng k h
          · omega
        rw [flat_snoc (pkE nd ep lf hd) ps ⟨(i : Int) + 1, x.l, u⟩]
        refine S.conv2 (obytes u x.l) (alls ps pkB) (Ent.allsSnoc pkB ps ⟨(i : Int) + 1, x.l, u⟩ _) ?_
        exact S.next (sds.length - (i + 1)) (⟨i + 1, out', ps ++ [⟨(i : Int) + 1, x.l, u⟩], tls'.set i (ck + 1), by omega, by simp; omega, htell.snoc (x := x) (by rw [← hip]; exact hx) rfl (by rw [← hip]), by rw [List.length_set]; exact htl', hset2, hrng2, rfl, rfl⟩) (by omega) (by repeat (first | exact trivial | refine ⟨rfl, ?_⟩)) Sub.ent
      · refine S.exit ?_
        with_reducible repeat (first | refine S.then_n ?_ | refine S.then_x ?_ | refine S.then_r ?_ | refine S.inBlock_n ?_ | refine S.inBlock_r ?_ | refine S.inBlock_x rfl ?_ | refine S.noGoto_r ?_ | refine S.noGoto_n ?_ | refine S.noGoto_x ?_)
        with_reducible refine S.inBlock_s ?_
        with_reducible repeat (first | refine S.then_n ?_ | refine S.then_x ?_ | refine S.then_r ?_ | refine S.inBlock_n ?_ | refine S.inBlock_r ?_ | refine S.inBlock_x rfl ?_ | refine S.noGoto_r ?_ | refine S.noGoto_n ?_ | refine S.noGoto_x ?_)
        refine hK10 _ _ ?_
        refine S.seq fun K16 hK16 => ?_
        refine S.region rfl ?_
        refine S.op (S.q (q_move rfl) rfl rfl ?_)
        refine S.op (S.q (q_assign rfl) rfl rfl ?_)
        first | with_reducible refine S.nilK ?_ | refine S.nil ?_
        refine hK16 _ _ ?_
        refine S.ret ?_
        with_reducible repeat (first | refine S.then_n ?_ | refine S.then_x ?_ | refine S.then_r ?_ | refine S.inBlock_n ?_ | refine S.inBlock_r ?_ | refine S.inBlock_x rfl ?_ | refine S.noGoto_r ?_ | refine S.noGoto_n ?_ | refine S.noGoto_x ?_)
        exact S.fin (rs := [_]) (vs := [_]) Try.results21 (⟨rfl, trivial⟩)  (⟨out, ps, tls', rfl, .inr ⟨hqf, by omega, htell, htl', fun j k hj h1 => hset j k hj h1 (by have := (List.getElem?_eq_some_iff.1 hj).1; omega), hrng⟩, rfl⟩) Sub.ent
end Go.Proofs.Ytdlddggjjibeaaa
