/- Who has to make room: gives, jobs, top, lesser. -/
import Derived.Test.YtbhnbnecaejjiaaDoorVicA
namespace Go.Proofs.YtbhnbnecaejjiaaDoor
open Go.RowKit
set_option maxRecDepth 20000
/-- How many of the first q nodes of a list are up. -/
def upN (m : Mx) (l : List Nat) : Nat → Nat
  | 0 => 0
  | q + 1 => if isUpB m (l.getD q 0 : Nat) then upN m l q + 1 else upN m l q
theorem upN_le (m : Mx) (l : List Nat) : ∀ q, upN m l q ≤ q
  | 0 => Nat.le_refl _
  | q + 1 => by have := upN_le m l q; rw [upN]; split <;> omega
def givR (m : Mx) (j : Nat) : Nat := upN m (ofR m j).2.1 (ofR m j).2.1.length
theorem ofR_len (m : Mx) (j : Nat) : (ofR m j).2.1.length ≤ 16 := by
  unfold ofR
  cases look m.js j with
  | none => simp
  | some x => exact lst_len x.ns
theorem gives_S (b : Nat) (m : Mx) (j : Nat) {W : World} (hW : TabW W) : Spec Tryd.prog 81 [.pointer (some ⟨b, 0, none⟩), .int .u32 (j : Int)] [MI b m, old W] fun Γ v Θ => v = .int .i64 (givR m j : Nat) ∧ Θ = MI b m :: old W :: Γ := by
  refine Spec.of_body Tryd.func81 rfl Tryd.ntmps81 rfl ?_
  intro w0 Γ
  show S _ w0 [(0, .pointer (some ⟨b, 0, none⟩)), (1, .int .u32 (j : Int))] (MI b m :: old W :: Γ) _
  obtain ⟨nl, hnl⟩ : ∃ nl, nl = (ofR m j).2.1 := ⟨_, rfl⟩
  have hlen := ofR_len m j
  rw [← hnl] at hlen
  refine S.seq fun K1 hK1 => ?_
  refine S.region rfl ?_
  refine S.op (S.q (q_assign rfl) rfl rfl ?_)
  first | with_reducible refine S.nilK ?_ | refine S.nil ?_
  refine hK1 _ _ ?_
  refine S.seq fun K2 hK2 => ?_
  refine S.region rfl ?_
  refine S.op (S.q (q_assign rfl) rfl rfl ?_)
  first | with_reducible refine S.nilK ?_ | refine S.nil ?_
  refine hK2 _ _ ?_
  refine S.seq fun K3 hK3 => ?_
  refine S.region rfl ?_
  refine S.op (S.q (q_move rfl) rfl rfl ?_)
  refine S.op (S.q (q_move rfl) rfl rfl ?_)
  refine S.op (S.call Tryd.en27 (vs := [_, _]) ⟨rfl, rfl, trivial⟩ (Of_S b m j hW) rfl ?_)
  rintro v Θ ⟨sv, rfl, hsv, rfl⟩
  rw [← hnl] at hsv ⊢
  refine S.op (S.q (q_move rfl) rfl rfl ?_)
  refine S.op (S.q (q_extract rfl rfl) rfl rfl ?_)
  refine S.op (S.q (q_extract rfl rfl) rfl rfl ?_)
  refine S.op (S.q (q_extract rfl rfl) rfl rfl ?_)
  refine S.op (S.q (q_assign rfl) rfl rfl ?_)
  refine S.op (S.q (q_assign rfl) rfl rfl ?_)
  refine S.op (S.q (q_assign rfl) rfl rfl ?_)
  first | with_reducible refine S.nilK ?_ | refine S.nil ?_
  refine hK3 _ _ ?_
  refine S.seq fun K4 hK4 => ?_
  refine S.seq fun K5 hK5 => ?_
  refine S.region rfl ?_
  refine S.op (S.q (q_move rfl) rfl rfl ?_)
  refine S.op (S.q (q_len Tryd.underlying52 rfl) rfl rfl ?_)
  refine S.op (S.q (q_move rfl) rfl rfl ?_)
  first | with_reducible refine S.nilK ?_ | refine S.nil ?_
  refine hK5 _ _ ?_
  refine S.block ?_
  refine S.loop (fun q ρ' Γ' => ∃ i : Nat, q = nl.length - i ∧ i ≤ nl.length ∧ ρ' = [(0, .pointer (some ⟨b, 0, none⟩)), (5, .int .i64 (upN m nl i : Nat)), (18, sv.v), (19, .int .i64 sv.n), (20, .int .i64 (i : Int))] ∧ Γ' = own sv 3 1 (nds nl) :: MI b m :: old W :: Γ) (m := _) (ρ0 := _) (Γ0 := _) (⟨0, rfl, by omega, rfl, rfl⟩) (by repeat (first | exact trivial | refine ⟨rfl, ?_⟩)) Sub.ent ?_
  rintro q ρ' Γ' ⟨i, hq, hi, rfl, rfl⟩
  have hle := upN_le m nl i
  refine S.seq fun K6 hK6 => ?_
  refine S.region rfl ?_
  refine S.op (S.q (q_lt rfl rfl) rfl rfl ?_)
  first | with_reducible refine S.nilK ?_ | refine S.nil ?_
  refine hK6 _ _ ?_
  refine S.seq fun K7 hK7 => ?_
  refine S.condD rfl (fun h1 => ?_) (fun h1 => ?_)
  · refine S.ownSome sv (by omega) fun sb so hsa _ _ _ => ?_
    obtain ⟨x, hx⟩ := getE (show i < nl.length by omega)
    have hxd : nl.getD i 0 = x := by simp [List.getD, hx]
    refine S.skip ?_
    with_reducible repeat (first | refine S.then_n ?_ | refine S.then_x ?_ | refine S.then_r ?_ | refine S.inBlock_n ?_ | refine S.inBlock_r ?_ | refine S.inBlock_x rfl ?_ | refine S.noGoto_r ?_ | refine S.noGoto_n ?_ | refine S.noGoto_x ?_)
    refine hK7 _ _ ?_
    refine S.seq fun K8 hK8 => ?_
    refine S.block ?_
    refine S.seq fun K9 hK9 => ?_
    refine S.region rfl ?_
    refine S.op (S.q (q_indexO (i) Tryd.el52 rfl hsa rfl rfl (by omega)) rfl rfl ?_)
    refine S.op (S.q (q_loadOw (sv) (i) Tryd.at3 rfl hsa (by first | rfl | exact Nat.add_assoc _ _ _ | omega) (by rw [List.getElem?_map, hx]; rfl)) rfl rfl ?_)
    refine S.op (S.q (q_assign rfl) rfl rfl ?_)
    first | with_reducible refine S.nilK ?_ | refine S.nil ?_
    refine hK9 _ _ ?_
    refine S.seq fun K10 hK10 => ?_
    refine S.region rfl ?_
    refine S.op (S.q (q_move rfl) rfl rfl ?_)
    refine S.op (S.q (q_move rfl) rfl rfl ?_)
    refine S.op (S.call Tryd.en56 (vs := [_, _]) ⟨rfl, rfl, trivial⟩ (IsUp_S b m x) rfl ?_)
    rintro v Θ ⟨rfl, rfl⟩
    first | with_reducible refine S.nilK ?_ | refine S.nil ?_
    refine hK10 _ _ ?_
    refine S.cond rfl (fun h2 => ?_) (fun h2 => ?_)
    · have hs : upN m nl (i + 1) = upN m nl i + 1 := by rw [upN, hxd, if_pos h2]
      refine S.region rfl ?_
      refine S.op (S.q (q_move rfl) rfl rfl ?_)
      refine S.op (S.q (q_add rfl rfl (inI64 (by omega) (by omega))) rfl rfl ?_)
      refine S.op (S.q (q_assign rfl) rfl rfl ?_)
      first | with_reducible refine S.nilK ?_ | refine S.nil ?_
      with_reducible repeat (first | refine S.then_n ?_ | refine S.then_x ?_ | refine S.then_r ?_ | refine S.inBlock_n ?_ | refine S.inBlock_r ?_ | refine S.inBlock_x rfl ?_ | refine S.noGoto_r ?_ | refine S.noGoto_n ?_ | refine S.noGoto_x ?_)
      refine hK8 _ _ ?_
      refine S.region rfl ?_
      refine S.op (S.q (q_add rfl rfl (inI64 (by omega) (by omega))) rfl rfl ?_)
      refine S.op (S.q (q_move rfl) rfl rfl ?_)
      first | with_reducible refine S.nilK ?_ | refine S.nil ?_
      with_reducible repeat (first | refine S.then_n ?_ | refine S.then_x ?_ | refine S.then_r ?_ | refine S.inBlock_n ?_ | refine S.inBlock_r ?_ | refine S.inBlock_x rfl ?_ | refine S.noGoto_r ?_ | refine S.noGoto_n ?_ | refine S.noGoto_x ?_)
      first | exact S.next (q - 1) ⟨i + 1, by omega, by omega, by rw [hs], rfl⟩ (by omega) (by repeat (first | exact trivial | refine ⟨rfl, ?_⟩)) Sub.ent
    · have hs : upN m nl (i + 1) = upN m nl i := by rw [upN, hxd, if_neg (by rw [h2]; simp)]
      refine S.skip ?_
      with_reducible repeat (first | refine S.then_n ?_ | refine S.then_x ?_ | refine S.then_r ?_ | refine S.inBlock_n ?_ | refine S.inBlock_r ?_ | refine S.inBlock_x rfl ?_ | refine S.noGoto_r ?_ | refine S.noGoto_n ?_ | refine S.noGoto_x ?_)
      with_reducible repeat (first | refine S.then_n ?_ | refine S.then_x ?_ | refine S.then_r ?_ | refine S.inBlock_n ?_ | refine S.inBlock_r ?_ | refine S.inBlock_x rfl ?_ | refine S.noGoto_r ?_ | refine S.noGoto_n ?_ | refine S.noGoto_x ?_)
      refine hK8 _ _ ?_
      refine S.region rfl ?_
      refine S.op (S.q (q_add rfl rfl (inI64 (by omega) (by omega))) rfl rfl ?_)
      refine S.op (S.q (q_move rfl) rfl rfl ?_)
      first | with_reducible refine S.nilK ?_ | refine S.nil ?_
      with_reducible repeat (first | refine S.then_n ?_ | refine S.then_x ?_ | refine S.then_r ?_ | refine S.inBlock_n ?_ | refine S.inBlock_r ?_ | refine S.inBlock_x rfl ?_ | refine S.noGoto_r ?_ | refine S.noGoto_n ?_ | refine S.noGoto_x ?_)
      first | exact S.next (q - 1) ⟨i + 1, by omega, by omega, by rw [hs], rfl⟩ (by omega) (by repeat (first | exact trivial | refine ⟨rfl, ?_⟩)) Sub.ent
  · have hfin : upN m nl i = givR m j := by rw [givR, ← hnl, show i = nl.length by omega]
    rw [hfin]
    refine S.exit ?_
    with_reducible repeat (first | refine S.then_n ?_ | refine S.then_x ?_ | refine S.then_r ?_ | refine S.inBlock_n ?_ | refine S.inBlock_r ?_ | refine S.inBlock_x rfl ?_ | refine S.noGoto_r ?_ | refine S.noGoto_n ?_ | refine S.noGoto_x ?_)
    with_reducible refine S.inBlock_s ?_
    with_reducible repeat (first | refine S.then_n ?_ | refine S.then_x ?_ | refine S.then_r ?_ | refine S.inBlock_n ?_ | refine S.inBlock_r ?_ | refine S.inBlock_x rfl ?_ | refine S.noGoto_r ?_ | refine S.noGoto_n ?_ | refine S.noGoto_x ?_)
    refine hK4 _ _ ?_
    refine S.seq fun K11 hK11 => ?_
    refine S.region rfl ?_
    refine S.op (S.q (q_move rfl) rfl rfl ?_)
    refine S.op (S.q (q_assign rfl) rfl rfl ?_)
    first | with_reducible refine S.nilK ?_ | refine S.nil ?_
    refine hK11 _ _ ?_
    refine S.ret ?_
    with_reducible repeat (first | refine S.then_n ?_ | refine S.then_x ?_ | refine S.then_r ?_ | refine S.inBlock_n ?_ | refine S.inBlock_r ?_ | refine S.inBlock_x rfl ?_ | refine S.noGoto_r ?_ | refine S.noGoto_n ?_ | refine S.noGoto_x ?_)
    exact S.fin (rs := [_]) (vs := [_]) Tryd.results81 (⟨rfl, trivial⟩)  (⟨rfl, rfl⟩) Sub.ent
abbrev jobsR (l : List Cd) : List Nat := l.map (·.1)
theorem jobs_S (R : Assn) (s : SV) (l : List Cd) (hsn : s.n = l.length) (hl : l.length ≤ 1000) (hR : RdS R s s.n 2 (l.flatMap cdC)) : Spec Tryd.prog 67 [s.v] [R] fun Γ v Θ => ∃ u : SV, v = u.v ∧ u.n = l.length ∧ Θ = own u 36 1 (idsV (jobsR l)) :: R :: Γ := by
  refine Spec.of_body Tryd.func67 rfl Tryd.ntmps67 rfl ?_
  intro w0 Γ
  show S _ w0 [(0, s.v)] (R :: Γ) _
  refine S.rCap hR fun _ hc1 hc2 => ?_
  refine S.seq fun K1 hK1 => ?_
  refine S.region rfl ?_
  refine S.op (S.q (q_assign rfl) rfl rfl ?_)
  first | with_reducible refine S.nilK ?_ | refine S.nil ?_
  refine hK1 _ _ ?_
  refine S.seq fun K2 hK2 => ?_
  refine S.region rfl ?_
  refine S.op (S.q (q_assign rfl) rfl rfl ?_)
  first | with_reducible refine S.nilK ?_ | refine S.nil ?_
  refine hK2 _ _ ?_
  refine S.seq fun K3 hK3 => ?_
  refine S.seq fun K4 hK4 => ?_
  refine S.region rfl ?_
  refine S.ent (Ent.ownNil 36 1) ?_
  show S _ w0 _ (own SV.nil 36 1 (idsV (jobsR (l.take 0))) :: _) _
  refine S.op (S.q (q_move rfl) rfl rfl ?_)
  refine S.op (S.q (q_len Tryd.underlying64 rfl) rfl rfl ?_)
  refine S.op (S.q (q_move rfl) rfl rfl ?_)
  first | with_reducible refine S.nilK ?_ | refine S.nil ?_
  refine hK4 _ _ ?_
  refine S.block ?_
  refine S.loop (fun q ρ' Γ' => ∃ (i : Nat) (u : SV), q = l.length - i ∧ i ≤ l.length ∧ u.n = i ∧ ρ' = [(3, u.v), (6, s.v), (7, .int .i64 s.n), (8, .int .i64 (i : Int))] ∧ Γ' = own u 36 1 (idsV (jobsR (l.take i))) :: R :: Γ) (m := _) (ρ0 := _) (Γ0 := _) (⟨0, SV.nil, rfl, by omega, rfl, rfl, rfl⟩) (by repeat (first | exact trivial | refine ⟨rfl, ?_⟩)) Sub.ent ?_
  rintro q ρ' Γ' ⟨i, u, hq, hi, hun, rfl, rfl⟩
  refine S.seq fun K5 hK5 => ?_
  refine S.region rfl ?_
  refine S.op (S.q (q_lt rfl rfl) rfl rfl ?_)
  first | with_reducible refine S.nilK ?_ | refine S.nil ?_
  refine hK5 _ _ ?_
  refine S.seq fun K6 hK6 => ?_
  refine S.condD rfl (fun h1 => ?_) (fun h1 => ?_)
  · refine S.rSome hR (by omega) fun sb so hsa => ?_
    obtain ⟨x, hx⟩ := getE (show i < l.length by omega)
    have hnx : idsV (jobsR (l.take i)) ++ [.int .u32 (x.1 : Int)] = idsV (jobsR (l.take (i + 1))) := by
      rw [List.take_add_one, hx]
      simp
    refine S.skip ?_
    with_reducible repeat (first | refine S.then_n ?_ | refine S.then_x ?_ | refine S.then_r ?_ | refine S.inBlock_n ?_ | refine S.inBlock_r ?_ | refine S.inBlock_x rfl ?_ | refine S.noGoto_r ?_ | refine S.noGoto_n ?_ | refine S.noGoto_x ?_)
    refine hK6 _ _ ?_
    refine S.seq fun K7 hK7 => ?_
    refine S.block ?_
    refine S.seq fun K8 hK8 => ?_
    refine S.region rfl ?_
    refine S.op (S.q (q_indexO (i) Tryd.el64 rfl hsa rfl rfl (by omega)) rfl rfl ?_)
    refine S.op (S.q (q_loadRS hR (i * 2) (cdC x) Tryd.ag75 rfl hsa (by omega) rfl rfl (flat_seg (enc := cdC) (sz := 2) (fun _ => rfl) hx)) rfl rfl ?_)
    refine S.op (S.alloc Tryd.z75 rfl ?_)
    intro b5
    refine S.op (S.storeS (cs' := [_, _]) Tryd.ag75 rfl rfl rfl rfl rfl rfl ?_)
    first | with_reducible refine S.nilK ?_ | refine S.nil ?_
    refine hK8 _ _ ?_
    refine S.region rfl ?_
    refine S.op (S.q (q_move rfl) rfl rfl ?_)
    refine S.op (S.q (q_field Tryd.fo75_0 rfl) rfl rfl ?_)
    refine S.op (S.q (q_load Tryd.at36 rfl rfl) rfl rfl ?_)
    refine S.op (S.buildSlice (pvs := [(_, _)]) [_] Tryd.underlying34 Tryd.inf36 rfl rfl ⟨⟨rfl, rfl⟩, trivial⟩ rfl rfl ?_)
    intro b15
    refine S.op (S.appendOw (s := u) (1) ([.int .u32 (x.1 : Int)]) Tryd.underlying34 Tryd.inf36 rfl rfl rfl (blk_slAt (b := b15) rfl (by unfold maxLen; omega)) (by first | rfl | exact allOne_bcells _) (⟨by omega, by omega⟩) rfl ?_)
    intro u2 hu2
    refine S.op (S.q (q_assign rfl) rfl rfl ?_)
    first | with_reducible refine S.nilK ?_ | refine S.nil ?_
    with_reducible repeat (first | refine S.then_n ?_ | refine S.then_x ?_ | refine S.then_r ?_ | refine S.inBlock_n ?_ | refine S.inBlock_r ?_ | refine S.inBlock_x rfl ?_ | refine S.noGoto_r ?_ | refine S.noGoto_n ?_ | refine S.noGoto_x ?_)
    refine hK7 _ _ ?_
    refine S.region rfl ?_
    refine S.op (S.q (q_add rfl rfl (inI64 (by omega) (by omega))) rfl rfl ?_)
    refine S.op (S.q (q_move rfl) rfl rfl ?_)
    first | with_reducible refine S.nilK ?_ | refine S.nil ?_
    with_reducible repeat (first | refine S.then_n ?_ | refine S.then_x ?_ | refine S.then_r ?_ | refine S.inBlock_n ?_ | refine S.inBlock_r ?_ | refine S.inBlock_x rfl ?_ | refine S.noGoto_r ?_ | refine S.noGoto_n ?_ | refine S.noGoto_x ?_)
    rw [hnx]
    exact S.next (q - 1) (⟨i + 1, u2, by omega, by omega, by omega, rfl, rfl⟩) (by omega) (by repeat (first | exact trivial | refine ⟨rfl, ?_⟩)) Sub.ent
  · rw [show i = l.length by omega, List.take_length]
    refine S.exit ?_
    with_reducible repeat (first | refine S.then_n ?_ | refine S.then_x ?_ | refine S.then_r ?_ | refine S.inBlock_n ?_ | refine S.inBlock_r ?_ | refine S.inBlock_x rfl ?_ | refine S.noGoto_r ?_ | refine S.noGoto_n ?_ | refine S.noGoto_x ?_)
    with_reducible refine S.inBlock_s ?_
    with_reducible repeat (first | refine S.then_n ?_ | refine S.then_x ?_ | refine S.then_r ?_ | refine S.inBlock_n ?_ | refine S.inBlock_r ?_ | refine S.inBlock_x rfl ?_ | refine S.noGoto_r ?_ | refine S.noGoto_n ?_ | refine S.noGoto_x ?_)
    refine hK3 _ _ ?_
    refine S.seq fun K9 hK9 => ?_
    refine S.region rfl ?_
    refine S.op (S.q (q_move rfl) rfl rfl ?_)
    refine S.op (S.q (q_assign rfl) rfl rfl ?_)
    first | with_reducible refine S.nilK ?_ | refine S.nil ?_
    refine hK9 _ _ ?_
    refine S.ret ?_
    with_reducible repeat (first | refine S.then_n ?_ | refine S.then_x ?_ | refine S.then_r ?_ | refine S.inBlock_n ?_ | refine S.inBlock_r ?_ | refine S.inBlock_x rfl ?_ | refine S.noGoto_r ?_ | refine S.noGoto_n ?_ | refine S.noGoto_x ?_)
    exact S.fin (rs := [_]) (vs := [_]) Tryd.results67 (⟨rfl, trivial⟩)  (⟨u, rfl, by omega, rfl⟩) Sub.ent
def topUp (l : List Cd) : Nat → Int
  | 0 => 0
  | i + 1 => max (topUp l i) ((l.getD i (0, 0)).2 + 1)
def topR (l : List Cd) : Int := topUp l l.length
theorem top_S (R : Assn) (s : SV) (l : List Cd) (hsn : s.n = l.length) (hR : RdS R s s.n 2 (l.flatMap cdC)) (ht : ∀ x ∈ l, 0 ≤ x.2 ∧ x.2 ≤ 255) : Spec Tryd.prog 66 [s.v] [R] fun Γ v Θ => v = .int .i64 (topR l) ∧ Θ = R :: Γ := by
  refine Spec.of_body Tryd.func66 rfl Tryd.ntmps66 rfl ?_
  intro w0 Γ
  show S _ w0 [(0, s.v)] (R :: Γ) _
  refine S.rCap hR fun _ hc1 hc2 => ?_
  refine S.seq fun K1 hK1 => ?_
  refine S.region rfl ?_
  refine S.op (S.q (q_assign rfl) rfl rfl ?_)
  first | with_reducible refine S.nilK ?_ | refine S.nil ?_
  refine hK1 _ _ ?_
  refine S.seq fun K2 hK2 => ?_
  refine S.region rfl ?_
  refine S.op (S.q (q_assign rfl) rfl rfl ?_)
  first | with_reducible refine S.nilK ?_ | refine S.nil ?_
  refine hK2 _ _ ?_
  refine S.seq fun K3 hK3 => ?_
  refine S.seq fun K4 hK4 => ?_
  refine S.region rfl ?_
  refine S.op (S.q (q_move rfl) rfl rfl ?_)
  refine S.op (S.q (q_len Tryd.underlying64 rfl) rfl rfl ?_)
  refine S.op (S.q (q_move rfl) rfl rfl ?_)
  first | with_reducible refine S.nilK ?_ | refine S.nil ?_
  refine hK4 _ _ ?_
  refine S.block ?_
  refine S.loop (fun q ρ' Γ' => ∃ i : Nat, q = l.length - i ∧ i ≤ l.length ∧ ρ' = [(3, .int .i64 (topUp l i)), (6, s.v), (7, .int .i64 s.n), (8, .int .i64 (i : Int))] ∧ Γ' = R :: Γ) (m := _) (ρ0 := _) (Γ0 := _) (⟨0, rfl, by omega, rfl, rfl⟩) (by repeat (first | exact trivial | refine ⟨rfl, ?_⟩)) Sub.ent ?_
  rintro q ρ' Γ' ⟨i, hq, hi, rfl, rfl⟩
  refine S.seq fun K5 hK5 => ?_
  refine S.region rfl ?_
  refine S.op (S.q (q_lt rfl rfl) rfl rfl ?_)
  first | with_reducible refine S.nilK ?_ | refine S.nil ?_
  refine hK5 _ _ ?_
  refine S.seq fun K6 hK6 => ?_
  refine S.condD rfl (fun h1 => ?_) (fun h1 => ?_)
  · refine S.rSome hR (by omega) fun sb so hsa => ?_
    obtain ⟨x, hx⟩ := getE (show i < l.length by omega)
    have hxr := ht x (List.mem_of_getElem? hx)
    have hxd : l.getD i (0, 0) = x := by simp [List.getD, hx]
    have hs : topUp l (i + 1) = max (topUp l i) (x.2 + 1) := by rw [topUp, hxd]
    refine S.skip ?_
    with_reducible repeat (first | refine S.then_n ?_ | refine S.then_x ?_ | refine S.then_r ?_ | refine S.inBlock_n ?_ | refine S.inBlock_r ?_ | refine S.inBlock_x rfl ?_ | refine S.noGoto_r ?_ | refine S.noGoto_n ?_ | refine S.noGoto_x ?_)
    refine hK6 _ _ ?_
    refine S.seq fun K7 hK7 => ?_
    refine S.block ?_
    refine S.seq fun K8 hK8 => ?_
    refine S.region rfl ?_
    refine S.op (S.q (q_indexO (i) Tryd.el64 rfl hsa rfl rfl (by omega)) rfl rfl ?_)
    refine S.op (S.q (q_loadRS hR (i * 2) (cdC x) Tryd.ag75 rfl hsa (by omega) rfl rfl (flat_seg (enc := cdC) (sz := 2) (fun _ => rfl) hx)) rfl rfl ?_)
    refine S.op (S.alloc Tryd.z75 rfl ?_)
    intro b5
    refine S.op (S.storeS (cs' := [_, _]) Tryd.ag75 rfl rfl rfl rfl rfl rfl ?_)
    first | with_reducible refine S.nilK ?_ | refine S.nil ?_
    refine hK8 _ _ ?_
    refine S.region rfl ?_
    refine S.op (S.q (q_move rfl) rfl rfl ?_)
    refine S.op (S.q (q_field Tryd.fo75_1 rfl) rfl rfl ?_)
    refine S.op (S.q (q_load Tryd.at5 rfl rfl) rfl rfl ?_)
    refine S.op (S.q (q_conv Tryd.it3 (by rw [Tryd.underlying5]; rfl) rfl (inI64 (by omega) (by omega))) rfl rfl ?_)
    refine S.op (S.q (q_add rfl rfl (inI64 (by omega) (by omega))) rfl rfl ?_)
    refine S.op (S.q (q_max (topUp l (i + 1)) rfl rfl (by rw [hs]; omega)) rfl rfl ?_)
    refine S.op (S.q (q_assign rfl) rfl rfl ?_)
    first | with_reducible refine S.nilK ?_ | refine S.nil ?_
    with_reducible repeat (first | refine S.then_n ?_ | refine S.then_x ?_ | refine S.then_r ?_ | refine S.inBlock_n ?_ | refine S.inBlock_r ?_ | refine S.inBlock_x rfl ?_ | refine S.noGoto_r ?_ | refine S.noGoto_n ?_ | refine S.noGoto_x ?_)
    refine hK7 _ _ ?_
    refine S.region rfl ?_
    refine S.op (S.q (q_add rfl rfl (inI64 (by omega) (by omega))) rfl rfl ?_)
    refine S.op (S.q (q_move rfl) rfl rfl ?_)
    first | with_reducible refine S.nilK ?_ | refine S.nil ?_
    with_reducible repeat (first | refine S.then_n ?_ | refine S.then_x ?_ | refine S.then_r ?_ | refine S.inBlock_n ?_ | refine S.inBlock_r ?_ | refine S.inBlock_x rfl ?_ | refine S.noGoto_r ?_ | refine S.noGoto_n ?_ | refine S.noGoto_x ?_)
    exact S.next (q - 1) (⟨i + 1, by omega, by omega, rfl, rfl⟩) (by omega) (by repeat (first | exact trivial | refine ⟨rfl, ?_⟩)) Sub.ent
  · rw [show i = l.length by omega]
    refine S.exit ?_
    with_reducible repeat (first | refine S.then_n ?_ | refine S.then_x ?_ | refine S.then_r ?_ | refine S.inBlock_n ?_ | refine S.inBlock_r ?_ | refine S.inBlock_x rfl ?_ | refine S.noGoto_r ?_ | refine S.noGoto_n ?_ | refine S.noGoto_x ?_)
    with_reducible refine S.inBlock_s ?_
    with_reducible repeat (first | refine S.then_n ?_ | refine S.then_x ?_ | refine S.then_r ?_ | refine S.inBlock_n ?_ | refine S.inBlock_r ?_ | refine S.inBlock_x rfl ?_ | refine S.noGoto_r ?_ | refine S.noGoto_n ?_ | refine S.noGoto_x ?_)
    refine hK3 _ _ ?_
    refine S.seq fun K9 hK9 => ?_
    refine S.region rfl ?_
    refine S.op (S.q (q_move rfl) rfl rfl ?_)
    refine S.op (S.q (q_assign rfl) rfl rfl ?_)
    first | with_reducible refine S.nilK ?_ | refine S.nil ?_
    refine hK9 _ _ ?_
    refine S.ret ?_
    with_reducible repeat (first | refine S.then_n ?_ | refine S.then_x ?_ | refine S.then_r ?_ | refine S.inBlock_n ?_ | refine S.inBlock_r ?_ | refine S.inBlock_x rfl ?_ | refine S.noGoto_r ?_ | refine S.noGoto_n ?_ | refine S.noGoto_x ?_)
    exact S.fin (rs := [_]) (vs := [_]) Tryd.results66 (⟨rfl, trivial⟩)  (⟨rfl, rfl⟩) Sub.ent
/-- Those of a row that are of a lesser tier: the first word of each job counts. -/
def lesUp (m : Mx) (row tier : Int) (l : List Cd) : Nat → List Cd
  | 0 => []
  | i + 1 => if (l.getD i (0, 0)).1 ∈ (l.take i).map (·.1) then lesUp m row tier l i else
    if ((ofR m (l.getD i (0, 0)).1).2.2 && decide ((ofR m (l.getD i (0, 0)).1).1 = row) && decide ((l.getD i (0, 0)).2 < tier)) = true then lesUp m row tier l i ++ [l.getD i (0, 0)] else lesUp m row tier l i
theorem lesUp_mem {m : Mx} {row tier : Int} {l : List Cd} {x : Cd} : ∀ {i : Nat}, i ≤ l.length → x ∈ lesUp m row tier l i → x ∈ l.take i
  | 0, _, h => by cases h
  | i + 1, hi, h => by
    have hx := List.getElem?_eq_getElem (show i < l.length by omega)
    have hg : l.getD i (0, 0) = l[i] := by simp [List.getD, hx]
    rw [lesUp, hg] at h
    rw [List.take_add_one, hx, List.mem_append]
    split at h
    · exact .inl (lesUp_mem (by omega) h)
    · split at h
      · rw [List.mem_append] at h
        rcases h with h | h
        · exact .inl (lesUp_mem (by omega) h)
        · exact .inr (by simpa using h)
      · exact .inl (lesUp_mem (by omega) h)
theorem lesUp_len (m : Mx) (row tier : Int) (l : List Cd) : ∀ i, (lesUp m row tier l i).length ≤ i
  | 0 => Nat.le_refl _
  | i + 1 => by
    have := lesUp_len m row tier l i
    rw [lesUp]
    split
    · omega
    · split
      · rw [List.length_append, List.length_singleton]; omega
      · omega
theorem lesUp_nd {m : Mx} {row tier : Int} {l : List Cd} : ∀ {i : Nat}, i ≤ l.length → (lesUp m row tier l i).Pairwise (fun a b => a.1 ≠ b.1)
  | 0, _ => List.Pairwise.nil
  | i + 1, hi => by
    have ih := lesUp_nd (m := m) (row := row) (tier := tier) (l := l) (i := i) (by omega)
    rw [lesUp]
    split
    · exact ih
    · rename_i h
      split
      · refine List.pairwise_append.2 ⟨ih, List.pairwise_singleton _ _, fun a ha c hc e => ?_⟩
        rw [List.mem_singleton] at hc
        subst hc
        exact h (List.mem_map.2 ⟨a, lesUp_mem (by omega) ha, e⟩)
      · exact ih
def lesR (m : Mx) (row tier : Int) (l : List Cd) : List Cd := srtC (lesUp m row tier l l.length)
theorem lesser_S (b : Nat) (m : Mx) (row tier : Int) (R : Assn) (s : SV) (l : List Cd) (hsn : s.n = l.length) (hl : l.length ≤ 1000) (hR : RdS R s s.n 2 (l.flatMap cdC)) {W : World} (hW : TabW W) : Spec Tryd.prog 80 [.pointer (some ⟨b, 0, none⟩), .int .i64 row, s.v, .int .u8 tier] [MI b m, R, old W] fun Γ v Θ =>
    ∃ u : SV, v = u.v ∧ u.n = (lesR m row tier l).length ∧ Θ = own u 75 2 ((lesR m row tier l).flatMap cdC) :: MI b m :: R :: old W :: Γ := by
  refine Spec.of_body Tryd.func80 rfl Tryd.ntmps80 rfl ?_
  intro w0 Γ
  show S _ w0 [(0, .pointer (some ⟨b, 0, none⟩)), (1, .int .i64 row), (2, s.v), (3, .int .u8 tier)] (MI b m :: R :: old W :: Γ) _
  refine S.rCap hR fun _ hc1 hc2 => ?_
  refine S.seq fun K1 hK1 => ?_
  refine S.region rfl ?_
  refine S.op (S.q (q_assign rfl) rfl rfl ?_)
  first | with_reducible refine S.nilK ?_ | refine S.nil ?_
  refine hK1 _ _ ?_
  refine S.seq fun K2 hK2 => ?_
  refine S.region rfl ?_
  refine S.op (S.makeMap .u32 rfl ?_)
  intro b18
  refine S.op (S.q (q_assign rfl) rfl rfl ?_)
  first | with_reducible refine S.nilK ?_ | refine S.nil ?_
  refine hK2 _ _ ?_
  refine S.seq fun K3 hK3 => ?_
  refine S.region rfl ?_
  refine S.ent (Ent.ownNil 75 2) ?_
  show S _ w0 _ (own SV.nil 75 2 (([] : List Cd).flatMap cdC) :: _) _
  refine S.op (S.q (q_assign rfl) rfl rfl ?_)
  first | with_reducible refine S.nilK ?_ | refine S.nil ?_
  refine hK3 _ _ ?_
  refine S.seq fun K4 hK4 => ?_
  refine S.seq fun K5 hK5 => ?_
  refine S.region rfl ?_
  refine S.op (S.q (q_move rfl) rfl rfl ?_)
  refine S.op (S.q (q_len Tryd.underlying64 rfl) rfl rfl ?_)
  refine S.op (S.q (q_move rfl) rfl rfl ?_)
  first | with_reducible refine S.nilK ?_ | refine S.nil ?_
  refine hK5 _ _ ?_
  refine S.block ?_
  refine S.loop (fun q ρ' Γ' => ∃ (i : Nat) (u : SV) (o : List Cd) (K : List (Int × Value)), q = l.length - i ∧ i ≤ l.length ∧ o = lesUp m row tier l i ∧ u.n = o.length ∧ (∀ z : Nat, alGet (z : Int) K = if z ∈ (l.take i).map (·.1) then some (.agg #[]) else none) ∧   ρ' = [(0, .pointer (some ⟨b, 0, none⟩)), (1, .int .i64 row), (3, .int .u8 tier), (9, .map (some b18)), (10, u.v), (19, s.v), (20, .int .i64 s.n), (21, .int .i64 (i : Int))] ∧ Γ' = own u 75 2 (o.flatMap cdC) :: mapL b18 .u32 K :: MI b m :: R :: old W :: Γ) (m := _) (ρ0 := _) (Γ0 := _) (⟨0, SV.nil, [], [], rfl, by omega, rfl, rfl, fun z => (by simp; rfl), rfl, rfl⟩) (by repeat (first | exact trivial | refine ⟨rfl, ?_⟩)) Sub.ent ?_
  rintro q ρ' Γ' ⟨i, u, o, K, hq, hi, ho, hun, hK, rfl, rfl⟩
  have hol := lesUp_len m row tier l i
  rw [← ho] at hol
  refine S.seq fun K6 hK6 => ?_
  refine S.region rfl ?_
  refine S.op (S.q (q_lt rfl rfl) rfl rfl ?_)
  first | with_reducible refine S.nilK ?_ | refine S.nil ?_
  refine hK6 _ _ ?_
  refine S.seq fun K7 hK7 => ?_
  refine S.condD rfl (fun h1 => ?_) (fun h1 => ?_)
  · refine S.rSome hR (by omega) fun sb so hsa => ?_
    obtain ⟨x, hx⟩ := getE (show i < l.length by omega)
    have hxd : l.getD i (0, 0) = x := by simp [List.getD, hx]
    have htk : (l.take (i + 1)).map (·.1) = (l.take i).map (·.1) ++ [x.1] := by rw [List.take_add_one, hx]; simp
    obtain ⟨seen, hseen⟩ : ∃ seen, seen = decide (x.1 ∈ (l.take i).map (·.1)) := ⟨_, rfl⟩
    have hKx := hK x.1
    refine S.skip ?_
    with_reducible repeat (first | refine S.then_n ?_ | refine S.then_x ?_ | refine S.then_r ?_ | refine S.inBlock_n ?_ | refine S.inBlock_r ?_ | refine S.inBlock_x rfl ?_ | refine S.noGoto_r ?_ | refine S.noGoto_n ?_ | refine S.noGoto_x ?_)
    refine hK7 _ _ ?_
    refine S.seq fun K8 hK8 => ?_
    refine S.block ?_
    refine S.seq fun K9 hK9 => ?_
    refine S.region rfl ?_
    refine S.op (S.q (q_indexO (i) Tryd.el64 rfl hsa rfl rfl (by omega)) rfl rfl ?_)
    refine S.op (S.q (q_loadRS hR (i * 2) (cdC x) Tryd.ag75 rfl hsa (by omega) rfl rfl (flat_seg (enc := cdC) (sz := 2) (fun _ => rfl) hx)) rfl rfl ?_)
    refine S.op (S.alloc Tryd.z75 rfl ?_)
    intro b12
    refine S.op (S.storeS (cs' := [_, _]) Tryd.ag75 rfl rfl rfl rfl rfl rfl ?_)
    first | with_reducible refine S.nilK ?_ | refine S.nil ?_
    refine hK9 _ _ ?_
    refine S.seq fun K10 hK10 => ?_
    refine S.seq fun K11 hK11 => ?_
    refine S.region rfl ?_
    refine S.op (S.q (q_move rfl) rfl rfl ?_)
    refine S.op (S.q (q_field Tryd.fo75_0 rfl) rfl rfl ?_)
    refine S.op (S.q (q_load Tryd.at36 rfl rfl) rfl rfl ?_)
    refine S.op (S.q (q_lookupOk (.agg #[]) (seen) Tryd.underlying159 Tryd.underlying36 Tryd.zv160 rfl rfl rfl (by rw [hKx, hseen]; by_cases h : x.1 ∈ (l.take i).map (·.1); (rw [if_pos h, decide_eq_true h]); (rw [if_neg h, decide_eq_false h]))) rfl rfl ?_)
    refine S.op (S.q (q_move rfl) rfl rfl ?_)
    refine S.op (S.q (q_extract rfl rfl) rfl rfl ?_)
    refine S.op (S.q (q_extract rfl rfl) rfl rfl ?_)
    refine S.op (S.alloc Tryd.z160 rfl ?_)
    intro b13
    refine S.op (S.storeS (cs' := []) Tryd.ag160 rfl rfl rfl rfl rfl rfl ?_)
    refine S.op (S.q (q_assign rfl) rfl rfl ?_)
    first | with_reducible refine S.nilK ?_ | refine S.nil ?_
    refine hK11 _ _ ?_
    refine S.seq fun K12 hK12 => ?_
    refine S.region rfl ?_
    refine S.op (S.q (q_move rfl) rfl rfl ?_)
    first | with_reducible refine S.nilK ?_ | refine S.nil ?_
    refine hK12 _ _ ?_
    refine S.cond rfl (fun h2 => ?_) (fun h2 => ?_)
    · have hin : x.1 ∈ (l.take i).map (·.1) := by rw [h2] at hseen; exact of_decide_eq_true hseen.symm
      have ho2 : o = lesUp m row tier l (i + 1) := by rw [lesUp, hxd, if_pos hin, ho]
      have hK2 : ∀ z : Nat, alGet (z : Int) K = if z ∈ (l.take (i + 1)).map (·.1) then some (.agg #[]) else none := fun z => by
        rw [hK, htk]
        by_cases h : z ∈ (l.take i).map (·.1)
        · rw [if_pos h, if_pos (List.mem_append.2 (.inl h))]
        · rw [if_neg h, if_neg]
          rw [List.mem_append, List.mem_singleton]
          rintro (h9 | rfl)
          · exact h h9
          · exact h hin
      refine S.exit ?_
      with_reducible repeat (first | refine S.then_n ?_ | refine S.then_x ?_ | refine S.then_r ?_ | refine S.inBlock_n ?_ | refine S.inBlock_r ?_ | refine S.inBlock_x rfl ?_ | refine S.noGoto_r ?_ | refine S.noGoto_n ?_ | refine S.noGoto_x ?_)
      with_reducible refine S.inBlock_s ?_
      with_reducible repeat (first | refine S.then_n ?_ | refine S.then_x ?_ | refine S.then_r ?_ | refine S.inBlock_n ?_ | refine S.inBlock_r ?_ | refine S.inBlock_x rfl ?_ | refine S.noGoto_r ?_ | refine S.noGoto_n ?_ | refine S.noGoto_x ?_)
      refine hK8 _ _ ?_
      refine S.region rfl ?_
      refine S.op (S.q (q_add rfl rfl (inI64 (by omega) (by omega))) rfl rfl ?_)
      refine S.op (S.q (q_move rfl) rfl rfl ?_)
      first | with_reducible refine S.nilK ?_ | refine S.nil ?_
      with_reducible repeat (first | refine S.then_n ?_ | refine S.then_x ?_ | refine S.then_r ?_ | refine S.inBlock_n ?_ | refine S.inBlock_r ?_ | refine S.inBlock_x rfl ?_ | refine S.noGoto_r ?_ | refine S.noGoto_n ?_ | refine S.noGoto_x ?_)
      first | (rw [flat_snoc cdC o x]; exact S.next (q - 1) ⟨i + 1, u2, o ++ [x], alPut (x.1 : Int) (.agg #[]) K, by omega, by omega, ho2, by rw [List.length_append, List.length_singleton]; omega, hK2, rfl, rfl⟩ (by omega) (by repeat (first | exact trivial | refine ⟨rfl, ?_⟩)) Sub.ent) | exact S.next (q - 1) ⟨i + 1, u, o, alPut (x.1 : Int) (.agg #[]) K, by omega, by omega, ho2, hun, hK2, rfl, rfl⟩ (by omega) (by repeat (first | exact trivial | refine ⟨rfl, ?_⟩)) Sub.ent | exact S.next (q - 1) ⟨i + 1, u, o, K, by omega, by omega, ho2, hun, hK2, rfl, rfl⟩ (by omega) (by repeat (first | exact trivial | refine ⟨rfl, ?_⟩)) Sub.ent
    · have hin : ¬ x.1 ∈ (l.take i).map (·.1) := by rw [h2] at hseen; exact of_decide_eq_false hseen.symm
      have hK2 : ∀ z : Nat, alGet (z : Int) (alPut (x.1 : Int) (.agg #[]) K) = if z ∈ (l.take (i + 1)).map (·.1) then some (.agg #[]) else none := fun z => by
        rw [alGet_put, hK, htk]
        by_cases h : z ∈ (l.take i).map (·.1)
        · rw [if_pos h, if_pos (List.mem_append.2 (.inl h))]
          split <;> rfl
        · rw [if_neg h]
          by_cases e : z = x.1
          · subst e
            rw [if_pos rfl, if_pos (List.mem_append.2 (.inr (List.mem_singleton.2 rfl)))]
          · rw [if_neg (by omega), if_neg]
            rw [List.mem_append, List.mem_singleton]
            rintro (h9 | h9)
            · exact h h9
            · exact e h9
      obtain ⟨r, nl, ok, hof⟩ : ∃ r nl ok, ofR m x.1 = (r, nl, ok) := ⟨_, _, _, rfl⟩
      have hstep : lesUp m row tier l (i + 1) = if (ok && decide (r = row) && decide (x.2 < tier)) = true then o ++ [x] else o := by rw [lesUp, hxd, if_neg hin, hof, ho]
      refine S.skip ?_
      with_reducible repeat (first | refine S.then_n ?_ | refine S.then_x ?_ | refine S.then_r ?_ | refine S.inBlock_n ?_ | refine S.inBlock_r ?_ | refine S.inBlock_x rfl ?_ | refine S.noGoto_r ?_ | refine S.noGoto_n ?_ | refine S.noGoto_x ?_)
      refine hK10 _ _ ?_
      refine S.seq fun K13 hK13 => ?_
      refine S.region rfl ?_
      refine S.op (S.q (q_move rfl) rfl rfl ?_)
      refine S.op (S.q (q_field Tryd.fo75_0 rfl) rfl rfl ?_)
      refine S.op (S.q (q_load Tryd.at36 rfl rfl) rfl rfl ?_)
      refine S.op (S.q (q_build (pvs := []) [] Tryd.z160 Tryd.p160 trivial rfl) rfl rfl ?_)
      refine S.op (S.mapUpdate Tryd.underlying159 Tryd.underlying36 rfl rfl rfl rfl ?_)
      first | with_reducible refine S.nilK ?_ | refine S.nil ?_
      refine hK13 _ _ ?_
      refine S.seq fun K14 hK14 => ?_
      refine S.region rfl ?_
      refine S.op (S.q (q_move rfl) rfl rfl ?_)
      refine S.op (S.q (q_field Tryd.fo75_0 rfl) rfl rfl ?_)
      refine S.op (S.q (q_load Tryd.at36 rfl rfl) rfl rfl ?_)
      refine S.op (S.call Tryd.en27 (vs := [_, _]) ⟨rfl, rfl, trivial⟩ (Of_S b m x.1 hW) rfl ?_)
      rintro v Θ ⟨sv, rfl, hsv, rfl⟩
      rw [hof] at hsv ⊢
      simp only at hsv ⊢
      refine S.op (S.q (q_move rfl) rfl rfl ?_)
      refine S.op (S.q (q_extract rfl rfl) rfl rfl ?_)
      refine S.op (S.q (q_extract rfl rfl) rfl rfl ?_)
      refine S.op (S.q (q_extract rfl rfl) rfl rfl ?_)
      refine S.op (S.q (q_assign rfl) rfl rfl ?_)
      refine S.op (S.q (q_assign rfl) rfl rfl ?_)
      refine S.op (S.q (q_assign rfl) rfl rfl ?_)
      first | with_reducible refine S.nilK ?_ | refine S.nil ?_
      refine hK14 _ _ ?_
      refine S.seq fun K15 hK15 => ?_
      refine S.regionG ?_
      refine S.g_op rfl (S.q (q_move rfl) rfl rfl ?_)
      refine S.g_op rfl (S.q (q_move rfl) rfl rfl ?_)
      rcases Bool.eq_false_or_eq_true (ok) with hg10_1 | hg10_1
      · refine S.g_yes rfl rfl rfl (hg10_1) (S.q (q_move rfl) rfl rfl ?_)
        refine S.g_yes rfl rfl rfl (hg10_1) (S.q (q_move rfl) rfl rfl ?_)
        refine S.g_yes rfl rfl rfl (hg10_1) (S.q (q_eq rfl rfl) rfl rfl ?_)
        refine S.g_op rfl (S.q (q_pickT rfl (hg10_1) rfl) rfl rfl ?_)
        refine S.g_op rfl (S.q (q_move rfl) rfl rfl ?_)
        by_cases hg10_6 : r = row
        · refine S.g_yes rfl rfl rfl (decide_eq_true hg10_6) (S.q (q_field Tryd.fo75_1 rfl) rfl rfl ?_)
          refine S.g_yes rfl rfl rfl (decide_eq_true hg10_6) (S.q (q_load Tryd.at5 rfl rfl) rfl rfl ?_)
          refine S.g_yes rfl rfl rfl (decide_eq_true hg10_6) (S.q (q_move rfl) rfl rfl ?_)
          refine S.g_yes rfl rfl rfl (decide_eq_true hg10_6) (S.q (q_lt rfl rfl) rfl rfl ?_)
          refine S.g_op rfl (S.q (q_pickT rfl (decide_eq_true hg10_6) rfl) rfl rfl ?_)
          first | with_reducible refine S.g_nilK ?_ | refine S.g_nil ?_
          refine hK15 _ _ ?_
          refine S.condD rfl (fun h3 => ?_) (fun h3 => ?_)
          · have ho2 : o ++ [x] = lesUp m row tier l (i + 1) := by rw [hstep, hg10_1, decide_eq_true hg10_6, decide_eq_true h3]; rfl
            refine S.region rfl ?_
            refine S.op (S.q (q_move rfl) rfl rfl ?_)
            refine S.op (S.q (q_loadS [_, _] Tryd.ag75 rfl rfl ⟨rfl, rfl, trivial⟩) rfl rfl ?_)
            refine S.op (S.buildSlice (pvs := [(_, _)]) [_, _] Tryd.underlying64 Tryd.inf75 rfl rfl ⟨⟨rfl, rfl⟩, trivial⟩ rfl rfl ?_)
            intro b59
            refine S.op (S.appendOw (s := u) (1) (cdC x) Tryd.underlying64 Tryd.inf75 rfl rfl rfl (blk_slAt (b := b59) rfl (by unfold maxLen; omega)) (by first | rfl | exact allOne_bcells _) (⟨by omega, by omega⟩) rfl ?_)
            intro u2 hu2
            refine S.op (S.q (q_assign rfl) rfl rfl ?_)
            first | with_reducible refine S.nilK ?_ | refine S.nil ?_
            with_reducible repeat (first | refine S.then_n ?_ | refine S.then_x ?_ | refine S.then_r ?_ | refine S.inBlock_n ?_ | refine S.inBlock_r ?_ | refine S.inBlock_x rfl ?_ | refine S.noGoto_r ?_ | refine S.noGoto_n ?_ | refine S.noGoto_x ?_)
            refine hK8 _ _ ?_
            refine S.region rfl ?_
            refine S.op (S.q (q_add rfl rfl (inI64 (by omega) (by omega))) rfl rfl ?_)
            refine S.op (S.q (q_move rfl) rfl rfl ?_)
            first | with_reducible refine S.nilK ?_ | refine S.nil ?_
            with_reducible repeat (first | refine S.then_n ?_ | refine S.then_x ?_ | refine S.then_r ?_ | refine S.inBlock_n ?_ | refine S.inBlock_r ?_ | refine S.inBlock_x rfl ?_ | refine S.noGoto_r ?_ | refine S.noGoto_n ?_ | refine S.noGoto_x ?_)
            first | (rw [flat_snoc cdC o x]; exact S.next (q - 1) ⟨i + 1, u2, o ++ [x], alPut (x.1 : Int) (.agg #[]) K, by omega, by omega, ho2, by rw [List.length_append, List.length_singleton]; omega, hK2, rfl, rfl⟩ (by omega) (by repeat (first | exact trivial | refine ⟨rfl, ?_⟩)) Sub.ent) | exact S.next (q - 1) ⟨i + 1, u, o, alPut (x.1 : Int) (.agg #[]) K, by omega, by omega, ho2, hun, hK2, rfl, rfl⟩ (by omega) (by repeat (first | exact trivial | refine ⟨rfl, ?_⟩)) Sub.ent | exact S.next (q - 1) ⟨i + 1, u, o, K, by omega, by omega, ho2, hun, hK2, rfl, rfl⟩ (by omega) (by repeat (first | exact trivial | refine ⟨rfl, ?_⟩)) Sub.ent
          · have ho2 : o = lesUp m row tier l (i + 1) := by rw [hstep, hg10_1, decide_eq_true hg10_6, decide_eq_false h3]; rfl
            refine S.skip ?_
            with_reducible repeat (first | refine S.then_n ?_ | refine S.then_x ?_ | refine S.then_r ?_ | refine S.inBlock_n ?_ | refine S.inBlock_r ?_ | refine S.inBlock_x rfl ?_ | refine S.noGoto_r ?_ | refine S.noGoto_n ?_ | refine S.noGoto_x ?_)
            with_reducible repeat (first | refine S.then_n ?_ | refine S.then_x ?_ | refine S.then_r ?_ | refine S.inBlock_n ?_ | refine S.inBlock_r ?_ | refine S.inBlock_x rfl ?_ | refine S.noGoto_r ?_ | refine S.noGoto_n ?_ | refine S.noGoto_x ?_)
            refine hK8 _ _ ?_
            refine S.region rfl ?_
            refine S.op (S.q (q_add rfl rfl (inI64 (by omega) (by omega))) rfl rfl ?_)
            refine S.op (S.q (q_move rfl) rfl rfl ?_)
            first | with_reducible refine S.nilK ?_ | refine S.nil ?_
            with_reducible repeat (first | refine S.then_n ?_ | refine S.then_x ?_ | refine S.then_r ?_ | refine S.inBlock_n ?_ | refine S.inBlock_r ?_ | refine S.inBlock_x rfl ?_ | refine S.noGoto_r ?_ | refine S.noGoto_n ?_ | refine S.noGoto_x ?_)
            first | (rw [flat_snoc cdC o x]; exact S.next (q - 1) ⟨i + 1, u2, o ++ [x], alPut (x.1 : Int) (.agg #[]) K, by omega, by omega, ho2, by rw [List.length_append, List.length_singleton]; omega, hK2, rfl, rfl⟩ (by omega) (by repeat (first | exact trivial | refine ⟨rfl, ?_⟩)) Sub.ent) | exact S.next (q - 1) ⟨i + 1, u, o, alPut (x.1 : Int) (.agg #[]) K, by omega, by omega, ho2, hun, hK2, rfl, rfl⟩ (by omega) (by repeat (first | exact trivial | refine ⟨rfl, ?_⟩)) Sub.ent | exact S.next (q - 1) ⟨i + 1, u, o, K, by omega, by omega, ho2, hun, hK2, rfl, rfl⟩ (by omega) (by repeat (first | exact trivial | refine ⟨rfl, ?_⟩)) Sub.ent
        · have ho2 : o = lesUp m row tier l (i + 1) := by rw [hstep, hg10_1, decide_eq_false hg10_6]; rfl
          refine S.g_no rfl rfl rfl (decide_eq_false hg10_6) rfl rfl ?_
          refine S.g_no rfl rfl rfl (decide_eq_false hg10_6) rfl rfl ?_
          refine S.g_no rfl rfl rfl (decide_eq_false hg10_6) rfl rfl ?_
          refine S.g_no rfl rfl rfl (decide_eq_false hg10_6) rfl rfl ?_
          refine S.g_op rfl (S.q (q_pickF rfl (decide_eq_false hg10_6) rfl) rfl rfl ?_)
          first | with_reducible refine S.g_nilK ?_ | refine S.g_nil ?_
          refine hK15 _ _ ?_
          refine S.condF rfl ?_
          refine S.skip ?_
          with_reducible repeat (first | refine S.then_n ?_ | refine S.then_x ?_ | refine S.then_r ?_ | refine S.inBlock_n ?_ | refine S.inBlock_r ?_ | refine S.inBlock_x rfl ?_ | refine S.noGoto_r ?_ | refine S.noGoto_n ?_ | refine S.noGoto_x ?_)
          with_reducible repeat (first | refine S.then_n ?_ | refine S.then_x ?_ | refine S.then_r ?_ | refine S.inBlock_n ?_ | refine S.inBlock_r ?_ | refine S.inBlock_x rfl ?_ | refine S.noGoto_r ?_ | refine S.noGoto_n ?_ | refine S.noGoto_x ?_)
          refine hK8 _ _ ?_
          refine S.region rfl ?_
          refine S.op (S.q (q_add rfl rfl (inI64 (by omega) (by omega))) rfl rfl ?_)
          refine S.op (S.q (q_move rfl) rfl rfl ?_)
          first | with_reducible refine S.nilK ?_ | refine S.nil ?_
          with_reducible repeat (first | refine S.then_n ?_ | refine S.then_x ?_ | refine S.then_r ?_ | refine S.inBlock_n ?_ | refine S.inBlock_r ?_ | refine S.inBlock_x rfl ?_ | refine S.noGoto_r ?_ | refine S.noGoto_n ?_ | refine S.noGoto_x ?_)
          first | (rw [flat_snoc cdC o x]; exact S.next (q - 1) ⟨i + 1, u2, o ++ [x], alPut (x.1 : Int) (.agg #[]) K, by omega, by omega, ho2, by rw [List.length_append, List.length_singleton]; omega, hK2, rfl, rfl⟩ (by omega) (by repeat (first | exact trivial | refine ⟨rfl, ?_⟩)) Sub.ent) | exact S.next (q - 1) ⟨i + 1, u, o, alPut (x.1 : Int) (.agg #[]) K, by omega, by omega, ho2, hun, hK2, rfl, rfl⟩ (by omega) (by repeat (first | exact trivial | refine ⟨rfl, ?_⟩)) Sub.ent | exact S.next (q - 1) ⟨i + 1, u, o, K, by omega, by omega, ho2, hun, hK2, rfl, rfl⟩ (by omega) (by repeat (first | exact trivial | refine ⟨rfl, ?_⟩)) Sub.ent
      · have ho2 : o = lesUp m row tier l (i + 1) := by rw [hstep, hg10_1]; rfl
        refine S.g_no rfl rfl rfl (hg10_1) rfl rfl ?_
        refine S.g_no rfl rfl rfl (hg10_1) rfl rfl ?_
        refine S.g_no rfl rfl rfl (hg10_1) rfl rfl ?_
        refine S.g_op rfl (S.q (q_pickF rfl (hg10_1) rfl) rfl rfl ?_)
        refine S.g_op rfl (S.q (q_move rfl) rfl rfl ?_)
        refine S.g_no rfl rfl rfl (rfl) rfl rfl ?_
        refine S.g_no rfl rfl rfl (rfl) rfl rfl ?_
        refine S.g_no rfl rfl rfl (rfl) rfl rfl ?_
        refine S.g_no rfl rfl rfl (rfl) rfl rfl ?_
        refine S.g_op rfl (S.q (q_pickF rfl (rfl) rfl) rfl rfl ?_)
        first | with_reducible refine S.g_nilK ?_ | refine S.g_nil ?_
        refine hK15 _ _ ?_
        refine S.condF rfl ?_
        refine S.skip ?_
        with_reducible repeat (first | refine S.then_n ?_ | refine S.then_x ?_ | refine S.then_r ?_ | refine S.inBlock_n ?_ | refine S.inBlock_r ?_ | refine S.inBlock_x rfl ?_ | refine S.noGoto_r ?_ | refine S.noGoto_n ?_ | refine S.noGoto_x ?_)
        with_reducible repeat (first | refine S.then_n ?_ | refine S.then_x ?_ | refine S.then_r ?_ | refine S.inBlock_n ?_ | refine S.inBlock_r ?_ | refine S.inBlock_x rfl ?_ | refine S.noGoto_r ?_ | refine S.noGoto_n ?_ | refine S.noGoto_x ?_)
        refine hK8 _ _ ?_
        refine S.region rfl ?_
        refine S.op (S.q (q_add rfl rfl (inI64 (by omega) (by omega))) rfl rfl ?_)
        refine S.op (S.q (q_move rfl) rfl rfl ?_)
        first | with_reducible refine S.nilK ?_ | refine S.nil ?_
        with_reducible repeat (first | refine S.then_n ?_ | refine S.then_x ?_ | refine S.then_r ?_ | refine S.inBlock_n ?_ | refine S.inBlock_r ?_ | refine S.inBlock_x rfl ?_ | refine S.noGoto_r ?_ | refine S.noGoto_n ?_ | refine S.noGoto_x ?_)
        first | (rw [flat_snoc cdC o x]; exact S.next (q - 1) ⟨i + 1, u2, o ++ [x], alPut (x.1 : Int) (.agg #[]) K, by omega, by omega, ho2, by rw [List.length_append, List.length_singleton]; omega, hK2, rfl, rfl⟩ (by omega) (by repeat (first | exact trivial | refine ⟨rfl, ?_⟩)) Sub.ent) | exact S.next (q - 1) ⟨i + 1, u, o, alPut (x.1 : Int) (.agg #[]) K, by omega, by omega, ho2, hun, hK2, rfl, rfl⟩ (by omega) (by repeat (first | exact trivial | refine ⟨rfl, ?_⟩)) Sub.ent | exact S.next (q - 1) ⟨i + 1, u, o, K, by omega, by omega, ho2, hun, hK2, rfl, rfl⟩ (by omega) (by repeat (first | exact trivial | refine ⟨rfl, ?_⟩)) Sub.ent
  · have hil : i = l.length := by omega
    refine S.exit ?_
    with_reducible repeat (first | refine S.then_n ?_ | refine S.then_x ?_ | refine S.then_r ?_ | refine S.inBlock_n ?_ | refine S.inBlock_r ?_ | refine S.inBlock_x rfl ?_ | refine S.noGoto_r ?_ | refine S.noGoto_n ?_ | refine S.noGoto_x ?_)
    with_reducible refine S.inBlock_s ?_
    with_reducible repeat (first | refine S.then_n ?_ | refine S.then_x ?_ | refine S.then_r ?_ | refine S.inBlock_n ?_ | refine S.inBlock_r ?_ | refine S.inBlock_x rfl ?_ | refine S.noGoto_r ?_ | refine S.noGoto_n ?_ | refine S.noGoto_x ?_)
    refine hK4 _ _ ?_
    refine S.seq fun K16 hK16 => ?_
    refine S.region rfl ?_
    refine S.op (S.q (q_move rfl) rfl rfl ?_)
    refine S.op (S.call Tryd.en96 (vs := [_, _]) ⟨rfl, rfl, trivial⟩ (SortC_S u o (by omega)) rfl ?_)
    rintro v Θ ⟨l', hp, hps, rfl⟩
    have hl' : l' = lesR m row tier l := by rw [lesR, ← hil, ← ho]; exact srtC_eq (by rw [ho]; exact lesUp_nd (by omega)) hp hps
    have hlen := hp.length_eq
    rw [hl'] at hlen ⊢
    first | with_reducible refine S.nilK ?_ | refine S.nil ?_
    refine hK16 _ _ ?_
    refine S.seq fun K17 hK17 => ?_
    refine S.region rfl ?_
    refine S.op (S.q (q_move rfl) rfl rfl ?_)
    refine S.op (S.q (q_assign rfl) rfl rfl ?_)
    first | with_reducible refine S.nilK ?_ | refine S.nil ?_
    refine hK17 _ _ ?_
    refine S.ret ?_
    with_reducible repeat (first | refine S.then_n ?_ | refine S.then_x ?_ | refine S.then_r ?_ | refine S.inBlock_n ?_ | refine S.inBlock_r ?_ | refine S.inBlock_x rfl ?_ | refine S.noGoto_r ?_ | refine S.noGoto_n ?_ | refine S.noGoto_x ?_)
    exact S.fin (rs := [_]) (vs := [_]) Tryd.results80 (⟨rfl, trivial⟩)  (⟨u, rfl, by omega, rfl⟩) Sub.ent
end Go.Proofs.YtbhnbnecaejjiaaDoor
