/- The nodes of a set, in order: each, list. -/
import Derived.Test.YtbhnbnecaejjiaaDoorSetT
import Derived.Test.YtbhnbnecaejjiaaDoorSeq
namespace Go.Proofs.YtbhnbnecaejjiaaDoor
open Go.RowKit
set_option maxRecDepth 20000
abbrev nv (i : Nat) : Value := .int .i64 (i : Int)
theorem each_seq (s : Bs) {W : World} (hW : TabW W) : SeqS Tryd.prog 78 [bsv s] [] nv (fun done x => ∃ rest, lst s = done ++ x :: rest) (fun xs => xs = lst s) [old W] := by
  intro l w0 J hY Γ w hs hx
  refine callsIn_wide.2 (calls_of_S (n := 15) (l := [bsv s, .func (.yield l) #[] #[]]) (Γ := stars (J []) :: old W :: Γ) (w0 := w0) Tryd.func78 rfl Tryd.ntmps78 rfl ?_ (hs.ent ((Ent.cons _ (Ent.pack (J []) Γ)).trans (Ent.swap _ _ _))) hx)
  show S _ w0 [(0, bsv s), (1, .func (.yield l) #[] #[])] (stars (J []) :: old W :: Γ) _
  refine S.block ?_
  refine S.loop (fun m ρ' Γ' => ∃ (j : Nat) (u : Bs) (L : List Nat), L = (lst s).take j ∧ lst u = (lst s).drop j ∧ j ≤ (lst s).length ∧ m = (lst u).length ∧ ρ' = [(0, bsv u), (1, .func (.yield l) #[] #[])] ∧ Γ' = stars (J L) :: old W :: Γ) (m := _) (ρ0 := _) (Γ0 := _) (⟨0, s, [], rfl, by simp, by omega, rfl, rfl, rfl⟩) (by repeat (first | exact trivial | refine ⟨rfl, ?_⟩)) Sub.ent ?_
  rintro m ρ' Γ' ⟨j, u, L, hL, hu, hj, hm, rfl, rfl⟩
  refine S.seq fun K1 hK1 => ?_
  refine S.seq fun K2 hK2 => ?_
  refine S.region rfl ?_
  refine S.op (S.q (q_move rfl) rfl rfl ?_)
  refine S.op (S.q (q_ne rfl rfl) rfl rfl ?_)
  first | with_reducible refine S.nilK ?_ | refine S.nil ?_
  refine hK2 _ _ ?_
  refine S.condD rfl (fun h1 => ?_) (fun h1 => ?_)
  · have h0 : u ≠ 0#16 := fun e => h1 (bs_zero.2 e)
    obtain ⟨t, r, hl⟩ : ∃ t r, lst u = t :: r := by
      cases e : lst u with
      | nil => exact absurd (lst_nil.1 e) h0
      | cons t r => exact ⟨t, r, rfl⟩
    have hdr : (lst s).drop j = t :: r := hu.symm.trans hl
    have hxs : lst s = L ++ t :: r := by rw [hL, ← hdr, List.take_append_drop]
    refine S.skip ?_
    with_reducible repeat (first | refine S.then_n ?_ | refine S.then_x ?_ | refine S.then_r ?_ | refine S.inBlock_n ?_ | refine S.inBlock_r ?_ | refine S.inBlock_x rfl ?_ | refine S.noGoto_r ?_ | refine S.noGoto_n ?_ | refine S.noGoto_x ?_)
    refine hK1 _ _ ?_
    refine S.seq fun K3 hK3 => ?_
    refine S.block ?_
    refine S.seq fun K4 hK4 => ?_
    refine S.regionW rfl ?_
    refine S.opI rfl ?_
    refine  (S.q (q_move rfl) rfl rfl ?_)
    refine S.opI rfl ?_
    refine  (S.q (q_move rfl) rfl rfl ?_)
    refine S.opI rfl ?_
    refine  (S.call Tryd.en48 (vs := [_]) ⟨rfl, trivial⟩ (tz16_S u hW) rfl ?_)
    rintro v Θ ⟨rfl, rfl⟩
    refine S.yieldI rfl rfl (fun w hs hx => by rw [tz_cons hl]; exact hY _ t (old W :: Γ) w ⟨r, hxs⟩ (hs.ent ((Ent.swap _ _ _).trans (Ent.unpack _ _))) hx) rfl ?_
    refine S.ent (Ent.pack _ _) ?_
    refine S.opI rfl ?_
    refine  (S.q (q_not rfl) rfl rfl ?_)
    refine S.nilI ?_
    refine hK4 _ _ ?_
    refine S.condF rfl ?_
    refine S.skip ?_
    with_reducible repeat (first | refine S.then_n ?_ | refine S.then_x ?_ | refine S.then_r ?_ | refine S.inBlock_n ?_ | refine S.inBlock_r ?_ | refine S.inBlock_x rfl ?_ | refine S.noGoto_r ?_ | refine S.noGoto_n ?_ | refine S.noGoto_x ?_)
    with_reducible repeat (first | refine S.then_n ?_ | refine S.then_x ?_ | refine S.then_r ?_ | refine S.inBlock_n ?_ | refine S.inBlock_r ?_ | refine S.inBlock_x rfl ?_ | refine S.noGoto_r ?_ | refine S.noGoto_n ?_ | refine S.noGoto_x ?_)
    refine hK3 _ _ ?_
    refine S.region rfl ?_
    refine S.op (S.q (q_move rfl) rfl rfl ?_)
    refine S.op (S.q (q_move rfl) rfl rfl ?_)
    refine S.op (S.q (q_predB (u) rfl rfl rfl) rfl rfl ?_)
    refine S.op (S.q (q_andB (u) (u - 1#16) rfl rfl (rfl) (rfl)) rfl rfl ?_)
    refine S.op (S.q (q_assign rfl) rfl rfl ?_)
    first | with_reducible refine S.nilK ?_ | refine S.nil ?_
    with_reducible repeat (first | refine S.then_n ?_ | refine S.then_x ?_ | refine S.then_r ?_ | refine S.inBlock_n ?_ | refine S.inBlock_r ?_ | refine S.inBlock_x rfl ?_ | refine S.noGoto_r ?_ | refine S.noGoto_n ?_ | refine S.noGoto_x ?_)
    have hlt : 0 < (lst u).length := by rw [hl]; simp
    have hu2 : lst (u &&& (u - 1#16)) = (lst s).drop (j + 1) := by rw [and_pred u h0, lst_butLeast hl, ← List.tail_drop, hdr]; rfl
    have hj2 : j + 1 ≤ (lst s).length := by have := congrArg List.length hdr; rw [List.length_drop, List.length_cons] at this; omega
    have hm2 : m - 1 = (lst (u &&& (u - 1#16))).length := by rw [hm, and_pred u h0, lst_butLeast hl, hl]; simp
    have htk : L ++ [t] = (lst s).take (j + 1) := by rw [List.take_add, hdr, hL]; rfl
    exact S.next (m - 1) (⟨j + 1, u &&& (u - 1#16), L ++ [t], htk, hu2, hj2, hm2, rfl, rfl⟩) (by omega) (by repeat (first | exact trivial | refine ⟨rfl, ?_⟩)) Sub.ent
  · have e0 : u = 0#16 := bs_zero.1 (Classical.byContradiction h1)
    rw [e0, lst_zero] at hu
    have hlen := List.drop_eq_nil_iff.1 hu.symm
    have hall : (lst s).take j = lst s := List.take_of_length_le hlen
    rw [hall] at hL
    subst hL
    refine S.exit ?_
    with_reducible repeat (first | refine S.then_n ?_ | refine S.then_x ?_ | refine S.then_r ?_ | refine S.inBlock_n ?_ | refine S.inBlock_r ?_ | refine S.inBlock_x rfl ?_ | refine S.noGoto_r ?_ | refine S.noGoto_n ?_ | refine S.noGoto_x ?_)
    with_reducible refine S.inBlock_s ?_
    with_reducible repeat (first | refine S.then_n ?_ | refine S.then_x ?_ | refine S.then_r ?_ | refine S.inBlock_n ?_ | refine S.inBlock_r ?_ | refine S.inBlock_x rfl ?_ | refine S.noGoto_r ?_ | refine S.noGoto_n ?_ | refine S.noGoto_x ?_)
    with_reducible repeat (first | refine S.then_n ?_ | refine S.then_x ?_ | refine S.then_r ?_ | refine S.inBlock_n ?_ | refine S.inBlock_r ?_ | refine S.inBlock_x rfl ?_ | refine S.noGoto_r ?_ | refine S.noGoto_n ?_ | refine S.noGoto_x ?_)
    refine S.finR rfl ?_
    exact fun v w hs hx => ⟨⟨v, rfl⟩, _, rfl, hs.ent ((Ent.swap _ _ _).trans (Ent.cons _ (Ent.unpack _ _))), hx⟩
theorem ints_lst (l : List Nat) (x : Nat) : ints ((l ++ [x]).map fun i : Nat => (i : Int)) = ints (l.map fun i : Nat => (i : Int)) ++ [nv x] := by simp
/-- A list of nodes, as a slice. -/
abbrev nds (l : List Nat) : List Value := l.map nv
theorem list_S (s : Bs) {W : World} (hW : TabW W) : Spec Tryd.prog 60 [bsv s] [old W] fun Γ v Θ => ∃ sv : SV, v = sv.v ∧ sv.n = (lst s).length ∧ Θ = own sv 3 1 (nds (lst s)) :: old W :: Γ := by
  refine Spec.of_bodyM Tryd.func60 rfl Tryd.ntmps60 rfl ?_
  intro w0 Γ
  show S _ w0 [(0, bsv s)] (old W :: Γ) _
  refine S.seq fun K1 hK1 => ?_
  refine S.region rfl ?_
  refine S.op (S.q (q_assign rfl) rfl rfl ?_)
  refine S.nilK ?_
  refine hK1 _ _ ?_
  refine S.seq fun K2 hK2 => ?_
  refine S.region rfl ?_
  refine S.op (S.alloc Tryd.z52 rfl ?_)
  intro b3
  refine S.nilK ?_
  refine hK2 _ _ ?_
  refine S.seq1 ?_
  refine S.seq fun K4 hK4 => ?_
  refine S.region rfl ?_
  refine S.op (S.q (q_move rfl) rfl rfl ?_)
  refine S.op (S.q (q_makeFunc (vs := [_]) (us := []) ⟨rfl, trivial⟩ trivial) rfl rfl ?_)
  refine S.nilK ?_
  refine hK4 _ _ ?_
  refine S.block ?_
  have hl16 := lst_len s
  refine S.rangeF (fs := [bsv s]) (cs := []) (enc := nv) (p := 7) (q := 4) rfl Tryd.en78 (each_seq s hW) (fun done => [outA b3 52 3 (nds done)]) (Γ' := Γ) ?_ rfl rfl ?_ ?_
  · exact (Ent.swap _ _ _).trans (Ent.cons _ ((Ent.cons _ (Ent.ownNil 3 1)).trans (Ent.outA SV.nil rfl _)))
  · rintro l done x Θ ⟨rest, hxs⟩
    have hdl : done.length < 16 := by rw [hxs] at hl16; simp at hl16; omega
    show S _ w0 _ (outA b3 52 3 (nds done) :: Θ) _
    refine S.outA (b := b3) (T := 52) (E := 3) (done := nds done) fun sv hsv => ?_
    simp only [List.length_map] at hsv
    refine S.blockR (S.regionR rfl ?_)
    refine S.opI rfl ?_
    refine (S.q (q_load Tryd.at52 rfl rfl) rfl rfl ?_)
    refine S.opI rfl ?_
    refine (S.q (q_move rfl) rfl rfl ?_)
    refine S.opI rfl ?_
    refine (S.buildSlice (pvs := [(_, _)]) [_] Tryd.underlying52 Tryd.inf3 rfl rfl ⟨⟨rfl, rfl⟩, trivial⟩ rfl rfl ?_)
    intro b10
    refine S.opI rfl ?_
    refine (S.appendOw (s := sv) 1 [nv x] Tryd.underlying52 Tryd.inf3 rfl rfl rfl (blk_slAt (b := b10) rfl (show 1 ≤ maxLen by unfold maxLen; omega)) rfl ⟨by omega, by omega⟩ rfl ?_)
    intro s2 hs2
    refine S.opI rfl ?_
    refine (S.store (cs' := [_]) Tryd.at52 rfl rfl rfl rfl rfl ?_)
    refine S.nilI ?_
    refine S.endR ?_
    have e : nds done ++ [nv x] = nds (done ++ [x]) := by simp
    rw [e]
    exact (Sub.ent (Δ := blk b3 52 #[s2.v] :: own s2 3 1 (nds (done ++ [x])) :: Θ)).trans (Ent.outA s2 (by simp [hs2, hsv]) Θ)
  · rintro D _ rfl
    show S _ w0 _ (defA D :: old W :: outA b3 52 3 (nds (lst s)) :: Γ) _
    refine S.outA (b := b3) (T := 52) (E := 3) (done := nds (lst s)) fun sv hsv => ?_
    simp only [List.length_map] at hsv
    refine S.seqD (S.regionD rfl ?_)
    refine S.qD (q_load Tryd.at52 rfl rfl) rfl rfl ?_
    refine S.qD (q_assign rfl) rfl rfl ?_
    refine S.nilD (S.retD ?_)
    exact S.finM (rs := [_]) (vs := [_]) Tryd.results60 ⟨rfl, trivial⟩ (Θ := own sv 3 1 (nds (lst s)) :: old W :: Γ) ⟨sv, rfl, hsv, rfl⟩ Sub.ent
end Go.Proofs.YtbhnbnecaejjiaaDoor
