/- Plan, Now, Delays. -/
import Derived.Test.YtknpddiffellgaaPlanE
namespace Go.Proofs.Ytknpddiffellgaa
open Go.RowKit
set_option maxRecDepth 20000
set_option linter.unusedVariables false
structure Sml (D : List (List Int)) : Prop where
  rows : D.length ≤ 1000
  row : ∀ r ∈ D, r.length ≤ 1000
theorem Sml.of_lens {D E : List (List Int)} (h : Sml D) (e : E.map List.length = D.map List.length) : Sml E := by
  refine ⟨by have := congrArg List.length e; rw [List.length_map, List.length_map] at this; have := h.rows; omega, fun r hr => ?_⟩
  have h1 : r.length ∈ E.map List.length := List.mem_map_of_mem hr
  rw [e] at h1
  obtain ⟨q, h2, h3⟩ := List.mem_map.1 h1
  have := h.row q h2
  omega
theorem Sml.res {D : List (List Int)} (h : Sml D) (x : St) (len : Int) : Sml (resR D x len) := h.of_lens (resR_lens D x len)
theorem Sml.at_ {D : List (List Int)} (h : Sml D) (l : List Ak) : Sml (profAt D l) := h.of_lens (profAt_lens l D)
theorem Sml.len {rs : List RW} (h : Sml (dat rs)) : rs.length ≤ 1000 := by have := h.rows; rwa [List.length_map] at this
theorem Sml.each {rs : List RW} (h : Sml (dat rs)) : ∀ r ∈ rs, r.d.length ≤ 1000 := fun r hr => h.row r.d (List.mem_map_of_mem hr)
theorem rdOwnI {u : SV} {e : TypeId} {l : List Int} : RdS (own u e 1 (ints l)) u l.length 1 (ints l) := fun Γ w hs => by
  have h2 := (HasOw.head).slAt hs
  obtain ⟨x, _, p⟩ := hs.head
  have h3 := p.1
  rw [List.length_map, Nat.mul_one] at h3
  rwa [← h3] at h2
theorem RdP.ent {A B : Assn} {s : SV} {rs : List RW} (h : RdP A s rs) (e : ∀ Γ, ∃ Δ, Ent (B :: Γ) (A :: Δ)) : RdP B s rs :=
  ⟨fun Γ w hs => by obtain ⟨Δ, h1⟩ := e Γ; exact h.top _ _ (hs.ent h1), fun hr Γ w hs => by obtain ⟨Δ, h1⟩ := e Γ; exact h.row hr _ _ (hs.ent h1)⟩
theorem rdPack (s : SV) (rs : List RW) (R : Assn) : RdP (stars [prof s rs, R]) s rs := (RdP.prof s rs).ent fun Γ => ⟨_, Ent.unpack [prof s rs, R] Γ⟩
theorem Ent.second (A R : Assn) (Γ : List Assn) : Ent (stars [A, R] :: Γ) (R :: Γ) := (Ent.unpack [A, R] Γ).trans (Ent.drop _ _)
abbrev akC (a : Ak) : List Value := [.int .i64 a.k, .int .i64 a.len]
theorem akC_len : ∀ a, (akC a).length = 2 := fun _ => rfl
structure SR where
  v : SV
  x : St
instance : Inhabited SR := ⟨⟨SV.nil, default⟩⟩
abbrev srC (r : SR) : List Value := stC r.v r.x
theorem srC_len : ∀ r, (srC r).length = 4 := fun _ => rfl
abbrev srB (r : SR) : Assn := own r.v 3 1 (ints r.x.nodes)
set_option maxHeartbeats 1000000 in
theorem Plan_S (R A : Assn) (s : SV) (rs : List RW) (l : SV) (al : List Ak) (hs : Sml (dat rs)) (hal : al.length ≤ 1000) (hR : RdP R s rs) (hA : RdS A l al.length 2 (al.flatMap akC)) :
    Spec Try.prog 21 [s.v, l.v] [R, A] fun Γ v Θ => ∃ (u : SV) (os : List SR), v = u.v ∧ os.map SR.x = planR (dat rs) al ∧ Θ = own u 32 4 (os.flatMap srC) :: alls os srB :: R :: A :: Γ := by
  refine Spec.of_body Try.func21 rfl Try.ntmps21 rfl ?_
  intro w0 Γ
  show S _ w0 [(0, s.v), (1, l.v)] (R :: A :: Γ) _
  refine S.rCap hA fun hln _ _ => ?_
  refine S.seq fun K1 hK1 => ?_
  refine S.region rfl ?_
  refine S.op (S.q (q_assign rfl) rfl rfl ?_)
  first | with_reducible refine S.nilK ?_ | refine S.nil ?_
  refine hK1 _ _ ?_
  refine S.seq fun K2 hK2 => ?_
  refine S.region rfl ?_
  refine S.ent (show Ent _ (own SV.nil 32 4 (([] : List SR).flatMap srC) :: _) from Ent.ownNil 32 4) ?_
  refine S.ent (Ent.allsNil srB _) ?_
  refine S.op (S.q (q_assign rfl) rfl rfl ?_)
  first | with_reducible refine S.nilK ?_ | refine S.nil ?_
  refine hK2 _ _ ?_
  refine S.seq fun K3 hK3 => ?_
  refine S.seq fun K4 hK4 => ?_
  refine S.region rfl ?_
  refine S.op (S.q (q_move rfl) rfl rfl ?_)
  refine S.op (S.q (q_len Try.underlying42 rfl) rfl rfl ?_)
  refine S.op (S.q (q_move rfl) rfl rfl ?_)
  first | with_reducible refine S.nilK ?_ | refine S.nil ?_
  refine hK4 _ _ ?_
  refine S.block ?_
  refine S.loop (fun m ρ' Γ' => ∃ (i : Nat) (uo : SV) (os : List SR) (X : Assn) (sx : SV) (rx : List RW), m + i = al.length ∧ dat rx = profAt (dat rs) (al.take i) ∧ os.map SR.x = planR (dat rs) (al.take i) ∧ RdP X sx rx ∧ (∀ Γ, Ent (X :: Γ) (R :: Γ)) ∧ ρ' = [(0, sx.v), (5, uo.v), (9, l.v), (10, .int .i64 l.n), (11, .int .i64 i)] ∧ Γ' = own uo 32 4 (os.flatMap srC) :: alls os srB :: X :: A :: Γ) (m := _) (ρ0 := _) (Γ0 := _) (⟨0, SV.nil, [], R, s, rs, rfl, rfl, rfl, hR, fun Γ => Ent.refl _, rfl, rfl⟩) (by repeat (first | exact trivial | refine ⟨rfl, ?_⟩)) Sub.ent ?_
  rintro m ρ' Γ' ⟨i, uo, os, X, sx, rx, hmi, hd, hos, hX, hXR, rfl, rfl⟩
  have hsx : Sml (dat rx) := by rw [hd]; exact hs.at_ _
  have hol : os.length = i := by have := congrArg List.length hos; rw [List.length_map, planR_length, List.length_take] at this; omega
  refine S.ownLen uo fun hul _ _ => ?_
  rw [flat_length srC_len] at hul
  refine S.seq fun K5 hK5 => ?_
  refine S.region rfl ?_
  refine S.op (S.q (q_lt rfl rfl) rfl rfl ?_)
  first | with_reducible refine S.nilK ?_ | refine S.nil ?_
  refine hK5 _ _ ?_
  refine S.seq fun K6 hK6 => ?_
  refine S.condD rfl (fun h1 => ?_) (fun h1 => ?_)
  · obtain ⟨a, ha⟩ := getE (l := al) (i := i) (by omega)
    refine S.rSome hA (by omega) fun b off hb => ?_
    refine S.skip ?_
    with_reducible repeat (first | refine S.then_n ?_ | refine S.then_x ?_ | refine S.then_r ?_ | refine S.inBlock_n ?_ | refine S.inBlock_r ?_ | refine S.inBlock_x rfl ?_ | refine S.noGoto_r ?_ | refine S.noGoto_n ?_ | refine S.noGoto_x ?_)
    refine hK6 _ _ ?_
    refine S.seq fun K7 hK7 => ?_
    refine S.block ?_
    refine S.seq fun K8 hK8 => ?_
    refine S.region rfl ?_
    refine S.op (S.q (q_indexO (i) Try.el42 rfl hb rfl rfl (by omega)) rfl rfl ?_)
    refine S.op (S.q (q_loadRS hA (i * 2) (akC a) Try.ag34 rfl hb (by omega) rfl rfl (flat_seg (enc := akC) (sz := 2) akC_len ha)) rfl rfl ?_)
    refine S.op (S.alloc Try.z34 rfl ?_)
    intro b7
    refine S.op (S.storeS (cs' := [_, _]) Try.ag34 rfl rfl rfl rfl rfl rfl ?_)
    first | with_reducible refine S.nilK ?_ | refine S.nil ?_
    refine hK8 _ _ ?_
    refine S.seq fun K9 hK9 => ?_
    refine S.region rfl ?_
    refine S.op (S.q (q_move rfl) rfl rfl ?_)
    refine S.op (S.q (q_loadS [_, _] Try.ag34 rfl rfl ⟨rfl, rfl, trivial⟩) rfl rfl ?_)
    refine S.op (S.call Try.en14 (vs := [_, _]) ⟨rfl, rfl, trivial⟩ (First_S X sx rx a.k a.len hsx.len hsx.each hX) rfl ?_)
    rintro v Θ ⟨u1, rfl, rfl⟩
    obtain ⟨x1, hx1⟩ : ∃ x1, x1 = firstR (dat rx) a.k := ⟨_, rfl⟩
    rw [← hx1]
    refine S.op (S.alloc Try.z32 rfl ?_)
    intro b8
    refine S.op (S.storeS (cs' := [_, _, _, _]) Try.ag32 rfl rfl rfl rfl rfl rfl ?_)
    first | with_reducible refine S.nilK ?_ | refine S.nil ?_
    refine hK9 _ _ ?_
    refine S.seq fun K10 hK10 => ?_
    refine S.region rfl ?_
    refine S.op (S.q (q_move rfl) rfl rfl ?_)
    refine S.op (S.q (q_loadS [_, _, _, _] Try.ag32 rfl rfl ⟨rfl, rfl, rfl, rfl, trivial⟩) rfl rfl ?_)
    refine S.op (S.q (q_field Try.fo34_1 rfl) rfl rfl ?_)
    refine S.op (S.q (q_load Try.at3 rfl rfl) rfl rfl ?_)
    refine S.op (S.call Try.en18 (vs := [_, _, _]) ⟨rfl, rfl, rfl, trivial⟩ (Reserve_S X (own u1 3 1 (ints x1.nodes)) sx rx u1 x1 a.len hsx.len hsx.each hX rdOwnI) rfl ?_)
    rintro v Θ ⟨s', rs', rfl, hd', rfl⟩
    refine S.op (S.q (q_assign rfl) rfl rfl ?_)
    first | with_reducible refine S.nilK ?_ | refine S.nil ?_
    refine hK10 _ _ ?_
    refine S.region rfl ?_
    refine S.op (S.q (q_move rfl) rfl rfl ?_)
    refine S.op (S.q (q_loadS [_, _, _, _] Try.ag32 rfl rfl ⟨rfl, rfl, rfl, rfl, trivial⟩) rfl rfl ?_)
    refine S.op (S.buildSlice (pvs := [(_, _)]) [_, _, _, _] Try.underlying45 Try.inf32 rfl rfl ⟨⟨rfl, rfl⟩, trivial⟩ rfl rfl ?_)
    intro b25
    refine S.op (S.appendOw (s := uo) (1) (srC ⟨u1, x1⟩) Try.underlying45 Try.inf32 rfl rfl rfl (blk_slAt (b := b25) rfl (by unfold maxLen; omega)) (by first | rfl | exact allOne_bcells _) (⟨by omega, by omega⟩) rfl ?_)
    intro uo' huo'
    rw [flat_snoc srC os ⟨u1, x1⟩]
    refine S.conv2 (own u1 3 1 (ints x1.nodes)) (alls os srB) (Ent.allsSnoc srB os ⟨u1, x1⟩ _) ?_
    refine S.conv2 (prof s' rs') X (((hXR _).cons _).trans (Ent.pack [prof s' rs', R] _)) ?_
    refine S.op (S.q (q_assign rfl) rfl rfl ?_)
    first | with_reducible refine S.nilK ?_ | refine S.nil ?_
    with_reducible repeat (first | refine S.then_n ?_ | refine S.then_x ?_ | refine S.then_r ?_ | refine S.inBlock_n ?_ | refine S.inBlock_r ?_ | refine S.inBlock_x rfl ?_ | refine S.noGoto_r ?_ | refine S.noGoto_n ?_ | refine S.noGoto_x ?_)
    refine hK7 _ _ ?_
    refine S.region rfl ?_
    have htk : al.take (i + 1) = al.take i ++ [a] := by rw [List.take_add_one, ha]; rfl
    refine S.op (S.q (q_add rfl rfl (inI64 (by omega) (by omega))) rfl rfl ?_)
    refine S.op (S.q (q_move rfl) rfl rfl ?_)
    first | with_reducible refine S.nilK ?_ | refine S.nil ?_
    with_reducible repeat (first | refine S.then_n ?_ | refine S.then_x ?_ | refine S.then_r ?_ | refine S.inBlock_n ?_ | refine S.inBlock_r ?_ | refine S.inBlock_x rfl ?_ | refine S.noGoto_r ?_ | refine S.noGoto_n ?_ | refine S.noGoto_x ?_)
    exact S.next (m - 1) (⟨i + 1, uo', os ++ [⟨u1, x1⟩], stars [prof s' rs', R], s', rs', by omega, by rw [hd', htk, profAt_snoc, ← hd, hx1], by rw [List.map_append, hos, htk, planR_snoc, ← hd, hx1]; rfl, rdPack s' rs' R, Ent.second _ _, rfl, rfl⟩) (by omega) (by repeat (first | exact trivial | refine ⟨rfl, ?_⟩)) Sub.ent
  · rw [List.take_of_length_le (by omega)] at hos
    refine S.conv X (hXR _) ?_
    refine S.exit ?_
    with_reducible repeat (first | refine S.then_n ?_ | refine S.then_x ?_ | refine S.then_r ?_ | refine S.inBlock_n ?_ | refine S.inBlock_r ?_ | refine S.inBlock_x rfl ?_ | refine S.noGoto_r ?_ | refine S.noGoto_n ?_ | refine S.noGoto_x ?_)
    with_reducible refine S.inBlock_s ?_
    with_reducible repeat (first | refine S.then_n ?_ | refine S.then_x ?_ | refine S.then_r ?_ | refine S.inBlock_n ?_ | refine S.inBlock_r ?_ | refine S.inBlock_x rfl ?_ | refine S.noGoto_r ?_ | refine S.noGoto_n ?_ | refine S.noGoto_x ?_)
    refine hK3 _ _ ?_
    refine S.seq fun K11 hK11 => ?_
    refine S.region rfl ?_
    refine S.op (S.q (q_move rfl) rfl rfl ?_)
    refine S.op (S.q (q_assign rfl) rfl rfl ?_)
    first | with_reducible refine S.nilK ?_ | refine S.nil ?_
    refine hK11 _ _ ?_
    refine S.ret ?_
    with_reducible repeat (first | refine S.then_n ?_ | refine S.then_x ?_ | refine S.then_r ?_ | refine S.inBlock_n ?_ | refine S.inBlock_r ?_ | refine S.inBlock_x rfl ?_ | refine S.noGoto_r ?_ | refine S.noGoto_n ?_ | refine S.noGoto_x ?_)
    exact S.fin (rs := [_]) (vs := [_]) Try.results21 (⟨rfl, trivial⟩)  (⟨uo, os, rfl, hos, rfl⟩) Sub.ent
/-- Who may start now. -/
def nowT (xs : List St) : Nat → List Int
  | 0 => []
  | n + 1 => nowT xs n ++ (match xs[n]? with | some x => if (x.ok && decide (x.at_ = 0)) = true then [(n : Int)] else [] | none => [])
theorem nowT_len (xs : List St) : ∀ n, (nowT xs n).length ≤ n
  | 0 => Nat.le_refl _
  | n + 1 => by
    have := nowT_len xs n
    unfold nowT
    rw [List.length_append]
    split
    · split <;> simp <;> omega
    · simp; omega
abbrev nowR (D : List (List Int)) (al : List Ak) : List Int := nowT (planR D al) al.length
theorem rdOwnS {u : SV} {e : TypeId} {os : List SR} : RdS (own u e 4 (os.flatMap srC)) u os.length 4 (os.flatMap srC) := fun Γ w hs => by
  have h2 := (HasOw.head).slAt hs
  obtain ⟨x, _, p⟩ := hs.head
  have h3 := p.1
  rw [flat_length srC_len] at h3
  rwa [← Nat.eq_of_mul_eq_mul_right (by omega) h3] at h2
set_option maxHeartbeats 1000000 in
theorem Now_S (R A : Assn) (s : SV) (rs : List RW) (l : SV) (al : List Ak) (hs : Sml (dat rs)) (hal : al.length ≤ 1000) (hR : RdP R s rs) (hA : RdS A l al.length 2 (al.flatMap akC)) :
    Spec Try.prog 23 [s.v, l.v] [R, A] fun Γ v Θ => ∃ u : SV, v = u.v ∧ Θ = own u 3 1 (ints (nowR (dat rs) al)) :: R :: A :: Γ := by
  refine Spec.of_body Try.func23 rfl Try.ntmps23 rfl ?_
  intro w0 Γ
  show S _ w0 [(0, s.v), (1, l.v)] (R :: A :: Γ) _
  refine S.seq fun K1 hK1 => ?_
  refine S.region rfl ?_
  refine S.op (S.q (q_assign rfl) rfl rfl ?_)
  first | with_reducible refine S.nilK ?_ | refine S.nil ?_
  refine hK1 _ _ ?_
  refine S.seq fun K2 hK2 => ?_
  refine S.region rfl ?_
  refine S.ent (show Ent _ (own SV.nil 3 1 (ints (nowT (planR (dat rs) al) 0)) :: _) from Ent.ownNil 3 1) ?_
  refine S.op (S.q (q_assign rfl) rfl rfl ?_)
  first | with_reducible refine S.nilK ?_ | refine S.nil ?_
  refine hK2 _ _ ?_
  refine S.seq fun K3 hK3 => ?_
  refine S.seq fun K4 hK4 => ?_
  refine S.region rfl ?_
  refine S.op (S.q (q_move rfl) rfl rfl ?_)
  refine S.op (S.q (q_move rfl) rfl rfl ?_)
  refine S.op (S.call Try.en21 (vs := [_, _]) ⟨rfl, rfl, trivial⟩ (Plan_S R A s rs l al hs hal hR hA) rfl ?_)
  rintro v Θ ⟨u, os, rfl, hos, rfl⟩
  have hol : os.length = al.length := by have := congrArg List.length hos; rwa [List.length_map, planR_length] at this
  refine S.rCap (rdOwnS (u := u) (e := 32) (os := os)) fun hun _ _ => ?_
  refine S.op (S.q (q_len Try.underlying45 rfl) rfl rfl ?_)
  refine S.op (S.q (q_move rfl) rfl rfl ?_)
  first | with_reducible refine S.nilK ?_ | refine S.nil ?_
  refine hK4 _ _ ?_
  refine S.block ?_
  refine S.loop (fun m ρ' Γ' => ∃ (i : Nat) (uo : SV), m + i = al.length ∧ ρ' = [(5, uo.v), (10, u.v), (11, .int .i64 u.n), (12, .int .i64 i)] ∧ Γ' = own uo 3 1 (ints (nowT (planR (dat rs) al) i)) :: own u 32 4 (os.flatMap srC) :: R :: A :: Γ) (m := _) (ρ0 := _) (Γ0 := _) (⟨0, SV.nil, rfl, rfl, rfl⟩) (by repeat (first | exact trivial | refine ⟨rfl, ?_⟩)) Sub.ent ?_
  rintro m ρ' Γ' ⟨i, uo, hmi, rfl, rfl⟩
  refine S.ownLen uo fun hul _ _ => ?_
  rw [List.length_map, Nat.mul_one] at hul
  have hnl := nowT_len (planR (dat rs) al) i
  refine S.seq fun K5 hK5 => ?_
  refine S.region rfl ?_
  refine S.op (S.q (q_lt rfl rfl) rfl rfl ?_)
  first | with_reducible refine S.nilK ?_ | refine S.nil ?_
  refine hK5 _ _ ?_
  refine S.seq fun K6 hK6 => ?_
  refine S.condD rfl (fun h1 => ?_) (fun h1 => ?_)
  · obtain ⟨o, ho⟩ := getE (l := os) (i := i) (by omega)
    have hx : (planR (dat rs) al)[i]? = some o.x := by rw [← hos, List.getElem?_map, ho]; rfl
    have hsucc : nowT (planR (dat rs) al) (i + 1) = nowT (planR (dat rs) al) i ++ if (o.x.ok && decide (o.x.at_ = 0)) = true then [(i : Int)] else [] := by rw [nowT, hx]
    refine S.ownSome u (by omega) fun b off hb _ _ _ => ?_
    refine S.skip ?_
    with_reducible repeat (first | refine S.then_n ?_ | refine S.then_x ?_ | refine S.then_r ?_ | refine S.inBlock_n ?_ | refine S.inBlock_r ?_ | refine S.inBlock_x rfl ?_ | refine S.noGoto_r ?_ | refine S.noGoto_n ?_ | refine S.noGoto_x ?_)
    refine hK6 _ _ ?_
    refine S.seq fun K7 hK7 => ?_
    refine S.cut (fun ρ' Γ' => ∃ (u9 : SV), ρ' = [(5, u9.v), (10, u.v), (11, .int .i64 u.n), (12, .int .i64 i)] ∧ Γ' = own u9 3 1 (ints (nowT (planR (dat rs) al) (i + 1))) :: own u 32 4 (os.flatMap srC) :: R :: A :: Γ) ?_ ?_
    · refine S.block ?_
      refine S.seq fun K8 hK8 => ?_
      refine S.region rfl ?_
      refine S.op (S.q (q_move rfl) rfl rfl ?_)
      refine S.op (S.q (q_indexO (i) Try.el45 rfl hb rfl rfl (by omega)) rfl rfl ?_)
      refine S.op (S.q (q_loadOwS (u) (i * 4) [_, _, _, _] Try.ag32 rfl hb (by first | rfl | exact Nat.add_assoc _ _ _ | omega) rfl (flat_seg (enc := srC) (sz := 4) srC_len ho)) rfl rfl ?_)
      refine S.op (S.alloc Try.z32 rfl ?_)
      intro b7
      refine S.op (S.q (q_assign rfl) rfl rfl ?_)
      refine S.op (S.storeS (cs' := [_, _, _, _]) Try.ag32 rfl rfl rfl rfl rfl rfl ?_)
      first | with_reducible refine S.nilK ?_ | refine S.nil ?_
      refine hK8 _ _ ?_
      refine S.seq fun K9 hK9 => ?_
      refine S.cut (fun ρ' Γ' => ∃ c : Bool, c = (o.x.ok && decide (o.x.at_ = 0)) ∧ ρ' = [(5, uo.v), (6, .int .i64 i), (10, u.v), (11, .int .i64 u.n), (12, .int .i64 i), (23, .bool c)] ∧ Γ' = own uo 3 1 (ints (nowT (planR (dat rs) al) i)) :: own u 32 4 (os.flatMap srC) :: R :: A :: Γ) ?_ ?_
      · refine S.regionG ?_
        refine S.g_op rfl (S.q (q_field Try.fo32_3 rfl) rfl rfl ?_)
        refine S.g_op rfl (S.q (q_load Try.at4 rfl rfl) rfl rfl ?_)
        refine S.g_op rfl (S.q (q_move rfl) rfl rfl ?_)
        rcases Bool.eq_false_or_eq_true (o.x.ok) with hg5_2 | hg5_2
        · refine S.g_yes rfl rfl rfl (hg5_2) (S.q (q_field Try.fo32_0 rfl) rfl rfl ?_)
          refine S.g_yes rfl rfl rfl (hg5_2) (S.q (q_load Try.at3 rfl rfl) rfl rfl ?_)
          refine S.g_yes rfl rfl rfl (hg5_2) (S.q (q_eq rfl rfl) rfl rfl ?_)
          refine S.g_op rfl (S.q (q_pickT rfl (hg5_2) rfl) rfl rfl ?_)
          first | with_reducible refine S.g_nilK ?_ | refine S.g_nil ?_
          with_reducible repeat (first | refine S.then_n ?_ | refine S.then_x ?_ | refine S.then_r ?_ | refine S.inBlock_n ?_ | refine S.inBlock_r ?_ | refine S.inBlock_x rfl ?_ | refine S.noGoto_r ?_ | refine S.noGoto_n ?_ | refine S.noGoto_x ?_)
          first | exact S.meet ⟨_, by rw [hg5_2]; rfl, rfl, rfl⟩ ⟨rfl, rfl, rfl, rfl, rfl, rfl, trivial⟩ Sub.ent | exact S.meet ⟨_, by rw [hg5_2, Bool.true_and], rfl, rfl⟩ ⟨rfl, rfl, rfl, rfl, rfl, rfl, trivial⟩ Sub.ent
        · refine S.g_no rfl rfl rfl (hg5_2) rfl rfl ?_
          refine S.g_no rfl rfl rfl (hg5_2) rfl rfl ?_
          refine S.g_no rfl rfl rfl (hg5_2) rfl rfl ?_
          refine S.g_op rfl (S.q (q_pickF rfl (hg5_2) rfl) rfl rfl ?_)
          first | with_reducible refine S.g_nilK ?_ | refine S.g_nil ?_
          with_reducible repeat (first | refine S.then_n ?_ | refine S.then_x ?_ | refine S.then_r ?_ | refine S.inBlock_n ?_ | refine S.inBlock_r ?_ | refine S.inBlock_x rfl ?_ | refine S.noGoto_r ?_ | refine S.noGoto_n ?_ | refine S.noGoto_x ?_)
          first | exact S.meet ⟨_, by rw [hg5_2]; rfl, rfl, rfl⟩ ⟨rfl, rfl, rfl, rfl, rfl, rfl, trivial⟩ Sub.ent | exact S.meet ⟨_, by rw [hg5_2, Bool.true_and], rfl, rfl⟩ ⟨rfl, rfl, rfl, rfl, rfl, rfl, trivial⟩ Sub.ent
      · rintro ρ' Γ' ⟨c, hc, rfl, rfl⟩
        refine hK9 _ _ ?_
        refine S.cond rfl (fun h2 => ?_) (fun h2 => ?_)
        · rw [← hc, h2, if_pos rfl] at hsucc
          refine S.region rfl ?_
          refine S.op (S.q (q_move rfl) rfl rfl ?_)
          refine S.op (S.q (q_move rfl) rfl rfl ?_)
          refine S.op (S.buildSlice (pvs := [(_, _)]) [_] Try.underlying25 Try.inf3 rfl rfl ⟨⟨rfl, rfl⟩, trivial⟩ rfl rfl ?_)
          intro b26
          refine S.op (S.appendOw (s := uo) (1) ([.int .i64 i]) Try.underlying25 Try.inf3 rfl rfl rfl (blk_slAt (b := b26) rfl (by unfold maxLen; omega)) (by first | rfl | exact allOne_bcells _) (⟨by omega, by omega⟩) rfl ?_)
          intro uo' huo'
          rw [show ints (nowT (planR (dat rs) al) i) ++ [Value.int .i64 i] = ints (nowT (planR (dat rs) al) (i + 1)) by rw [hsucc]; simp]
          refine S.op (S.q (q_assign rfl) rfl rfl ?_)
          first | with_reducible refine S.nilK ?_ | refine S.nil ?_
          with_reducible repeat (first | refine S.then_n ?_ | refine S.then_x ?_ | refine S.then_r ?_ | refine S.inBlock_n ?_ | refine S.inBlock_r ?_ | refine S.inBlock_x rfl ?_ | refine S.noGoto_r ?_ | refine S.noGoto_n ?_ | refine S.noGoto_x ?_)
          with_reducible repeat (first | refine S.then_n ?_ | refine S.then_x ?_ | refine S.then_r ?_ | refine S.inBlock_n ?_ | refine S.inBlock_r ?_ | refine S.inBlock_x rfl ?_ | refine S.noGoto_r ?_ | refine S.noGoto_n ?_ | refine S.noGoto_x ?_)
          first | exact S.meet ⟨uo', rfl, rfl⟩ ⟨rfl, rfl, rfl, rfl, trivial⟩ Sub.ent | (rw [← hsucc]; exact S.meet ⟨uo, rfl, rfl⟩ ⟨rfl, rfl, rfl, rfl, trivial⟩ Sub.ent)
        · rw [← hc, h2, if_neg (by simp), List.append_nil] at hsucc
          refine S.skip ?_
          with_reducible repeat (first | refine S.then_n ?_ | refine S.then_x ?_ | refine S.then_r ?_ | refine S.inBlock_n ?_ | refine S.inBlock_r ?_ | refine S.inBlock_x rfl ?_ | refine S.noGoto_r ?_ | refine S.noGoto_n ?_ | refine S.noGoto_x ?_)
          with_reducible repeat (first | refine S.then_n ?_ | refine S.then_x ?_ | refine S.then_r ?_ | refine S.inBlock_n ?_ | refine S.inBlock_r ?_ | refine S.inBlock_x rfl ?_ | refine S.noGoto_r ?_ | refine S.noGoto_n ?_ | refine S.noGoto_x ?_)
          with_reducible repeat (first | refine S.then_n ?_ | refine S.then_x ?_ | refine S.then_r ?_ | refine S.inBlock_n ?_ | refine S.inBlock_r ?_ | refine S.inBlock_x rfl ?_ | refine S.noGoto_r ?_ | refine S.noGoto_n ?_ | refine S.noGoto_x ?_)
          first | exact S.meet ⟨uo', rfl, rfl⟩ ⟨rfl, rfl, rfl, rfl, trivial⟩ Sub.ent | (rw [← hsucc]; exact S.meet ⟨uo, rfl, rfl⟩ ⟨rfl, rfl, rfl, rfl, trivial⟩ Sub.ent)
    · rintro ρ' Γ' ⟨u9, rfl, rfl⟩
      refine hK7 _ _ ?_
      refine S.region rfl ?_
      refine S.op (S.q (q_add rfl rfl (inI64 (by omega) (by omega))) rfl rfl ?_)
      refine S.op (S.q (q_move rfl) rfl rfl ?_)
      first | with_reducible refine S.nilK ?_ | refine S.nil ?_
      with_reducible repeat (first | refine S.then_n ?_ | refine S.then_x ?_ | refine S.then_r ?_ | refine S.inBlock_n ?_ | refine S.inBlock_r ?_ | refine S.inBlock_x rfl ?_ | refine S.noGoto_r ?_ | refine S.noGoto_n ?_ | refine S.noGoto_x ?_)
      exact S.next (m - 1) (⟨i + 1, u9, by omega, rfl, rfl⟩) (by omega) (by repeat (first | exact trivial | refine ⟨rfl, ?_⟩)) Sub.ent
  · obtain rfl : i = al.length := by omega
    refine S.exit ?_
    with_reducible repeat (first | refine S.then_n ?_ | refine S.then_x ?_ | refine S.then_r ?_ | refine S.inBlock_n ?_ | refine S.inBlock_r ?_ | refine S.inBlock_x rfl ?_ | refine S.noGoto_r ?_ | refine S.noGoto_n ?_ | refine S.noGoto_x ?_)
    with_reducible refine S.inBlock_s ?_
    with_reducible repeat (first | refine S.then_n ?_ | refine S.then_x ?_ | refine S.then_r ?_ | refine S.inBlock_n ?_ | refine S.inBlock_r ?_ | refine S.inBlock_x rfl ?_ | refine S.noGoto_r ?_ | refine S.noGoto_n ?_ | refine S.noGoto_x ?_)
    refine hK3 _ _ ?_
    refine S.seq fun K10 hK10 => ?_
    refine S.region rfl ?_
    refine S.op (S.q (q_move rfl) rfl rfl ?_)
    refine S.op (S.q (q_assign rfl) rfl rfl ?_)
    first | with_reducible refine S.nilK ?_ | refine S.nil ?_
    refine hK10 _ _ ?_
    refine S.ret ?_
    with_reducible repeat (first | refine S.then_n ?_ | refine S.then_x ?_ | refine S.then_r ?_ | refine S.inBlock_n ?_ | refine S.inBlock_r ?_ | refine S.inBlock_x rfl ?_ | refine S.noGoto_r ?_ | refine S.noGoto_n ?_ | refine S.noGoto_x ?_)
    exact S.fin (rs := [_]) (vs := [_]) Try.results23 (⟨rfl, trivial⟩)  (⟨uo, rfl, rfl⟩) Sub.ent
/-- Does anybody wait longer? -/
def delR (xs ys : List St) : Bool := (xs.zip ys).any fun p => decide (p.1.at_ < p.2.at_)
theorem del_true {xs ys : List St} {i : Nat} {x y : St} (hx : xs[i]? = some x) (hy : ys[i]? = some y) (h : x.at_ < y.at_) : delR xs ys = true := by
  refine List.any_eq_true.2 ⟨(x, y), ?_, decide_eq_true h⟩
  refine List.mem_of_getElem? (i := i) ?_
  rw [List.getElem?_zip_eq_some]
  exact ⟨hx, hy⟩
theorem del_false {xs ys : List St} (h : ∀ (i : Nat) (x y : St), xs[i]? = some x → ys[i]? = some y → ¬ x.at_ < y.at_) : delR xs ys = false := by
  rw [← Bool.not_eq_true]
  intro ht
  obtain ⟨p, hp, h2⟩ := List.any_eq_true.1 ht
  obtain ⟨i, hi⟩ := List.getElem?_of_mem hp
  obtain ⟨h3, h4⟩ := List.getElem?_zip_eq_some.1 hi
  exact h i p.1 p.2 h3 h4 (of_decide_eq_true h2)
set_option maxHeartbeats 1000000 in
theorem Delays_S (R A Q : Assn) (s : SV) (rs : List RW) (l : SV) (al : List Ak) (u : SV) (x : St) (len : Int) (hs : Sml (dat rs)) (hal : al.length ≤ 1000) (hR : RdP R s rs) (hA : RdS A l al.length 2 (al.flatMap akC)) (hQ : RdS Q u x.nodes.length 1 (ints x.nodes)) :
    Spec Try.prog 24 [s.v, l.v, .agg (stC u x).toArray, .int .i64 len] [R, A, Q] fun Γ v Θ => v = .bool (delR (planR (dat rs) al) (planR (resR (dat rs) x len) al)) ∧ Θ = R :: A :: Q :: Γ := by
  refine Spec.of_body Try.func24 rfl Try.ntmps24 rfl ?_
  intro w0 Γ
  show S _ w0 [(0, s.v), (1, l.v), (2, .agg (stC u x).toArray), (3, .int .i64 len)] (R :: A :: Q :: Γ) _
  refine S.seq fun K1 hK1 => ?_
  refine S.region rfl ?_
  refine S.op (S.box (cs := [_, _, _, _]) rfl rfl rfl ?_)
  intro b6
  refine S.op (S.q (q_assign rfl) rfl rfl ?_)
  first | with_reducible refine S.nilK ?_ | refine S.nil ?_
  refine hK1 _ _ ?_
  refine S.seq fun K2 hK2 => ?_
  refine S.draw ([R, A, Q, blk b6 32 (stC u x).toArray]) [] Try.mixed ?_
  refine S.dr_take 0 [] rfl (by kernel_rfl) rfl rfl rfl (q_move rfl) Sub.ent ?_
  refine S.dr_take 1 [] rfl (by kernel_rfl) rfl rfl rfl (q_move rfl) Sub.ent ?_
  refine S.dr_take 3 [] rfl (by kernel_rfl) rfl rfl rfl (q_move rfl) Sub.ent ?_
  refine S.dr_take 4 [] rfl (by kernel_rfl) rfl rfl rfl (q_loadS [_, _, _, _] Try.ag32 rfl rfl ⟨rfl, rfl, rfl, rfl, trivial⟩) Sub.ent ?_
  refine S.dr_take 5 [] rfl (by kernel_rfl) rfl rfl rfl (q_move rfl) Sub.ent ?_
  refine S.dr_take 7 [] rfl (by kernel_rfl) rfl rfl rfl (q_move rfl) Sub.ent ?_
  refine S.dr_1 (i := 2) (by kernel_rfl) rfl rfl ?_
  refine  (S.call Try.en21 (vs := [_, _]) ⟨rfl, rfl, trivial⟩ (Plan_S R A s rs l al hs hal hR hA) rfl ?_)
  rintro v Θ ⟨u1, o1, rfl, h1', rfl⟩
  refine S.dr_k rfl Sub.ent ?_
  refine S.dr_1 (i := 6) (by kernel_rfl) rfl rfl ?_
  refine  (S.call Try.en18 (vs := [_, _, _]) ⟨rfl, rfl, rfl, trivial⟩ (Reserve_S R Q s rs u x len hs.len hs.each hR hQ) rfl ?_)
  rintro v Θ ⟨s', rs', rfl, hd', rfl⟩
  refine S.dr_k rfl Sub.ent ?_
  refine S.dr_1 (i := 8) (by kernel_rfl) rfl rfl ?_
  refine  (S.call Try.en21 (vs := [_, _]) ⟨rfl, rfl, trivial⟩ (Plan_S (prof s' rs') A s' rs' l al (by rw [hd']; exact hs.res x len) hal (RdP.prof s' rs') hA) rfl ?_)
  rintro v Θ ⟨u2, o2, rfl, h2', rfl⟩
  rw [hd'] at h2'
  refine S.dr_k rfl Sub.ent ?_
  refine S.dr_take 9 [] rfl (by kernel_rfl) rfl rfl rfl (q_assign rfl) Sub.ent ?_
  refine S.dr_take 10 [] rfl (by kernel_rfl) rfl rfl rfl (q_assign rfl) Sub.ent ?_
  first | with_reducible refine S.dr_doneK (by kernel_rfl) ?_ | refine S.dr_done (by kernel_rfl) ?_
  refine hK2 _ _ ?_
  refine S.seq fun K3 hK3 => ?_
  refine S.seq fun K4 hK4 => ?_
  refine S.region rfl ?_
  have hl1 : o1.length = al.length := by have := congrArg List.length h1'; rwa [List.length_map, planR_length] at this
  have hl2 : o2.length = al.length := by have := congrArg List.length h2'; rwa [List.length_map, planR_length] at this
  refine S.rCap (rdOwnS (u := u1) (e := 32) (os := o1)) fun hun1 _ _ => ?_
  refine S.rCap (rdOwnS (u := u2) (e := 32) (os := o2)) fun hun2 _ _ => ?_
  refine S.op (S.q (q_move rfl) rfl rfl ?_)
  refine S.op (S.q (q_len Try.underlying45 rfl) rfl rfl ?_)
  refine S.op (S.q (q_move rfl) rfl rfl ?_)
  first | with_reducible refine S.nilK ?_ | refine S.nil ?_
  refine hK4 _ _ ?_
  refine S.block ?_
  refine S.loop (fun m ρ' Γ' => ∃ i : Nat, m + i = al.length ∧ (∀ (j : Nat) (p q : St), j < i → (planR (dat rs) al)[j]? = some p → (planR (resR (dat rs) x len) al)[j]? = some q → ¬ p.at_ < q.at_) ∧ ρ' = [(9, u1.v), (10, u2.v), (22, .int .i64 u1.n), (23, .int .i64 i)] ∧ Γ' = own u1 32 4 (o1.flatMap srC) :: own u2 32 4 (o2.flatMap srC) :: R :: A :: Q :: Γ) (m := _) (ρ0 := _) (Γ0 := _) (⟨0, rfl, fun j p q hj => absurd hj (Nat.not_lt_zero _), rfl, rfl⟩) (by repeat (first | exact trivial | refine ⟨rfl, ?_⟩)) Sub.ent ?_
  rintro m ρ' Γ' ⟨i, hmi, hno, rfl, rfl⟩
  refine S.seq fun K5 hK5 => ?_
  refine S.region rfl ?_
  refine S.op (S.q (q_lt rfl rfl) rfl rfl ?_)
  first | with_reducible refine S.nilK ?_ | refine S.nil ?_
  refine hK5 _ _ ?_
  refine S.seq fun K6 hK6 => ?_
  refine S.condD rfl (fun h1 => ?_) (fun h1 => ?_)
  · obtain ⟨p, hp⟩ := getE (l := o1) (i := i) (by omega)
    obtain ⟨q, hq⟩ := getE (l := o2) (i := i) (by omega)
    have hx1 : (planR (dat rs) al)[i]? = some p.x := by rw [← h1', List.getElem?_map, hp]; rfl
    have hx2 : (planR (resR (dat rs) x len) al)[i]? = some q.x := by rw [← h2', List.getElem?_map, hq]; rfl
    refine S.ownSome u1 (by omega) fun b off hb _ _ _ => ?_
    refine S.ownSome u2 (by omega) fun b' off' hb' _ _ _ => ?_
    refine S.skip ?_
    with_reducible repeat (first | refine S.then_n ?_ | refine S.then_x ?_ | refine S.then_r ?_ | refine S.inBlock_n ?_ | refine S.inBlock_r ?_ | refine S.inBlock_x rfl ?_ | refine S.noGoto_r ?_ | refine S.noGoto_n ?_ | refine S.noGoto_x ?_)
    refine hK6 _ _ ?_
    refine S.seq fun K7 hK7 => ?_
    refine S.block ?_
    refine S.seq fun K8 hK8 => ?_
    refine S.region rfl ?_
    refine S.op (S.q (q_move rfl) rfl rfl ?_)
    refine S.op (S.q (q_assign rfl) rfl rfl ?_)
    first | with_reducible refine S.nilK ?_ | refine S.nil ?_
    refine hK8 _ _ ?_
    refine S.seq fun K9 hK9 => ?_
    refine S.draw ([own u1 32 4 (o1.flatMap srC), own u2 32 4 (o2.flatMap srC)]) [] Try.mixed ?_
    refine S.dr_take 0 [] rfl (by kernel_rfl) rfl rfl rfl (q_move rfl) Sub.ent ?_
    refine S.dr_take 1 [] rfl (by kernel_rfl) rfl rfl rfl (q_move rfl) Sub.ent ?_
    refine S.dr_take 2 [] rfl (by kernel_rfl) rfl rfl rfl (q_indexO (i) Try.el45 rfl hb' rfl rfl (by omega)) Sub.ent ?_
    refine S.dr_take 3 [] rfl (by kernel_rfl) rfl rfl rfl (q_field Try.fo32_0 rfl) Sub.ent ?_
    refine S.dr_take 4 [] rfl (by kernel_rfl) rfl rfl rfl (q_loadOw (u2) (i * 4 + 0) Try.at3 rfl hb' (by first | rfl | exact Nat.add_assoc _ _ _ | omega) (flat_get (enc := srC) (sz := 4) (k := 0) srC_len hq rfl)) Sub.ent ?_
    refine S.dr_take 5 [] rfl (by kernel_rfl) rfl rfl rfl (q_move rfl) Sub.ent ?_
    refine S.dr_take 6 [] rfl (by kernel_rfl) rfl rfl rfl (q_move rfl) Sub.ent ?_
    refine S.dr_take 7 [] rfl (by kernel_rfl) rfl rfl rfl (q_indexO (i) Try.el45 rfl hb rfl rfl (by omega)) Sub.ent ?_
    refine S.dr_take 8 [] rfl (by kernel_rfl) rfl rfl rfl (q_field Try.fo32_0 rfl) Sub.ent ?_
    refine S.dr_take 9 [] rfl (by kernel_rfl) rfl rfl rfl (q_loadOw (u1) (i * 4 + 0) Try.at3 rfl hb (by first | rfl | exact Nat.add_assoc _ _ _ | omega) (flat_get (enc := srC) (sz := 4) (k := 0) srC_len hp rfl)) Sub.ent ?_
    refine S.dr_take 10 [] rfl (by kernel_rfl) rfl rfl rfl (q_gt rfl rfl) Sub.ent ?_
    first | with_reducible refine S.dr_doneK (by kernel_rfl) ?_ | refine S.dr_done (by kernel_rfl) ?_
    refine hK9 _ _ ?_
    refine S.condD rfl (fun h2 => ?_) (fun h2 => ?_)
    · refine S.seq fun K10 hK10 => ?_
      refine S.region rfl ?_
      refine S.op (S.q (q_assign rfl) rfl rfl ?_)
      first | with_reducible refine S.nilK ?_ | refine S.nil ?_
      refine hK10 _ _ ?_
      refine S.ret ?_
      with_reducible repeat (first | refine S.then_n ?_ | refine S.then_x ?_ | refine S.then_r ?_ | refine S.inBlock_n ?_ | refine S.inBlock_r ?_ | refine S.inBlock_x rfl ?_ | refine S.noGoto_r ?_ | refine S.noGoto_n ?_ | refine S.noGoto_x ?_)
      exact S.fin (rs := [_]) (vs := [_]) Try.results24 (⟨rfl, trivial⟩)  (⟨by simp only [resV]; rw [del_true hx1 hx2 (by assumption)], rfl⟩) Sub.ent
    · have hno' : ∀ (j : Nat) (p q : St), j < i + 1 → (planR (dat rs) al)[j]? = some p → (planR (resR (dat rs) x len) al)[j]? = some q → ¬ p.at_ < q.at_ := fun j p' q' hj hy1 hy2 => by
        by_cases e : j = i
        · subst e
          rw [hx1] at hy1
          rw [hx2] at hy2
          cases hy1
          cases hy2
          assumption
        · exact hno j p' q' (by omega) hy1 hy2
      refine S.skip ?_
      with_reducible repeat (first | refine S.then_n ?_ | refine S.then_x ?_ | refine S.then_r ?_ | refine S.inBlock_n ?_ | refine S.inBlock_r ?_ | refine S.inBlock_x rfl ?_ | refine S.noGoto_r ?_ | refine S.noGoto_n ?_ | refine S.noGoto_x ?_)
      with_reducible repeat (first | refine S.then_n ?_ | refine S.then_x ?_ | refine S.then_r ?_ | refine S.inBlock_n ?_ | refine S.inBlock_r ?_ | refine S.inBlock_x rfl ?_ | refine S.noGoto_r ?_ | refine S.noGoto_n ?_ | refine S.noGoto_x ?_)
      refine hK7 _ _ ?_
      refine S.region rfl ?_
      refine S.op (S.q (q_add rfl rfl (inI64 (by omega) (by omega))) rfl rfl ?_)
      refine S.op (S.q (q_move rfl) rfl rfl ?_)
      first | with_reducible refine S.nilK ?_ | refine S.nil ?_
      with_reducible repeat (first | refine S.then_n ?_ | refine S.then_x ?_ | refine S.then_r ?_ | refine S.inBlock_n ?_ | refine S.inBlock_r ?_ | refine S.inBlock_x rfl ?_ | refine S.noGoto_r ?_ | refine S.noGoto_n ?_ | refine S.noGoto_x ?_)
      exact S.next (m - 1) (⟨i + 1, by omega, hno', rfl, rfl⟩) (by omega) (by repeat (first | exact trivial | refine ⟨rfl, ?_⟩)) Sub.ent
  · refine S.exit ?_
    with_reducible repeat (first | refine S.then_n ?_ | refine S.then_x ?_ | refine S.then_r ?_ | refine S.inBlock_n ?_ | refine S.inBlock_r ?_ | refine S.inBlock_x rfl ?_ | refine S.noGoto_r ?_ | refine S.noGoto_n ?_ | refine S.noGoto_x ?_)
    with_reducible refine S.inBlock_s ?_
    with_reducible repeat (first | refine S.then_n ?_ | refine S.then_x ?_ | refine S.then_r ?_ | refine S.inBlock_n ?_ | refine S.inBlock_r ?_ | refine S.inBlock_x rfl ?_ | refine S.noGoto_r ?_ | refine S.noGoto_n ?_ | refine S.noGoto_x ?_)
    refine hK3 _ _ ?_
    refine S.seq fun K11 hK11 => ?_
    refine S.region rfl ?_
    refine S.op (S.q (q_assign rfl) rfl rfl ?_)
    first | with_reducible refine S.nilK ?_ | refine S.nil ?_
    refine hK11 _ _ ?_
    refine S.ret ?_
    with_reducible repeat (first | refine S.then_n ?_ | refine S.then_x ?_ | refine S.then_r ?_ | refine S.inBlock_n ?_ | refine S.inBlock_r ?_ | refine S.inBlock_x rfl ?_ | refine S.noGoto_r ?_ | refine S.noGoto_n ?_ | refine S.noGoto_x ?_)
    exact S.fin (rs := [_]) (vs := [_]) Try.results24 (⟨rfl, trivial⟩)  (⟨by simp only [resV]; rw [del_false (fun j p q h1 h2 => hno j p q (by have := (List.getElem?_eq_some_iff.1 h1).1; rw [planR_length] at this; omega) h1 h2)], rfl⟩) Sub.ent
end Go.Proofs.Ytknpddiffellgaa
