/- The law PrioApart: who goes and who comes changes nothing of the order of the others. -/
import Derived.Test.YthpfljiabhjodaaPrioL
namespace Go.Proofs.Ythpfljiabhjodaa
open Go.RowKit
set_option maxRecDepth 20000
def pushL' (x : It) (l : List It) : List It := if hasL x.id l then l else ins x l
theorem pushL'_eq (x : It) (l : List It) : (pushR x (some l)).2 = some (pushL' x l) := by
  simp only [pushR, pushL']
  split <;> rfl
theorem pushL'_len (x : It) (l : List It) : (pushL' x l).length ≤ l.length + 1 := by
  unfold pushL'
  split
  · omega
  · rw [(ins_perm x l).length_eq]; simp
theorem others_id {id : Int} {l : List It} (h : ∀ y ∈ l, y.id ≠ id) : others id l = l := List.filter_eq_self.2 fun y hy => decide_eq_true (h y hy)
theorem others_ins {x : It} : ∀ {l : List It}, (∀ y ∈ l, y.id ≠ x.id) → others x.id (ins x l) = l
  | [], _ => by simp [ins, others]
  | y :: l, h => by
    unfold ins
    split
    · unfold others
      rw [List.filter_cons, if_neg (by simp)]
      exact others_id h
    · have ih := others_ins (x := x) (l := l) (fun z hz => h z (List.mem_cons_of_mem _ hz))
      unfold others at ih ⊢
      rw [List.filter_cons, if_pos (decide_eq_true (h y (List.mem_cons_self ..))), ih]
theorem others_length (id : Int) (l : List It) : (others id l).length ≤ l.length := List.length_filter_le ..
theorem others_snoc (id : Int) (l : List It) (y : It) : others id (l ++ [y]) = if y.id = id then others id l else others id l ++ [y] := by
  unfold others
  rw [List.filter_append]
  by_cases h : y.id = id
  · rw [if_pos h]; simp [h]
  · rw [if_neg h]; simp [h]
theorem takeSnoc' {α : Type} {l : List α} {k : Nat} {x : α} (h : l[k]? = some x) : l.take (k + 1) = l.take k ++ [x] := by rw [List.take_add_one, h]; rfl
/-- The next of the others. -/
theorem others_next {id : Int} {l : List It} {k : Nat} {y : It} (h : l[k]? = some y) (hy : y.id ≠ id) : (others id l)[(others id (l.take k)).length]? = some y := by
  have h1 : others id l = others id (l.take k) ++ y :: others id (l.drop (k + 1)) := by
    conv => lhs; rw [← List.take_append_drop k l]
    have h2 : l.drop k = y :: l.drop (k + 1) := by
      obtain ⟨g1, g2⟩ := List.getElem?_eq_some_iff.1 h
      rw [List.drop_eq_getElem_cons g1, g2]
    rw [h2]
    unfold others
    rw [List.filter_append, List.filter_cons, if_pos (decide_eq_true hy)]
  rw [h1, List.getElem?_append_right (Nat.le_refl _), Nat.sub_self]
  rfl
set_option maxHeartbeats 2000000 in
theorem PrioApart_S (s0 : SV) (rs : List It) (x : It) (W : World) (hn0 : s0.n = rs.length) (h0 : SlAt W s0.v rs.length 3 (rs.flatMap itC)) : LawS 7 [s0.v, .agg (itC x).toArray] W := by
  have hm0 := slAt_cap h0
  unfold maxLen at hm0
  refine Spec.of_body Try.func7 rfl Try.ntmps7 rfl ?_
  intro w0 Γ
  show S _ w0 [(0, s0.v), (1, .agg (itC x).toArray)] (old W :: Γ) _
  refine S.seq fun K1 hK1 => ?_
  refine S.region rfl ?_
  refine S.op (S.box (cs := [_, _, _]) rfl rfl rfl ?_)
  intro b3
  refine S.op (S.q (q_assign rfl) rfl rfl ?_)
  first | with_reducible refine S.nilK ?_ | refine S.nil ?_
  refine hK1 _ _ ?_
  refine S.seq fun K2 hK2 => ?_
  refine S.seq fun K3 hK3 => ?_
  refine S.region rfl ?_
  refine S.op (S.call Try.en8 (vs := []) trivial (awake_S) rfl ?_)
  rintro v Θ ⟨rfl, rfl⟩
  refine S.op (S.q (q_not rfl) rfl rfl ?_)
  first | with_reducible refine S.nilK ?_ | refine S.nil ?_
  refine hK3 _ _ ?_
  refine S.condF rfl ?_
  refine S.skip ?_
  with_reducible repeat (first | refine S.then_n ?_ | refine S.then_x ?_ | refine S.then_r ?_ | refine S.inBlock_n ?_ | refine S.inBlock_r ?_ | refine S.inBlock_x rfl ?_ | refine S.noGoto_r ?_ | refine S.noGoto_n ?_ | refine S.noGoto_x ?_)
  refine hK2 _ _ ?_
  refine S.seq fun K4 hK4 => ?_
  refine S.region rfl ?_
  refine S.op (S.call Try.en11 (vs := []) trivial (HNew_S) rfl ?_)
  rintro v Θ ⟨pa, rfl, rfl⟩
  refine S.op (S.q (q_assign rfl) rfl rfl ?_)
  first | with_reducible refine S.nilK ?_ | refine S.nil ?_
  refine hK4 _ _ ?_
  refine S.seq fun K5 hK5 => ?_
  refine S.seq fun K6 hK6 => ?_
  refine S.region rfl ?_
  refine S.op (S.q (q_move rfl) rfl rfl ?_)
  refine S.op (S.q (q_len Try.underlying30 rfl) rfl rfl ?_)
  refine S.op (S.q (q_move rfl) rfl rfl ?_)
  first | with_reducible refine S.nilK ?_ | refine S.nil ?_
  refine hK6 _ _ ?_
  refine S.block ?_
  refine S.loop (fun m ρ' Γ' => ∃ (k : Nat) (l : List It), m + k = rs.length ∧ l.length ≤ k ∧ l.length ≤ 60 ∧ ρ' = [(3, .pointer (some ⟨b3, 0, none⟩)), (5, .pointer pa), (17, s0.v), (18, .int .i64 s0.n), (19, .int .i64 k)] ∧ Γ' = HI pa (some l) :: blk b3 24 (itC x).toArray :: old W :: Γ) (m := _) (ρ0 := _) (Γ0 := _) (⟨0, [], rfl, Nat.le_refl _, by simp, rfl, rfl⟩) (by repeat (first | exact trivial | refine ⟨rfl, ?_⟩)) Sub.ent ?_
  rintro m ρ' Γ' ⟨k, l, hmk, hlk, hl60, rfl, rfl⟩
  refine S.seq fun K7 hK7 => ?_
  refine S.region rfl ?_
  refine S.op (S.q (q_lt rfl rfl) rfl rfl ?_)
  first | with_reducible refine S.nilK ?_ | refine S.nil ?_
  refine hK7 _ _ ?_
  refine S.seq fun K8 hK8 => ?_
  refine S.condD rfl (fun h2 => ?_) (fun h2 => ?_)
  · obtain ⟨y, hy⟩ := getE (l := rs) (i := k) (by omega)
    obtain ⟨b, off, hb, hcell⟩ := slAt_some h0 (by omega)
    have hpl := pushL'_len y l
    refine S.skip ?_
    with_reducible repeat (first | refine S.then_n ?_ | refine S.then_x ?_ | refine S.then_r ?_ | refine S.inBlock_n ?_ | refine S.inBlock_r ?_ | refine S.inBlock_x rfl ?_ | refine S.noGoto_r ?_ | refine S.noGoto_n ?_ | refine S.noGoto_x ?_)
    refine hK8 _ _ ?_
    refine S.seq fun K9 hK9 => ?_
    refine S.cut (fun ρ' Γ' => ∃ l' : List It, l'.length ≤ k + 1 ∧ l'.length ≤ 60 ∧ ρ' = [(3, .pointer (some ⟨b3, 0, none⟩)), (5, .pointer pa), (17, s0.v), (18, .int .i64 s0.n), (19, .int .i64 k)] ∧ Γ' = HI pa (some l') :: blk b3 24 (itC x).toArray :: old W :: Γ) ?_ ?_
    · refine S.block ?_
      refine S.seq fun K10 hK10 => ?_
      refine S.region rfl ?_
      refine S.op (S.q (q_move rfl) rfl rfl ?_)
      refine S.op (S.q (q_indexO (k) Try.el30 rfl hb rfl rfl (by omega)) rfl rfl ?_)
      refine S.op (S.q (q_loadWS (itC y) Try.ag24 rfl rfl (fun i u hu => by rw [Nat.add_assoc]; exact hcell _ _ (flat_seg (enc := itC) (sz := 3) (fun _ => rfl) hy i u hu))) rfl rfl ?_)
      refine S.op (S.alloc Try.z24 rfl ?_)
      intro b7
      refine S.op (S.q (q_assign rfl) rfl rfl ?_)
      refine S.op (S.storeS (cs' := [_, _, _]) Try.ag24 rfl rfl rfl rfl rfl rfl ?_)
      first | with_reducible refine S.nilK ?_ | refine S.nil ?_
      refine hK10 _ _ ?_
      refine S.seq fun K11 hK11 => ?_
      refine S.region rfl ?_
      refine S.op (S.q (q_move rfl) rfl rfl ?_)
      refine S.op (S.q (q_lt rfl rfl) rfl rfl ?_)
      first | with_reducible refine S.nilK ?_ | refine S.nil ?_
      refine hK11 _ _ ?_
      refine S.condD rfl (fun h3 => ?_) (fun h3 => ?_)
      · refine S.region rfl ?_
        refine S.op (S.q (q_move rfl) rfl rfl ?_)
        refine S.op (S.q (q_loadS [_, _, _] Try.ag24 rfl rfl ⟨rfl, rfl, rfl, trivial⟩) rfl rfl ?_)
        refine S.op (S.call Try.en12 (vs := [_, _]) ⟨rfl, rfl, trivial⟩ (HPush_S pa (some l) y (by show l.length ≤ 999; omega)) rfl ?_)
        rintro v Θ ⟨rfl, rfl⟩
        rw [pushL'_eq]
        first | with_reducible refine S.nilK ?_ | refine S.nil ?_
        with_reducible repeat (first | refine S.then_n ?_ | refine S.then_x ?_ | refine S.then_r ?_ | refine S.inBlock_n ?_ | refine S.inBlock_r ?_ | refine S.inBlock_x rfl ?_ | refine S.noGoto_r ?_ | refine S.noGoto_n ?_ | refine S.noGoto_x ?_)
        with_reducible repeat (first | refine S.then_n ?_ | refine S.then_x ?_ | refine S.then_r ?_ | refine S.inBlock_n ?_ | refine S.inBlock_r ?_ | refine S.inBlock_x rfl ?_ | refine S.noGoto_r ?_ | refine S.noGoto_n ?_ | refine S.noGoto_x ?_)
        first
        | exact S.meet ⟨pushL' y l, by omega, by omega, rfl, rfl⟩ ⟨rfl, rfl, rfl, rfl, rfl, trivial⟩ Sub.ent
        | exact S.meet ⟨l, by omega, hl60, rfl, rfl⟩ ⟨rfl, rfl, rfl, rfl, rfl, trivial⟩ Sub.ent
      · refine S.skip ?_
        with_reducible repeat (first | refine S.then_n ?_ | refine S.then_x ?_ | refine S.then_r ?_ | refine S.inBlock_n ?_ | refine S.inBlock_r ?_ | refine S.inBlock_x rfl ?_ | refine S.noGoto_r ?_ | refine S.noGoto_n ?_ | refine S.noGoto_x ?_)
        with_reducible repeat (first | refine S.then_n ?_ | refine S.then_x ?_ | refine S.then_r ?_ | refine S.inBlock_n ?_ | refine S.inBlock_r ?_ | refine S.inBlock_x rfl ?_ | refine S.noGoto_r ?_ | refine S.noGoto_n ?_ | refine S.noGoto_x ?_)
        with_reducible repeat (first | refine S.then_n ?_ | refine S.then_x ?_ | refine S.then_r ?_ | refine S.inBlock_n ?_ | refine S.inBlock_r ?_ | refine S.inBlock_x rfl ?_ | refine S.noGoto_r ?_ | refine S.noGoto_n ?_ | refine S.noGoto_x ?_)
        first
        | exact S.meet ⟨pushL' y l, by omega, by omega, rfl, rfl⟩ ⟨rfl, rfl, rfl, rfl, rfl, trivial⟩ Sub.ent
        | exact S.meet ⟨l, by omega, hl60, rfl, rfl⟩ ⟨rfl, rfl, rfl, rfl, rfl, trivial⟩ Sub.ent
    · rintro ρ' Γ' ⟨l', hlk', hl60', rfl, rfl⟩
      refine hK9 _ _ ?_
      refine S.region rfl ?_
      refine S.op (S.q (q_add rfl rfl (inI64 (by omega) (by omega))) rfl rfl ?_)
      refine S.op (S.q (q_move rfl) rfl rfl ?_)
      first | with_reducible refine S.nilK ?_ | refine S.nil ?_
      with_reducible repeat (first | refine S.then_n ?_ | refine S.then_x ?_ | refine S.then_r ?_ | refine S.inBlock_n ?_ | refine S.inBlock_r ?_ | refine S.inBlock_x rfl ?_ | refine S.noGoto_r ?_ | refine S.noGoto_n ?_ | refine S.noGoto_x ?_)
      exact S.next (m - 1) (⟨k + 1, l', by omega, hlk', hl60', rfl, rfl⟩) (by omega) (by repeat (first | exact trivial | refine ⟨rfl, ?_⟩)) Sub.ent
  · refine S.exit ?_
    with_reducible repeat (first | refine S.then_n ?_ | refine S.then_x ?_ | refine S.then_r ?_ | refine S.inBlock_n ?_ | refine S.inBlock_r ?_ | refine S.inBlock_x rfl ?_ | refine S.noGoto_r ?_ | refine S.noGoto_n ?_ | refine S.noGoto_x ?_)
    with_reducible refine S.inBlock_s ?_
    with_reducible repeat (first | refine S.then_n ?_ | refine S.then_x ?_ | refine S.then_r ?_ | refine S.inBlock_n ?_ | refine S.inBlock_r ?_ | refine S.inBlock_x rfl ?_ | refine S.noGoto_r ?_ | refine S.noGoto_n ?_ | refine S.noGoto_x ?_)
    refine hK5 _ _ ?_
    refine S.seq fun K12 hK12 => ?_
    refine S.region rfl ?_
    refine S.op (S.q (q_assign rfl) rfl rfl ?_)
    first | with_reducible refine S.nilK ?_ | refine S.nil ?_
    refine hK12 _ _ ?_
    refine S.seq fun K13 hK13 => ?_
    refine S.seq fun K14 hK14 => ?_
    refine S.region rfl ?_
    refine S.op (S.q (q_move rfl) rfl rfl ?_)
    refine S.op (S.call Try.en23 (vs := [_]) ⟨rfl, trivial⟩ (List_S pa (some l) (by show l.length ≤ 1000; omega)) rfl ?_)
    rintro v Θ ⟨u, rfl, rfl⟩
    rw [show stL (some l) = l from rfl]
    refine S.ent (show Ent _ (own SV.nil 25 3 ((others x.id (l.take 0)).flatMap itC) :: _) from Ent.ownNil 25 3) ?_
    refine S.ownLen u fun hul _ _ => ?_
    rw [flat_length itC_len] at hul
    refine S.op (S.q (q_len Try.underlying52 rfl) rfl rfl ?_)
    refine S.op (S.q (q_move rfl) rfl rfl ?_)
    first | with_reducible refine S.nilK ?_ | refine S.nil ?_
    refine hK14 _ _ ?_
    refine S.block ?_
    refine S.loop (fun m ρ' Γ' => ∃ (k : Nat) (wv : SV), m + k = l.length ∧ ρ' = [(3, .pointer (some ⟨b3, 0, none⟩)), (5, .pointer pa), (8, wv.v), (31, u.v), (32, .int .i64 u.n), (33, .int .i64 k)] ∧ Γ' = own wv 25 3 ((others x.id (l.take k)).flatMap itC) :: own u 25 3 (l.flatMap itC) :: HI pa (some l) :: blk b3 24 (itC x).toArray :: old W :: Γ) (m := _) (ρ0 := _) (Γ0 := _) (⟨0, SV.nil, rfl, rfl, rfl⟩) (by repeat (first | exact trivial | refine ⟨rfl, ?_⟩)) Sub.ent ?_
    rintro m ρ' Γ' ⟨k, wv, hmk, rfl, rfl⟩
    refine S.ownLen wv fun hwl _ _ => ?_
    rw [flat_length itC_len] at hwl
    have hol := others_length x.id (l.take k)
    rw [List.length_take] at hol
    refine S.seq fun K15 hK15 => ?_
    refine S.region rfl ?_
    refine S.op (S.q (q_lt rfl rfl) rfl rfl ?_)
    first | with_reducible refine S.nilK ?_ | refine S.nil ?_
    refine hK15 _ _ ?_
    refine S.seq fun K16 hK16 => ?_
    refine S.condD rfl (fun h4 => ?_) (fun h4 => ?_)
    · obtain ⟨y, hy⟩ := getE (l := l) (i := k) (by omega)
      have htk := takeSnoc' hy
      have hsn := others_snoc x.id (l.take k) y
      rw [← htk] at hsn
      refine S.ownSome u (by omega) fun b off hb _ _ _ => ?_
      refine S.skip ?_
      with_reducible repeat (first | refine S.then_n ?_ | refine S.then_x ?_ | refine S.then_r ?_ | refine S.inBlock_n ?_ | refine S.inBlock_r ?_ | refine S.inBlock_x rfl ?_ | refine S.noGoto_r ?_ | refine S.noGoto_n ?_ | refine S.noGoto_x ?_)
      refine hK16 _ _ ?_
      refine S.seq fun K17 hK17 => ?_
      refine S.cut (fun ρ' Γ' => ∃ wv' : SV, ρ' = [(3, .pointer (some ⟨b3, 0, none⟩)), (5, .pointer pa), (8, wv'.v), (31, u.v), (32, .int .i64 u.n), (33, .int .i64 k)] ∧ Γ' = own wv' 25 3 ((others x.id (l.take (k + 1))).flatMap itC) :: own u 25 3 (l.flatMap itC) :: HI pa (some l) :: blk b3 24 (itC x).toArray :: old W :: Γ) ?_ ?_
      · refine S.block ?_
        refine S.seq fun K18 hK18 => ?_
        refine S.region rfl ?_
        refine S.op (S.q (q_indexO (k) Try.el52 rfl hb rfl rfl (by omega)) rfl rfl ?_)
        refine S.op (S.q (q_loadOwS (u) (k * 3) [_, _, _] Try.ag25 rfl hb (by first | rfl | exact Nat.add_assoc _ _ _ | omega) rfl (flat_seg (enc := itC) (sz := 3) (fun _ => rfl) hy)) rfl rfl ?_)
        refine S.op (S.alloc Try.z25 rfl ?_)
        intro b10
        refine S.op (S.storeS (cs' := [_, _, _]) Try.ag25 rfl rfl rfl rfl rfl rfl ?_)
        first | with_reducible refine S.nilK ?_ | refine S.nil ?_
        refine hK18 _ _ ?_
        refine S.seq fun K19 hK19 => ?_
        refine S.region rfl ?_
        refine S.op (S.q (q_field Try.fo25_0 rfl) rfl rfl ?_)
        refine S.op (S.q (q_load Try.at22 rfl rfl) rfl rfl ?_)
        refine S.op (S.q (q_field Try.fo24_0 rfl) rfl rfl ?_)
        refine S.op (S.q (q_load Try.at22 rfl rfl) rfl rfl ?_)
        refine S.op (S.q (q_ne rfl rfl) rfl rfl ?_)
        first | with_reducible refine S.nilK ?_ | refine S.nil ?_
        refine hK19 _ _ ?_
        refine S.condD rfl (fun h5 => ?_) (fun h5 => ?_)
        · rw [if_neg h5] at hsn
          refine S.region rfl ?_
          refine S.op (S.q (q_move rfl) rfl rfl ?_)
          refine S.op (S.q (q_loadS [_, _, _] Try.ag25 rfl rfl ⟨rfl, rfl, rfl, trivial⟩) rfl rfl ?_)
          refine S.op (S.buildSlice (pvs := [(_, _)]) [_, _, _] Try.underlying52 Try.inf25 rfl rfl ⟨⟨rfl, rfl⟩, trivial⟩ rfl rfl ?_)
          intro b44
          refine S.op (S.appendOw (s := wv) (1) (itC y) Try.underlying52 Try.inf25 rfl rfl rfl (blk_slAt (b := b44) rfl (by unfold maxLen; omega)) (by first | rfl | exact allOne_bcells _) (⟨by omega, by omega⟩) rfl ?_)
          intro wv2 hwv2
          rw [flat_snoc itC _ y, ← hsn]
          refine S.op (S.q (q_assign rfl) rfl rfl ?_)
          first | with_reducible refine S.nilK ?_ | refine S.nil ?_
          with_reducible repeat (first | refine S.then_n ?_ | refine S.then_x ?_ | refine S.then_r ?_ | refine S.inBlock_n ?_ | refine S.inBlock_r ?_ | refine S.inBlock_x rfl ?_ | refine S.noGoto_r ?_ | refine S.noGoto_n ?_ | refine S.noGoto_x ?_)
          with_reducible repeat (first | refine S.then_n ?_ | refine S.then_x ?_ | refine S.then_r ?_ | refine S.inBlock_n ?_ | refine S.inBlock_r ?_ | refine S.inBlock_x rfl ?_ | refine S.noGoto_r ?_ | refine S.noGoto_n ?_ | refine S.noGoto_x ?_)
          first
          | exact S.meet ⟨wv2, rfl, rfl⟩ ⟨rfl, rfl, rfl, rfl, rfl, rfl, trivial⟩ Sub.ent
          | exact S.meet ⟨wv, rfl, rfl⟩ ⟨rfl, rfl, rfl, rfl, rfl, rfl, trivial⟩ Sub.ent
        · rw [if_pos (Classical.not_not.1 h5)] at hsn
          rw [← hsn]
          refine S.skip ?_
          with_reducible repeat (first | refine S.then_n ?_ | refine S.then_x ?_ | refine S.then_r ?_ | refine S.inBlock_n ?_ | refine S.inBlock_r ?_ | refine S.inBlock_x rfl ?_ | refine S.noGoto_r ?_ | refine S.noGoto_n ?_ | refine S.noGoto_x ?_)
          with_reducible repeat (first | refine S.then_n ?_ | refine S.then_x ?_ | refine S.then_r ?_ | refine S.inBlock_n ?_ | refine S.inBlock_r ?_ | refine S.inBlock_x rfl ?_ | refine S.noGoto_r ?_ | refine S.noGoto_n ?_ | refine S.noGoto_x ?_)
          with_reducible repeat (first | refine S.then_n ?_ | refine S.then_x ?_ | refine S.then_r ?_ | refine S.inBlock_n ?_ | refine S.inBlock_r ?_ | refine S.inBlock_x rfl ?_ | refine S.noGoto_r ?_ | refine S.noGoto_n ?_ | refine S.noGoto_x ?_)
          first
          | exact S.meet ⟨wv2, rfl, rfl⟩ ⟨rfl, rfl, rfl, rfl, rfl, rfl, trivial⟩ Sub.ent
          | exact S.meet ⟨wv, rfl, rfl⟩ ⟨rfl, rfl, rfl, rfl, rfl, rfl, trivial⟩ Sub.ent
      · rintro ρ' Γ' ⟨wv', rfl, rfl⟩
        refine hK17 _ _ ?_
        refine S.region rfl ?_
        refine S.op (S.q (q_add rfl rfl (inI64 (by omega) (by omega))) rfl rfl ?_)
        refine S.op (S.q (q_move rfl) rfl rfl ?_)
        first | with_reducible refine S.nilK ?_ | refine S.nil ?_
        with_reducible repeat (first | refine S.then_n ?_ | refine S.then_x ?_ | refine S.then_r ?_ | refine S.inBlock_n ?_ | refine S.inBlock_r ?_ | refine S.inBlock_x rfl ?_ | refine S.noGoto_r ?_ | refine S.noGoto_n ?_ | refine S.noGoto_x ?_)
        exact S.next (m - 1) (⟨k + 1, wv', by omega, rfl, rfl⟩) (by omega) (by repeat (first | exact trivial | refine ⟨rfl, ?_⟩)) Sub.ent
    · refine S.exit ?_
      with_reducible repeat (first | refine S.then_n ?_ | refine S.then_x ?_ | refine S.then_r ?_ | refine S.inBlock_n ?_ | refine S.inBlock_r ?_ | refine S.inBlock_x rfl ?_ | refine S.noGoto_r ?_ | refine S.noGoto_n ?_ | refine S.noGoto_x ?_)
      with_reducible refine S.inBlock_s ?_
      with_reducible repeat (first | refine S.then_n ?_ | refine S.then_x ?_ | refine S.then_r ?_ | refine S.inBlock_n ?_ | refine S.inBlock_r ?_ | refine S.inBlock_x rfl ?_ | refine S.noGoto_r ?_ | refine S.noGoto_n ?_ | refine S.noGoto_x ?_)
      refine hK13 _ _ ?_
      refine S.seq fun K20 hK20 => ?_
      refine S.seq fun K21 hK21 => ?_
      refine S.region rfl ?_
      obtain rfl : k = l.length := by omega
      rw [List.take_length] at hwl ⊢
      obtain ⟨o, ho⟩ : ∃ o, o = others x.id l := ⟨_, rfl⟩
      have hol2 : o.length ≤ l.length := by rw [ho]; exact others_length _ _
      have hono : ∀ y ∈ o, y.id ≠ x.id := by rw [ho]; exact others_no _ _
      rw [← ho] at hwl ⊢
      refine S.op (S.q (q_move rfl) rfl rfl ?_)
      refine S.op (S.q (q_field Try.fo24_0 rfl) rfl rfl ?_)
      refine S.op (S.q (q_load Try.at22 rfl rfl) rfl rfl ?_)
      refine S.op (S.call Try.en15 (vs := [_, _]) ⟨rfl, rfl, trivial⟩ (Has_S pa (some l) x.id) rfl ?_)
      rintro v Θ ⟨rfl, rfl⟩
      first | with_reducible refine S.nilK ?_ | refine S.nil ?_
      refine hK21 _ _ ?_
      refine S.cut (fun ρ' Γ' => ρ' = [(3, .pointer (some ⟨b3, 0, none⟩)), (5, .pointer pa), (8, wv.v)] ∧ Γ' = own wv 25 3 (o.flatMap itC) :: HI pa (some (ins x o)) :: blk b3 24 (itC x).toArray :: old W :: Γ) ?_ ?_
      · refine S.cond rfl (fun h6 => ?_) (fun h6 => ?_)
        · have hch : changeR x (some l) = (0, some (ins x o)) := by rw [ho]; simp only [changeR]; rw [if_pos (show hasL x.id l = true from h6)]
          refine S.region rfl ?_
          refine S.op (S.q (q_move rfl) rfl rfl ?_)
          refine S.op (S.q (q_loadS [_, _, _] Try.ag24 rfl rfl ⟨rfl, rfl, rfl, trivial⟩) rfl rfl ?_)
          refine S.op (S.call Try.en20 (vs := [_, _]) ⟨rfl, rfl, trivial⟩ (HChange_S pa (some l) x (by show l.length ≤ 1000; omega)) rfl ?_)
          rintro v Θ ⟨rfl, rfl⟩
          rw [hch]
          first | with_reducible refine S.nilK ?_ | refine S.nil ?_
          with_reducible repeat (first | refine S.then_n ?_ | refine S.then_x ?_ | refine S.then_r ?_ | refine S.inBlock_n ?_ | refine S.inBlock_r ?_ | refine S.inBlock_x rfl ?_ | refine S.noGoto_r ?_ | refine S.noGoto_n ?_ | refine S.noGoto_x ?_)
          exact S.meet ⟨rfl, rfl⟩ ⟨rfl, rfl, rfl, trivial⟩ Sub.ent
        · have hno : hasL x.id l = false := h6
          have hpu : pushR x (some l) = (0, some (ins x o)) := by rw [ho, others_id (hasL_false hno)]; simp only [pushR, hno]; rfl
          refine S.region rfl ?_
          refine S.op (S.q (q_move rfl) rfl rfl ?_)
          refine S.op (S.q (q_loadS [_, _, _] Try.ag24 rfl rfl ⟨rfl, rfl, rfl, trivial⟩) rfl rfl ?_)
          refine S.op (S.call Try.en12 (vs := [_, _]) ⟨rfl, rfl, trivial⟩ (HPush_S pa (some l) x (by show l.length ≤ 999; omega)) rfl ?_)
          rintro v Θ ⟨rfl, rfl⟩
          rw [hpu]
          first | with_reducible refine S.nilK ?_ | refine S.nil ?_
          with_reducible repeat (first | refine S.then_n ?_ | refine S.then_x ?_ | refine S.then_r ?_ | refine S.inBlock_n ?_ | refine S.inBlock_r ?_ | refine S.inBlock_x rfl ?_ | refine S.noGoto_r ?_ | refine S.noGoto_n ?_ | refine S.noGoto_x ?_)
          exact S.meet ⟨rfl, rfl⟩ ⟨rfl, rfl, rfl, trivial⟩ Sub.ent
      · rintro ρ' Γ' ⟨rfl, rfl⟩
        obtain ⟨l2, hl2⟩ : ∃ l2, l2 = ins x o := ⟨_, rfl⟩
        have hl2n : l2.length = o.length + 1 := by rw [hl2, (ins_perm x o).length_eq]; rfl
        have hoth : others x.id l2 = o := by rw [hl2]; exact others_ins hono
        have hhas : hasL x.id l2 = true := by rw [hl2, hasL_perm (ins_perm x o)]; simp [hasL]
        have hrm : removeR x.id (some l2) = (0, some o) := by simp only [removeR, hhas, if_true, hoth]
        rw [← hl2]
        refine hK20 _ _ ?_
        refine S.seq fun K22 hK22 => ?_
        refine S.region rfl ?_
        refine S.op (S.q (q_assign rfl) rfl rfl ?_)
        first | with_reducible refine S.nilK ?_ | refine S.nil ?_
        refine hK22 _ _ ?_
        refine S.seq fun K23 hK23 => ?_
        refine S.seq fun K24 hK24 => ?_
        refine S.region rfl ?_
        refine S.op (S.q (q_move rfl) rfl rfl ?_)
        refine S.op (S.call Try.en23 (vs := [_]) ⟨rfl, trivial⟩ (List_S pa (some l2) (by show l2.length ≤ 1000; omega)) rfl ?_)
        rintro v Θ ⟨u2, rfl, rfl⟩
        rw [show stL (some l2) = l2 from rfl]
        refine S.ownLen u2 fun hu2l _ _ => ?_
        rw [flat_length itC_len] at hu2l
        refine S.op (S.q (q_len Try.underlying52 rfl) rfl rfl ?_)
        refine S.op (S.q (q_move rfl) rfl rfl ?_)
        first | with_reducible refine S.nilK ?_ | refine S.nil ?_
        refine hK24 _ _ ?_
        refine S.block ?_
        refine S.loop (fun m ρ' Γ' => ∃ (k q : Nat), m + k = l2.length ∧ q = (others x.id (l2.take k)).length ∧ ρ' = [(3, .pointer (some ⟨b3, 0, none⟩)), (5, .pointer pa), (8, wv.v), (11, .int .i64 q), (58, u2.v), (59, .int .i64 u2.n), (60, .int .i64 k)] ∧ Γ' = own u2 25 3 (l2.flatMap itC) :: own wv 25 3 (o.flatMap itC) :: HI pa (some l2) :: blk b3 24 (itC x).toArray :: old W :: Γ) (m := _) (ρ0 := _) (Γ0 := _) (⟨0, 0, rfl, rfl, rfl, rfl⟩) (by repeat (first | exact trivial | refine ⟨rfl, ?_⟩)) Sub.ent ?_
        rintro m ρ' Γ' ⟨k, q, hmk, hq, rfl, rfl⟩
        refine S.seq fun K25 hK25 => ?_
        refine S.region rfl ?_
        refine S.op (S.q (q_lt rfl rfl) rfl rfl ?_)
        first | with_reducible refine S.nilK ?_ | refine S.nil ?_
        refine hK25 _ _ ?_
        refine S.seq fun K26 hK26 => ?_
        refine S.condD rfl (fun h7 => ?_) (fun h7 => ?_)
        · obtain ⟨y, hy⟩ := getE (l := l2) (i := k) (by omega)
          have htk := takeSnoc' hy
          have hsn := others_snoc x.id (l2.take k) y
          rw [← htk] at hsn
          refine S.ownSome u2 (by omega) fun b off hb _ _ _ => ?_
          refine S.skip ?_
          with_reducible repeat (first | refine S.then_n ?_ | refine S.then_x ?_ | refine S.then_r ?_ | refine S.inBlock_n ?_ | refine S.inBlock_r ?_ | refine S.inBlock_x rfl ?_ | refine S.noGoto_r ?_ | refine S.noGoto_n ?_ | refine S.noGoto_x ?_)
          refine hK26 _ _ ?_
          refine S.seq fun K27 hK27 => ?_
          refine S.cut (fun ρ' Γ' => ∃ q' : Nat, q' = (others x.id (l2.take (k + 1))).length ∧ ρ' = [(3, .pointer (some ⟨b3, 0, none⟩)), (5, .pointer pa), (8, wv.v), (11, .int .i64 q'), (58, u2.v), (59, .int .i64 u2.n), (60, .int .i64 k)] ∧ Γ' = own u2 25 3 (l2.flatMap itC) :: own wv 25 3 (o.flatMap itC) :: HI pa (some l2) :: blk b3 24 (itC x).toArray :: old W :: Γ) ?_ ?_
          · refine S.block ?_
            refine S.seq fun K28 hK28 => ?_
            refine S.region rfl ?_
            refine S.op (S.q (q_indexO (k) Try.el52 rfl hb rfl rfl (by omega)) rfl rfl ?_)
            refine S.op (S.q (q_loadOwS (u2) (k * 3) [_, _, _] Try.ag25 rfl hb (by first | rfl | exact Nat.add_assoc _ _ _ | omega) rfl (flat_seg (enc := itC) (sz := 3) (fun _ => rfl) hy)) rfl rfl ?_)
            refine S.op (S.alloc Try.z25 rfl ?_)
            intro b13
            refine S.op (S.storeS (cs' := [_, _, _]) Try.ag25 rfl rfl rfl rfl rfl rfl ?_)
            first | with_reducible refine S.nilK ?_ | refine S.nil ?_
            refine hK28 _ _ ?_
            refine S.seq fun K29 hK29 => ?_
            refine S.seq fun K30 hK30 => ?_
            refine S.region rfl ?_
            refine S.op (S.q (q_field Try.fo25_0 rfl) rfl rfl ?_)
            refine S.op (S.q (q_load Try.at22 rfl rfl) rfl rfl ?_)
            refine S.op (S.q (q_field Try.fo24_0 rfl) rfl rfl ?_)
            refine S.op (S.q (q_load Try.at22 rfl rfl) rfl rfl ?_)
            refine S.op (S.q (q_eq rfl rfl) rfl rfl ?_)
            first | with_reducible refine S.nilK ?_ | refine S.nil ?_
            refine hK30 _ _ ?_
            refine S.condD rfl (fun h8 => ?_) (fun h8 => ?_)
            · rw [if_pos h8] at hsn
              refine S.exit ?_
              with_reducible repeat (first | refine S.then_n ?_ | refine S.then_x ?_ | refine S.then_r ?_ | refine S.inBlock_n ?_ | refine S.inBlock_r ?_ | refine S.inBlock_x rfl ?_ | refine S.noGoto_r ?_ | refine S.noGoto_n ?_ | refine S.noGoto_x ?_)
              with_reducible refine S.inBlock_s ?_
              with_reducible repeat (first | refine S.then_n ?_ | refine S.then_x ?_ | refine S.then_r ?_ | refine S.inBlock_n ?_ | refine S.inBlock_r ?_ | refine S.inBlock_x rfl ?_ | refine S.noGoto_r ?_ | refine S.noGoto_n ?_ | refine S.noGoto_x ?_)
              with_reducible repeat (first | refine S.then_n ?_ | refine S.then_x ?_ | refine S.then_r ?_ | refine S.inBlock_n ?_ | refine S.inBlock_r ?_ | refine S.inBlock_x rfl ?_ | refine S.noGoto_r ?_ | refine S.noGoto_n ?_ | refine S.noGoto_x ?_)
              first
              | exact S.meet ⟨q + 1, by rw [hsn, hq]; simp, rfl, rfl⟩ ⟨rfl, rfl, rfl, rfl, rfl, rfl, rfl, trivial⟩ Sub.ent
              | exact S.meet ⟨q, by rw [hsn, hq], rfl, rfl⟩ ⟨rfl, rfl, rfl, rfl, rfl, rfl, rfl, trivial⟩ Sub.ent
            · rw [if_neg h8] at hsn
              have hnx := others_next hy h8
              rw [hoth, ← hq] at hnx
              have hqo := (List.getElem?_eq_some_iff.1 hnx).1
              refine S.ownSome wv (by omega) fun b2 off2 hb2 _ _ _ => ?_
              refine S.skip ?_
              with_reducible repeat (first | refine S.then_n ?_ | refine S.then_x ?_ | refine S.then_r ?_ | refine S.inBlock_n ?_ | refine S.inBlock_r ?_ | refine S.inBlock_x rfl ?_ | refine S.noGoto_r ?_ | refine S.noGoto_n ?_ | refine S.noGoto_x ?_)
              refine hK29 _ _ ?_
              refine S.seq fun K31 hK31 => ?_
              refine S.seq fun K32 hK32 => ?_
              refine S.draw ([own wv 25 3 (o.flatMap itC), blk b13 25 (itC y).toArray]) [] Try.mixed ?_
              refine S.dr_take 0 [] rfl (by kernel_rfl) rfl rfl rfl (q_move rfl) Sub.ent ?_
              refine S.dr_take 1 [] rfl (by kernel_rfl) rfl rfl rfl (q_move rfl) Sub.ent ?_
              refine S.dr_take 2 [] rfl (by kernel_rfl) rfl rfl rfl (q_len Try.underlying52 rfl) Sub.ent ?_
              refine S.dr_take 3 [] rfl (by kernel_rfl) rfl rfl rfl (q_ge rfl rfl) Sub.ent ?_
              refine S.dr_take 4 [] rfl (by kernel_rfl) rfl rfl rfl (q_move rfl) Sub.ent ?_
              refine S.dr_takeY 5 [] rfl (by kernel_rfl) rfl rfl rfl ((decide_eq_false (by omega))) rfl rfl (q_move rfl) Sub.ent ?_
              refine S.dr_takeY 6 [] rfl (by kernel_rfl) rfl rfl rfl ((decide_eq_false (by omega))) rfl rfl (q_move rfl) Sub.ent ?_
              refine S.dr_takeY 7 [] rfl (by kernel_rfl) rfl rfl rfl ((decide_eq_false (by omega))) rfl rfl (q_indexO (q) Try.el52 rfl hb2 rfl rfl (by omega)) Sub.ent ?_
              refine S.dr_takeY 8 [] rfl (by kernel_rfl) rfl rfl rfl ((decide_eq_false (by omega))) rfl rfl (q_loadOwS (wv) (q * 3) [_, _, _] Try.ag25 rfl hb2 (by first | rfl | exact Nat.add_assoc _ _ _ | omega) rfl (flat_seg (enc := itC) (sz := 3) (fun _ => rfl) hnx)) Sub.ent ?_
              refine S.dr_takeY 9 [] rfl (by kernel_rfl) rfl rfl rfl ((decide_eq_false (by omega))) rfl rfl (q_loadS [_, _, _] Try.ag25 rfl rfl ⟨rfl, rfl, rfl, trivial⟩) Sub.ent ?_
              refine S.dr_takeY 10 [] rfl (by kernel_rfl) rfl rfl rfl ((decide_eq_false (by omega))) rfl rfl (q_neIt y y (.inl rfl) rfl rfl) Sub.ent ?_
              refine S.dr_take 11 [] rfl (by kernel_rfl) rfl rfl rfl (q_pickF rfl ((decide_eq_false (by omega))) rfl) Sub.ent ?_
              first | with_reducible refine S.dr_doneK (by kernel_rfl) ?_ | refine S.dr_done (by kernel_rfl) ?_
              refine hK32 _ _ ?_
              refine S.cond rfl (fun h9 => ?_) (fun h9 => ?_)
              · exact absurd h9 (by simp)
              · refine S.skip ?_
                with_reducible repeat (first | refine S.then_n ?_ | refine S.then_x ?_ | refine S.then_r ?_ | refine S.inBlock_n ?_ | refine S.inBlock_r ?_ | refine S.inBlock_x rfl ?_ | refine S.noGoto_r ?_ | refine S.noGoto_n ?_ | refine S.noGoto_x ?_)
                refine hK31 _ _ ?_
                refine S.region rfl ?_
                refine S.op (S.q (q_move rfl) rfl rfl ?_)
                refine S.op (S.q (q_add rfl rfl (inI64 (by omega) (by omega))) rfl rfl ?_)
                refine S.op (S.q (q_assign rfl) rfl rfl ?_)
                first | with_reducible refine S.nilK ?_ | refine S.nil ?_
                with_reducible repeat (first | refine S.then_n ?_ | refine S.then_x ?_ | refine S.then_r ?_ | refine S.inBlock_n ?_ | refine S.inBlock_r ?_ | refine S.inBlock_x rfl ?_ | refine S.noGoto_r ?_ | refine S.noGoto_n ?_ | refine S.noGoto_x ?_)
                with_reducible repeat (first | refine S.then_n ?_ | refine S.then_x ?_ | refine S.then_r ?_ | refine S.inBlock_n ?_ | refine S.inBlock_r ?_ | refine S.inBlock_x rfl ?_ | refine S.noGoto_r ?_ | refine S.noGoto_n ?_ | refine S.noGoto_x ?_)
                first
                | exact S.meet ⟨q + 1, by rw [hsn, hq]; simp, rfl, rfl⟩ ⟨rfl, rfl, rfl, rfl, rfl, rfl, rfl, trivial⟩ Sub.ent
                | exact S.meet ⟨q, by rw [hsn, hq], rfl, rfl⟩ ⟨rfl, rfl, rfl, rfl, rfl, rfl, rfl, trivial⟩ Sub.ent
          · rintro ρ' Γ' ⟨q', hq', rfl, rfl⟩
            refine hK27 _ _ ?_
            refine S.region rfl ?_
            refine S.op (S.q (q_add rfl rfl (inI64 (by omega) (by omega))) rfl rfl ?_)
            refine S.op (S.q (q_move rfl) rfl rfl ?_)
            first | with_reducible refine S.nilK ?_ | refine S.nil ?_
            with_reducible repeat (first | refine S.then_n ?_ | refine S.then_x ?_ | refine S.then_r ?_ | refine S.inBlock_n ?_ | refine S.inBlock_r ?_ | refine S.inBlock_x rfl ?_ | refine S.noGoto_r ?_ | refine S.noGoto_n ?_ | refine S.noGoto_x ?_)
            exact S.next (m - 1) (⟨k + 1, q', by omega, hq', rfl, rfl⟩) (by omega) (by repeat (first | exact trivial | refine ⟨rfl, ?_⟩)) Sub.ent
        · refine S.exit ?_
          with_reducible repeat (first | refine S.then_n ?_ | refine S.then_x ?_ | refine S.then_r ?_ | refine S.inBlock_n ?_ | refine S.inBlock_r ?_ | refine S.inBlock_x rfl ?_ | refine S.noGoto_r ?_ | refine S.noGoto_n ?_ | refine S.noGoto_x ?_)
          with_reducible refine S.inBlock_s ?_
          with_reducible repeat (first | refine S.then_n ?_ | refine S.then_x ?_ | refine S.then_r ?_ | refine S.inBlock_n ?_ | refine S.inBlock_r ?_ | refine S.inBlock_x rfl ?_ | refine S.noGoto_r ?_ | refine S.noGoto_n ?_ | refine S.noGoto_x ?_)
          refine hK23 _ _ ?_
          refine S.seq fun K33 hK33 => ?_
          refine S.regionG ?_
          have hqf : q = o.length := by rw [hq, List.take_of_length_le (by omega), hoth]
          refine S.g_op rfl (S.q (q_move rfl) rfl rfl ?_)
          refine S.g_op rfl (S.q (q_move rfl) rfl rfl ?_)
          refine S.g_op rfl (S.q (q_len Try.underlying52 rfl) rfl rfl ?_)
          refine S.g_op rfl (S.q (q_eq rfl rfl) rfl rfl ?_)
          refine S.g_op rfl (S.q (q_move rfl) rfl rfl ?_)
          refine S.g_yes rfl rfl rfl ((decide_eq_true (by omega))) (S.q (q_move rfl) rfl rfl ?_)
          refine S.g_yes rfl rfl rfl ((decide_eq_true (by omega))) (S.q (q_field Try.fo24_0 rfl) rfl rfl ?_)
          refine S.g_yes rfl rfl rfl ((decide_eq_true (by omega))) (S.q (q_load Try.at22 rfl rfl) rfl rfl ?_)
          refine S.g_yes rfl rfl rfl ((decide_eq_true (by omega))) (S.call Try.en19 (vs := [_, _]) ⟨rfl, rfl, trivial⟩ (HRemove_S pa (some l2) x.id (by show l2.length ≤ 1000; omega)) rfl ?_)
          rintro v Θ ⟨rfl, rfl⟩
          rw [hrm]
          refine S.g_yes rfl rfl rfl ((decide_eq_true (by omega))) (S.q (q_eq rfl rfl) rfl rfl ?_)
          refine S.g_op rfl (S.q (q_pickT rfl ((decide_eq_true (by omega))) rfl) rfl rfl ?_)
          refine S.g_op rfl (S.q (q_move rfl) rfl rfl ?_)
          refine S.g_yes rfl rfl rfl (rfl) (S.q (q_move rfl) rfl rfl ?_)
          refine S.g_yes rfl rfl rfl (rfl) (S.call Try.en14 (vs := [_]) ⟨rfl, trivial⟩ (Len_S pa (some o)) rfl ?_)
          rintro v Θ ⟨rfl, rfl⟩
          refine S.g_yes rfl rfl rfl (rfl) (S.q (q_move rfl) rfl rfl ?_)
          refine S.g_yes rfl rfl rfl (rfl) (S.q (q_len Try.underlying52 rfl) rfl rfl ?_)
          refine S.g_yes rfl rfl rfl (rfl) (S.q (q_eq rfl rfl) rfl rfl ?_)
          refine S.g_op rfl (S.q (q_pickT rfl (rfl) rfl) rfl rfl ?_)
          refine S.g_op rfl (S.q (q_assign rfl) rfl rfl ?_)
          first | with_reducible refine S.g_nilK ?_ | refine S.g_nil ?_
          refine hK33 _ _ ?_
          refine S.ret ?_
          with_reducible repeat (first | refine S.then_n ?_ | refine S.then_x ?_ | refine S.then_r ?_ | refine S.inBlock_n ?_ | refine S.inBlock_r ?_ | refine S.inBlock_x rfl ?_ | refine S.noGoto_r ?_ | refine S.noGoto_n ?_ | refine S.noGoto_x ?_)
          exact S.fin (rs := [_]) (vs := [_]) Try.results7 (⟨rfl, trivial⟩)  (⟨by simp only [resV]; rw [decide_eq_true (show ((lenR (some o) : Nat) : Int) = wv.n by show (o.length : Int) = wv.n; omega)], rfl⟩) Sub.ent
open Go.ChangeShapes Go.WideShapes Go.ChangeAt
theorem PrioApart_law {H : Type} (enc : TypeId × Value → H) : LawWalk enc 7 Try.f7 := by
  intro W base args ds before hval hA _ _
  rw [Try.params7] at hA hval
  obtain ⟨v0, vs0, d0, ds0, p0, q0, hargs, rfl, rfl, h0, r0⟩ := trodAll_cons hA
  obtain ⟨v1, vs1, d1, ds1, p1, q1, rfl, rfl, rfl, h1, r1⟩ := trodAll_cons r0
  obtain ⟨rfl, rfl, rfl⟩ := trodAll_nil r1
  obtain rfl : args = #[v0, v1] := by cases args; simp_all
  obtain ⟨s0, rs, e0, hn, hs⟩ := rd_items (arg_slice 5 Try.underlying30 (by kernel_rfl) (hval 0 30 v0 rfl rfl) h0)
  simp only [List.cons.injEq, and_true] at e0
  subst e0
  obtain ⟨cs1, rfl, hcs1⟩ := arg_struct 4 Try.underlying24 (by kernel_rfl) (hval 1 24 v1 rfl rfl) h1
  obtain ⟨x, rfl⟩ := rd_item hcs1
  exact law_run (PrioApart_S s0 rs x W hn hs)
set_option maxRecDepth 100000 in
theorem PrioApart_lifted (os : Os) (started : os.Started) (H : Type) (enc : TypeId × Value → H) :
    ReturnsInHanded {} Try.checked os 7 .any (Rows.prioApartSpec.pre6 enc Try.prog Try.f7 Rows.prioApartRow.domain false) (Rows.prioApartSpec.post enc Try.prog Try.f7 false true false false) :=
  lift_true started Try.func7 (by kernel_rfl)
    (ChangeSpec.witness6 (enc := enc) (C := Try.checked) false ⟨#[], #[.slice none 0 0, .agg #[.int .u32 0, .int .u8 0, .int .u32 0]], []⟩ 8 (by kernel_rfl) (by kernel_rfl) (by kernel_rfl) (by kernel_rfl))
    rfl rfl (by kernel_rfl) (fun ds h => by match ds, h with | [a0, a1], _ => rfl) (PrioApart_law enc)
theorem PrioApart_over : Rows.prioApartRow.holds Try.pinned (OpenSpec.ofChange Rows.prioApartSpec) :=
  OpenClaim.holds_of_wide 7 Try.f7 rfl rfl rfl rfl rfl rfl rfl ⟨rfl, rfl, rfl, rfl, rfl⟩ rfl rfl rfl rfl rfl (by kernel_rfl) Try.func7 (by kernel_rfl)
    (of_decide_eq_true (by kernel_rfl)) (by unfold Func.isWrapper; rw [if_neg (of_decide_eq_false (by kernel_rfl))]; exact ⟨rfl, rfl⟩)
    (fun os started H enc _ => PrioApart_lifted os started H enc)
theorem PrioApart_holds : Rows.PrioApartSaid := PrioApart_over
#print axioms PrioApart_holds
end Go.Proofs.Ythpfljiabhjodaa
