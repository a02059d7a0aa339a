/- The document's list: Find, Push, Remove. -/
import Derived.Test.YthpfljiabhjodaaPrioL
namespace Go.Proofs.Ythpfljiabhjodaa
open Go.RowKit
set_option maxRecDepth 20000
abbrev refO (s : SV) (l : List It) : Assn := own s 24 3 (l.flatMap itC)
def findI (id : Int) : List It → Nat → Int
  | [], _ => -1
  | x :: l, i => if x.id = id then (i : Int) else findI id l (i + 1)
theorem findI_spec (id : Int) : ∀ (l : List It) (i : Nat), (findI id l i = -1 ∧ hasL id l = false) ∨ ∃ (k : Nat) (x : It), findI id l i = ((i + k : Nat) : Int) ∧ hasL id l = true ∧ l[k]? = some x ∧ x.id = id
  | [], _ => .inl ⟨rfl, rfl⟩
  | x :: l, i => by
    unfold findI
    by_cases e : x.id = id
    · rw [if_pos e]
      exact .inr ⟨0, x, rfl, by simp [hasL, e], rfl, e⟩
    · rw [if_neg e]
      rcases findI_spec id l (i + 1) with ⟨h1, h2⟩ | ⟨k, y, h1, h2, h3, h4⟩
      · exact .inl ⟨h1, by unfold hasL at *; simp only [List.any_cons, decide_eq_false e, Bool.false_or]; exact h2⟩
      · exact .inr ⟨k + 1, y, by rw [h1]; congr 1; omega, by unfold hasL at *; simp only [List.any_cons, h2, Bool.or_true], by simpa using h3, h4⟩
theorem drop_cons {α : Type} {l : List α} {k : Nat} {x : α} (h : l[k]? = some x) : l.drop k = x :: l.drop (k + 1) := by
  obtain ⟨h1, h2⟩ := List.getElem?_eq_some_iff.1 h
  rw [List.drop_eq_getElem_cons h1, h2]
theorem rFind_S (lv : SV) (l : List It) (id : Int) : Spec Try.prog 22 [lv.v, .int .u32 id] [refO lv l] fun Γ v Θ => v = .int .i64 (findI id l 0) ∧ Θ = refO lv l :: Γ := by
  refine Spec.of_body Try.func22 rfl Try.ntmps22 rfl ?_
  intro w0 Γ
  show S _ w0 [(0, lv.v), (1, .int .u32 id)] (refO lv l :: Γ) _
  refine S.ownLen lv fun hlen hnc hcm => ?_
  unfold maxLen at hcm
  rw [flat_length itC_len] at hlen
  refine S.seq fun K1 hK1 => ?_
  refine S.region rfl ?_
  refine S.op (S.q (q_assign rfl) rfl rfl ?_)
  first | with_reducible refine S.nilK ?_ | refine S.nil ?_
  refine hK1 _ _ ?_
  refine S.seq fun K2 hK2 => ?_
  refine S.seq fun K3 hK3 => ?_
  refine S.region rfl ?_
  refine S.op (S.q (q_move rfl) rfl rfl ?_)
  refine S.op (S.q (q_len Try.underlying30 rfl) rfl rfl ?_)
  refine S.op (S.q (q_move rfl) rfl rfl ?_)
  first | with_reducible refine S.nilK ?_ | refine S.nil ?_
  refine hK3 _ _ ?_
  refine S.block ?_
  refine S.loop (fun m ρ' Γ' => ∃ k : Nat, m + k = l.length ∧ findI id l 0 = findI id (l.drop k) k ∧ ρ' = [(1, .int .u32 id), (7, lv.v), (8, .int .i64 lv.n), (9, .int .i64 k)] ∧ Γ' = refO lv l :: Γ) (m := _) (ρ0 := _) (Γ0 := _) (⟨0, rfl, rfl, rfl, rfl⟩) (by repeat (first | exact trivial | refine ⟨rfl, ?_⟩)) Sub.ent ?_
  rintro m ρ' Γ' ⟨k, hmk, hf, rfl, rfl⟩
  refine S.seq fun K4 hK4 => ?_
  refine S.region rfl ?_
  refine S.op (S.q (q_lt rfl rfl) rfl rfl ?_)
  first | with_reducible refine S.nilK ?_ | refine S.nil ?_
  refine hK4 _ _ ?_
  refine S.seq fun K5 hK5 => ?_
  refine S.condD rfl (fun h1 => ?_) (fun h1 => ?_)
  · obtain ⟨x, hx⟩ := getE (l := l) (i := k) (by omega)
    refine S.ownSome lv (by omega) fun b off hb _ _ _ => ?_
    rw [drop_cons hx, findI] at hf
    refine S.skip ?_
    with_reducible repeat (first | refine S.then_n ?_ | refine S.then_x ?_ | refine S.then_r ?_ | refine S.inBlock_n ?_ | refine S.inBlock_r ?_ | refine S.inBlock_x rfl ?_ | refine S.noGoto_r ?_ | refine S.noGoto_n ?_ | refine S.noGoto_x ?_)
    refine hK5 _ _ ?_
    refine S.seq fun K6 hK6 => ?_
    refine S.block ?_
    refine S.seq fun K7 hK7 => ?_
    refine S.region rfl ?_
    refine S.op (S.q (q_move rfl) rfl rfl ?_)
    refine S.op (S.q (q_indexO (k) Try.el30 rfl hb rfl rfl (by omega)) rfl rfl ?_)
    refine S.op (S.q (q_loadOwS (lv) (k * 3) [_, _, _] Try.ag24 rfl hb (by first | rfl | exact Nat.add_assoc _ _ _ | omega) rfl (flat_seg (enc := itC) (sz := 3) (fun _ => rfl) hx)) rfl rfl ?_)
    refine S.op (S.alloc Try.z24 rfl ?_)
    intro b6
    refine S.op (S.q (q_assign rfl) rfl rfl ?_)
    refine S.op (S.storeS (cs' := [_, _, _]) Try.ag24 rfl rfl rfl rfl rfl rfl ?_)
    first | with_reducible refine S.nilK ?_ | refine S.nil ?_
    refine hK7 _ _ ?_
    refine S.seq fun K8 hK8 => ?_
    refine S.region rfl ?_
    refine S.op (S.q (q_field Try.fo24_0 rfl) rfl rfl ?_)
    refine S.op (S.q (q_load Try.at22 rfl rfl) rfl rfl ?_)
    refine S.op (S.q (q_move rfl) rfl rfl ?_)
    refine S.op (S.q (q_eq rfl rfl) rfl rfl ?_)
    first | with_reducible refine S.nilK ?_ | refine S.nil ?_
    refine hK8 _ _ ?_
    refine S.condD rfl (fun h2 => ?_) (fun h2 => ?_)
    · refine S.seq fun K9 hK9 => ?_
      refine S.region rfl ?_
      refine S.op (S.q (q_move rfl) rfl rfl ?_)
      refine S.op (S.q (q_assign rfl) rfl rfl ?_)
      first | with_reducible refine S.nilK ?_ | refine S.nil ?_
      refine hK9 _ _ ?_
      refine S.ret ?_
      with_reducible repeat (first | refine S.then_n ?_ | refine S.then_x ?_ | refine S.then_r ?_ | refine S.inBlock_n ?_ | refine S.inBlock_r ?_ | refine S.inBlock_x rfl ?_ | refine S.noGoto_r ?_ | refine S.noGoto_n ?_ | refine S.noGoto_x ?_)
      exact S.fin (rs := [_]) (vs := [_]) Try.results22 (⟨rfl, trivial⟩)  (⟨by simp only [resV]; rw [hf, if_pos (by assumption)], rfl⟩) Sub.ent
    · refine S.skip ?_
      with_reducible repeat (first | refine S.then_n ?_ | refine S.then_x ?_ | refine S.then_r ?_ | refine S.inBlock_n ?_ | refine S.inBlock_r ?_ | refine S.inBlock_x rfl ?_ | refine S.noGoto_r ?_ | refine S.noGoto_n ?_ | refine S.noGoto_x ?_)
      with_reducible repeat (first | refine S.then_n ?_ | refine S.then_x ?_ | refine S.then_r ?_ | refine S.inBlock_n ?_ | refine S.inBlock_r ?_ | refine S.inBlock_x rfl ?_ | refine S.noGoto_r ?_ | refine S.noGoto_n ?_ | refine S.noGoto_x ?_)
      refine hK6 _ _ ?_
      refine S.region rfl ?_
      refine S.op (S.q (q_add rfl rfl (inI64 (by omega) (by omega))) rfl rfl ?_)
      refine S.op (S.q (q_move rfl) rfl rfl ?_)
      first | with_reducible refine S.nilK ?_ | refine S.nil ?_
      with_reducible repeat (first | refine S.then_n ?_ | refine S.then_x ?_ | refine S.then_r ?_ | refine S.inBlock_n ?_ | refine S.inBlock_r ?_ | refine S.inBlock_x rfl ?_ | refine S.noGoto_r ?_ | refine S.noGoto_n ?_ | refine S.noGoto_x ?_)
      exact S.next (m - 1) (⟨k + 1, by omega, by rw [hf, if_neg (by assumption)], rfl, rfl⟩) (by omega) (by repeat (first | exact trivial | refine ⟨rfl, ?_⟩)) Sub.ent
  · refine S.exit ?_
    with_reducible repeat (first | refine S.then_n ?_ | refine S.then_x ?_ | refine S.then_r ?_ | refine S.inBlock_n ?_ | refine S.inBlock_r ?_ | refine S.inBlock_x rfl ?_ | refine S.noGoto_r ?_ | refine S.noGoto_n ?_ | refine S.noGoto_x ?_)
    with_reducible refine S.inBlock_s ?_
    with_reducible repeat (first | refine S.then_n ?_ | refine S.then_x ?_ | refine S.then_r ?_ | refine S.inBlock_n ?_ | refine S.inBlock_r ?_ | refine S.inBlock_x rfl ?_ | refine S.noGoto_r ?_ | refine S.noGoto_n ?_ | refine S.noGoto_x ?_)
    refine hK2 _ _ ?_
    refine S.seq fun K10 hK10 => ?_
    refine S.region rfl ?_
    refine S.op (S.q (q_assign rfl) rfl rfl ?_)
    first | with_reducible refine S.nilK ?_ | refine S.nil ?_
    refine hK10 _ _ ?_
    refine S.ret ?_
    with_reducible repeat (first | refine S.then_n ?_ | refine S.then_x ?_ | refine S.then_r ?_ | refine S.inBlock_n ?_ | refine S.inBlock_r ?_ | refine S.inBlock_x rfl ?_ | refine S.noGoto_r ?_ | refine S.noGoto_n ?_ | refine S.noGoto_x ?_)
    exact S.fin (rs := [_]) (vs := [_]) Try.results22 (⟨rfl, trivial⟩)  (⟨by simp only [resV]; rw [hf, List.drop_eq_nil_of_le (by omega), findI], rfl⟩) Sub.ent
theorem rPush_S (lv : SV) (l : List It) (x : It) (hl : l.length ≤ 1000) : Spec Try.prog 17 [lv.v, .agg (itC x).toArray] [refO lv l] fun Γ v Θ => ∃ u : SV, v = .tuple #[u.v, .int .i64 (pushR x (some l)).1] ∧ Θ = refO u (stL (pushR x (some l)).2) :: Γ := by
  refine Spec.of_body Try.func17 rfl Try.ntmps17 rfl ?_
  intro w0 Γ
  show S _ w0 [(0, lv.v), (1, .agg (itC x).toArray)] (refO lv l :: Γ) _
  refine S.ownLen lv fun hlen hnc hcm => ?_
  unfold maxLen at hcm
  rw [flat_length itC_len] at hlen
  have hfs := findI_spec x.id l 0
  refine S.seq fun K1 hK1 => ?_
  refine S.region rfl ?_
  refine S.op (S.box (cs := [_, _, _]) rfl rfl rfl ?_)
  intro b3
  refine S.op (S.q (q_assign rfl) rfl rfl ?_)
  refine S.op (S.q (q_assign rfl) rfl rfl ?_)
  first | with_reducible refine S.nilK ?_ | refine S.nil ?_
  refine hK1 _ _ ?_
  refine S.seq fun K2 hK2 => ?_
  refine S.seq fun K3 hK3 => ?_
  refine S.region rfl ?_
  refine S.op (S.q (q_move rfl) rfl rfl ?_)
  refine S.op (S.q (q_field Try.fo24_0 rfl) rfl rfl ?_)
  refine S.op (S.q (q_load Try.at22 rfl rfl) rfl rfl ?_)
  refine S.op (S.call Try.en22 (vs := [_, _]) ⟨rfl, rfl, trivial⟩ (rFind_S lv l x.id) rfl ?_)
  rintro v Θ ⟨rfl, rfl⟩
  refine S.op (S.q (q_ge rfl rfl) rfl rfl ?_)
  first | with_reducible refine S.nilK ?_ | refine S.nil ?_
  refine hK3 _ _ ?_
  refine S.condD rfl (fun h1 => ?_) (fun h1 => ?_)
  · have hyes : hasL x.id l = true := by
      rcases hfs with ⟨e, _⟩ | ⟨_, _, _, e, _⟩
      · omega
      · exact e
    have hr1 : (pushR x (some l)).1 = 7 := by simp only [pushR, hyes, if_true]
    have hr2 : stL (pushR x (some l)).2 = l := by simp only [pushR, hyes, if_true, stL]
    refine S.seq fun K4 hK4 => ?_
    refine S.region rfl ?_
    refine S.op (S.q (q_move rfl) rfl rfl ?_)
    refine S.op (S.q (q_assign rfl) rfl rfl ?_)
    refine S.op (S.q (q_assign rfl) rfl rfl ?_)
    first | with_reducible refine S.nilK ?_ | refine S.nil ?_
    refine hK4 _ _ ?_
    refine S.ret ?_
    with_reducible repeat (first | refine S.then_n ?_ | refine S.then_x ?_ | refine S.then_r ?_ | refine S.inBlock_n ?_ | refine S.inBlock_r ?_ | refine S.inBlock_x rfl ?_ | refine S.noGoto_r ?_ | refine S.noGoto_n ?_ | refine S.noGoto_x ?_)
    exact S.fin (rs := [_, _]) (vs := [_, _]) Try.results17 (⟨rfl, rfl, trivial⟩)  (⟨lv, by simp only [resV]; rw [hr1], by rw [hr2]⟩) Sub.ent
  · have hno : hasL x.id l = false := by
      rcases hfs with ⟨_, e⟩ | ⟨_, _, e, _⟩
      · exact e
      · omega
    have hpr : pushR x (some l) = (0, some (ins x l)) := by simp only [pushR, hno]; rfl
    have hr1 : (pushR x (some l)).1 = 0 := by rw [hpr]
    have hr2 : stL (pushR x (some l)).2 = ins x l := by rw [hpr]; rfl
    have hil : (ins x l).length = l.length + 1 := by rw [(ins_perm x l).length_eq]; rfl
    refine S.ent (show Ent _ (refO SV.nil [] :: _) from Ent.ownNil 24 3) ?_
    refine S.skip ?_
    with_reducible repeat (first | refine S.then_n ?_ | refine S.then_x ?_ | refine S.then_r ?_ | refine S.inBlock_n ?_ | refine S.inBlock_r ?_ | refine S.inBlock_x rfl ?_ | refine S.noGoto_r ?_ | refine S.noGoto_n ?_ | refine S.noGoto_x ?_)
    refine hK2 _ _ ?_
    refine S.seq fun K5 hK5 => ?_
    refine S.region rfl ?_
    refine S.op (S.q (q_assign rfl) rfl rfl ?_)
    first | with_reducible refine S.nilK ?_ | refine S.nil ?_
    refine hK5 _ _ ?_
    refine S.seq fun K6 hK6 => ?_
    refine S.region rfl ?_
    refine S.op (S.q (q_assign rfl) rfl rfl ?_)
    first | with_reducible refine S.nilK ?_ | refine S.nil ?_
    refine hK6 _ _ ?_
    refine S.seq fun K7 hK7 => ?_
    refine S.seq fun K8 hK8 => ?_
    refine S.region rfl ?_
    refine S.op (S.q (q_move rfl) rfl rfl ?_)
    refine S.op (S.q (q_len Try.underlying30 rfl) rfl rfl ?_)
    refine S.op (S.q (q_move rfl) rfl rfl ?_)
    first | with_reducible refine S.nilK ?_ | refine S.nil ?_
    refine hK8 _ _ ?_
    refine S.block ?_
    refine S.loop (fun m ρ' Γ' => ∃ (k : Nat) (dn : Bool) (o : List It) (uo : SV), m + k = l.length ∧ ins x l = o ++ (if dn = true then l.drop k else ins x (l.drop k)) ∧ ρ' = [(3, .pointer (some ⟨b3, 0, none⟩)), (6, uo.v), (7, .bool dn), (16, lv.v), (17, .int .i64 lv.n), (18, .int .i64 k)] ∧ Γ' = refO uo o :: refO lv l :: blk b3 24 (itC x).toArray :: Γ) (m := _) (ρ0 := _) (Γ0 := _) (⟨0, false, [], SV.nil, rfl, rfl, rfl, rfl⟩) (by repeat (first | exact trivial | refine ⟨rfl, ?_⟩)) Sub.ent ?_
    rintro m ρ' Γ' ⟨k, dn, o, uo, hmk, hins, rfl, rfl⟩
    refine S.ownLen uo fun huo _ _ => ?_
    rw [flat_length itC_len] at huo
    have hol : o.length ≤ l.length + 1 := by have := congrArg List.length hins; rw [hil, List.length_append] at this; omega
    refine S.seq fun K9 hK9 => ?_
    refine S.region rfl ?_
    refine S.op (S.q (q_lt rfl rfl) rfl rfl ?_)
    first | with_reducible refine S.nilK ?_ | refine S.nil ?_
    refine hK9 _ _ ?_
    refine S.seq fun K10 hK10 => ?_
    refine S.condD rfl (fun h2 => ?_) (fun h2 => ?_)
    · obtain ⟨y, hy⟩ := getE (l := l) (i := k) (by omega)
      refine S.ownSome lv (by omega) fun b off hb _ _ _ => ?_
      rw [drop_cons hy] at hins
      have hW1 : dn = true → ins x l = o ++ y :: (if dn = true then l.drop (k + 1) else ins x (l.drop (k + 1))) := fun e => by
        subst e
        exact hins
      have hW2 : dn = false → bf x y = true → ins x l = (o ++ [x]) ++ y :: (if true = true then l.drop (k + 1) else ins x (l.drop (k + 1))) := fun e hb => by
        subst e
        rw [hins]
        simp only [ins, hb, if_true, List.append_assoc]
        rfl
      have hW3 : dn = false → bf x y = false → ins x l = o ++ y :: (if dn = true then l.drop (k + 1) else ins x (l.drop (k + 1))) := fun e hb => by
        subst e
        rw [hins]
        simp only [ins, hb]
        rfl
      refine S.skip ?_
      with_reducible repeat (first | refine S.then_n ?_ | refine S.then_x ?_ | refine S.then_r ?_ | refine S.inBlock_n ?_ | refine S.inBlock_r ?_ | refine S.inBlock_x rfl ?_ | refine S.noGoto_r ?_ | refine S.noGoto_n ?_ | refine S.noGoto_x ?_)
      refine hK10 _ _ ?_
      refine S.seq fun K11 hK11 => ?_
      refine S.block ?_
      refine S.seq fun K12 hK12 => ?_
      refine S.region rfl ?_
      refine S.op (S.q (q_indexO (k) Try.el30 rfl hb rfl rfl (by omega)) rfl rfl ?_)
      refine S.op (S.q (q_loadOwS (lv) (k * 3) [_, _, _] Try.ag24 rfl hb (by first | rfl | exact Nat.add_assoc _ _ _ | omega) rfl (flat_seg (enc := itC) (sz := 3) (fun _ => rfl) hy)) rfl rfl ?_)
      refine S.op (S.alloc Try.z24 rfl ?_)
      intro b9
      refine S.op (S.storeS (cs' := [_, _, _]) Try.ag24 rfl rfl rfl rfl rfl rfl ?_)
      first | with_reducible refine S.nilK ?_ | refine S.nil ?_
      refine hK12 _ _ ?_
      refine S.seq fun K13 hK13 => ?_
      refine S.seq fun K14 hK14 => ?_
      refine S.regionG ?_
      refine S.g_op rfl (S.q (q_move rfl) rfl rfl ?_)
      refine S.g_op rfl (S.q (q_not rfl) rfl rfl ?_)
      refine S.g_op rfl (S.q (q_move rfl) rfl rfl ?_)
      rcases Bool.eq_false_or_eq_true ((!dn)) with hg8_2 | hg8_2
      · refine S.g_yes rfl rfl rfl (hg8_2) (S.q (q_loadS [_, _, _] Try.ag24 rfl rfl ⟨rfl, rfl, rfl, trivial⟩) rfl rfl ?_)
        refine S.g_yes rfl rfl rfl (hg8_2) (S.q (q_loadS [_, _, _] Try.ag24 rfl rfl ⟨rfl, rfl, rfl, trivial⟩) rfl rfl ?_)
        refine S.g_yes rfl rfl rfl (hg8_2) (S.callP Try.en10 (vs := [_, _]) ⟨rfl, rfl, trivial⟩ (fun w hs => rFirst_P x y w) rfl ?_)
        refine S.g_op rfl (S.q (q_pickT rfl (hg8_2) rfl) rfl rfl ?_)
        first | with_reducible refine S.g_nilK ?_ | refine S.g_nil ?_
        refine hK14 _ _ ?_
        refine S.cut (fun ρ' Γ' => ∃ (dn' : Bool) (o' : List It) (uo' : SV), uo'.n = o'.length ∧ ins x l = o' ++ y :: (if dn' = true then l.drop (k + 1) else ins x (l.drop (k + 1))) ∧ ρ' = [(3, .pointer (some ⟨b3, 0, none⟩)), (6, uo'.v), (7, .bool dn'), (9, .pointer (some ⟨b9, 0, none⟩)), (16, lv.v), (17, .int .i64 lv.n), (18, .int .i64 k)] ∧ Γ' = refO uo' o' :: refO lv l :: blk b3 24 (itC x).toArray :: blk b9 24 (itC y).toArray :: Γ) ?_ ?_
        · refine S.cond rfl (fun h3 => ?_) (fun h3 => ?_)
          · refine S.seq fun K15 hK15 => ?_
            refine S.region rfl ?_
            refine S.op (S.q (q_move rfl) rfl rfl ?_)
            refine S.op (S.q (q_loadS [_, _, _] Try.ag24 rfl rfl ⟨rfl, rfl, rfl, trivial⟩) rfl rfl ?_)
            refine S.op (S.buildSlice (pvs := [(_, _)]) [_, _, _] Try.underlying30 Try.inf24 rfl rfl ⟨⟨rfl, rfl⟩, trivial⟩ rfl rfl ?_)
            intro b31
            refine S.op (S.appendOw (s := uo) (1) (itC x) Try.underlying30 Try.inf24 rfl rfl rfl (blk_slAt (b := b31) rfl (by unfold maxLen; omega)) (by first | rfl | exact allOne_bcells _) (⟨by omega, by omega⟩) rfl ?_)
            intro u1 hu1
            rw [flat_snoc itC o x]
            refine S.op (S.q (q_assign rfl) rfl rfl ?_)
            first | with_reducible refine S.nilK ?_ | refine S.nil ?_
            refine hK15 _ _ ?_
            refine S.region rfl ?_
            refine S.op (S.q (q_assign rfl) rfl rfl ?_)
            first | with_reducible refine S.nilK ?_ | refine S.nil ?_
            with_reducible repeat (first | refine S.then_n ?_ | refine S.then_x ?_ | refine S.then_r ?_ | refine S.inBlock_n ?_ | refine S.inBlock_r ?_ | refine S.inBlock_x rfl ?_ | refine S.noGoto_r ?_ | refine S.noGoto_n ?_ | refine S.noGoto_x ?_)
            first
            | exact S.meet ⟨true, o ++ [x], u1, by simp; omega, hW2 (by simpa using hg8_2) h3, rfl, rfl⟩ ⟨rfl, rfl, rfl, rfl, rfl, rfl, rfl, trivial⟩ Sub.ent
            | exact S.meet ⟨dn, o, uo, by omega, hW1 (by simpa using hg8_2), rfl, rfl⟩ ⟨rfl, rfl, rfl, rfl, rfl, rfl, rfl, trivial⟩ Sub.ent
            | exact S.meet ⟨dn, o, uo, by omega, hW3 (by simpa using hg8_2) h3, rfl, rfl⟩ ⟨rfl, rfl, rfl, rfl, rfl, rfl, rfl, trivial⟩ Sub.ent
          · refine S.skip ?_
            with_reducible repeat (first | refine S.then_n ?_ | refine S.then_x ?_ | refine S.then_r ?_ | refine S.inBlock_n ?_ | refine S.inBlock_r ?_ | refine S.inBlock_x rfl ?_ | refine S.noGoto_r ?_ | refine S.noGoto_n ?_ | refine S.noGoto_x ?_)
            with_reducible repeat (first | refine S.then_n ?_ | refine S.then_x ?_ | refine S.then_r ?_ | refine S.inBlock_n ?_ | refine S.inBlock_r ?_ | refine S.inBlock_x rfl ?_ | refine S.noGoto_r ?_ | refine S.noGoto_n ?_ | refine S.noGoto_x ?_)
            first
            | exact S.meet ⟨true, o ++ [x], u1, by simp; omega, hW2 (by simpa using hg8_2) h3, rfl, rfl⟩ ⟨rfl, rfl, rfl, rfl, rfl, rfl, rfl, trivial⟩ Sub.ent
            | exact S.meet ⟨dn, o, uo, by omega, hW1 (by simpa using hg8_2), rfl, rfl⟩ ⟨rfl, rfl, rfl, rfl, rfl, rfl, rfl, trivial⟩ Sub.ent
            | exact S.meet ⟨dn, o, uo, by omega, hW3 (by simpa using hg8_2) h3, rfl, rfl⟩ ⟨rfl, rfl, rfl, rfl, rfl, rfl, rfl, trivial⟩ Sub.ent
        · rintro ρ' Γ' ⟨dn', o', uo', huo', hins', rfl, rfl⟩
          have hol' : o'.length ≤ l.length + 1 := by have := congrArg List.length hins'; rw [hil, List.length_append] at this; omega
          refine hK13 _ _ ?_
          refine S.region rfl ?_
          refine S.op (S.q (q_move rfl) rfl rfl ?_)
          refine S.op (S.q (q_loadS [_, _, _] Try.ag24 rfl rfl ⟨rfl, rfl, rfl, trivial⟩) rfl rfl ?_)
          refine S.op (S.buildSlice (pvs := [(_, _)]) [_, _, _] Try.underlying30 Try.inf24 rfl rfl ⟨⟨rfl, rfl⟩, trivial⟩ rfl rfl ?_)
          intro b35
          refine S.op (S.appendOw (s := uo') (1) (itC y) Try.underlying30 Try.inf24 rfl rfl rfl (blk_slAt (b := b35) rfl (by unfold maxLen; omega)) (by first | rfl | exact allOne_bcells _) (⟨by omega, by omega⟩) rfl ?_)
          intro u2 hu2
          rw [flat_snoc itC o' y]
          refine S.op (S.q (q_assign rfl) rfl rfl ?_)
          first | with_reducible refine S.nilK ?_ | refine S.nil ?_
          with_reducible repeat (first | refine S.then_n ?_ | refine S.then_x ?_ | refine S.then_r ?_ | refine S.inBlock_n ?_ | refine S.inBlock_r ?_ | refine S.inBlock_x rfl ?_ | refine S.noGoto_r ?_ | refine S.noGoto_n ?_ | refine S.noGoto_x ?_)
          refine hK11 _ _ ?_
          refine S.region rfl ?_
          refine S.op (S.q (q_add rfl rfl (inI64 (by omega) (by omega))) rfl rfl ?_)
          refine S.op (S.q (q_move rfl) rfl rfl ?_)
          first | with_reducible refine S.nilK ?_ | refine S.nil ?_
          with_reducible repeat (first | refine S.then_n ?_ | refine S.then_x ?_ | refine S.then_r ?_ | refine S.inBlock_n ?_ | refine S.inBlock_r ?_ | refine S.inBlock_x rfl ?_ | refine S.noGoto_r ?_ | refine S.noGoto_n ?_ | refine S.noGoto_x ?_)
          exact S.next (m - 1) (⟨k + 1, dn', o' ++ [y], u2, by omega, by rw [hins', List.append_assoc]; rfl, rfl, rfl⟩) (by omega) (by repeat (first | exact trivial | refine ⟨rfl, ?_⟩)) Sub.ent
      · refine S.g_no rfl rfl rfl (hg8_2) rfl rfl ?_
        refine S.g_no rfl rfl rfl (hg8_2) rfl rfl ?_
        refine S.g_no rfl rfl rfl (hg8_2) rfl rfl ?_
        refine S.g_op rfl (S.q (q_pickF rfl (hg8_2) rfl) rfl rfl ?_)
        first | with_reducible refine S.g_nilK ?_ | refine S.g_nil ?_
        refine hK14 _ _ ?_
        refine S.cut (fun ρ' Γ' => ∃ (dn' : Bool) (o' : List It) (uo' : SV), uo'.n = o'.length ∧ ins x l = o' ++ y :: (if dn' = true then l.drop (k + 1) else ins x (l.drop (k + 1))) ∧ ρ' = [(3, .pointer (some ⟨b3, 0, none⟩)), (6, uo'.v), (7, .bool dn'), (9, .pointer (some ⟨b9, 0, none⟩)), (16, lv.v), (17, .int .i64 lv.n), (18, .int .i64 k)] ∧ Γ' = refO uo' o' :: refO lv l :: blk b3 24 (itC x).toArray :: blk b9 24 (itC y).toArray :: Γ) ?_ ?_
        · refine S.condF rfl ?_
          refine S.skip ?_
          with_reducible repeat (first | refine S.then_n ?_ | refine S.then_x ?_ | refine S.then_r ?_ | refine S.inBlock_n ?_ | refine S.inBlock_r ?_ | refine S.inBlock_x rfl ?_ | refine S.noGoto_r ?_ | refine S.noGoto_n ?_ | refine S.noGoto_x ?_)
          with_reducible repeat (first | refine S.then_n ?_ | refine S.then_x ?_ | refine S.then_r ?_ | refine S.inBlock_n ?_ | refine S.inBlock_r ?_ | refine S.inBlock_x rfl ?_ | refine S.noGoto_r ?_ | refine S.noGoto_n ?_ | refine S.noGoto_x ?_)
          first
          | exact S.meet ⟨true, o ++ [x], u1, by simp; omega, hW2 (by simpa using hg8_2) h3, rfl, rfl⟩ ⟨rfl, rfl, rfl, rfl, rfl, rfl, rfl, trivial⟩ Sub.ent
          | exact S.meet ⟨dn, o, uo, by omega, hW1 (by simpa using hg8_2), rfl, rfl⟩ ⟨rfl, rfl, rfl, rfl, rfl, rfl, rfl, trivial⟩ Sub.ent
          | exact S.meet ⟨dn, o, uo, by omega, hW3 (by simpa using hg8_2) h3, rfl, rfl⟩ ⟨rfl, rfl, rfl, rfl, rfl, rfl, rfl, trivial⟩ Sub.ent
        · rintro ρ' Γ' ⟨dn', o', uo', huo', hins', rfl, rfl⟩
          have hol' : o'.length ≤ l.length + 1 := by have := congrArg List.length hins'; rw [hil, List.length_append] at this; omega
          refine hK13 _ _ ?_
          refine S.region rfl ?_
          refine S.op (S.q (q_move rfl) rfl rfl ?_)
          refine S.op (S.q (q_loadS [_, _, _] Try.ag24 rfl rfl ⟨rfl, rfl, rfl, trivial⟩) rfl rfl ?_)
          refine S.op (S.buildSlice (pvs := [(_, _)]) [_, _, _] Try.underlying30 Try.inf24 rfl rfl ⟨⟨rfl, rfl⟩, trivial⟩ rfl rfl ?_)
          intro b35
          refine S.op (S.appendOw (s := uo') (1) (itC y) Try.underlying30 Try.inf24 rfl rfl rfl (blk_slAt (b := b35) rfl (by unfold maxLen; omega)) (by first | rfl | exact allOne_bcells _) (⟨by omega, by omega⟩) rfl ?_)
          intro u2 hu2
          rw [flat_snoc itC o' y]
          refine S.op (S.q (q_assign rfl) rfl rfl ?_)
          first | with_reducible refine S.nilK ?_ | refine S.nil ?_
          with_reducible repeat (first | refine S.then_n ?_ | refine S.then_x ?_ | refine S.then_r ?_ | refine S.inBlock_n ?_ | refine S.inBlock_r ?_ | refine S.inBlock_x rfl ?_ | refine S.noGoto_r ?_ | refine S.noGoto_n ?_ | refine S.noGoto_x ?_)
          refine hK11 _ _ ?_
          refine S.region rfl ?_
          refine S.op (S.q (q_add rfl rfl (inI64 (by omega) (by omega))) rfl rfl ?_)
          refine S.op (S.q (q_move rfl) rfl rfl ?_)
          first | with_reducible refine S.nilK ?_ | refine S.nil ?_
          with_reducible repeat (first | refine S.then_n ?_ | refine S.then_x ?_ | refine S.then_r ?_ | refine S.inBlock_n ?_ | refine S.inBlock_r ?_ | refine S.inBlock_x rfl ?_ | refine S.noGoto_r ?_ | refine S.noGoto_n ?_ | refine S.noGoto_x ?_)
          exact S.next (m - 1) (⟨k + 1, dn', o' ++ [y], u2, by omega, by rw [hins', List.append_assoc]; rfl, rfl, rfl⟩) (by omega) (by repeat (first | exact trivial | refine ⟨rfl, ?_⟩)) Sub.ent
    · refine S.exit ?_
      with_reducible repeat (first | refine S.then_n ?_ | refine S.then_x ?_ | refine S.then_r ?_ | refine S.inBlock_n ?_ | refine S.inBlock_r ?_ | refine S.inBlock_x rfl ?_ | refine S.noGoto_r ?_ | refine S.noGoto_n ?_ | refine S.noGoto_x ?_)
      with_reducible refine S.inBlock_s ?_
      with_reducible repeat (first | refine S.then_n ?_ | refine S.then_x ?_ | refine S.then_r ?_ | refine S.inBlock_n ?_ | refine S.inBlock_r ?_ | refine S.inBlock_x rfl ?_ | refine S.noGoto_r ?_ | refine S.noGoto_n ?_ | refine S.noGoto_x ?_)
      refine hK7 _ _ ?_
      refine S.seq fun K16 hK16 => ?_
      refine S.seq fun K17 hK17 => ?_
      refine S.region rfl ?_
      refine S.op (S.q (q_move rfl) rfl rfl ?_)
      refine S.op (S.q (q_not rfl) rfl rfl ?_)
      first | with_reducible refine S.nilK ?_ | refine S.nil ?_
      refine hK17 _ _ ?_
      refine S.cond rfl (fun h4 => ?_) (fun h4 => ?_)
      · have hend : o ++ [x] = ins x l := by
          have e : dn = false := by simpa using h4
          subst e
          rw [hins, List.drop_eq_nil_of_le (by omega)]
          rfl
        refine S.region rfl ?_
        refine S.op (S.q (q_move rfl) rfl rfl ?_)
        refine S.op (S.q (q_loadS [_, _, _] Try.ag24 rfl rfl ⟨rfl, rfl, rfl, trivial⟩) rfl rfl ?_)
        refine S.op (S.buildSlice (pvs := [(_, _)]) [_, _, _] Try.underlying30 Try.inf24 rfl rfl ⟨⟨rfl, rfl⟩, trivial⟩ rfl rfl ?_)
        intro b42
        refine S.op (S.appendOw (s := uo) (1) (itC x) Try.underlying30 Try.inf24 rfl rfl rfl (blk_slAt (b := b42) rfl (by unfold maxLen; omega)) (by first | rfl | exact allOne_bcells _) (⟨by omega, by omega⟩) rfl ?_)
        intro u3 hu3
        rw [flat_snoc itC o x, hend]
        refine S.op (S.q (q_assign rfl) rfl rfl ?_)
        first | with_reducible refine S.nilK ?_ | refine S.nil ?_
        refine hK16 _ _ ?_
        refine S.seq fun K18 hK18 => ?_
        refine S.region rfl ?_
        refine S.op (S.q (q_move rfl) rfl rfl ?_)
        refine S.op (S.q (q_assign rfl) rfl rfl ?_)
        refine S.op (S.q (q_assign rfl) rfl rfl ?_)
        first | with_reducible refine S.nilK ?_ | refine S.nil ?_
        refine hK18 _ _ ?_
        refine S.ret ?_
        with_reducible repeat (first | refine S.then_n ?_ | refine S.then_x ?_ | refine S.then_r ?_ | refine S.inBlock_n ?_ | refine S.inBlock_r ?_ | refine S.inBlock_x rfl ?_ | refine S.noGoto_r ?_ | refine S.noGoto_n ?_ | refine S.noGoto_x ?_)
        exact S.fin (rs := [_, _]) (vs := [_, _]) Try.results17 (⟨rfl, rfl, trivial⟩)  (by first | exact ⟨u3, by simp only [resV]; rw [hr1], by rw [hr2]⟩ | exact ⟨uo, by simp only [resV]; rw [hr1], by rw [hr2]⟩) Sub.ent
      · have hend : o = ins x l := by
          have e : dn = true := by simpa using h4
          subst e
          rw [hins, List.drop_eq_nil_of_le (by omega)]
          simp
        rw [hend]
        refine S.skip ?_
        with_reducible repeat (first | refine S.then_n ?_ | refine S.then_x ?_ | refine S.then_r ?_ | refine S.inBlock_n ?_ | refine S.inBlock_r ?_ | refine S.inBlock_x rfl ?_ | refine S.noGoto_r ?_ | refine S.noGoto_n ?_ | refine S.noGoto_x ?_)
        refine hK16 _ _ ?_
        refine S.seq fun K19 hK19 => ?_
        refine S.region rfl ?_
        refine S.op (S.q (q_move rfl) rfl rfl ?_)
        refine S.op (S.q (q_assign rfl) rfl rfl ?_)
        refine S.op (S.q (q_assign rfl) rfl rfl ?_)
        first | with_reducible refine S.nilK ?_ | refine S.nil ?_
        refine hK19 _ _ ?_
        refine S.ret ?_
        with_reducible repeat (first | refine S.then_n ?_ | refine S.then_x ?_ | refine S.then_r ?_ | refine S.inBlock_n ?_ | refine S.inBlock_r ?_ | refine S.inBlock_x rfl ?_ | refine S.noGoto_r ?_ | refine S.noGoto_n ?_ | refine S.noGoto_x ?_)
        exact S.fin (rs := [_, _]) (vs := [_, _]) Try.results17 (⟨rfl, rfl, trivial⟩)  (by first | exact ⟨u3, by simp only [resV]; rw [hr1], by rw [hr2]⟩ | exact ⟨uo, by simp only [resV]; rw [hr1], by rw [hr2]⟩) Sub.ent
end Go.Proofs.Ythpfljiabhjodaa
