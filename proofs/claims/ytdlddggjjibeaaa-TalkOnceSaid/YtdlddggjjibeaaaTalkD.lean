/- Talk: Tick. -/
import Derived.Test.YtdlddggjjibeaaaTalkC
namespace Go.Proofs.Ytdlddggjjibeaaa
open Go.RowKit
def inc (x : Slt) : Slt := { x with wait := x.wait + 1 }
def zer (x : Slt) : Slt := { x with wait := 0 }
/-- Nothing is told now. -/
def quiet : List Slt → Bool
  | [] => true
  | x :: _ => decide (x.wait + 1 < 2)
/-- A packet in a row: its number, its bytes. -/
structure Pk where
  seq : Int
  data : List Int
  v : SV
abbrev pkE (nd ep lf hd : Int) (x : Pk) : List Value := pkC nd ep lf x.seq hd false x.v
def pkB (x : Pk) : Assn := obytes x.v x.data
theorem TickNil_S : Spec Try.prog 14 [.pointer none] [] fun Γ v Θ => v = .slice none 0 0 ∧ Θ = Γ := by
  refine Spec.of_body Try.func14 rfl Try.ntmps14 rfl ?_
  intro w0 Γ
  show S _ w0 [(0, .pointer none)] Γ _
  refine S.seq fun K1 hK1 => ?_
  refine S.region rfl ?_
  refine S.op (S.q (q_assign rfl) rfl rfl ?_)
  first | with_reducible refine S.nilK ?_ | refine S.nil ?_
  refine hK1 _ _ ?_
  refine S.seq fun K2 hK2 => ?_
  refine S.seq fun K3 hK3 => ?_
  refine S.region rfl ?_
  refine S.op (S.q (q_move rfl) rfl rfl ?_)
  refine S.op (S.q (q_eqN Try.underlying24 rfl rfl) rfl rfl ?_)
  first | with_reducible refine S.nilK ?_ | refine S.nil ?_
  refine hK3 _ _ ?_
  refine S.condT rfl ?_
  refine S.seq fun K4 hK4 => ?_
  refine S.region rfl ?_
  refine S.op (S.q (q_assign rfl) rfl rfl ?_)
  first | with_reducible refine S.nilK ?_ | refine S.nil ?_
  refine hK4 _ _ ?_
  refine S.ret ?_
  with_reducible repeat (first | refine S.then_n ?_ | refine S.then_x ?_ | refine S.then_r ?_ | refine S.inBlock_n ?_ | refine S.inBlock_r ?_ | refine S.inBlock_x rfl ?_ | refine S.noGoto_r ?_ | refine S.noGoto_n ?_ | refine S.noGoto_x ?_)
  exact S.fin (rs := [_]) (vs := [_]) Try.results14 (⟨rfl, trivial⟩)  (⟨rfl, rfl⟩) Sub.ent
set_option maxHeartbeats 400000 in
theorem Tick_S (t : Nat) (nd ep lf said hd : Int) (ov : SV) (os : List Slt) (hw : ∀ x ∈ os, 0 ≤ x.wait ∧ x.wait < 4611686018427387904) (hdl : ∀ x ∈ os, x.data.length ≤ 140737488355328) (hol : os.length ≤ 1000) :
    Spec Try.prog 14 [.pointer (some ⟨t, 0, none⟩)] [blk t 72 (tk nd ep lf said hd ov).toArray, own ov 76 3 (os.flatMap sltC), alls os sltB] fun Γ v Θ =>
      (quiet os = true ∧ v = .slice none 0 0 ∧ Θ = blk t 72 (tk nd ep lf said hd ov).toArray :: own ov 76 3 ((os.map inc).flatMap sltC) :: alls os sltB :: Γ) ∨
      (quiet os = false ∧ ∃ (out : SV) (ps : List Pk), v = out.v ∧ ps.map (fun y => (y.seq, y.data)) = os.map (fun x => (x.seq, x.data)) ∧
        Θ = own out 34 7 (ps.flatMap (pkE nd ep lf hd)) :: alls ps pkB :: blk t 72 (tk nd ep lf said hd ov).toArray :: own ov 76 3 ((os.map zer).flatMap sltC) :: alls os sltB :: Γ) := by
  refine Spec.of_body Try.func14 rfl Try.ntmps14 rfl ?_
  intro w0 Γ
  show S _ w0 [(0, .pointer (some ⟨t, 0, none⟩))] (blk t 72 (tk nd ep lf said hd ov).toArray :: own ov 76 3 (os.flatMap sltC) :: alls os sltB :: Γ) _
  refine S.ownLen ov fun hlen hnc hcm => ?_
  rw [flat_length sltC_len] at hlen
  unfold maxLen at hcm
  refine S.seq fun K1 hK1 => ?_
  refine S.region rfl ?_
  refine S.op (S.q (q_assign rfl) rfl rfl ?_)
  first | with_reducible refine S.nilK ?_ | refine S.nil ?_
  refine hK1 _ _ ?_
  refine S.seq fun K2 hK2 => ?_
  refine S.seq fun K3 hK3 => ?_
  refine S.region rfl ?_
  refine S.op (S.q (q_move rfl) rfl rfl ?_)
  refine S.op (S.q (q_eqN Try.underlying24 rfl rfl) rfl rfl ?_)
  first | with_reducible refine S.nilK ?_ | refine S.nil ?_
  refine hK3 _ _ ?_
  refine S.condF rfl ?_
  refine S.skip ?_
  with_reducible repeat (first | refine S.then_n ?_ | refine S.then_x ?_ | refine S.then_r ?_ | refine S.inBlock_n ?_ | refine S.inBlock_r ?_ | refine S.inBlock_x rfl ?_ | refine S.noGoto_r ?_ | refine S.noGoto_n ?_ | refine S.noGoto_x ?_)
  refine hK2 _ _ ?_
  refine S.seq fun K4 hK4 => ?_
  refine S.seq fun K5 hK5 => ?_
  refine S.region rfl ?_
  refine S.op (S.q (q_move rfl) rfl rfl ?_)
  refine S.op (S.q (q_nilCheck rfl) rfl rfl ?_)
  refine S.op (S.q (q_field Try.fo72_2 rfl) rfl rfl ?_)
  refine S.op (S.q (q_load Try.at70 rfl rfl) rfl rfl ?_)
  refine S.op (S.q (q_len Try.underlying70 rfl) rfl rfl ?_)
  refine S.op (S.q (q_move rfl) rfl rfl ?_)
  first | with_reducible refine S.nilK ?_ | refine S.nil ?_
  refine hK5 _ _ ?_
  refine S.block ?_
  refine S.loop (fun m ρ' Γ' => ∃ k : Nat, m + k = ov.n ∧ ρ' = [(0, .pointer (some ⟨t, 0, none⟩)), (12, .int .i64 ov.n), (13, .int .i64 k)] ∧ Γ' = blk t 72 (tk nd ep lf said hd ov).toArray :: own ov 76 3 ((bump inc k os).flatMap sltC) :: alls os sltB :: Γ) (m := _) (ρ0 := _) (Γ0 := _) (⟨0, rfl, rfl, by rw [bump_zero]⟩) (by repeat (first | exact trivial | refine ⟨rfl, ?_⟩)) Sub.ent ?_
  rintro m ρ' Γ' ⟨k, hk, rfl, rfl⟩
  refine S.seq fun K6 hK6 => ?_
  refine S.region rfl ?_
  refine S.op (S.q (q_lt rfl rfl) rfl rfl ?_)
  first | with_reducible refine S.nilK ?_ | refine S.nil ?_
  refine hK6 _ _ ?_
  refine S.seq fun K7 hK7 => ?_
  refine S.condD rfl (fun h2 => ?_) (fun h2 => ?_)
  · obtain ⟨x, hx⟩ := getE (l := os) (i := k) (by omega)
    have hwx := hw x (List.mem_of_getElem? hx)
    have hbg := bump_get inc k os x hx
    refine S.ownSome ov (by omega) fun b off hb _ _ _ => ?_
    refine S.skip ?_
    with_reducible repeat (first | refine S.then_n ?_ | refine S.then_x ?_ | refine S.then_r ?_ | refine S.inBlock_n ?_ | refine S.inBlock_r ?_ | refine S.inBlock_x rfl ?_ | refine S.noGoto_r ?_ | refine S.noGoto_n ?_ | refine S.noGoto_x ?_)
    refine hK7 _ _ ?_
    refine S.seq fun K8 hK8 => ?_
    refine S.block ?_
    refine S.seq fun K9 hK9 => ?_
    refine S.region rfl ?_
    refine S.op (S.q (q_move rfl) rfl rfl ?_)
    refine S.op (S.q (q_assign rfl) rfl rfl ?_)
    first | with_reducible refine S.nilK ?_ | refine S.nil ?_
    refine hK9 _ _ ?_
    refine S.region rfl ?_
    refine S.op (S.q (q_move rfl) rfl rfl ?_)
    refine S.op (S.q (q_nilCheck rfl) rfl rfl ?_)
    refine S.op (S.q (q_field Try.fo72_2 rfl) rfl rfl ?_)
    refine S.op (S.q (q_load Try.at70 rfl rfl) rfl rfl ?_)
    refine S.op (S.q (q_move rfl) rfl rfl ?_)
    refine S.op (S.q (q_indexO (k) Try.el70 rfl hb rfl rfl (by omega)) rfl rfl ?_)
    refine S.op (S.q (q_field Try.fo76_2 rfl) rfl rfl ?_)
    refine S.op (S.q (q_loadOw (ov) (k * 3 + 2) Try.at3 rfl hb (by first | rfl | exact Nat.add_assoc _ _ _ | omega) (flat_get sltC_len hbg rfl)) rfl rfl ?_)
    refine S.op (S.q (q_add rfl rfl (inI64 (by omega) (by omega))) rfl rfl ?_)
    refine S.op (S.q (q_indexO (k) Try.el70 rfl hb rfl rfl (by omega)) rfl rfl ?_)
    refine S.op (S.q (q_field Try.fo76_2 rfl) rfl rfl ?_)
    refine S.op (S.storeOw (ov) (k * 3 + 2) Try.at3 rfl rfl rfl hb (by first | rfl | exact Nat.add_assoc _ _ _ | omega) (by rw [flat_length sltC_len, bump_length]; omega) (by rw [flat_set sltC_len (x' := inc x) hbg (by omega) rfl]) ?_)
    first | with_reducible refine S.nilK ?_ | refine S.nil ?_
    with_reducible repeat (first | refine S.then_n ?_ | refine S.then_x ?_ | refine S.then_r ?_ | refine S.inBlock_n ?_ | refine S.inBlock_r ?_ | refine S.inBlock_x rfl ?_ | refine S.noGoto_r ?_ | refine S.noGoto_n ?_ | refine S.noGoto_x ?_)
    refine hK8 _ _ ?_
    refine S.region rfl ?_
    refine S.op (S.q (q_add rfl rfl (inI64 (by omega) (by omega))) rfl rfl ?_)
    refine S.op (S.q (q_move rfl) rfl rfl ?_)
    first | with_reducible refine S.nilK ?_ | refine S.nil ?_
    with_reducible repeat (first | refine S.then_n ?_ | refine S.then_x ?_ | refine S.then_r ?_ | refine S.inBlock_n ?_ | refine S.inBlock_r ?_ | refine S.inBlock_x rfl ?_ | refine S.noGoto_r ?_ | refine S.noGoto_n ?_ | refine S.noGoto_x ?_)
    exact S.next (ov.n - (k + 1)) (⟨k + 1, by omega, rfl, by rw [bump_succ inc k os x hx]⟩) (by omega) (by repeat (first | exact trivial | refine ⟨rfl, ?_⟩)) Sub.ent
  · have hk' : k = os.length := by omega
    subst hk'
    rw [bump_all]
    refine S.exit ?_
    with_reducible repeat (first | refine S.then_n ?_ | refine S.then_x ?_ | refine S.then_r ?_ | refine S.inBlock_n ?_ | refine S.inBlock_r ?_ | refine S.inBlock_x rfl ?_ | refine S.noGoto_r ?_ | refine S.noGoto_n ?_ | refine S.noGoto_x ?_)
    with_reducible refine S.inBlock_s ?_
    with_reducible repeat (first | refine S.then_n ?_ | refine S.then_x ?_ | refine S.then_r ?_ | refine S.inBlock_n ?_ | refine S.inBlock_r ?_ | refine S.inBlock_x rfl ?_ | refine S.noGoto_r ?_ | refine S.noGoto_n ?_ | refine S.noGoto_x ?_)
    refine hK4 _ _ ?_
    refine S.seq fun K10 hK10 => ?_
    refine S.seq fun K11 hK11 => ?_
    refine S.regionG ?_
    refine S.g_op rfl (S.q (q_move rfl) rfl rfl ?_)
    refine S.g_op rfl (S.q (q_nilCheck rfl) rfl rfl ?_)
    refine S.g_op rfl (S.q (q_field Try.fo72_2 rfl) rfl rfl ?_)
    refine S.g_op rfl (S.q (q_load Try.at70 rfl rfl) rfl rfl ?_)
    refine S.g_op rfl (S.q (q_len Try.underlying70 rfl) rfl rfl ?_)
    refine S.g_op rfl (S.q (q_eq rfl rfl) rfl rfl ?_)
    refine S.g_op rfl (S.q (q_move rfl) rfl rfl ?_)
    by_cases hg8_6 : (ov.n : Int) = 0
    · have hos : os = [] := List.eq_nil_of_length_eq_zero (by omega)
      have hq : quiet os = true := by rw [hos]; rfl
      refine S.g_no rfl rfl rfl (decide_eq_true hg8_6) rfl rfl ?_
      refine S.g_no rfl rfl rfl (decide_eq_true hg8_6) rfl rfl ?_
      refine S.g_no rfl rfl rfl (decide_eq_true hg8_6) rfl rfl ?_
      refine S.g_no rfl rfl rfl (decide_eq_true hg8_6) rfl rfl ?_
      refine S.g_no rfl rfl rfl (decide_eq_true hg8_6) rfl rfl ?_
      refine S.g_no rfl rfl rfl (decide_eq_true hg8_6) rfl rfl ?_
      refine S.g_no rfl rfl rfl (decide_eq_true hg8_6) rfl rfl ?_
      refine S.g_no rfl rfl rfl (decide_eq_true hg8_6) rfl rfl ?_
      refine S.g_op rfl (S.q (q_pickT rfl (decide_eq_true hg8_6) rfl) rfl rfl ?_)
      first | with_reducible refine S.g_nilK ?_ | refine S.g_nil ?_
      refine hK11 _ _ ?_
      refine S.condT rfl ?_
      refine S.seq fun K12 hK12 => ?_
      refine S.region rfl ?_
      refine S.op (S.q (q_assign rfl) rfl rfl ?_)
      first | with_reducible refine S.nilK ?_ | refine S.nil ?_
      refine hK12 _ _ ?_
      refine S.ret ?_
      with_reducible repeat (first | refine S.then_n ?_ | refine S.then_x ?_ | refine S.then_r ?_ | refine S.inBlock_n ?_ | refine S.inBlock_r ?_ | refine S.inBlock_x rfl ?_ | refine S.noGoto_r ?_ | refine S.noGoto_n ?_ | refine S.noGoto_x ?_)
      exact S.fin (rs := [_]) (vs := [_]) Try.results14 (⟨rfl, trivial⟩)  (.inl ⟨by first | exact hq | exact hqt, rfl, rfl⟩) Sub.ent
    · obtain ⟨x, hx⟩ := getE (l := os) (i := 0) (by omega)
      have hx' : (os.map inc)[0]? = some (inc x) := by rw [List.getElem?_map, hx]; rfl
      have hq : quiet os = decide (x.wait + 1 < 2) := by cases os with | nil => simp at hx | cons y r => (simp at hx; subst hx; rfl)
      refine S.ownSome ov (by omega) fun b off hb _ _ _ => ?_
      refine S.g_yes rfl rfl rfl (decide_eq_false hg8_6) (S.q (q_move rfl) rfl rfl ?_)
      refine S.g_yes rfl rfl rfl (decide_eq_false hg8_6) (S.q (q_nilCheck rfl) rfl rfl ?_)
      refine S.g_yes rfl rfl rfl (decide_eq_false hg8_6) (S.q (q_field Try.fo72_2 rfl) rfl rfl ?_)
      refine S.g_yes rfl rfl rfl (decide_eq_false hg8_6) (S.q (q_load Try.at70 rfl rfl) rfl rfl ?_)
      refine S.g_yes rfl rfl rfl (decide_eq_false hg8_6) (S.q (q_indexO (0) Try.el70 rfl hb rfl rfl (by omega)) rfl rfl ?_)
      refine S.g_yes rfl rfl rfl (decide_eq_false hg8_6) (S.q (q_field Try.fo76_2 rfl) rfl rfl ?_)
      refine S.g_yes rfl rfl rfl (decide_eq_false hg8_6) (S.q (q_loadOw (ov) (0 * 3 + 2) Try.at3 rfl hb (by first | rfl | exact Nat.add_assoc _ _ _ | omega) (flat_get sltC_len hx' rfl)) rfl rfl ?_)
      refine S.g_yes rfl rfl rfl (decide_eq_false hg8_6) (S.q (q_lt rfl rfl) rfl rfl ?_)
      refine S.g_op rfl (S.q (q_pickF rfl (decide_eq_false hg8_6) rfl) rfl rfl ?_)
      first | with_reducible refine S.g_nilK ?_ | refine S.g_nil ?_
      refine hK11 _ _ ?_
      refine S.condD rfl (fun h3 => ?_) (fun h3 => ?_)
      · have hqt : quiet os = true := by rw [hq]; exact decide_eq_true h3
        refine S.seq fun K13 hK13 => ?_
        refine S.region rfl ?_
        refine S.op (S.q (q_assign rfl) rfl rfl ?_)
        first | with_reducible refine S.nilK ?_ | refine S.nil ?_
        refine hK13 _ _ ?_
        refine S.ret ?_
        with_reducible repeat (first | refine S.then_n ?_ | refine S.then_x ?_ | refine S.then_r ?_ | refine S.inBlock_n ?_ | refine S.inBlock_r ?_ | refine S.inBlock_x rfl ?_ | refine S.noGoto_r ?_ | refine S.noGoto_n ?_ | refine S.noGoto_x ?_)
        exact S.fin (rs := [_]) (vs := [_]) Try.results14 (⟨rfl, trivial⟩)  (.inl ⟨by first | exact hq | exact hqt, rfl, rfl⟩) Sub.ent
      · have hqt : quiet os = false := by rw [hq]; exact decide_eq_false h3
        refine S.ent (show Ent _ (own SV.nil 34 7 (([] : List Pk).flatMap (pkE nd ep lf hd)) :: _) from Ent.ownNil _ _) ?_
        refine S.ent (Ent.allsNil pkB _) ?_
        refine S.skip ?_
        with_reducible repeat (first | refine S.then_n ?_ | refine S.then_x ?_ | refine S.then_r ?_ | refine S.inBlock_n ?_ | refine S.inBlock_r ?_ | refine S.inBlock_x rfl ?_ | refine S.noGoto_r ?_ | refine S.noGoto_n ?_ | refine S.noGoto_x ?_)
        refine hK10 _ _ ?_
        refine S.seq fun K14 hK14 => ?_
        refine S.region rfl ?_
        refine S.op (S.q (q_assign rfl) rfl rfl ?_)
        first | with_reducible refine S.nilK ?_ | refine S.nil ?_
        refine hK14 _ _ ?_
        refine S.seq fun K15 hK15 => ?_
        refine S.seq fun K16 hK16 => ?_
        refine S.region rfl ?_
        refine S.op (S.q (q_move rfl) rfl rfl ?_)
        refine S.op (S.q (q_nilCheck rfl) rfl rfl ?_)
        refine S.op (S.q (q_field Try.fo72_2 rfl) rfl rfl ?_)
        refine S.op (S.q (q_load Try.at70 rfl rfl) rfl rfl ?_)
        refine S.op (S.q (q_len Try.underlying70 rfl) rfl rfl ?_)
        refine S.op (S.q (q_move rfl) rfl rfl ?_)
        first | with_reducible refine S.nilK ?_ | refine S.nil ?_
        refine hK16 _ _ ?_
        refine S.block ?_
        refine S.loop (fun m ρ' Γ' => ∃ (k : Nat) (out : SV) (ps : List Pk), m + k = ov.n ∧ ps.map (fun y => (y.seq, y.data)) = (os.take k).map (fun x => (x.seq, x.data)) ∧ ρ' = [(0, .pointer (some ⟨t, 0, none⟩)), (48, .int .i64 ov.n), (49, .int .i64 k), (4, out.v)] ∧ Γ' = alls ps pkB :: own out 34 7 (ps.flatMap (pkE nd ep lf hd)) :: blk t 72 (tk nd ep lf said hd ov).toArray :: own ov 76 3 ((bump zer k (os.map inc)).flatMap sltC) :: alls os sltB :: Γ) (m := _) (ρ0 := _) (Γ0 := _) (⟨0, SV.nil, [], rfl, rfl, rfl, by rw [bump_zero]⟩) (by repeat (first | exact trivial | refine ⟨rfl, ?_⟩)) Sub.ent ?_
        rintro m ρ' Γ' ⟨k, out, ps, hk, hps, rfl, rfl⟩
        refine S.seq fun K17 hK17 => ?_
        refine S.region rfl ?_
        refine S.op (S.q (q_lt rfl rfl) rfl rfl ?_)
        first | with_reducible refine S.nilK ?_ | refine S.nil ?_
        refine hK17 _ _ ?_
        refine S.seq fun K18 hK18 => ?_
        refine S.condD rfl (fun h4 => ?_) (fun h4 => ?_)
        · obtain ⟨y, hy⟩ := getE (l := os) (i := k) (by omega)
          have hy' : (os.map inc)[k]? = some (inc y) := by rw [List.getElem?_map, hy]; rfl
          have hbg := bump_get zer k (os.map inc) (inc y) hy'
          have hbs := bump_succ zer k (os.map inc) (inc y) hy'
          have hbl : (bump zer (k + 1) (os.map inc)).length = os.length := by rw [bump_length, List.length_map]
          have hbg' : (bump zer (k + 1) (os.map inc))[k]? = some (zer (inc y)) := by rw [hbs]; exact List.getElem?_set_self (by rw [bump_length, List.length_map]; omega)
          have hpl : ps.length = k := by have := congrArg List.length hps; simp at this; omega
          refine S.ownSome ov (by omega) fun b off hb _ _ _ => ?_
          refine S.ownLen out fun holn _ _ => ?_
          rw [flat_length (sz := 7) (fun _ => rfl)] at holn
          refine S.skip ?_
          with_reducible repeat (first | refine S.then_n ?_ | refine S.then_x ?_ | refine S.then_r ?_ | refine S.inBlock_n ?_ | refine S.inBlock_r ?_ | refine S.inBlock_x rfl ?_ | refine S.noGoto_r ?_ | refine S.noGoto_n ?_ | refine S.noGoto_x ?_)
          refine hK18 _ _ ?_
          refine S.seq fun K19 hK19 => ?_
          refine S.block ?_
          refine S.seq fun K20 hK20 => ?_
          refine S.region rfl ?_
          refine S.op (S.q (q_move rfl) rfl rfl ?_)
          refine S.op (S.q (q_assign rfl) rfl rfl ?_)
          first | with_reducible refine S.nilK ?_ | refine S.nil ?_
          refine hK20 _ _ ?_
          refine S.seq fun K21 hK21 => ?_
          refine S.region rfl ?_
          refine S.op (S.q (q_move rfl) rfl rfl ?_)
          refine S.op (S.q (q_nilCheck rfl) rfl rfl ?_)
          refine S.op (S.q (q_field Try.fo72_2 rfl) rfl rfl ?_)
          refine S.op (S.q (q_load Try.at70 rfl rfl) rfl rfl ?_)
          refine S.op (S.q (q_move rfl) rfl rfl ?_)
          refine S.op (S.q (q_indexO (k) Try.el70 rfl hb rfl rfl (by omega)) rfl rfl ?_)
          refine S.op (S.q (q_field Try.fo76_2 rfl) rfl rfl ?_)
          refine S.op (S.storeOw (ov) (k * 3 + 2) Try.at3 rfl rfl rfl hb (by first | rfl | exact Nat.add_assoc _ _ _ | omega) (by rw [flat_length sltC_len, bump_length, List.length_map]; omega) ((flat_set sltC_len (x' := zer (inc y)) hbg (by omega) rfl).trans (by rw [← hbs])) ?_)
          first | with_reducible refine S.nilK ?_ | refine S.nil ?_
          refine hK21 _ _ ?_
          refine S.region rfl ?_
          refine S.op (S.q (q_move rfl) rfl rfl ?_)
          refine S.op (S.q (q_move rfl) rfl rfl ?_)
          refine S.op (S.q (q_move rfl) rfl rfl ?_)
          refine S.op (S.q (q_nilCheck rfl) rfl rfl ?_)
          refine S.op (S.q (q_field Try.fo72_2 rfl) rfl rfl ?_)
          refine S.op (S.q (q_load Try.at70 rfl rfl) rfl rfl ?_)
          refine S.op (S.q (q_move rfl) rfl rfl ?_)
          refine S.op (S.q (q_indexO (k) Try.el70 rfl hb rfl rfl (by omega)) rfl rfl ?_)
          refine S.op (S.q (q_loadOwS (ov) (k * 3) [_, _, _] Try.ag76 rfl hb (by first | rfl | exact Nat.add_assoc _ _ _ | omega) rfl (flat_seg sltC_len hbg')) rfl rfl ?_)
          refine S.conv (alls os sltB) (Ent.allsAt sltB hy _) ?_
          refine S.op (S.call Try.en28 (vs := [_, _]) ⟨rfl, rfl, trivial⟩ (packet_S t nd ep lf said hd y.seq 0 ov y.v y.data (sltB y) (fun Γ w h => obytes_at h) (hdl y (List.mem_of_getElem? hy))) rfl ?_)
          rintro v Θ ⟨u, rfl, hu, rfl⟩
          refine S.op (S.buildSlice (pvs := [(_, _)]) [_, _, _, _, _, _, _] Try.underlying30 Try.inf34 rfl rfl ⟨⟨rfl, rfl⟩, trivial⟩ rfl rfl ?_)
          intro b69
          refine S.op (S.appendOw (s := out) (1) (pkE nd ep lf hd ⟨y.seq, y.data, u⟩) Try.underlying30 Try.inf34 rfl rfl rfl (blk_slAt (b := b69) rfl (by unfold maxLen; omega)) (by first | rfl | exact allOne_bcells _) (⟨by omega, by omega⟩) rfl ?_)
          intro out' hout'
          refine S.op (S.q (q_assign rfl) rfl rfl ?_)
          first | with_reducible refine S.nilK ?_ | refine S.nil ?_
          with_reducible repeat (first | refine S.then_n ?_ | refine S.then_x ?_ | refine S.then_r ?_ | refine S.inBlock_n ?_ | refine S.inBlock_r ?_ | refine S.inBlock_x rfl ?_ | refine S.noGoto_r ?_ | refine S.noGoto_n ?_ | refine S.noGoto_x ?_)
          refine hK19 _ _ ?_
          refine S.region rfl ?_
          refine S.op (S.q (q_add rfl rfl (inI64 (by omega) (by omega))) rfl rfl ?_)
          refine S.op (S.q (q_move rfl) rfl rfl ?_)
          first | with_reducible refine S.nilK ?_ | refine S.nil ?_
          with_reducible repeat (first | refine S.then_n ?_ | refine S.then_x ?_ | refine S.then_r ?_ | refine S.inBlock_n ?_ | refine S.inBlock_r ?_ | refine S.inBlock_x rfl ?_ | refine S.noGoto_r ?_ | refine S.noGoto_n ?_ | refine S.noGoto_x ?_)
          rw [flat_snoc (pkE nd ep lf hd) ps ⟨y.seq, y.data, u⟩]
          refine S.conv2 (obytes u y.data) (alls ps pkB) (Ent.allsSnoc pkB ps ⟨y.seq, y.data, u⟩ _) ?_
          refine S.conv3 (sltB y) (alls (os.take k) sltB) (alls (os.drop (k + 1)) sltB) (Ent.allsBack' sltB hy _) ?_
          exact S.next (ov.n - (k + 1)) (⟨k + 1, out', ps ++ [⟨y.seq, y.data, u⟩], by omega, by rw [List.map_append, take_snoc _ os k y hy, hps]; rfl, rfl, rfl⟩) (by omega) (by repeat (first | exact trivial | refine ⟨rfl, ?_⟩)) Sub.ent
        · have hkk : k = os.length := by omega
          rw [show bump zer k (os.map inc) = os.map zer by have := bump_all zer (os.map inc); rw [List.length_map, List.map_map] at this; rw [hkk]; exact this]
          refine S.exit ?_
          with_reducible repeat (first | refine S.then_n ?_ | refine S.then_x ?_ | refine S.then_r ?_ | refine S.inBlock_n ?_ | refine S.inBlock_r ?_ | refine S.inBlock_x rfl ?_ | refine S.noGoto_r ?_ | refine S.noGoto_n ?_ | refine S.noGoto_x ?_)
          with_reducible refine S.inBlock_s ?_
          with_reducible repeat (first | refine S.then_n ?_ | refine S.then_x ?_ | refine S.then_r ?_ | refine S.inBlock_n ?_ | refine S.inBlock_r ?_ | refine S.inBlock_x rfl ?_ | refine S.noGoto_r ?_ | refine S.noGoto_n ?_ | refine S.noGoto_x ?_)
          refine hK15 _ _ ?_
          refine S.seq fun K22 hK22 => ?_
          refine S.region rfl ?_
          refine S.op (S.q (q_move rfl) rfl rfl ?_)
          refine S.op (S.q (q_assign rfl) rfl rfl ?_)
          first | with_reducible refine S.nilK ?_ | refine S.nil ?_
          refine hK22 _ _ ?_
          refine S.ret ?_
          with_reducible repeat (first | refine S.then_n ?_ | refine S.then_x ?_ | refine S.then_r ?_ | refine S.inBlock_n ?_ | refine S.inBlock_r ?_ | refine S.inBlock_x rfl ?_ | refine S.noGoto_r ?_ | refine S.noGoto_n ?_ | refine S.noGoto_x ?_)
          exact S.fin (rs := [_]) (vs := [_]) Try.results14 (⟨rfl, trivial⟩)  (.inr ⟨hqt, out, ps, rfl, by rw [hps, hkk, List.take_length], rfl⟩) Sub.ent
end Go.Proofs.Ytdlddggjjibeaaa
