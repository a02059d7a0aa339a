/- Once rows are put together none can be; once jobs are put ahead none can move. Of no program. -/
import Derived.Laws.StructEq
import Derived.Test.YtegjmmocnffpiaaDoorMH3
/- The document's lists held against lists: Same, SameInts. -/
namespace Go.Proofs.YtegjmmocnffpiaaDoor
open Go.RowKit
set_option maxRecDepth 20000
abbrev u32s (l : List Int) : List Value := l.map (Value.int .u32)
theorem u32s_get {l : List Int} {i : Nat} {x : Int} (h : l[i]? = some x) : (u32s l)[i]? = some (.int .u32 x) := by rw [List.getElem?_map, h]; rfl
theorem SameInts_S (A B : Assn) (s t : SV) (k l : List Int) (hA : RdS A s s.n 1 (ints k)) (hB : RdS B t t.n 1 (ints l)) (hk : s.n = k.length) (hl : t.n = l.length) : Spec Tryd.prog 29 [s.v, t.v] [A, B] fun Γ v Θ => v = .bool (decide (k = l)) ∧ Θ = A :: B :: Γ := by
  refine Spec.of_body Tryd.func29 rfl Tryd.ntmps29 rfl ?_
  intro w0 Γ
  show S _ w0 [(0, s.v), (1, t.v)] (A :: B :: Γ) _
  refine S.rCap hA fun _ hc1 hc2 => ?_
  refine S.rCap hB fun _ hd1 hd2 => ?_
  refine S.seq fun K1 hK1 => ?_
  refine S.region rfl ?_
  refine S.op (S.q (q_assign rfl) rfl rfl ?_)
  first | with_reducible refine S.nilK ?_ | refine S.nil ?_
  refine hK1 _ _ ?_
  refine S.seq fun K2 hK2 => ?_
  refine S.seq fun K3 hK3 => ?_
  refine S.region rfl ?_
  refine S.op (S.q (q_move rfl) rfl rfl ?_)
  refine S.op (S.q (q_len Tryd.underlying69 rfl) rfl rfl ?_)
  refine S.op (S.q (q_move rfl) rfl rfl ?_)
  refine S.op (S.q (q_len Tryd.underlying69 rfl) rfl rfl ?_)
  refine S.op (S.q (q_ne rfl rfl) rfl rfl ?_)
  first | with_reducible refine S.nilK ?_ | refine S.nil ?_
  refine hK3 _ _ ?_
  refine S.condD rfl (fun h1 => ?_) (fun h1 => ?_)
  · have hne : k ≠ l := fun e => h1 (by rw [hk, hl, e])
    refine S.seq fun K4 hK4 => ?_
    refine S.region rfl ?_
    refine S.op (S.q (q_assign rfl) rfl rfl ?_)
    first | with_reducible refine S.nilK ?_ | refine S.nil ?_
    refine hK4 _ _ ?_
    refine S.ret ?_
    with_reducible repeat (first | refine S.then_n ?_ | refine S.then_x ?_ | refine S.then_r ?_ | refine S.inBlock_n ?_ | refine S.inBlock_r ?_ | refine S.inBlock_x rfl ?_ | refine S.noGoto_r ?_ | refine S.noGoto_n ?_ | refine S.noGoto_x ?_)
    exact S.fin (rs := [_]) (vs := [_]) Tryd.results29 (⟨rfl, trivial⟩)  (⟨by simp only [resV]; rw [decide_eq_false hne], rfl⟩) Sub.ent
  · have hlen : k.length = l.length := by omega
    refine S.skip ?_
    with_reducible repeat (first | refine S.then_n ?_ | refine S.then_x ?_ | refine S.then_r ?_ | refine S.inBlock_n ?_ | refine S.inBlock_r ?_ | refine S.inBlock_x rfl ?_ | refine S.noGoto_r ?_ | refine S.noGoto_n ?_ | refine S.noGoto_x ?_)
    refine hK2 _ _ ?_
    refine S.seq fun K5 hK5 => ?_
    refine S.seq fun K6 hK6 => ?_
    refine S.region rfl ?_
    refine S.op (S.q (q_move rfl) rfl rfl ?_)
    refine S.op (S.q (q_len Tryd.underlying69 rfl) rfl rfl ?_)
    refine S.op (S.q (q_move rfl) rfl rfl ?_)
    first | with_reducible refine S.nilK ?_ | refine S.nil ?_
    refine hK6 _ _ ?_
    refine S.block ?_
    refine S.loop (fun q ρ' Γ' => ∃ i : Nat, q = k.length - i ∧ i ≤ k.length ∧ sameUp k l i = true ∧ ρ' = [(0, s.v), (1, t.v), (12, .int .i64 s.n), (13, .int .i64 (i : Int))] ∧ Γ' = A :: B :: Γ) (m := _) (ρ0 := _) (Γ0 := _) (⟨0, rfl, by omega, rfl, rfl, rfl⟩) (by repeat (first | exact trivial | refine ⟨rfl, ?_⟩)) Sub.ent ?_
    rintro q ρ' Γ' ⟨i, hq, hi, hsu, rfl, rfl⟩
    refine S.seq fun K7 hK7 => ?_
    refine S.region rfl ?_
    refine S.op (S.q (q_lt rfl rfl) rfl rfl ?_)
    first | with_reducible refine S.nilK ?_ | refine S.nil ?_
    refine hK7 _ _ ?_
    refine S.seq fun K8 hK8 => ?_
    refine S.condD rfl (fun h2 => ?_) (fun h2 => ?_)
    · refine S.rSome hA (by omega) fun sb so hsa => ?_
      refine S.rSome hB (by omega) fun tb tf hta => ?_
      obtain ⟨x, hx⟩ := getE (show i < k.length by omega)
      obtain ⟨y, hy⟩ := getE (show i < l.length by omega)
      have hsu2 : sameUp k l (i + 1) = decide (x = y) := by rw [sameUp, hsu]; simp [List.getD, hx, hy]
      refine S.skip ?_
      with_reducible repeat (first | refine S.then_n ?_ | refine S.then_x ?_ | refine S.then_r ?_ | refine S.inBlock_n ?_ | refine S.inBlock_r ?_ | refine S.inBlock_x rfl ?_ | refine S.noGoto_r ?_ | refine S.noGoto_n ?_ | refine S.noGoto_x ?_)
      refine hK8 _ _ ?_
      refine S.seq fun K9 hK9 => ?_
      refine S.block ?_
      refine S.seq fun K10 hK10 => ?_
      refine S.region rfl ?_
      refine S.op (S.q (q_move rfl) rfl rfl ?_)
      refine S.op (S.q (q_assign rfl) rfl rfl ?_)
      first | with_reducible refine S.nilK ?_ | refine S.nil ?_
      refine hK10 _ _ ?_
      refine S.seq fun K11 hK11 => ?_
      refine S.draw ([A, B]) [] Tryd.mixed ?_
      refine S.dr_take 0 [] rfl (by kernel_rfl) rfl rfl rfl (q_move rfl) Sub.ent ?_
      refine S.dr_take 1 [] rfl (by kernel_rfl) rfl rfl rfl (q_move rfl) Sub.ent ?_
      refine S.dr_take 2 [] rfl (by kernel_rfl) rfl rfl rfl (q_indexO (i) Tryd.el69 rfl hsa rfl rfl (by omega)) Sub.ent ?_
      refine S.dr_take 3 [] rfl (by kernel_rfl) rfl rfl rfl (q_loadR hA i Tryd.at3 rfl hsa (by omega) (by omega) (ints_get hx)) Sub.ent ?_
      refine S.dr_take 4 [] rfl (by kernel_rfl) rfl rfl rfl (q_move rfl) Sub.ent ?_
      refine S.dr_take 5 [] rfl (by kernel_rfl) rfl rfl rfl (q_move rfl) Sub.ent ?_
      refine S.dr_take 6 [] rfl (by kernel_rfl) rfl rfl rfl (q_indexO (i) Tryd.el69 rfl hta rfl rfl (by omega)) Sub.ent ?_
      refine S.dr_take 7 [] rfl (by kernel_rfl) rfl rfl rfl (q_loadR hB i Tryd.at3 rfl hta (by omega) (by omega) (ints_get hy)) Sub.ent ?_
      refine S.dr_take 8 [] rfl (by kernel_rfl) rfl rfl rfl (q_ne rfl rfl) Sub.ent ?_
      first | with_reducible refine S.dr_doneK (by kernel_rfl) ?_ | refine S.dr_done (by kernel_rfl) ?_
      refine hK11 _ _ ?_
      refine S.condD rfl (fun h3 => ?_) (fun h3 => ?_)
      · have hne : k ≠ l := fun e => h3 (by rw [e, hy] at hx; exact (Option.some.inj hx).symm)
        refine S.seq fun K12 hK12 => ?_
        refine S.region rfl ?_
        refine S.op (S.q (q_assign rfl) rfl rfl ?_)
        first | with_reducible refine S.nilK ?_ | refine S.nil ?_
        refine hK12 _ _ ?_
        refine S.ret ?_
        with_reducible repeat (first | refine S.then_n ?_ | refine S.then_x ?_ | refine S.then_r ?_ | refine S.inBlock_n ?_ | refine S.inBlock_r ?_ | refine S.inBlock_x rfl ?_ | refine S.noGoto_r ?_ | refine S.noGoto_n ?_ | refine S.noGoto_x ?_)
        exact S.fin (rs := [_]) (vs := [_]) Tryd.results29 (⟨rfl, trivial⟩)  (⟨by simp only [resV]; rw [decide_eq_false hne], rfl⟩) Sub.ent
      · have hxy : x = y := Classical.byContradiction h3
        refine S.skip ?_
        with_reducible repeat (first | refine S.then_n ?_ | refine S.then_x ?_ | refine S.then_r ?_ | refine S.inBlock_n ?_ | refine S.inBlock_r ?_ | refine S.inBlock_x rfl ?_ | refine S.noGoto_r ?_ | refine S.noGoto_n ?_ | refine S.noGoto_x ?_)
        with_reducible repeat (first | refine S.then_n ?_ | refine S.then_x ?_ | refine S.then_r ?_ | refine S.inBlock_n ?_ | refine S.inBlock_r ?_ | refine S.inBlock_x rfl ?_ | refine S.noGoto_r ?_ | refine S.noGoto_n ?_ | refine S.noGoto_x ?_)
        refine hK9 _ _ ?_
        refine S.region rfl ?_
        refine S.op (S.q (q_add rfl rfl (inI64 (by omega) (by omega))) rfl rfl ?_)
        refine S.op (S.q (q_move rfl) rfl rfl ?_)
        first | with_reducible refine S.nilK ?_ | refine S.nil ?_
        with_reducible repeat (first | refine S.then_n ?_ | refine S.then_x ?_ | refine S.then_r ?_ | refine S.inBlock_n ?_ | refine S.inBlock_r ?_ | refine S.inBlock_x rfl ?_ | refine S.noGoto_r ?_ | refine S.noGoto_n ?_ | refine S.noGoto_x ?_)
        exact S.next (q - 1) (⟨i + 1, by omega, by omega, by rw [hsu2]; exact decide_eq_true hxy, rfl, rfl⟩) (by omega) (by repeat (first | exact trivial | refine ⟨rfl, ?_⟩)) Sub.ent
    · have hik : i = k.length := by omega
      rw [hik, sameUp_eq hlen] at hsu
      refine S.exit ?_
      with_reducible repeat (first | refine S.then_n ?_ | refine S.then_x ?_ | refine S.then_r ?_ | refine S.inBlock_n ?_ | refine S.inBlock_r ?_ | refine S.inBlock_x rfl ?_ | refine S.noGoto_r ?_ | refine S.noGoto_n ?_ | refine S.noGoto_x ?_)
      with_reducible refine S.inBlock_s ?_
      with_reducible repeat (first | refine S.then_n ?_ | refine S.then_x ?_ | refine S.then_r ?_ | refine S.inBlock_n ?_ | refine S.inBlock_r ?_ | refine S.inBlock_x rfl ?_ | refine S.noGoto_r ?_ | refine S.noGoto_n ?_ | refine S.noGoto_x ?_)
      refine hK5 _ _ ?_
      refine S.seq fun K13 hK13 => ?_
      refine S.region rfl ?_
      refine S.op (S.q (q_assign rfl) rfl rfl ?_)
      first | with_reducible refine S.nilK ?_ | refine S.nil ?_
      refine hK13 _ _ ?_
      refine S.ret ?_
      with_reducible repeat (first | refine S.then_n ?_ | refine S.then_x ?_ | refine S.then_r ?_ | refine S.inBlock_n ?_ | refine S.inBlock_r ?_ | refine S.inBlock_x rfl ?_ | refine S.noGoto_r ?_ | refine S.noGoto_n ?_ | refine S.noGoto_x ?_)
      exact S.fin (rs := [_]) (vs := [_]) Tryd.results29 (⟨rfl, trivial⟩)  (⟨by simp only [resV]; rw [hsu], rfl⟩) Sub.ent
theorem Same_S (A B : Assn) (s t : SV) (k l : List Int) (hA : RdS A s s.n 1 (u32s k)) (hB : RdS B t t.n 1 (u32s l)) (hk : s.n = k.length) (hl : t.n = l.length) : Spec Tryd.prog 12 [s.v, t.v] [A, B] fun Γ v Θ => v = .bool (decide (k = l)) ∧ Θ = A :: B :: Γ := by
  refine Spec.of_body Tryd.func12 rfl Tryd.ntmps12 rfl ?_
  intro w0 Γ
  show S _ w0 [(0, s.v), (1, t.v)] (A :: B :: Γ) _
  refine S.rCap hA fun _ hc1 hc2 => ?_
  refine S.rCap hB fun _ hd1 hd2 => ?_
  refine S.seq fun K1 hK1 => ?_
  refine S.region rfl ?_
  refine S.op (S.q (q_assign rfl) rfl rfl ?_)
  first | with_reducible refine S.nilK ?_ | refine S.nil ?_
  refine hK1 _ _ ?_
  refine S.seq fun K2 hK2 => ?_
  refine S.seq fun K3 hK3 => ?_
  refine S.region rfl ?_
  refine S.op (S.q (q_move rfl) rfl rfl ?_)
  refine S.op (S.q (q_len Tryd.underlying31 rfl) rfl rfl ?_)
  refine S.op (S.q (q_move rfl) rfl rfl ?_)
  refine S.op (S.q (q_len Tryd.underlying31 rfl) rfl rfl ?_)
  refine S.op (S.q (q_ne rfl rfl) rfl rfl ?_)
  first | with_reducible refine S.nilK ?_ | refine S.nil ?_
  refine hK3 _ _ ?_
  refine S.condD rfl (fun h1 => ?_) (fun h1 => ?_)
  · have hne : k ≠ l := fun e => h1 (by rw [hk, hl, e])
    refine S.seq fun K4 hK4 => ?_
    refine S.region rfl ?_
    refine S.op (S.q (q_assign rfl) rfl rfl ?_)
    first | with_reducible refine S.nilK ?_ | refine S.nil ?_
    refine hK4 _ _ ?_
    refine S.ret ?_
    with_reducible repeat (first | refine S.then_n ?_ | refine S.then_x ?_ | refine S.then_r ?_ | refine S.inBlock_n ?_ | refine S.inBlock_r ?_ | refine S.inBlock_x rfl ?_ | refine S.noGoto_r ?_ | refine S.noGoto_n ?_ | refine S.noGoto_x ?_)
    exact S.fin (rs := [_]) (vs := [_]) Tryd.results12 (⟨rfl, trivial⟩)  (⟨by simp only [resV]; rw [decide_eq_false hne], rfl⟩) Sub.ent
  · have hlen : k.length = l.length := by omega
    refine S.skip ?_
    with_reducible repeat (first | refine S.then_n ?_ | refine S.then_x ?_ | refine S.then_r ?_ | refine S.inBlock_n ?_ | refine S.inBlock_r ?_ | refine S.inBlock_x rfl ?_ | refine S.noGoto_r ?_ | refine S.noGoto_n ?_ | refine S.noGoto_x ?_)
    refine hK2 _ _ ?_
    refine S.seq fun K5 hK5 => ?_
    refine S.seq fun K6 hK6 => ?_
    refine S.region rfl ?_
    refine S.op (S.q (q_move rfl) rfl rfl ?_)
    refine S.op (S.q (q_len Tryd.underlying31 rfl) rfl rfl ?_)
    refine S.op (S.q (q_move rfl) rfl rfl ?_)
    first | with_reducible refine S.nilK ?_ | refine S.nil ?_
    refine hK6 _ _ ?_
    refine S.block ?_
    refine S.loop (fun q ρ' Γ' => ∃ i : Nat, q = k.length - i ∧ i ≤ k.length ∧ sameUp k l i = true ∧ ρ' = [(0, s.v), (1, t.v), (12, .int .i64 s.n), (13, .int .i64 (i : Int))] ∧ Γ' = A :: B :: Γ) (m := _) (ρ0 := _) (Γ0 := _) (⟨0, rfl, by omega, rfl, rfl, rfl⟩) (by repeat (first | exact trivial | refine ⟨rfl, ?_⟩)) Sub.ent ?_
    rintro q ρ' Γ' ⟨i, hq, hi, hsu, rfl, rfl⟩
    refine S.seq fun K7 hK7 => ?_
    refine S.region rfl ?_
    refine S.op (S.q (q_lt rfl rfl) rfl rfl ?_)
    first | with_reducible refine S.nilK ?_ | refine S.nil ?_
    refine hK7 _ _ ?_
    refine S.seq fun K8 hK8 => ?_
    refine S.condD rfl (fun h2 => ?_) (fun h2 => ?_)
    · refine S.rSome hA (by omega) fun sb so hsa => ?_
      refine S.rSome hB (by omega) fun tb tf hta => ?_
      obtain ⟨x, hx⟩ := getE (show i < k.length by omega)
      obtain ⟨y, hy⟩ := getE (show i < l.length by omega)
      have hsu2 : sameUp k l (i + 1) = decide (x = y) := by rw [sameUp, hsu]; simp [List.getD, hx, hy]
      refine S.skip ?_
      with_reducible repeat (first | refine S.then_n ?_ | refine S.then_x ?_ | refine S.then_r ?_ | refine S.inBlock_n ?_ | refine S.inBlock_r ?_ | refine S.inBlock_x rfl ?_ | refine S.noGoto_r ?_ | refine S.noGoto_n ?_ | refine S.noGoto_x ?_)
      refine hK8 _ _ ?_
      refine S.seq fun K9 hK9 => ?_
      refine S.block ?_
      refine S.seq fun K10 hK10 => ?_
      refine S.region rfl ?_
      refine S.op (S.q (q_move rfl) rfl rfl ?_)
      refine S.op (S.q (q_assign rfl) rfl rfl ?_)
      first | with_reducible refine S.nilK ?_ | refine S.nil ?_
      refine hK10 _ _ ?_
      refine S.seq fun K11 hK11 => ?_
      refine S.draw ([A, B]) [] Tryd.mixed ?_
      refine S.dr_take 0 [] rfl (by kernel_rfl) rfl rfl rfl (q_move rfl) Sub.ent ?_
      refine S.dr_take 1 [] rfl (by kernel_rfl) rfl rfl rfl (q_move rfl) Sub.ent ?_
      refine S.dr_take 2 [] rfl (by kernel_rfl) rfl rfl rfl (q_indexO (i) Tryd.el31 rfl hsa rfl rfl (by omega)) Sub.ent ?_
      refine S.dr_take 3 [] rfl (by kernel_rfl) rfl rfl rfl (q_loadR hA i Tryd.at68 rfl hsa (by omega) (by omega) (u32s_get hx)) Sub.ent ?_
      refine S.dr_take 4 [] rfl (by kernel_rfl) rfl rfl rfl (q_move rfl) Sub.ent ?_
      refine S.dr_take 5 [] rfl (by kernel_rfl) rfl rfl rfl (q_move rfl) Sub.ent ?_
      refine S.dr_take 6 [] rfl (by kernel_rfl) rfl rfl rfl (q_indexO (i) Tryd.el31 rfl hta rfl rfl (by omega)) Sub.ent ?_
      refine S.dr_take 7 [] rfl (by kernel_rfl) rfl rfl rfl (q_loadR hB i Tryd.at68 rfl hta (by omega) (by omega) (u32s_get hy)) Sub.ent ?_
      refine S.dr_take 8 [] rfl (by kernel_rfl) rfl rfl rfl (q_ne rfl rfl) Sub.ent ?_
      first | with_reducible refine S.dr_doneK (by kernel_rfl) ?_ | refine S.dr_done (by kernel_rfl) ?_
      refine hK11 _ _ ?_
      refine S.condD rfl (fun h3 => ?_) (fun h3 => ?_)
      · have hne : k ≠ l := fun e => h3 (by rw [e, hy] at hx; exact (Option.some.inj hx).symm)
        refine S.seq fun K12 hK12 => ?_
        refine S.region rfl ?_
        refine S.op (S.q (q_assign rfl) rfl rfl ?_)
        first | with_reducible refine S.nilK ?_ | refine S.nil ?_
        refine hK12 _ _ ?_
        refine S.ret ?_
        with_reducible repeat (first | refine S.then_n ?_ | refine S.then_x ?_ | refine S.then_r ?_ | refine S.inBlock_n ?_ | refine S.inBlock_r ?_ | refine S.inBlock_x rfl ?_ | refine S.noGoto_r ?_ | refine S.noGoto_n ?_ | refine S.noGoto_x ?_)
        exact S.fin (rs := [_]) (vs := [_]) Tryd.results12 (⟨rfl, trivial⟩)  (⟨by simp only [resV]; rw [decide_eq_false hne], rfl⟩) Sub.ent
      · have hxy : x = y := Classical.byContradiction h3
        refine S.skip ?_
        with_reducible repeat (first | refine S.then_n ?_ | refine S.then_x ?_ | refine S.then_r ?_ | refine S.inBlock_n ?_ | refine S.inBlock_r ?_ | refine S.inBlock_x rfl ?_ | refine S.noGoto_r ?_ | refine S.noGoto_n ?_ | refine S.noGoto_x ?_)
        with_reducible repeat (first | refine S.then_n ?_ | refine S.then_x ?_ | refine S.then_r ?_ | refine S.inBlock_n ?_ | refine S.inBlock_r ?_ | refine S.inBlock_x rfl ?_ | refine S.noGoto_r ?_ | refine S.noGoto_n ?_ | refine S.noGoto_x ?_)
        refine hK9 _ _ ?_
        refine S.region rfl ?_
        refine S.op (S.q (q_add rfl rfl (inI64 (by omega) (by omega))) rfl rfl ?_)
        refine S.op (S.q (q_move rfl) rfl rfl ?_)
        first | with_reducible refine S.nilK ?_ | refine S.nil ?_
        with_reducible repeat (first | refine S.then_n ?_ | refine S.then_x ?_ | refine S.then_r ?_ | refine S.inBlock_n ?_ | refine S.inBlock_r ?_ | refine S.inBlock_x rfl ?_ | refine S.noGoto_r ?_ | refine S.noGoto_n ?_ | refine S.noGoto_x ?_)
        exact S.next (q - 1) (⟨i + 1, by omega, by omega, by rw [hsu2]; exact decide_eq_true hxy, rfl, rfl⟩) (by omega) (by repeat (first | exact trivial | refine ⟨rfl, ?_⟩)) Sub.ent
    · have hik : i = k.length := by omega
      rw [hik, sameUp_eq hlen] at hsu
      refine S.exit ?_
      with_reducible repeat (first | refine S.then_n ?_ | refine S.then_x ?_ | refine S.then_r ?_ | refine S.inBlock_n ?_ | refine S.inBlock_r ?_ | refine S.inBlock_x rfl ?_ | refine S.noGoto_r ?_ | refine S.noGoto_n ?_ | refine S.noGoto_x ?_)
      with_reducible refine S.inBlock_s ?_
      with_reducible repeat (first | refine S.then_n ?_ | refine S.then_x ?_ | refine S.then_r ?_ | refine S.inBlock_n ?_ | refine S.inBlock_r ?_ | refine S.inBlock_x rfl ?_ | refine S.noGoto_r ?_ | refine S.noGoto_n ?_ | refine S.noGoto_x ?_)
      refine hK5 _ _ ?_
      refine S.seq fun K13 hK13 => ?_
      refine S.region rfl ?_
      refine S.op (S.q (q_assign rfl) rfl rfl ?_)
      first | with_reducible refine S.nilK ?_ | refine S.nil ?_
      refine hK13 _ _ ?_
      refine S.ret ?_
      with_reducible repeat (first | refine S.then_n ?_ | refine S.then_x ?_ | refine S.then_r ?_ | refine S.inBlock_n ?_ | refine S.inBlock_r ?_ | refine S.inBlock_x rfl ?_ | refine S.noGoto_r ?_ | refine S.noGoto_n ?_ | refine S.noGoto_x ?_)
      exact S.fin (rs := [_]) (vs := [_]) Tryd.results12 (⟨rfl, trivial⟩)  (⟨by simp only [resV]; rw [hsu], rfl⟩) Sub.ent
abbrev casts (l : List Nat) : List Int := l.map fun i : Nat => (i : Int)
theorem rdNds (s : SV) (T : TypeId) (l : List Nat) : RdS (own s T 1 (nds l)) s s.n 1 (ints (casts l)) := by
  have e : ints (casts l) = nds l := by simp
  rw [e]
  exact RdS.own
theorem rdIds (s : SV) (T : TypeId) (l : List Nat) : RdS (own s T 1 (idsV l)) s s.n 1 (u32s (casts l)) := by
  have e : u32s (casts l) = idsV l := by simp
  rw [e]
  exact RdS.own
end Go.Proofs.YtegjmmocnffpiaaDoor
/- The document's matrix: cells, and which nodes are up; New. -/
namespace Go.Proofs.YtegjmmocnffpiaaDoor
open Go.RowKit
set_option maxRecDepth 20000
def rowN (m : Mx) (r : Nat) : List Nat := (List.range m.N).map (atJ m.js r)
theorem rowN_len (m : Mx) (r : Nat) : (rowN m r).length = m.N := by rw [rowN, List.length_map, List.length_range]
theorem rowN_get {m : Mx} {i : Nat} (h : i < m.N) (r : Nat) : (rowN m r)[i]? = some (atJ m.js r i) := by simp [rowN, h]
abbrev Rr := SV × List Nat
abbrev rrV (p : Rr) : Value := p.1.v
abbrev rrB (p : Rr) : Assn := own p.1 68 1 (idsV p.2)
abbrev upC (m : Mx) : List Value := (List.range m.N).map fun i => .bool (m.up.getLsbD i)
structure RiOk (m : Mx) (cs us : SV) (rs : List Rr) : Prop where
  ok : MxOk m
  cn : cs.n = m.R
  un : us.n = m.N
  dat : rs.map (·.2) = (List.range m.R).map (rowN m)
  len : ∀ p ∈ rs, p.1.n = m.N
theorem RiOk.rlen {m : Mx} {cs us : SV} {rs : List Rr} (h : RiOk m cs us rs) : rs.length = m.R := by
  have := congrArg List.length h.dat
  simpa using this
theorem RiOk.at_ {m : Mx} {cs us : SV} {rs : List Rr} (h : RiOk m cs us rs) {r : Nat} (hr : r < m.R) : ∃ p : Rr, rs[r]? = some p ∧ p.2 = rowN m r ∧ p.1.n = m.N := by
  have h1 := List.getElem?_eq_getElem (show r < rs.length by rw [h.rlen]; exact hr)
  refine ⟨rs[r]'(by rw [h.rlen]; exact hr), h1, ?_, h.len _ (List.getElem_mem _)⟩
  have h2 := congrArg (fun l => l[r]?) h.dat
  simp only [List.getElem?_map, h1, List.getElem?_range hr, Option.map_some] at h2
  exact Option.some.inj h2
def RI (b : Nat) (m : Mx) : Assn := fun h => ∃ (cs us : SV) (rs : List Rr), RiOk m cs us rs ∧ stars [blk b 55 #[cs.v, us.v], own cs 31 1 (rs.map rrV), own us 4 1 (upC m), alls rs rrB] h
section
variable {n : Nat} {md : Bool} {w0 : WM md} {ρ : Env} {Γ Δ : List Assn} {φ : Act → World → Prop}
theorem S.riOpen (b : Nat) (m : Mx) [p : Pick (RI b m) Γ Δ] (k : ∀ cs us rs, RiOk m cs us rs → S n w0 ρ (blk b 55 #[cs.v, us.v] :: own cs 31 1 (rs.map rrV) :: own us 4 1 (upC m) :: alls rs rrB :: Δ) φ) : S n w0 ρ Γ φ := by
  intro a w ha hs hx
  obtain ⟨h0, l0, h1, h2, d, l1, l2, ⟨cs, us, rs, q1, q4⟩, s⟩ := hs.ent p.ent
  exact k cs us rs q1 a w ha ⟨h0, l0, (Ent.unpack [blk b 55 #[cs.v, us.v], own cs 31 1 (rs.map rrV), own us 4 1 (upC m), alls rs rrB] Δ) _ ⟨h1, h2, d, l1, l2, q4, s⟩⟩ hx
theorem Ent.ri {b : Nat} {m : Mx} {cs us : SV} {rs : List Rr} (h : RiOk m cs us rs) (Γ : List Assn) : Ent (blk b 55 #[cs.v, us.v] :: own cs 31 1 (rs.map rrV) :: own us 4 1 (upC m) :: alls rs rrB :: Γ) (RI b m :: Γ) :=
  (Ent.pack [blk b 55 #[cs.v, us.v], own cs 31 1 (rs.map rrV), own us 4 1 (upC m), alls rs rrB] Γ).trans (Ent.mono1 Γ fun _ s => ⟨cs, us, rs, h, s⟩)
theorem S.riClose (b : Nat) (m : Mx) (cs us : SV) (rs : List Rr) {Δ1 Δ2 Δ3 Δ4 : List Assn} (h : RiOk m cs us rs) [p1 : Pick (blk b 55 #[cs.v, us.v]) Γ Δ1] [p2 : Pick (own cs 31 1 (rs.map rrV)) Δ1 Δ2] [p3 : Pick (own us 4 1 (upC m)) Δ2 Δ3] [p4 : Pick (alls rs rrB) Δ3 Δ4]
    (k : S n w0 ρ (RI b m :: Δ4) φ) : S n w0 ρ Γ φ :=
  S.ent ((p1.ent.trans ((p2.ent.trans ((p3.ent.trans (p4.ent.cons _)).cons _)).cons _)).trans (Ent.ri h Δ4)) k
end
theorem Spec.riOk {b : Nat} {m : Mx} {P : Program} {f : FuncId} {args : List Value} {pre : List Assn} {post : List Assn → Value → List Assn → Prop} {md : Bool} (h : MxOk m → Spec P f args (RI b m :: pre) post md) : Spec P f args (RI b m :: pre) post md := by
  intro Γ w hs
  obtain ⟨_, _, _, _, _, q1, _⟩ := hs.head
  exact h q1.ok Γ w hs
theorem rowN_mx0 (R N r : Nat) : rowN (mx0 R N) r = List.replicate N 0 := by
  refine List.eq_replicate_iff.2 ⟨rowN_len _ _, fun v hv => ?_⟩
  obtain ⟨i, _, rfl⟩ := List.mem_map.1 hv
  rfl
theorem zeroRow_ids (N : Nat) : zeroRow [Value.int .u32 0] N = idsV (List.replicate N 0) := by
  induction N with
  | zero => rfl
  | succ N ih => rw [zeroRow, ih, List.replicate_succ]; rfl
theorem upC_mx0 (R : Nat) {N : Nat} (h : N ≤ 16) : upC (mx0 R N) = List.replicate N (.bool true) := by
  refine List.eq_replicate_iff.2 ⟨by simp; rfl, fun v hv => ?_⟩
  obtain ⟨i, hi, rfl⟩ := List.mem_map.1 hv
  rw [show (mx0 R N).up.getLsbD i = true from (mask_bit h i).2 (List.mem_range.1 hi)]
theorem rNew_S (R N : Nat) (hR1 : 1 ≤ R) (hR8 : R ≤ 8) (hN1 : 1 ≤ N) (hN16 : N ≤ 16) : Spec Tryd.prog 24 [.int .i64 (R : Int), .int .i64 (N : Int)] [] fun Γ v Θ => ∃ b, v = .tuple #[.pointer (some ⟨b, 0, none⟩), .int .i64 0] ∧ Θ = RI b (mx0 R N) :: Γ := by
  refine Spec.of_body Tryd.func24 rfl Tryd.ntmps24 rfl ?_
  intro w0 Γ
  show S _ w0 [(0, .int .i64 (R : Int)), (1, .int .i64 (N : Int))] Γ _
  refine S.seq fun K1 hK1 => ?_
  refine S.region rfl ?_
  refine S.op (S.q (q_assign rfl) rfl rfl ?_)
  refine S.op (S.q (q_assign rfl) rfl rfl ?_)
  first | with_reducible refine S.nilK ?_ | refine S.nil ?_
  refine hK1 _ _ ?_
  refine S.seq fun K2 hK2 => ?_
  refine S.seq fun K3 hK3 => ?_
  refine S.regionG ?_
  refine S.g_op rfl (S.q (q_move rfl) rfl rfl ?_)
  refine S.g_op rfl (S.q (q_lt rfl rfl) rfl rfl ?_)
  refine S.g_op rfl (S.q (q_move rfl) rfl rfl ?_)
  by_cases hg1_2 : (R : Int) < 1
  · omega
  · refine S.g_yes rfl rfl rfl (decide_eq_false hg1_2) (S.q (q_move rfl) rfl rfl ?_)
    refine S.g_yes rfl rfl rfl (decide_eq_false hg1_2) (S.q (q_gt rfl rfl) rfl rfl ?_)
    refine S.g_op rfl (S.q (q_pickF rfl (decide_eq_false hg1_2) rfl) rfl rfl ?_)
    refine S.g_op rfl (S.q (q_move rfl) rfl rfl ?_)
    by_cases hg1_6 : (8 : Int) < R
    · omega
    · refine S.g_yes rfl rfl rfl (decide_eq_false hg1_6) (S.q (q_move rfl) rfl rfl ?_)
      refine S.g_yes rfl rfl rfl (decide_eq_false hg1_6) (S.q (q_lt rfl rfl) rfl rfl ?_)
      refine S.g_op rfl (S.q (q_pickF rfl (decide_eq_false hg1_6) rfl) rfl rfl ?_)
      refine S.g_op rfl (S.q (q_move rfl) rfl rfl ?_)
      by_cases hg1_10 : (N : Int) < 1
      · omega
      · refine S.g_yes rfl rfl rfl (decide_eq_false hg1_10) (S.q (q_move rfl) rfl rfl ?_)
        refine S.g_yes rfl rfl rfl (decide_eq_false hg1_10) (S.q (q_gt rfl rfl) rfl rfl ?_)
        refine S.g_op rfl (S.q (q_pickF rfl (decide_eq_false hg1_10) rfl) rfl rfl ?_)
        first | with_reducible refine S.g_nilK ?_ | refine S.g_nil ?_
        refine hK3 _ _ ?_
        refine S.condD rfl (fun h1 => ?_) (fun h1 => ?_)
        · omega
        · refine S.skip ?_
          with_reducible repeat (first | refine S.then_n ?_ | refine S.then_x ?_ | refine S.then_r ?_ | refine S.inBlock_n ?_ | refine S.inBlock_r ?_ | refine S.inBlock_x rfl ?_ | refine S.noGoto_r ?_ | refine S.noGoto_n ?_ | refine S.noGoto_x ?_)
          refine hK2 _ _ ?_
          refine S.seq fun K4 hK4 => ?_
          refine S.region rfl ?_
          refine S.op (S.q (q_build (pvs := []) [_, _] Tryd.z55 Tryd.p55 trivial rfl) rfl rfl ?_)
          refine S.op (S.box (cs := [_, _]) rfl rfl rfl ?_)
          intro b22
          refine S.op (S.q (q_assign rfl) rfl rfl ?_)
          first | with_reducible refine S.nilK ?_ | refine S.nil ?_
          refine hK4 _ _ ?_
          refine S.seq fun K5 hK5 => ?_
          refine S.seq fun K6 hK6 => ?_
          refine S.region rfl ?_
          show S _ w0 _ (blk b22 55 #[SV.nil.v, SV.nil.v] :: Γ) _
          refine S.ent (Ent.ownNil 31 1) ?_
          refine S.ent (Ent.allsNil rrB _) ?_
          show S _ w0 _ (alls [] rrB :: own SV.nil 31 1 (([] : List Rr).map rrV) :: blk b22 55 #[SV.nil.v, SV.nil.v] :: Γ) _
          refine S.op (S.q (q_move rfl) rfl rfl ?_)
          refine S.op (S.q (q_move rfl) rfl rfl ?_)
          first | with_reducible refine S.nilK ?_ | refine S.nil ?_
          refine hK6 _ _ ?_
          refine S.block ?_
          refine S.loop (fun q ρ' Γ' => ∃ (i : Nat) (rs : List Rr) (cs : SV), q = R - i ∧ i ≤ R ∧ rs.length = i ∧ cs.n = i ∧ (∀ p ∈ rs, p.1.n = N ∧ p.2 = List.replicate N 0) ∧ ρ' = [(1, .int .i64 (N : Int)), (6, .pointer (some ⟨b22, 0, none⟩)), (23, .int .i64 (R : Int)), (24, .int .i64 (i : Int))] ∧   Γ' = alls rs rrB :: own cs 31 1 (rs.map rrV) :: blk b22 55 #[cs.v, SV.nil.v] :: Γ) (m := _) (ρ0 := _) (Γ0 := _) (⟨0, [], SV.nil, rfl, by omega, rfl, rfl, fun _ h => (by cases h), rfl, rfl⟩) (by repeat (first | exact trivial | refine ⟨rfl, ?_⟩)) Sub.ent ?_
          rintro q ρ' Γ' ⟨i, rs, cs, hq, hi, hrl, hcn, hall, rfl, rfl⟩
          refine S.seq fun K7 hK7 => ?_
          refine S.region rfl ?_
          refine S.op (S.q (q_lt rfl rfl) rfl rfl ?_)
          first | with_reducible refine S.nilK ?_ | refine S.nil ?_
          refine hK7 _ _ ?_
          refine S.seq fun K8 hK8 => ?_
          refine S.condD rfl (fun h2 => ?_) (fun h2 => ?_)
          · refine S.skip ?_
            with_reducible repeat (first | refine S.then_n ?_ | refine S.then_x ?_ | refine S.then_r ?_ | refine S.inBlock_n ?_ | refine S.inBlock_r ?_ | refine S.inBlock_x rfl ?_ | refine S.noGoto_r ?_ | refine S.noGoto_n ?_ | refine S.noGoto_x ?_)
            refine hK8 _ _ ?_
            refine S.seq fun K9 hK9 => ?_
            refine S.block ?_
            refine S.draw ([blk b22 55 #[cs.v, SV.nil.v]]) [11] Tryd.mixed ?_
            refine S.dr_take 0 [9, 10, 11] rfl (by kernel_rfl) rfl rfl rfl (q_move rfl) Sub.ent ?_
            refine S.dr_take 1 [2, 3, 4, 8, 9, 10, 11] rfl (by kernel_rfl) rfl rfl rfl (q_move rfl) Sub.ent ?_
            refine S.dr_take 2 [3, 4, 8, 9, 10, 11] rfl (by kernel_rfl) rfl rfl rfl (q_nilCheck rfl) Sub.ent ?_
            refine S.dr_take 3 [4, 8, 9, 10, 11] rfl (by kernel_rfl) rfl rfl rfl (q_field Tryd.fo55_0 rfl) Sub.ent ?_
            refine S.dr_take 4 [8, 9, 10, 11] rfl (by kernel_rfl) rfl rfl rfl (q_load Tryd.at52 rfl rfl) Sub.ent ?_
            refine S.dr_take 5 [6, 7, 8, 9, 10, 11] rfl (by kernel_rfl) rfl rfl rfl (q_move rfl) Sub.ent ?_
            refine S.dr_1 (i := 6) (by kernel_rfl) rfl rfl ?_
            refine  (S.makeSlice (N) (N) Tryd.underlying31 Tryd.inf68 rfl rfl rfl rfl rfl (Nat.le_refl _) (by omega) rfl ?_)
            intro nv hnv
            refine S.dr_k rfl Sub.ent ?_
            refine S.dr_1 (i := 7) (by kernel_rfl) rfl rfl ?_
            refine  (S.buildSlice (pvs := [(_, _)]) [_] Tryd.underlying52 Tryd.inf31 rfl rfl ⟨⟨rfl, rfl⟩, trivial⟩ rfl rfl ?_)
            intro b33
            refine S.dr_k rfl Sub.ent ?_
            refine S.dr_1 (i := 8) (by kernel_rfl) rfl rfl ?_
            refine  (S.appendOw (s := cs) (1) ([nv.v]) Tryd.underlying52 Tryd.inf31 rfl rfl rfl (blk_slAt (b := b33) rfl (by unfold maxLen; omega)) (by first | rfl | exact allOne_bcells _) (⟨by omega, by omega⟩) rfl ?_)
            intro cs2 hcs2
            refine S.dr_k rfl Sub.ent ?_
            refine S.dr_take 9 [10, 11] rfl (by kernel_rfl) rfl rfl rfl (q_nilCheck rfl) Sub.ent ?_
            refine S.dr_take 10 [11] rfl (by kernel_rfl) rfl rfl rfl (q_field Tryd.fo55_0 rfl) Sub.ent ?_
            refine S.dr_1 (i := 11) (by kernel_rfl) rfl rfl ?_
            refine  (S.store (cs' := [_, _]) Tryd.at52 rfl rfl rfl rfl rfl ?_)
            refine S.dr_late ([]) [] rfl ?_
            first | with_reducible refine S.dr_doneK (by kernel_rfl) ?_ | refine S.dr_done (by kernel_rfl) ?_
            with_reducible repeat (first | refine S.then_n ?_ | refine S.then_x ?_ | refine S.then_r ?_ | refine S.inBlock_n ?_ | refine S.inBlock_r ?_ | refine S.inBlock_x rfl ?_ | refine S.noGoto_r ?_ | refine S.noGoto_n ?_ | refine S.noGoto_x ?_)
            refine hK9 _ _ ?_
            refine S.region rfl ?_
            refine S.op (S.q (q_add rfl rfl (inI64 (by omega) (by omega))) rfl rfl ?_)
            refine S.op (S.q (q_move rfl) rfl rfl ?_)
            first | with_reducible refine S.nilK ?_ | refine S.nil ?_
            with_reducible repeat (first | refine S.then_n ?_ | refine S.then_x ?_ | refine S.then_r ?_ | refine S.inBlock_n ?_ | refine S.inBlock_r ?_ | refine S.inBlock_x rfl ?_ | refine S.noGoto_r ?_ | refine S.noGoto_n ?_ | refine S.noGoto_x ?_)
            have hall2 : ∀ p ∈ rs ++ [(nv, List.replicate N 0)], p.1.n = N ∧ p.2 = List.replicate N 0 := fun p hp => by
              rcases List.mem_append.1 hp with h9 | h9
              · exact hall p h9
              · rw [List.mem_singleton] at h9
                subst h9
                exact ⟨hnv, rfl⟩
            have hmap : rs.map rrV ++ [nv.v] = (rs ++ [((nv, List.replicate N 0) : Rr)]).map rrV := by rw [List.map_append]; rfl
            rw [hmap, zeroRow_ids]
            refine S.conv2 (own nv 68 1 (idsV (List.replicate N 0))) (alls rs rrB) (Ent.allsSnoc rrB rs ((nv, List.replicate N 0) : Rr) _) ?_
            exact S.next (q - 1) (⟨i + 1, rs ++ [(nv, List.replicate N 0)], cs2, by omega, by omega, by rw [List.length_append, hrl]; rfl, by omega, hall2, rfl, rfl⟩) (by omega) (by repeat (first | exact trivial | refine ⟨rfl, ?_⟩)) Sub.ent
          · have hiR : i = R := by omega
            refine S.ent (Ent.ownNil 4 1) ?_
            show S _ w0 _ (own SV.nil 4 1 (List.replicate 0 (.bool true)) :: _) _
            refine S.exit ?_
            with_reducible repeat (first | refine S.then_n ?_ | refine S.then_x ?_ | refine S.then_r ?_ | refine S.inBlock_n ?_ | refine S.inBlock_r ?_ | refine S.inBlock_x rfl ?_ | refine S.noGoto_r ?_ | refine S.noGoto_n ?_ | refine S.noGoto_x ?_)
            with_reducible refine S.inBlock_s ?_
            with_reducible repeat (first | refine S.then_n ?_ | refine S.then_x ?_ | refine S.then_r ?_ | refine S.inBlock_n ?_ | refine S.inBlock_r ?_ | refine S.inBlock_x rfl ?_ | refine S.noGoto_r ?_ | refine S.noGoto_n ?_ | refine S.noGoto_x ?_)
            refine hK5 _ _ ?_
            refine S.seq fun K10 hK10 => ?_
            refine S.seq fun K11 hK11 => ?_
            refine S.region rfl ?_
            refine S.op (S.q (q_move rfl) rfl rfl ?_)
            refine S.op (S.q (q_move rfl) rfl rfl ?_)
            first | with_reducible refine S.nilK ?_ | refine S.nil ?_
            refine hK11 _ _ ?_
            refine S.block ?_
            refine S.loop (fun q ρ' Γ' => ∃ (k : Nat) (us : SV), q = N - k ∧ k ≤ N ∧ us.n = k ∧ ρ' = [(6, .pointer (some ⟨b22, 0, none⟩)), (38, .int .i64 (N : Int)), (39, .int .i64 (k : Int))] ∧   Γ' = own us 4 1 (List.replicate k (.bool true)) :: alls rs rrB :: own cs 31 1 (rs.map rrV) :: blk b22 55 #[cs.v, us.v] :: Γ) (m := _) (ρ0 := _) (Γ0 := _) (⟨0, SV.nil, rfl, by omega, rfl, rfl, rfl⟩) (by repeat (first | exact trivial | refine ⟨rfl, ?_⟩)) Sub.ent ?_
            rintro q ρ' Γ' ⟨k, us, hq, hk, hun, rfl, rfl⟩
            refine S.seq fun K12 hK12 => ?_
            refine S.region rfl ?_
            refine S.op (S.q (q_lt rfl rfl) rfl rfl ?_)
            first | with_reducible refine S.nilK ?_ | refine S.nil ?_
            refine hK12 _ _ ?_
            refine S.seq fun K13 hK13 => ?_
            refine S.condD rfl (fun h3 => ?_) (fun h3 => ?_)
            · refine S.skip ?_
              with_reducible repeat (first | refine S.then_n ?_ | refine S.then_x ?_ | refine S.then_r ?_ | refine S.inBlock_n ?_ | refine S.inBlock_r ?_ | refine S.inBlock_x rfl ?_ | refine S.noGoto_r ?_ | refine S.noGoto_n ?_ | refine S.noGoto_x ?_)
              refine hK13 _ _ ?_
              refine S.seq fun K14 hK14 => ?_
              refine S.block ?_
              refine S.region rfl ?_
              refine S.op (S.q (q_move rfl) rfl rfl ?_)
              refine S.op (S.q (q_move rfl) rfl rfl ?_)
              refine S.op (S.q (q_nilCheck rfl) rfl rfl ?_)
              refine S.op (S.q (q_field Tryd.fo55_1 rfl) rfl rfl ?_)
              refine S.op (S.q (q_load Tryd.at53 rfl rfl) rfl rfl ?_)
              refine S.op (S.buildSlice (pvs := [(_, _)]) [_] Tryd.underlying53 Tryd.inf4 rfl rfl ⟨⟨rfl, rfl⟩, trivial⟩ rfl rfl ?_)
              intro b46
              refine S.op (S.appendOw (s := us) (1) ([.bool true]) Tryd.underlying53 Tryd.inf4 rfl rfl rfl (blk_slAt (b := b46) rfl (by unfold maxLen; omega)) (by first | rfl | exact allOne_bcells _) (⟨by omega, by omega⟩) rfl ?_)
              intro us2 hus2
              refine S.op (S.q (q_nilCheck rfl) rfl rfl ?_)
              refine S.op (S.q (q_field Tryd.fo55_1 rfl) rfl rfl ?_)
              refine S.op (S.store (cs' := [_, _]) Tryd.at53 rfl rfl rfl rfl rfl ?_)
              first | with_reducible refine S.nilK ?_ | refine S.nil ?_
              with_reducible repeat (first | refine S.then_n ?_ | refine S.then_x ?_ | refine S.then_r ?_ | refine S.inBlock_n ?_ | refine S.inBlock_r ?_ | refine S.inBlock_x rfl ?_ | refine S.noGoto_r ?_ | refine S.noGoto_n ?_ | refine S.noGoto_x ?_)
              refine hK14 _ _ ?_
              refine S.region rfl ?_
              refine S.op (S.q (q_add rfl rfl (inI64 (by omega) (by omega))) rfl rfl ?_)
              refine S.op (S.q (q_move rfl) rfl rfl ?_)
              first | with_reducible refine S.nilK ?_ | refine S.nil ?_
              with_reducible repeat (first | refine S.then_n ?_ | refine S.then_x ?_ | refine S.then_r ?_ | refine S.inBlock_n ?_ | refine S.inBlock_r ?_ | refine S.inBlock_x rfl ?_ | refine S.noGoto_r ?_ | refine S.noGoto_n ?_ | refine S.noGoto_x ?_)
              rw [show List.replicate k (Value.bool true) ++ [.bool true] = List.replicate (k + 1) (.bool true) from (List.replicate_succ').symm]
              exact S.next (q - 1) (⟨k + 1, us2, by omega, by omega, by omega, rfl, rfl⟩) (by omega) (by repeat (first | exact trivial | refine ⟨rfl, ?_⟩)) Sub.ent
            · have hkN : k = N := by omega
              rw [hkN, ← upC_mx0 R hN16]
              have hri : RiOk (mx0 R N) cs us rs := ⟨mx0_ok hR1 hR8 hN1 hN16, by rw [hcn, hiR]; rfl, by rw [hun, hkN]; rfl, by
                refine List.ext_getElem (by simp [hrl, hiR]; rfl) fun r h1 h2 => ?_
                simp only [List.getElem_map, List.getElem_range, rowN_mx0]
                exact (hall _ (List.getElem_mem _)).2, fun p hp => (hall p hp).1⟩
              refine S.exit ?_
              with_reducible repeat (first | refine S.then_n ?_ | refine S.then_x ?_ | refine S.then_r ?_ | refine S.inBlock_n ?_ | refine S.inBlock_r ?_ | refine S.inBlock_x rfl ?_ | refine S.noGoto_r ?_ | refine S.noGoto_n ?_ | refine S.noGoto_x ?_)
              with_reducible refine S.inBlock_s ?_
              with_reducible repeat (first | refine S.then_n ?_ | refine S.then_x ?_ | refine S.then_r ?_ | refine S.inBlock_n ?_ | refine S.inBlock_r ?_ | refine S.inBlock_x rfl ?_ | refine S.noGoto_r ?_ | refine S.noGoto_n ?_ | refine S.noGoto_x ?_)
              refine hK10 _ _ ?_
              refine S.seq fun K15 hK15 => ?_
              refine S.region rfl ?_
              refine S.op (S.q (q_move rfl) rfl rfl ?_)
              refine S.op (S.q (q_assign rfl) rfl rfl ?_)
              refine S.op (S.q (q_assign rfl) rfl rfl ?_)
              first | with_reducible refine S.nilK ?_ | refine S.nil ?_
              refine hK15 _ _ ?_
              refine S.ret ?_
              with_reducible repeat (first | refine S.then_n ?_ | refine S.then_x ?_ | refine S.then_r ?_ | refine S.inBlock_n ?_ | refine S.inBlock_r ?_ | refine S.inBlock_x rfl ?_ | refine S.noGoto_r ?_ | refine S.noGoto_n ?_ | refine S.noGoto_x ?_)
              refine S.riClose b22 (mx0 R N) cs us rs hri ?_
              exact S.fin (rs := [_, _]) (vs := [_, _]) Tryd.results24 (⟨rfl, rfl, trivial⟩)  (⟨b22, rfl, rfl⟩) Sub.ent
end Go.Proofs.YtegjmmocnffpiaaDoor
/- The document's matrix: Of. -/
namespace Go.Proofs.YtegjmmocnffpiaaDoor
open Go.RowKit
set_option maxRecDepth 20000
/-- The nodes below i of a row at which a job stands. -/
def ndsAt (m : Mx) (j r : Nat) : Nat → List Nat
  | 0 => []
  | i + 1 => if atJ m.js r i = j then ndsAt m j r i ++ [i] else ndsAt m j r i
theorem mem_ndsAt {m : Mx} {j r k : Nat} : ∀ {i : Nat}, k ∈ ndsAt m j r i ↔ k < i ∧ atJ m.js r k = j
  | 0 => by simp [ndsAt]
  | i + 1 => by
    rw [ndsAt]
    split
    · rename_i h
      rw [List.mem_append, mem_ndsAt, List.mem_singleton]
      constructor
      · rintro (⟨h1, h2⟩ | rfl)
        · exact ⟨by omega, h2⟩
        · exact ⟨by omega, h⟩
      · rintro ⟨h1, h2⟩
        by_cases e : k = i
        · exact .inr e
        · exact .inl ⟨by omega, h2⟩
    · rename_i h
      rw [mem_ndsAt]
      constructor
      · rintro ⟨h1, h2⟩; exact ⟨by omega, h2⟩
      · rintro ⟨h1, h2⟩
        by_cases e : k = i
        · subst e; exact absurd h2 h
        · exact ⟨by omega, h2⟩
theorem ndsAt_rise (m : Mx) (j r : Nat) : ∀ i, (ndsAt m j r i).Pairwise (· < ·)
  | 0 => List.Pairwise.nil
  | i + 1 => by
    rw [ndsAt]
    split
    · refine List.pairwise_append.2 ⟨ndsAt_rise m j r i, List.pairwise_singleton _ _, fun a ha b hb => ?_⟩
      rw [List.mem_singleton] at hb
      have := (mem_ndsAt.1 ha).1
      omega
    · exact ndsAt_rise m j r i
theorem ndsAt_len (m : Mx) (j r : Nat) : ∀ i, (ndsAt m j r i).length ≤ i
  | 0 => Nat.le_refl _
  | i + 1 => by
    have := ndsAt_len m j r i
    rw [ndsAt]
    split
    · rw [List.length_append, List.length_singleton]; omega
    · omega
theorem atJ_iff {m : Mx} (hm : MxOk m) {j r i : Nat} (hj : j ≠ 0) : atJ m.js r i = j ↔ ∃ x ∈ m.js, x.row = r ∧ x.ns.getLsbD i = true ∧ x.id = j := by
  constructor
  · intro h
    refine Classical.byContradiction fun hn => hj ?_
    rw [← h]
    refine atJ_none fun x hx e => ?_
    cases hb : x.ns.getLsbD i with
    | false => rfl
    | true => exact absurd ⟨x, hx, e, hb, (atJ_some hm hx e hb).symm.trans h⟩ hn
  · rintro ⟨x, h1, h2, h3, h4⟩
    rw [← h4]
    exact atJ_some hm h1 h2 h3
theorem ndsAt_some {m : Mx} (hm : MxOk m) {j : Nat} {x : Jb} (h : look m.js j = some x) : ndsAt m j x.row m.N = lst x.ns := by
  obtain ⟨h1, h2⟩ := look_some h
  have hj : j ≠ 0 := by have := hm.id1 x h1; omega
  refine rise_ext (ndsAt_rise _ _ _ _) (lst_rise _) fun k => ?_
  rw [mem_ndsAt, atJ_iff hm hj, mem_lst]
  constructor
  · rintro ⟨_, y, y1, _, y3, y4⟩
    rw [← id_inj hm.srt y1 h1 (y4.trans h2.symm)]
    exact y3
  · intro hk
    exact ⟨hm.ns x h1 k hk, x, h1, rfl, hk, h2⟩
theorem ndsAt_none {m : Mx} (hm : MxOk m) {j r : Nat} (hj : j ≠ 0) (h : ∀ x, look m.js j = some x → x.row ≠ r) : ndsAt m j r m.N = [] := by
  refine List.eq_nil_iff_forall_not_mem.2 fun k hk => ?_
  rw [mem_ndsAt, atJ_iff hm hj] at hk
  obtain ⟨_, x, h1, h2, _, h4⟩ := hk
  exact h x (by rw [← h4]; exact look_mem hm.srt h1) h2
theorem idsV_get {l : List Nat} {i x : Nat} (h : l[i]? = some x) : (idsV l)[i]? = some (.int .u32 (x : Int)) := by
  show (l.map _)[i]? = _
  rw [List.getElem?_map, h]
  rfl
abbrev riX (b : Nat) (m : Mx) (cs us : SV) (rs : List Rr) (Γ : List Assn) : List Assn := blk b 55 #[cs.v, us.v] :: own cs 31 1 (rs.map rrV) :: own us 4 1 (upC m) :: alls rs rrB :: Γ
/-- A contract over the document's matrix, laid open. -/
theorem Spec.riX {b : Nat} {m : Mx} {P : Program} {f : FuncId} {args : List Value} {pre : List Assn} {post : List Assn → Value → List Assn → Prop} {md : Bool} (h : ∀ cs us rs, RiOk m cs us rs → Spec P f args (riX b m cs us rs pre) post md) : Spec P f args (RI b m :: pre) post md := by
  intro Γ w hs
  obtain ⟨h0, l0, h1, h2, d, l1, l2, ⟨cs, us, rs, q1, q4⟩, s⟩ := hs
  exact h cs us rs q1 Γ w ⟨h0, l0, (Ent.unpack [blk b 55 #[cs.v, us.v], own cs 31 1 (rs.map rrV), own us 4 1 (upC m), alls rs rrB] (pre ++ Γ)) _ ⟨h1, h2, d, l1, l2, q4, s⟩⟩
theorem rOfX_S (b : Nat) (m : Mx) (j : Nat) (cs us : SV) (rs : List Rr) (hri : RiOk m cs us rs) : Spec Tryd.prog 46 [.pointer (some ⟨b, 0, none⟩), .int .u32 (j : Int)] (riX b m cs us rs []) fun Γ v Θ => ∃ sv : SV, v = .tuple #[.int .i64 (ofR m j).1, sv.v, .bool (ofR m j).2.2] ∧ sv.n = (ofR m j).2.1.length ∧
    Θ = own sv 3 1 (nds (ofR m j).2.1) :: riX b m cs us rs Γ := by
  have hm := hri.ok
  refine Spec.of_body Tryd.func46 rfl Tryd.ntmps46 rfl ?_
  intro w0 Γ
  show S _ w0 [(0, .pointer (some ⟨b, 0, none⟩)), (1, .int .u32 (j : Int))] (riX b m cs us rs Γ) _
  have hR8 := hm.R8
  have hN16 := hm.N16
  have hN1 := hm.N1
  have hR1 := hm.R1
  refine S.seq fun K1 hK1 => ?_
  refine S.region rfl ?_
  refine S.op (S.q (q_assign rfl) rfl rfl ?_)
  refine S.op (S.q (q_assign rfl) rfl rfl ?_)
  refine S.op (S.q (q_assign rfl) rfl rfl ?_)
  first | with_reducible refine S.nilK ?_ | refine S.nil ?_
  refine hK1 _ _ ?_
  refine S.seq fun K2 hK2 => ?_
  refine S.seq fun K3 hK3 => ?_
  refine S.regionG ?_
  refine S.g_op rfl (S.q (q_move rfl) rfl rfl ?_)
  refine S.g_op rfl (S.q (q_eqN Tryd.underlying26 rfl rfl) rfl rfl ?_)
  refine S.g_op rfl (S.q (q_move rfl) rfl rfl ?_)
  refine S.g_yes rfl rfl rfl (rfl) (S.q (q_move rfl) rfl rfl ?_)
  refine S.g_yes rfl rfl rfl (rfl) (S.q (q_eq rfl rfl) rfl rfl ?_)
  refine S.g_op rfl (S.q (q_pickF rfl (rfl) rfl) rfl rfl ?_)
  first | with_reducible refine S.g_nilK ?_ | refine S.g_nil ?_
  refine hK3 _ _ ?_
  refine S.condD rfl (fun h1 => ?_) (fun h1 => ?_)
  · have hn : look m.js j = none := by
      cases h : look m.js j with
      | none => rfl
      | some x => obtain ⟨q1, q2⟩ := look_some h; have := hm.id1 x q1; omega
    refine S.seq fun K4 hK4 => ?_
    refine S.region rfl ?_
    refine S.op (S.q (q_assign rfl) rfl rfl ?_)
    refine S.op (S.q (q_assign rfl) rfl rfl ?_)
    refine S.op (S.q (q_assign rfl) rfl rfl ?_)
    first | with_reducible refine S.nilK ?_ | refine S.nil ?_
    refine hK4 _ _ ?_
    refine S.ret ?_
    with_reducible repeat (first | refine S.then_n ?_ | refine S.then_x ?_ | refine S.then_r ?_ | refine S.inBlock_n ?_ | refine S.inBlock_r ?_ | refine S.inBlock_x rfl ?_ | refine S.noGoto_r ?_ | refine S.noGoto_n ?_ | refine S.noGoto_x ?_)
    refine S.ent (Ent.ownNil 3 1) ?_
    show S _ w0 _ (own SV.nil 3 1 (nds []) :: riX b m cs us rs Γ) _
    exact S.fin (rs := [_, _, _]) (vs := [_, _, _]) Tryd.results46 (⟨rfl, rfl, rfl, trivial⟩)  (⟨SV.nil, by rw [ofR_none hn]; rfl, by rw [ofR_none hn]; rfl, by rw [ofR_none hn]⟩) Sub.ent
  · have hj0 : j ≠ 0 := by omega
    have hcn := hri.cn
    have hrl := hri.rlen
    refine S.ownSome cs (by omega) fun cb co hca _ _ _ => ?_
    refine S.skip ?_
    with_reducible repeat (first | refine S.then_n ?_ | refine S.then_x ?_ | refine S.then_r ?_ | refine S.inBlock_n ?_ | refine S.inBlock_r ?_ | refine S.inBlock_x rfl ?_ | refine S.noGoto_r ?_ | refine S.noGoto_n ?_ | refine S.noGoto_x ?_)
    refine hK2 _ _ ?_
    refine S.seq fun K5 hK5 => ?_
    refine S.seq fun K6 hK6 => ?_
    refine S.region rfl ?_
    refine S.op (S.q (q_move rfl) rfl rfl ?_)
    refine S.op (S.q (q_nilCheck rfl) rfl rfl ?_)
    refine S.op (S.q (q_field Tryd.fo55_0 rfl) rfl rfl ?_)
    refine S.op (S.q (q_load Tryd.at52 rfl rfl) rfl rfl ?_)
    refine S.op (S.q (q_len Tryd.underlying52 rfl) rfl rfl ?_)
    refine S.op (S.q (q_move rfl) rfl rfl ?_)
    first | with_reducible refine S.nilK ?_ | refine S.nil ?_
    refine hK6 _ _ ?_
    refine S.block ?_
    refine S.loop (fun q ρ' Γ' => ∃ o : Nat, q = m.R - o ∧ o ≤ m.R ∧ (∀ x, look m.js j = some x → o ≤ x.row) ∧ ρ' = [(1, .int .u32 (j : Int)), (21, cs.v), (22, .int .i64 cs.n), (23, .int .i64 (o : Int))] ∧ Γ' = blk b 55 #[cs.v, us.v] :: own cs 31 1 (rs.map rrV) :: own us 4 1 (upC m) :: alls rs rrB :: Γ) (m := _) (ρ0 := _) (Γ0 := _) (⟨0, rfl, by omega, fun _ _ => Nat.zero_le _, rfl, rfl⟩) (by repeat (first | exact trivial | refine ⟨rfl, ?_⟩)) Sub.ent ?_
    rintro q ρ' Γ' ⟨o, hq, ho, hno, rfl, rfl⟩
    refine S.seq fun K7 hK7 => ?_
    refine S.region rfl ?_
    refine S.op (S.q (q_lt rfl rfl) rfl rfl ?_)
    first | with_reducible refine S.nilK ?_ | refine S.nil ?_
    refine hK7 _ _ ?_
    refine S.seq fun K8 hK8 => ?_
    refine S.condD rfl (fun h2 => ?_) (fun h2 => ?_)
    · obtain ⟨p, hp, hpd, hpn⟩ := hri.at_ (show o < m.R by omega)
      have hRp : RdS (alls rs rrB) p.1 p.1.n 1 (idsV p.2) := RdS.alls hp RdS.own
      refine S.rSome hRp (by omega) fun pb po hpa => ?_
      refine S.skip ?_
      with_reducible repeat (first | refine S.then_n ?_ | refine S.then_x ?_ | refine S.then_r ?_ | refine S.inBlock_n ?_ | refine S.inBlock_r ?_ | refine S.inBlock_x rfl ?_ | refine S.noGoto_r ?_ | refine S.noGoto_n ?_ | refine S.noGoto_x ?_)
      refine hK8 _ _ ?_
      refine S.seq fun K9 hK9 => ?_
      refine S.block ?_
      refine S.seq fun K10 hK10 => ?_
      refine S.region rfl ?_
      refine S.op (S.q (q_move rfl) rfl rfl ?_)
      refine S.op (S.q (q_indexO (o) Tryd.el52 rfl hca rfl rfl (by omega)) rfl rfl ?_)
      refine S.op (S.q (q_loadOw (cs) (o) Tryd.at31 rfl hca (by first | rfl | exact Nat.add_assoc _ _ _ | omega) (by rw [List.getElem?_map, hp]; rfl)) rfl rfl ?_)
      refine S.op (S.q (q_assign rfl) rfl rfl ?_)
      refine S.op (S.q (q_assign rfl) rfl rfl ?_)
      first | with_reducible refine S.nilK ?_ | refine S.nil ?_
      refine hK10 _ _ ?_
      refine S.seq fun K11 hK11 => ?_
      refine S.region rfl ?_
      refine S.ent (Ent.ownNil 3 1) ?_
      show S _ w0 _ (own SV.nil 3 1 (nds (ndsAt m j o 0)) :: _) _
      refine S.op (S.q (q_assign rfl) rfl rfl ?_)
      first | with_reducible refine S.nilK ?_ | refine S.nil ?_
      refine hK11 _ _ ?_
      refine S.seq fun K12 hK12 => ?_
      refine S.seq fun K13 hK13 => ?_
      refine S.region rfl ?_
      refine S.op (S.q (q_move rfl) rfl rfl ?_)
      refine S.op (S.q (q_len Tryd.underlying31 rfl) rfl rfl ?_)
      refine S.op (S.q (q_move rfl) rfl rfl ?_)
      first | with_reducible refine S.nilK ?_ | refine S.nil ?_
      refine hK13 _ _ ?_
      refine S.block ?_
      refine S.loop (fun q2 ρ' Γ' => ∃ (k : Nat) (sv : SV) (nl : List Nat), q2 = m.N - k ∧ k ≤ m.N ∧ nl = ndsAt m j o k ∧ sv.n = nl.length ∧ ρ' = [(1, .int .u32 (j : Int)), (7, .int .i64 (o : Int)), (9, sv.v), (21, cs.v), (22, .int .i64 cs.n), (23, .int .i64 (o : Int)), (28, p.1.v), (29, .int .i64 p.1.n), (30, .int .i64 (k : Int))] ∧   Γ' = own sv 3 1 (nds nl) :: blk b 55 #[cs.v, us.v] :: own cs 31 1 (rs.map rrV) :: own us 4 1 (upC m) :: alls rs rrB :: Γ) (m := _) (ρ0 := _) (Γ0 := _) (⟨0, SV.nil, ndsAt m j o 0, rfl, by omega, rfl, rfl, rfl, rfl⟩) (by repeat (first | exact trivial | refine ⟨rfl, ?_⟩)) Sub.ent ?_
      rintro q2 ρ' Γ' ⟨k, sv, nl, hq2, hk, hnl, hsv, rfl, rfl⟩
      have hlen := ndsAt_len m j o k
      rw [← hnl] at hlen
      refine S.seq fun K14 hK14 => ?_
      refine S.region rfl ?_
      refine S.op (S.q (q_lt rfl rfl) rfl rfl ?_)
      first | with_reducible refine S.nilK ?_ | refine S.nil ?_
      refine hK14 _ _ ?_
      refine S.seq fun K15 hK15 => ?_
      refine S.condD rfl (fun h3 => ?_) (fun h3 => ?_)
      · have hxa := rowN_get (m := m) (i := k) (by omega) o
        rw [← hpd] at hxa
        refine S.skip ?_
        with_reducible repeat (first | refine S.then_n ?_ | refine S.then_x ?_ | refine S.then_r ?_ | refine S.inBlock_n ?_ | refine S.inBlock_r ?_ | refine S.inBlock_x rfl ?_ | refine S.noGoto_r ?_ | refine S.noGoto_n ?_ | refine S.noGoto_x ?_)
        refine hK15 _ _ ?_
        refine S.seq fun K16 hK16 => ?_
        refine S.block ?_
        refine S.seq fun K17 hK17 => ?_
        refine S.region rfl ?_
        refine S.op (S.q (q_move rfl) rfl rfl ?_)
        refine S.op (S.q (q_indexO (k) Tryd.el31 rfl hpa rfl rfl (by omega)) rfl rfl ?_)
        refine S.op (S.q (q_loadR hRp k Tryd.at68 rfl hpa (by omega) (by omega) (idsV_get hxa)) rfl rfl ?_)
        refine S.op (S.q (q_assign rfl) rfl rfl ?_)
        refine S.op (S.q (q_assign rfl) rfl rfl ?_)
        first | with_reducible refine S.nilK ?_ | refine S.nil ?_
        refine hK17 _ _ ?_
        refine S.seq fun K18 hK18 => ?_
        refine S.region rfl ?_
        refine S.op (S.q (q_move rfl) rfl rfl ?_)
        refine S.op (S.q (q_move rfl) rfl rfl ?_)
        refine S.op (S.q (q_eq rfl rfl) rfl rfl ?_)
        first | with_reducible refine S.nilK ?_ | refine S.nil ?_
        refine hK18 _ _ ?_
        refine S.condD rfl (fun h4 => ?_) (fun h4 => ?_)
        · have hs4 : nl ++ [k] = ndsAt m j o (k + 1) := by rw [ndsAt, if_pos (by omega), hnl]
          have hl4 : (nl ++ [k]).length = nl.length + 1 := by simp
          have hd4 : nds nl ++ [.int .i64 (k : Int)] = nds (nl ++ [k]) := by simp
          refine S.region rfl ?_
          refine S.op (S.q (q_move rfl) rfl rfl ?_)
          refine S.op (S.q (q_move rfl) rfl rfl ?_)
          refine S.op (S.buildSlice (pvs := [(_, _)]) [_] Tryd.underlying69 Tryd.inf3 rfl rfl ⟨⟨rfl, rfl⟩, trivial⟩ rfl rfl ?_)
          intro b40
          refine S.op (S.appendOw (s := sv) (1) ([.int .i64 (k : Int)]) Tryd.underlying69 Tryd.inf3 rfl rfl rfl (blk_slAt (b := b40) rfl (by unfold maxLen; omega)) (by first | rfl | exact allOne_bcells _) (⟨by omega, by omega⟩) rfl ?_)
          intro sv2 hsv2
          refine S.op (S.q (q_assign rfl) rfl rfl ?_)
          first | with_reducible refine S.nilK ?_ | refine S.nil ?_
          with_reducible repeat (first | refine S.then_n ?_ | refine S.then_x ?_ | refine S.then_r ?_ | refine S.inBlock_n ?_ | refine S.inBlock_r ?_ | refine S.inBlock_x rfl ?_ | refine S.noGoto_r ?_ | refine S.noGoto_n ?_ | refine S.noGoto_x ?_)
          refine hK16 _ _ ?_
          refine S.region rfl ?_
          refine S.op (S.q (q_add rfl rfl (inI64 (by omega) (by omega))) rfl rfl ?_)
          refine S.op (S.q (q_move rfl) rfl rfl ?_)
          first | with_reducible refine S.nilK ?_ | refine S.nil ?_
          with_reducible repeat (first | refine S.then_n ?_ | refine S.then_x ?_ | refine S.then_r ?_ | refine S.inBlock_n ?_ | refine S.inBlock_r ?_ | refine S.inBlock_x rfl ?_ | refine S.noGoto_r ?_ | refine S.noGoto_n ?_ | refine S.noGoto_x ?_)
          first | (rw [hd4]; exact S.next (q2 - 1) ⟨k + 1, sv2, nl ++ [k], by omega, by omega, hs4, by omega, rfl, rfl⟩ (by omega) (by repeat (first | exact trivial | refine ⟨rfl, ?_⟩)) Sub.ent) | exact S.next (q2 - 1) ⟨k + 1, sv, nl, by omega, by omega, hs4, hsv, rfl, rfl⟩ (by omega) (by repeat (first | exact trivial | refine ⟨rfl, ?_⟩)) Sub.ent
        · have hs4 : nl = ndsAt m j o (k + 1) := by rw [ndsAt, if_neg (by omega), hnl]
          refine S.skip ?_
          with_reducible repeat (first | refine S.then_n ?_ | refine S.then_x ?_ | refine S.then_r ?_ | refine S.inBlock_n ?_ | refine S.inBlock_r ?_ | refine S.inBlock_x rfl ?_ | refine S.noGoto_r ?_ | refine S.noGoto_n ?_ | refine S.noGoto_x ?_)
          with_reducible repeat (first | refine S.then_n ?_ | refine S.then_x ?_ | refine S.then_r ?_ | refine S.inBlock_n ?_ | refine S.inBlock_r ?_ | refine S.inBlock_x rfl ?_ | refine S.noGoto_r ?_ | refine S.noGoto_n ?_ | refine S.noGoto_x ?_)
          refine hK16 _ _ ?_
          refine S.region rfl ?_
          refine S.op (S.q (q_add rfl rfl (inI64 (by omega) (by omega))) rfl rfl ?_)
          refine S.op (S.q (q_move rfl) rfl rfl ?_)
          first | with_reducible refine S.nilK ?_ | refine S.nil ?_
          with_reducible repeat (first | refine S.then_n ?_ | refine S.then_x ?_ | refine S.then_r ?_ | refine S.inBlock_n ?_ | refine S.inBlock_r ?_ | refine S.inBlock_x rfl ?_ | refine S.noGoto_r ?_ | refine S.noGoto_n ?_ | refine S.noGoto_x ?_)
          first | (rw [hd4]; exact S.next (q2 - 1) ⟨k + 1, sv2, nl ++ [k], by omega, by omega, hs4, by omega, rfl, rfl⟩ (by omega) (by repeat (first | exact trivial | refine ⟨rfl, ?_⟩)) Sub.ent) | exact S.next (q2 - 1) ⟨k + 1, sv, nl, by omega, by omega, hs4, hsv, rfl, rfl⟩ (by omega) (by repeat (first | exact trivial | refine ⟨rfl, ?_⟩)) Sub.ent
      · have hkN : k = m.N := by omega
        rw [hkN] at hnl
        refine S.exit ?_
        with_reducible repeat (first | refine S.then_n ?_ | refine S.then_x ?_ | refine S.then_r ?_ | refine S.inBlock_n ?_ | refine S.inBlock_r ?_ | refine S.inBlock_x rfl ?_ | refine S.noGoto_r ?_ | refine S.noGoto_n ?_ | refine S.noGoto_x ?_)
        with_reducible refine S.inBlock_s ?_
        with_reducible repeat (first | refine S.then_n ?_ | refine S.then_x ?_ | refine S.then_r ?_ | refine S.inBlock_n ?_ | refine S.inBlock_r ?_ | refine S.inBlock_x rfl ?_ | refine S.noGoto_r ?_ | refine S.noGoto_n ?_ | refine S.noGoto_x ?_)
        refine hK12 _ _ ?_
        refine S.seq fun K19 hK19 => ?_
        refine S.region rfl ?_
        refine S.op (S.q (q_move rfl) rfl rfl ?_)
        refine S.op (S.q (q_len Tryd.underlying69 rfl) rfl rfl ?_)
        refine S.op (S.q (q_gt rfl rfl) rfl rfl ?_)
        first | with_reducible refine S.nilK ?_ | refine S.nil ?_
        refine hK19 _ _ ?_
        refine S.condD rfl (fun h5 => ?_) (fun h5 => ?_)
        · have hx5 : ∃ x, look m.js j = some x ∧ x.row = o := Classical.byContradiction fun hn => by
            rw [ndsAt_none hm hj0 fun x hx e => hn ⟨x, hx, e⟩] at hnl
            rw [hnl] at hsv
            simp at hsv
            omega
          obtain ⟨x, hx, hxo⟩ := hx5
          have hfin : ofR m j = ((o : Int), nl, true) := by rw [ofR_some hx, hxo, hnl, ← hxo, ndsAt_some hm hx]
          refine S.seq fun K20 hK20 => ?_
          refine S.region rfl ?_
          refine S.op (S.q (q_move rfl) rfl rfl ?_)
          refine S.op (S.q (q_move rfl) rfl rfl ?_)
          refine S.op (S.q (q_assign rfl) rfl rfl ?_)
          refine S.op (S.q (q_assign rfl) rfl rfl ?_)
          refine S.op (S.q (q_assign rfl) rfl rfl ?_)
          first | with_reducible refine S.nilK ?_ | refine S.nil ?_
          refine hK20 _ _ ?_
          refine S.ret ?_
          with_reducible repeat (first | refine S.then_n ?_ | refine S.then_x ?_ | refine S.then_r ?_ | refine S.inBlock_n ?_ | refine S.inBlock_r ?_ | refine S.inBlock_x rfl ?_ | refine S.noGoto_r ?_ | refine S.noGoto_n ?_ | refine S.noGoto_x ?_)
          exact S.fin (rs := [_, _, _]) (vs := [_, _, _]) Tryd.results46 (⟨rfl, rfl, rfl, trivial⟩)  (⟨sv, by rw [hfin]; rfl, by rw [hfin]; exact hsv, by rw [hfin]⟩) Sub.ent
        · have hno2 : ∀ x, look m.js j = some x → o + 1 ≤ x.row := fun x hx => by
            have h8 := hno x hx
            by_cases e : x.row = o
            · have h9 := ndsAt_some hm hx
              rw [e, ← hnl] at h9
              have h7 := hm.some x (look_some hx).1
              rw [h9] at hsv
              have : (lst x.ns).length ≠ 0 := fun e2 => h7 (lst_nil.1 (List.length_eq_zero_iff.1 e2))
              omega
            · omega
          refine S.skip ?_
          with_reducible repeat (first | refine S.then_n ?_ | refine S.then_x ?_ | refine S.then_r ?_ | refine S.inBlock_n ?_ | refine S.inBlock_r ?_ | refine S.inBlock_x rfl ?_ | refine S.noGoto_r ?_ | refine S.noGoto_n ?_ | refine S.noGoto_x ?_)
          with_reducible repeat (first | refine S.then_n ?_ | refine S.then_x ?_ | refine S.then_r ?_ | refine S.inBlock_n ?_ | refine S.inBlock_r ?_ | refine S.inBlock_x rfl ?_ | refine S.noGoto_r ?_ | refine S.noGoto_n ?_ | refine S.noGoto_x ?_)
          refine hK9 _ _ ?_
          refine S.region rfl ?_
          refine S.op (S.q (q_add rfl rfl (inI64 (by omega) (by omega))) rfl rfl ?_)
          refine S.op (S.q (q_move rfl) rfl rfl ?_)
          first | with_reducible refine S.nilK ?_ | refine S.nil ?_
          with_reducible repeat (first | refine S.then_n ?_ | refine S.then_x ?_ | refine S.then_r ?_ | refine S.inBlock_n ?_ | refine S.inBlock_r ?_ | refine S.inBlock_x rfl ?_ | refine S.noGoto_r ?_ | refine S.noGoto_n ?_ | refine S.noGoto_x ?_)
          exact S.next (q - 1) (⟨o + 1, by omega, by omega, hno2, rfl, rfl⟩) (by omega) (by repeat (first | exact trivial | refine ⟨rfl, ?_⟩)) Sub.ent
    · have hn : look m.js j = none := by
        cases h : look m.js j with
        | none => rfl
        | some x => have h8 := hno x h; have h9 := hm.row x (look_some h).1; omega
      refine S.exit ?_
      with_reducible repeat (first | refine S.then_n ?_ | refine S.then_x ?_ | refine S.then_r ?_ | refine S.inBlock_n ?_ | refine S.inBlock_r ?_ | refine S.inBlock_x rfl ?_ | refine S.noGoto_r ?_ | refine S.noGoto_n ?_ | refine S.noGoto_x ?_)
      with_reducible refine S.inBlock_s ?_
      with_reducible repeat (first | refine S.then_n ?_ | refine S.then_x ?_ | refine S.then_r ?_ | refine S.inBlock_n ?_ | refine S.inBlock_r ?_ | refine S.inBlock_x rfl ?_ | refine S.noGoto_r ?_ | refine S.noGoto_n ?_ | refine S.noGoto_x ?_)
      refine hK5 _ _ ?_
      refine S.seq fun K21 hK21 => ?_
      refine S.region rfl ?_
      refine S.op (S.q (q_assign rfl) rfl rfl ?_)
      refine S.op (S.q (q_assign rfl) rfl rfl ?_)
      refine S.op (S.q (q_assign rfl) rfl rfl ?_)
      first | with_reducible refine S.nilK ?_ | refine S.nil ?_
      refine hK21 _ _ ?_
      refine S.ret ?_
      with_reducible repeat (first | refine S.then_n ?_ | refine S.then_x ?_ | refine S.then_r ?_ | refine S.inBlock_n ?_ | refine S.inBlock_r ?_ | refine S.inBlock_x rfl ?_ | refine S.noGoto_r ?_ | refine S.noGoto_n ?_ | refine S.noGoto_x ?_)
      refine S.ent (Ent.ownNil 3 1) ?_
      show S _ w0 _ (own SV.nil 3 1 (nds []) :: riX b m cs us rs Γ) _
      exact S.fin (rs := [_, _, _]) (vs := [_, _, _]) Tryd.results46 (⟨rfl, rfl, rfl, trivial⟩)  (⟨SV.nil, by rw [ofR_none hn]; rfl, by rw [ofR_none hn]; rfl, by rw [ofR_none hn]⟩) Sub.ent
theorem rOf_S (b : Nat) (m : Mx) (j : Nat) : Spec Tryd.prog 46 [.pointer (some ⟨b, 0, none⟩), .int .u32 (j : Int)] [RI b m] fun Γ v Θ => ∃ sv : SV, v = .tuple #[.int .i64 (ofR m j).1, sv.v, .bool (ofR m j).2.2] ∧ sv.n = (ofR m j).2.1.length ∧
    Θ = own sv 3 1 (nds (ofR m j).2.1) :: RI b m :: Γ := by
  refine Spec.riX fun cs us rs hri => ?_
  refine (rOfX_S b m j cs us rs hri).weaken fun Γ => ⟨Γ, Ent.refl _, fun v Θ h => ?_⟩
  obtain ⟨sv, h1, h2, rfl⟩ := h
  exact ⟨_, ⟨sv, h1, h2, rfl⟩, (Ent.ri hri Γ).cons _⟩
end Go.Proofs.YtegjmmocnffpiaaDoor
/- Rows put together, jobs put ahead: the walks of move, all, Unify, Repack. -/
namespace Go.Proofs.YtegjmmocnffpiaaDoor
open Go.RowKit
set_option maxRecDepth 20000
abbrev mvC (x : Mv) : List Value := [.int .u32 (x.1 : Int), .int .i64 x.2.1, .int .i64 x.2.2]
abbrev mvV (x : Mv) : Value := .agg #[.int .u32 (x.1 : Int), .int .i64 x.2.1, .int .i64 x.2.2]
theorem mvC_len (x : Mv) : (mvC x).length = 3 := rfl
def mvR (o : Option Mv) : Mv := o.getD (0, 0, 0)
theorem putR_move {m : Mx} (hm : MxOk m) {x : Jb} (hx : x ∈ m.js) (z : Int) : (canMove m x z = true → putR (m.del x.id) x.id z ((lst x.ns).map fun i : Nat => (i : Int)) = (0, { m with js := reRow m.js x.id z.toNat })) ∧
    (canMove m x z = false → ∃ e : Int, e ≠ 0 ∧ putR (m.del x.id) x.id z ((lst x.ns).map fun i : Nat => (i : Int)) = (e, m.del x.id)) := by
  rw [putR_back hm hx]
  constructor
  · intro h
    rw [canMove, Bool.and_eq_true, decide_eq_true_eq] at h
    rw [if_neg (by rw [h.1]; simp), if_neg (fun e => e h.2)]
  · intro h
    by_cases h1 : rowB m z = false
    · rw [if_pos h1]; exact ⟨1, by omega, rfl⟩
    · rw [if_neg h1]
      by_cases h2 : tk (delJ x.id m.js) z.toNat &&& x.ns ≠ 0#16
      · rw [if_pos h2]; exact ⟨15, by omega, rfl⟩
      · exfalso
        rw [canMove, show rowB m z = true by simpa using h1, decide_eq_true (Classical.byContradiction h2)] at h
        cases h
theorem putR_home {m : Mx} (hm : MxOk m) {x : Jb} (hx : x ∈ m.js) : putR (m.del x.id) x.id (x.row : Int) ((lst x.ns).map fun i : Nat => (i : Int)) = (0, m) := by
  have hr := hm.row x hx
  have hc : canMove m x (x.row : Int) = true := by
    rw [canMove, rowB_iff.2 ⟨by omega, by omega⟩, Bool.true_and, decide_eq_true_eq, Int.toNat_natCast, tk_delJ hm hx, if_pos rfl]
    refine BitVec.eq_of_getLsbD_eq fun i _ => ?_
    rw [BitVec.getLsbD_and, BitVec.getLsbD_and, BitVec.getLsbD_not]
    cases x.ns.getLsbD i <;> simp
  rw [(putR_move hm hx _).1 hc, Int.toNat_natCast, reRow_self hm.srt hx]
theorem move_S (b : Nat) (m : Mx) (j : Nat) (z : Int) (hj : j ≤ 4294967295) {W : World} (hW : TabW W) : Spec Tryd.prog 53 [.pointer (some ⟨b, 0, none⟩), .int .u32 (j : Int), .int .i64 z] [MI b m, old W] fun Γ v Θ => v = .tuple #[mvV (mvR (moveR m j z).1), .bool (moveR m j z).1.isSome] ∧ Θ = MI b (moveR m j z).2 :: old W :: Γ := by
  refine Spec.miOk fun hok => ?_
  refine Spec.of_body Tryd.func53 rfl Tryd.ntmps53 rfl ?_
  intro w0 Γ
  show S _ w0 [(0, .pointer (some ⟨b, 0, none⟩)), (1, .int .u32 (j : Int)), (2, .int .i64 z)] (MI b m :: old W :: Γ) _
  refine S.seq fun K1 hK1 => ?_
  refine S.region rfl ?_
  refine S.op (S.alloc Tryd.z107 rfl ?_)
  intro b6
  refine S.op (S.q (q_assign rfl) rfl rfl ?_)
  first | with_reducible refine S.nilK ?_ | refine S.nil ?_
  refine hK1 _ _ ?_
  refine S.seq fun K2 hK2 => ?_
  refine S.region rfl ?_
  refine S.op (S.q (q_move rfl) rfl rfl ?_)
  refine S.op (S.q (q_move rfl) rfl rfl ?_)
  refine S.op (S.call Tryd.en72 (vs := [_, _]) ⟨rfl, rfl, trivial⟩ (Of_S b m j hW) rfl ?_)
  rintro v Θ ⟨sv, rfl, hsv, rfl⟩
  refine S.op (S.q (q_move rfl) rfl rfl ?_)
  refine S.op (S.q (q_extract rfl rfl) rfl rfl ?_)
  refine S.op (S.q (q_extract rfl rfl) rfl rfl ?_)
  refine S.op (S.q (q_extract rfl rfl) rfl rfl ?_)
  refine S.op (S.q (q_assign rfl) rfl rfl ?_)
  refine S.op (S.q (q_assign rfl) rfl rfl ?_)
  refine S.op (S.q (q_assign rfl) rfl rfl ?_)
  first | with_reducible refine S.nilK ?_ | refine S.nil ?_
  refine hK2 _ _ ?_
  refine S.seq fun K3 hK3 => ?_
  refine S.seq fun K4 hK4 => ?_
  refine S.region rfl ?_
  refine S.op (S.q (q_move rfl) rfl rfl ?_)
  refine S.op (S.q (q_not rfl) rfl rfl ?_)
  first | with_reducible refine S.nilK ?_ | refine S.nil ?_
  refine hK4 _ _ ?_
  refine S.cond rfl (fun h1 => ?_) (fun h1 => ?_)
  · have hn : look m.js j = none := by cases h : look m.js j with | none => rfl | some x => rw [ofR_some h] at h1; cases h1
    have hmv : moveR m j z = (none, m) := by simp only [moveR, hn]
    refine S.seq fun K5 hK5 => ?_
    refine S.region rfl ?_
    refine S.op (S.q (q_build (pvs := []) [_, _, _] Tryd.z107 Tryd.p107 trivial rfl) rfl rfl ?_)
    refine S.op (S.storeS (cs' := [_, _, _]) Tryd.ag107 rfl rfl rfl rfl rfl rfl ?_)
    refine S.op (S.q (q_assign rfl) rfl rfl ?_)
    first | with_reducible refine S.nilK ?_ | refine S.nil ?_
    refine hK5 _ _ ?_
    refine S.ret ?_
    with_reducible repeat (first | refine S.then_n ?_ | refine S.then_x ?_ | refine S.then_r ?_ | refine S.inBlock_n ?_ | refine S.inBlock_r ?_ | refine S.inBlock_x rfl ?_ | refine S.noGoto_r ?_ | refine S.noGoto_n ?_ | refine S.noGoto_x ?_)
    exact S.fin (rs := [_, _]) (vs := [_, _]) Tryd.results53 (⟨⟨_, _, rfl, lod_agg [_, _, _] Tryd.ag107 rfl ⟨rfl, rfl, rfl, trivial⟩⟩, rfl, trivial⟩)  (⟨by rw [hmv]; rfl, by rw [hmv]⟩) Sub.ent
  · obtain ⟨x, hx⟩ : ∃ x, look m.js j = some x := by cases h : look m.js j with | none => rw [ofR_none h] at h1; cases h1 | some x => exact ⟨x, rfl⟩
    obtain ⟨hxm, hxj⟩ := look_some hx
    rw [ofR_some hx] at hsv ⊢
    simp only at hsv ⊢
    refine S.skip ?_
    with_reducible repeat (first | refine S.then_n ?_ | refine S.then_x ?_ | refine S.then_r ?_ | refine S.inBlock_n ?_ | refine S.inBlock_r ?_ | refine S.inBlock_x rfl ?_ | refine S.noGoto_r ?_ | refine S.noGoto_n ?_ | refine S.noGoto_x ?_)
    refine hK3 _ _ ?_
    refine S.seq fun K6 hK6 => ?_
    refine S.region rfl ?_
    refine S.op (S.q (q_move rfl) rfl rfl ?_)
    refine S.op (S.q (q_move rfl) rfl rfl ?_)
    refine S.op (S.call Tryd.en32 (vs := [_, _]) ⟨rfl, rfl, trivial⟩ (Remove_S b m j) rfl ?_)
    rintro v Θ ⟨rfl, rfl⟩
    rw [removeR_some hx]
    first | with_reducible refine S.nilK ?_ | refine S.nil ?_
    refine hK6 _ _ ?_
    refine S.seq fun K7 hK7 => ?_
    refine S.seq fun K8 hK8 => ?_
    refine S.region rfl ?_
    refine S.op (S.q (q_move rfl) rfl rfl ?_)
    refine S.op (S.q (q_move rfl) rfl rfl ?_)
    refine S.op (S.q (q_move rfl) rfl rfl ?_)
    refine S.op (S.q (q_move rfl) rfl rfl ?_)
    refine S.op (S.call Tryd.en30 (vs := [_, _, _, _]) ⟨rfl, rfl, rfl, rfl, trivial⟩ (Put_S b (m.del j) j z (own sv 3 1 (nds (lst x.ns))) sv (casts (lst x.ns)) (by rw [hsv, List.length_map]) (rdNds sv 3 (lst x.ns)) hj) rfl ?_)
    rintro v Θ ⟨rfl, rfl⟩
    refine S.op (S.q (q_ne rfl rfl) rfl rfl ?_)
    first | with_reducible refine S.nilK ?_ | refine S.nil ?_
    refine hK8 _ _ ?_
    refine S.condD rfl (fun h2 => ?_) (fun h2 => ?_)
    · have hcm : canMove m x z = false := by
        cases h : canMove m x z with
        | false => rfl
        | true =>
          have h9 := (putR_move hok hxm z).1 h
          rw [hxj] at h9
          exact absurd (by rw [h9]) h2
      obtain ⟨e, _, he⟩ := (putR_move hok hxm z).2 hcm
      rw [hxj] at he
      have hhome := putR_home hok hxm
      rw [hxj] at hhome
      have hmv : moveR m j z = (none, m) := by simp only [moveR, hx]; rw [if_neg (by rw [hcm]; simp)]
      rw [he]
      refine S.seq fun K9 hK9 => ?_
      refine S.region rfl ?_
      refine S.op (S.q (q_move rfl) rfl rfl ?_)
      refine S.op (S.q (q_move rfl) rfl rfl ?_)
      refine S.op (S.q (q_move rfl) rfl rfl ?_)
      refine S.op (S.q (q_move rfl) rfl rfl ?_)
      refine S.op (S.call Tryd.en30 (vs := [_, _, _, _]) ⟨rfl, rfl, rfl, rfl, trivial⟩ (Put_S b (m.del j) j (x.row : Int) (own sv 3 1 (nds (lst x.ns))) sv (casts (lst x.ns)) (by rw [hsv, List.length_map]) (rdNds sv 3 (lst x.ns)) hj) rfl ?_)
      rintro v Θ ⟨rfl, rfl⟩
      rw [hhome]
      first | with_reducible refine S.nilK ?_ | refine S.nil ?_
      refine hK9 _ _ ?_
      refine S.seq fun K10 hK10 => ?_
      refine S.region rfl ?_
      refine S.op (S.q (q_build (pvs := []) [_, _, _] Tryd.z107 Tryd.p107 trivial rfl) rfl rfl ?_)
      refine S.op (S.storeS (cs' := [_, _, _]) Tryd.ag107 rfl rfl rfl rfl rfl rfl ?_)
      refine S.op (S.q (q_assign rfl) rfl rfl ?_)
      first | with_reducible refine S.nilK ?_ | refine S.nil ?_
      refine hK10 _ _ ?_
      refine S.ret ?_
      with_reducible repeat (first | refine S.then_n ?_ | refine S.then_x ?_ | refine S.then_r ?_ | refine S.inBlock_n ?_ | refine S.inBlock_r ?_ | refine S.inBlock_x rfl ?_ | refine S.noGoto_r ?_ | refine S.noGoto_n ?_ | refine S.noGoto_x ?_)
      exact S.fin (rs := [_, _]) (vs := [_, _]) Tryd.results53 (⟨⟨_, _, rfl, lod_agg [_, _, _] Tryd.ag107 rfl ⟨rfl, rfl, rfl, trivial⟩⟩, rfl, trivial⟩)  (⟨by rw [hmv]; rfl, by rw [hmv]⟩) Sub.ent
    · have hcm : canMove m x z = true := by
        cases h : canMove m x z with
        | true => rfl
        | false =>
          obtain ⟨e, h8, h9⟩ := (putR_move hok hxm z).2 h
          rw [hxj] at h9
          exact absurd (by rw [h9]; exact h8) h2
      have hp := (putR_move hok hxm z).1 hcm
      rw [hxj] at hp
      have hmv : moveR m j z = (some (j, (x.row : Int), z), { m with js := reRow m.js j z.toNat }) := by simp only [moveR, hx]; rw [if_pos hcm]
      rw [hp]
      refine S.skip ?_
      with_reducible repeat (first | refine S.then_n ?_ | refine S.then_x ?_ | refine S.then_r ?_ | refine S.inBlock_n ?_ | refine S.inBlock_r ?_ | refine S.inBlock_x rfl ?_ | refine S.noGoto_r ?_ | refine S.noGoto_n ?_ | refine S.noGoto_x ?_)
      refine hK7 _ _ ?_
      refine S.seq fun K11 hK11 => ?_
      refine S.region rfl ?_
      refine S.op (S.q (q_move rfl) rfl rfl ?_)
      refine S.op (S.q (q_move rfl) rfl rfl ?_)
      refine S.op (S.q (q_move rfl) rfl rfl ?_)
      refine S.op (S.q (q_build (pvs := [(_, _), (_, _), (_, _)]) [_, _, _] Tryd.z107 Tryd.p107 ⟨⟨rfl, rfl⟩, ⟨rfl, rfl⟩, ⟨rfl, rfl⟩, trivial⟩ rfl) rfl rfl ?_)
      refine S.op (S.storeS (cs' := [_, _, _]) Tryd.ag107 rfl rfl rfl rfl rfl rfl ?_)
      refine S.op (S.q (q_assign rfl) rfl rfl ?_)
      first | with_reducible refine S.nilK ?_ | refine S.nil ?_
      refine hK11 _ _ ?_
      refine S.ret ?_
      with_reducible repeat (first | refine S.then_n ?_ | refine S.then_x ?_ | refine S.then_r ?_ | refine S.inBlock_n ?_ | refine S.inBlock_r ?_ | refine S.inBlock_x rfl ?_ | refine S.noGoto_r ?_ | refine S.noGoto_n ?_ | refine S.noGoto_x ?_)
      exact S.fin (rs := [_, _]) (vs := [_, _]) Tryd.results53 (⟨⟨_, _, rfl, lod_agg [_, _, _] Tryd.ag107 rfl ⟨rfl, rfl, rfl, trivial⟩⟩, rfl, trivial⟩)  (⟨by rw [hmv]; rfl, by rw [hmv]⟩) Sub.ent
theorem rowsCount_S (b : Nat) (m : Mx) : Spec Tryd.prog 48 [.pointer (some ⟨b, 0, none⟩)] [MI b m] fun Γ v Θ => v = .int .i64 (m.R : Int) ∧ Θ = MI b m :: Γ := by
  refine Spec.of_body Tryd.func48 rfl Tryd.ntmps48 rfl ?_
  intro w0 Γ
  show S _ w0 [(0, .pointer (some ⟨b, 0, none⟩))] (MI b m :: Γ) _
  refine S.seq fun K1 hK1 => ?_
  refine S.region rfl ?_
  refine S.op (S.q (q_assign rfl) rfl rfl ?_)
  first | with_reducible refine S.nilK ?_ | refine S.nil ?_
  refine hK1 _ _ ?_
  refine S.seq fun K2 hK2 => ?_
  refine S.region rfl ?_
  refine S.op (S.q (q_move rfl) rfl rfl ?_)
  refine S.op (S.call Tryd.en37 (vs := [_]) ⟨rfl, trivial⟩ (Size_S b m) rfl ?_)
  rintro v Θ ⟨rfl, rfl⟩
  refine S.op (S.q (q_move rfl) rfl rfl ?_)
  refine S.op (S.q (q_extract rfl rfl) rfl rfl ?_)
  refine S.op (S.q (q_extract rfl rfl) rfl rfl ?_)
  refine S.op (S.q (q_assign rfl) rfl rfl ?_)
  refine S.op (S.q (q_assign rfl) rfl rfl ?_)
  first | with_reducible refine S.nilK ?_ | refine S.nil ?_
  refine hK2 _ _ ?_
  refine S.seq fun K3 hK3 => ?_
  refine S.region rfl ?_
  refine S.op (S.q (q_move rfl) rfl rfl ?_)
  refine S.op (S.q (q_assign rfl) rfl rfl ?_)
  first | with_reducible refine S.nilK ?_ | refine S.nil ?_
  refine hK3 _ _ ?_
  refine S.ret ?_
  with_reducible repeat (first | refine S.then_n ?_ | refine S.then_x ?_ | refine S.then_r ?_ | refine S.inBlock_n ?_ | refine S.inBlock_r ?_ | refine S.inBlock_x rfl ?_ | refine S.noGoto_r ?_ | refine S.noGoto_n ?_ | refine S.noGoto_x ?_)
  exact S.fin (rs := [_]) (vs := [_]) Tryd.results48 (⟨rfl, trivial⟩)  (⟨rfl, rfl⟩) Sub.ent
theorem runUp_prefix {m : Mx} {z : Int} {ids : List Nat} {q : Nat} : ∀ {p : Nat} {a : List Mv × Mx}, runUp m z ids p = some a → q ≤ p → ∃ b, runUp m z ids q = some b
  | 0, a, h, hq => ⟨a, by rwa [show q = 0 by omega]⟩
  | p + 1, a, h, hq => by
    by_cases e : q = p + 1
    · exact ⟨a, by rwa [e]⟩
    · rw [runUp] at h
      cases hr : runUp m z ids p with
      | none => rw [hr] at h; cases h
      | some b => exact runUp_prefix hr (by omega)
theorem runUp_none {m : Mx} {z : Int} {ids : List Nat} {q p : Nat} (h : runUp m z ids q = none) (hp : q ≤ p) : runUp m z ids p = none := by
  cases e : runUp m z ids p with
  | none => rfl
  | some a => obtain ⟨b, hb⟩ := runUp_prefix e hp; rw [h] at hb; cases hb
theorem runUp_job {m : Mx} {z : Int} {ids : List Nat} : ∀ {q : Nat} {a : List Mv × Mx}, q ≤ ids.length → runUp m z ids q = some a → a.1.map (·.1) = ids.take q
  | 0, a, _, h => by
    simp only [runUp, Option.some.injEq] at h
    subst h
    rfl
  | q + 1, a, hq, h => by
    rw [runUp] at h
    cases hr : runUp m z ids q with
    | none => rw [hr] at h; cases h
    | some b =>
      rw [hr] at h
      simp only at h
      cases hv : moveR b.2 (ids.getD q 0) z with
      | mk x m' =>
        rw [hv] at h
        cases x with
        | none => cases h
        | some x =>
          simp only [Option.some.injEq] at h
          subst h
          obtain ⟨y, _, _, hxe, _⟩ := moveR_some hv
          have hx := List.getElem?_eq_getElem (show q < ids.length by omega)
          rw [List.map_append, runUp_job (by omega) hr, List.take_add_one, hx, hxe]
          simp [List.getD, hx]
theorem all_S (b : Nat) (m : Mx) (f t : Nat) (hf : f < m.R) {W : World} (hW : TabW W) : Spec Tryd.prog 49 [.pointer (some ⟨b, 0, none⟩), .int .i64 (f : Int), .int .i64 (t : Int)] [MI b m, old W] fun Γ v Θ => ∃ sv : SV, v = sv.v ∧ sv.n = (allR m f t).1.length ∧
    Θ = own sv 107 3 ((allR m f t).1.flatMap mvC) :: MI b (allR m f t).2 :: old W :: Γ := by
  refine Spec.miOk fun hok => ?_
  refine Spec.of_body Tryd.func49 rfl Tryd.ntmps49 rfl ?_
  intro w0 Γ
  show S _ w0 [(0, .pointer (some ⟨b, 0, none⟩)), (1, .int .i64 (f : Int)), (2, .int .i64 (t : Int))] (MI b m :: old W :: Γ) _
  obtain ⟨ids, hids⟩ : ∃ ids, ids = rowIds m f := ⟨_, rfl⟩
  have h16 : ids.length ≤ 16 := by rw [hids, rowIds_eq hf, List.length_map]; exact rowJ_len m f
  have hidj : ∀ j ∈ ids, j ≤ 4294967295 := fun j hj => by
    rw [hids] at hj
    obtain ⟨x, h1, _, h3⟩ := (mem_rowIds hok hf).1 hj
    rw [← h3]
    exact hok.id2 x h1
  have hall : allR m f t = match runUp m t ids ids.length with | some a => a | none => ([], m) := by rw [hids]; rfl
  refine S.seq fun K1 hK1 => ?_
  refine S.region rfl ?_
  refine S.op (S.q (q_assign rfl) rfl rfl ?_)
  first | with_reducible refine S.nilK ?_ | refine S.nil ?_
  refine hK1 _ _ ?_
  refine S.seq fun K2 hK2 => ?_
  refine S.region rfl ?_
  refine S.op (S.q (q_move rfl) rfl rfl ?_)
  refine S.op (S.call Tryd.en25 (vs := [_]) ⟨rfl, trivial⟩ (Copy_S b m) rfl ?_)
  rintro v Θ ⟨c, rfl, rfl⟩
  refine S.op (S.q (q_assign rfl) rfl rfl ?_)
  first | with_reducible refine S.nilK ?_ | refine S.nil ?_
  refine hK2 _ _ ?_
  refine S.seq fun K3 hK3 => ?_
  refine S.region rfl ?_
  refine S.op (S.q (q_assign rfl) rfl rfl ?_)
  first | with_reducible refine S.nilK ?_ | refine S.nil ?_
  refine hK3 _ _ ?_
  refine S.seq fun K4 hK4 => ?_
  refine S.seq fun K5 hK5 => ?_
  refine S.region rfl ?_
  refine S.op (S.q (q_move rfl) rfl rfl ?_)
  refine S.op (S.q (q_move rfl) rfl rfl ?_)
  refine S.op (S.call Tryd.en52 (vs := [_, _]) ⟨rfl, rfl, trivial⟩ (Row_S b m f hW) rfl ?_)
  rintro v Θ ⟨rv, rfl, hrv, rfl⟩
  rw [← hids] at hrv ⊢
  refine S.op (S.q (q_len Tryd.underlying31 rfl) rfl rfl ?_)
  refine S.ent (Ent.ownNil 107 3) ?_
  show S _ w0 _ (own SV.nil 107 3 (([] : List Mv).flatMap mvC) :: _) _
  refine S.op (S.q (q_move rfl) rfl rfl ?_)
  first | with_reducible refine S.nilK ?_ | refine S.nil ?_
  refine hK5 _ _ ?_
  refine S.block ?_
  refine S.loop (fun q ρ' Γ' => ∃ (i : Nat) (sv : SV) (xs : List Mv) (m2 : Mx), q = ids.length - i ∧ i ≤ ids.length ∧ runUp m t ids i = some (xs, m2) ∧ xs.length = i ∧ sv.n = i ∧ ρ' = [(0, .pointer (some ⟨b, 0, none⟩)), (2, .int .i64 (t : Int)), (7, .pointer (some ⟨c, 0, none⟩)), (8, sv.v), (19, rv.v), (20, .int .i64 rv.n), (21, .int .i64 (i : Int))] ∧   Γ' = own sv 107 3 (xs.flatMap mvC) :: own rv 68 1 (idsV ids) :: MI c m2 :: MI b m :: old W :: Γ) (m := _) (ρ0 := _) (Γ0 := _) (⟨0, SV.nil, [], m, rfl, by omega, rfl, rfl, rfl, rfl, rfl⟩) (by repeat (first | exact trivial | refine ⟨rfl, ?_⟩)) Sub.ent ?_
  rintro q ρ' Γ' ⟨i, sv, xs, m2, hq, hi, hru, hxl, hsv, rfl, rfl⟩
  refine S.seq fun K6 hK6 => ?_
  refine S.region rfl ?_
  refine S.op (S.q (q_lt rfl rfl) rfl rfl ?_)
  first | with_reducible refine S.nilK ?_ | refine S.nil ?_
  refine hK6 _ _ ?_
  refine S.seq fun K7 hK7 => ?_
  refine S.condD rfl (fun h1 => ?_) (fun h1 => ?_)
  · refine S.ownSome rv (by omega) fun rb rf hra _ _ _ => ?_
    obtain ⟨j, hj⟩ := getE (show i < ids.length by omega)
    have hjd : ids.getD i 0 = j := by simp [List.getD, hj]
    have hj32 := hidj j (List.mem_of_getElem? hj)
    refine S.skip ?_
    with_reducible repeat (first | refine S.then_n ?_ | refine S.then_x ?_ | refine S.then_r ?_ | refine S.inBlock_n ?_ | refine S.inBlock_r ?_ | refine S.inBlock_x rfl ?_ | refine S.noGoto_r ?_ | refine S.noGoto_n ?_ | refine S.noGoto_x ?_)
    refine hK7 _ _ ?_
    refine S.seq fun K8 hK8 => ?_
    refine S.block ?_
    refine S.seq fun K9 hK9 => ?_
    refine S.region rfl ?_
    refine S.op (S.q (q_indexO (i) Tryd.el31 rfl hra rfl rfl (by omega)) rfl rfl ?_)
    refine S.op (S.q (q_loadOw (rv) (i) Tryd.at68 rfl hra (by first | rfl | exact Nat.add_assoc _ _ _ | omega) (idsV_get hj)) rfl rfl ?_)
    refine S.op (S.q (q_assign rfl) rfl rfl ?_)
    first | with_reducible refine S.nilK ?_ | refine S.nil ?_
    refine hK9 _ _ ?_
    refine S.seq fun K10 hK10 => ?_
    refine S.region rfl ?_
    refine S.op (S.q (q_move rfl) rfl rfl ?_)
    refine S.op (S.q (q_move rfl) rfl rfl ?_)
    refine S.op (S.q (q_move rfl) rfl rfl ?_)
    refine S.op (S.call Tryd.en53 (vs := [_, _, _]) ⟨rfl, rfl, rfl, trivial⟩ (move_S c m2 j (t : Int) hj32 hW) rfl ?_)
    rintro v Θ ⟨rfl, rfl⟩
    refine S.op (S.q (q_move rfl) rfl rfl ?_)
    refine S.op (S.q (q_extract rfl rfl) rfl rfl ?_)
    refine S.op (S.q (q_extract rfl rfl) rfl rfl ?_)
    refine S.op (S.alloc Tryd.z107 rfl ?_)
    intro b11
    refine S.op (S.storeS (cs' := [_, _, _]) Tryd.ag107 rfl rfl rfl rfl rfl rfl ?_)
    refine S.op (S.q (q_assign rfl) rfl rfl ?_)
    first | with_reducible refine S.nilK ?_ | refine S.nil ?_
    refine hK10 _ _ ?_
    refine S.seq fun K11 hK11 => ?_
    refine S.seq fun K12 hK12 => ?_
    refine S.region rfl ?_
    refine S.op (S.q (q_move rfl) rfl rfl ?_)
    refine S.op (S.q (q_not rfl) rfl rfl ?_)
    first | with_reducible refine S.nilK ?_ | refine S.nil ?_
    refine hK12 _ _ ?_
    refine S.cond rfl (fun h2 => ?_) (fun h2 => ?_)
    · have hn2 : runUp m t ids (i + 1) = none := by
        rw [runUp, hru, hjd]
        cases hv : moveR m2 j t with
        | mk x m' =>
          rw [hv] at h2
          cases x with
          | none => simp only [hv]
          | some x => cases h2
      have hfin : allR m f t = ([], m) := by rw [hall, runUp_none hn2 (by omega)]
      refine S.seq fun K13 hK13 => ?_
      refine S.region rfl ?_
      refine S.op (S.q (q_assign rfl) rfl rfl ?_)
      first | with_reducible refine S.nilK ?_ | refine S.nil ?_
      refine hK13 _ _ ?_
      refine S.ret ?_
      with_reducible repeat (first | refine S.then_n ?_ | refine S.then_x ?_ | refine S.then_r ?_ | refine S.inBlock_n ?_ | refine S.inBlock_r ?_ | refine S.inBlock_x rfl ?_ | refine S.noGoto_r ?_ | refine S.noGoto_n ?_ | refine S.noGoto_x ?_)
      refine S.ent (Ent.ownNil 107 3) ?_
      show S _ w0 _ (own SV.nil 107 3 (([] : List Mv).flatMap mvC) :: _) _
      exact S.fin (rs := [_]) (vs := [_]) Tryd.results49 (⟨rfl, trivial⟩)  (⟨SV.nil, rfl, by rw [hfin]; rfl, by rw [hfin]⟩) Sub.ent
    · obtain ⟨x, m3, hv⟩ : ∃ x m3, moveR m2 j t = (some x, m3) := by
        cases hv : moveR m2 j t with
        | mk x m' =>
          rw [hv] at h2
          cases x with
          | none => cases h2
          | some x => exact ⟨x, m', rfl⟩
      have hru2 : runUp m t ids (i + 1) = some (xs ++ [x], m3) := by rw [runUp, hru, hjd]; simp only [hv]
      have hxl2 : (xs ++ [x]).length = i + 1 := by rw [List.length_append, hxl]; rfl
      rw [hv]
      simp only [mvR, Option.getD_some]
      refine S.skip ?_
      with_reducible repeat (first | refine S.then_n ?_ | refine S.then_x ?_ | refine S.then_r ?_ | refine S.inBlock_n ?_ | refine S.inBlock_r ?_ | refine S.inBlock_x rfl ?_ | refine S.noGoto_r ?_ | refine S.noGoto_n ?_ | refine S.noGoto_x ?_)
      refine hK11 _ _ ?_
      refine S.region rfl ?_
      refine S.op (S.q (q_move rfl) rfl rfl ?_)
      refine S.op (S.q (q_loadS [_, _, _] Tryd.ag107 rfl rfl ⟨rfl, rfl, rfl, trivial⟩) rfl rfl ?_)
      refine S.op (S.buildSlice (pvs := [(_, _)]) [_, _, _] Tryd.underlying46 Tryd.inf107 rfl rfl ⟨⟨rfl, rfl⟩, trivial⟩ rfl rfl ?_)
      intro b36
      refine S.op (S.appendOw (s := sv) (1) (mvC x) Tryd.underlying46 Tryd.inf107 rfl rfl rfl (blk_slAt (b := b36) rfl (by unfold maxLen; omega)) (by first | rfl | exact allOne_bcells _) (⟨by omega, by omega⟩) rfl ?_)
      intro sv2 hsv2
      refine S.op (S.q (q_assign rfl) rfl rfl ?_)
      first | with_reducible refine S.nilK ?_ | refine S.nil ?_
      with_reducible repeat (first | refine S.then_n ?_ | refine S.then_x ?_ | refine S.then_r ?_ | refine S.inBlock_n ?_ | refine S.inBlock_r ?_ | refine S.inBlock_x rfl ?_ | refine S.noGoto_r ?_ | refine S.noGoto_n ?_ | refine S.noGoto_x ?_)
      refine hK8 _ _ ?_
      refine S.region rfl ?_
      refine S.op (S.q (q_add rfl rfl (inI64 (by omega) (by omega))) rfl rfl ?_)
      refine S.op (S.q (q_move rfl) rfl rfl ?_)
      first | with_reducible refine S.nilK ?_ | refine S.nil ?_
      with_reducible repeat (first | refine S.then_n ?_ | refine S.then_x ?_ | refine S.then_r ?_ | refine S.inBlock_n ?_ | refine S.inBlock_r ?_ | refine S.inBlock_x rfl ?_ | refine S.noGoto_r ?_ | refine S.noGoto_n ?_ | refine S.noGoto_x ?_)
      rw [flat_snoc mvC xs x]
      exact S.next (q - 1) (⟨i + 1, sv2, xs ++ [x], m3, by omega, by omega, hru2, hxl2, by omega, rfl, rfl⟩) (by omega) (by repeat (first | exact trivial | refine ⟨rfl, ?_⟩)) Sub.ent
  · have hil : i = ids.length := by omega
    have hfin : allR m f t = (xs, m2) := by rw [hall, ← hil, hru]
    have hxj := runUp_job (show i ≤ ids.length by omega) hru
    simp only at hxj
    refine S.exit ?_
    with_reducible repeat (first | refine S.then_n ?_ | refine S.then_x ?_ | refine S.then_r ?_ | refine S.inBlock_n ?_ | refine S.inBlock_r ?_ | refine S.inBlock_x rfl ?_ | refine S.noGoto_r ?_ | refine S.noGoto_n ?_ | refine S.noGoto_x ?_)
    with_reducible refine S.inBlock_s ?_
    with_reducible repeat (first | refine S.then_n ?_ | refine S.then_x ?_ | refine S.then_r ?_ | refine S.inBlock_n ?_ | refine S.inBlock_r ?_ | refine S.inBlock_x rfl ?_ | refine S.noGoto_r ?_ | refine S.noGoto_n ?_ | refine S.noGoto_x ?_)
    refine hK4 _ _ ?_
    refine S.seq fun K14 hK14 => ?_
    refine S.seq fun K15 hK15 => ?_
    refine S.region rfl ?_
    refine S.op (S.q (q_move rfl) rfl rfl ?_)
    refine S.op (S.q (q_len Tryd.underlying46 rfl) rfl rfl ?_)
    refine S.op (S.q (q_move rfl) rfl rfl ?_)
    first | with_reducible refine S.nilK ?_ | refine S.nil ?_
    refine hK15 _ _ ?_
    refine S.block ?_
    refine S.loop (fun q ρ' Γ' => ∃ (k : Nat) (ys : List Mv) (mm : Mx), q = ids.length - k ∧ k ≤ ids.length ∧ runUp m t ids k = some (ys, mm) ∧ ρ' = [(0, .pointer (some ⟨b, 0, none⟩)), (2, .int .i64 (t : Int)), (8, sv.v), (39, sv.v), (40, .int .i64 sv.n), (41, .int .i64 (k : Int))] ∧   Γ' = own sv 107 3 (xs.flatMap mvC) :: MI b mm :: old W :: Γ) (m := _) (ρ0 := _) (Γ0 := _) (⟨0, [], m, rfl, by omega, rfl, rfl, rfl⟩) (by repeat (first | exact trivial | refine ⟨rfl, ?_⟩)) Sub.ent ?_
    rintro q ρ' Γ' ⟨k, ys, mm, hq, hk, hrk, rfl, rfl⟩
    refine S.seq fun K16 hK16 => ?_
    refine S.region rfl ?_
    refine S.op (S.q (q_lt rfl rfl) rfl rfl ?_)
    first | with_reducible refine S.nilK ?_ | refine S.nil ?_
    refine hK16 _ _ ?_
    refine S.seq fun K17 hK17 => ?_
    refine S.condD rfl (fun h3 => ?_) (fun h3 => ?_)
    · refine S.ownSome sv (by omega) fun sb so hsa _ _ _ => ?_
      obtain ⟨x, hx⟩ := getE (show k < xs.length by omega)
      have hxe : ids[k]? = some x.1 := by
        have h9 := congrArg (fun l => l[k]?) hxj
        simp only [List.getElem?_map, hx, Option.map_some] at h9
        rw [h9, List.getElem?_take_of_lt (by omega)]
      have hx32 := hidj x.1 (List.mem_of_getElem? hxe)
      obtain ⟨c2, hc2⟩ := runUp_prefix hru (show k + 1 ≤ i by omega)
      have hmm : c2.2 = (moveR mm x.1 t).2 := by
        rw [runUp, hrk] at hc2
        simp only [List.getD, hxe, Option.getD_some] at hc2
        cases hv : moveR mm x.1 t with
        | mk y m' =>
          rw [hv] at hc2
          cases y with
          | none => cases hc2
          | some y => simp only [Option.some.injEq] at hc2; rw [← hc2]
      refine S.skip ?_
      with_reducible repeat (first | refine S.then_n ?_ | refine S.then_x ?_ | refine S.then_r ?_ | refine S.inBlock_n ?_ | refine S.inBlock_r ?_ | refine S.inBlock_x rfl ?_ | refine S.noGoto_r ?_ | refine S.noGoto_n ?_ | refine S.noGoto_x ?_)
      refine hK17 _ _ ?_
      refine S.seq fun K18 hK18 => ?_
      refine S.block ?_
      refine S.seq fun K19 hK19 => ?_
      refine S.region rfl ?_
      refine S.op (S.q (q_indexO (k) Tryd.el46 rfl hsa rfl rfl (by omega)) rfl rfl ?_)
      refine S.op (S.q (q_loadOwS (sv) (k * 3) [_, _, _] Tryd.ag107 rfl hsa (by first | rfl | exact Nat.add_assoc _ _ _ | omega) rfl (flat_seg (enc := mvC) (sz := 3) (fun _ => rfl) hx)) rfl rfl ?_)
      refine S.op (S.alloc Tryd.z107 rfl ?_)
      intro b14
      refine S.op (S.storeS (cs' := [_, _, _]) Tryd.ag107 rfl rfl rfl rfl rfl rfl ?_)
      first | with_reducible refine S.nilK ?_ | refine S.nil ?_
      refine hK19 _ _ ?_
      refine S.region rfl ?_
      refine S.op (S.q (q_move rfl) rfl rfl ?_)
      refine S.op (S.q (q_field Tryd.fo107_0 rfl) rfl rfl ?_)
      refine S.op (S.q (q_load Tryd.at68 rfl rfl) rfl rfl ?_)
      refine S.op (S.q (q_move rfl) rfl rfl ?_)
      refine S.op (S.call Tryd.en53 (vs := [_, _, _]) ⟨rfl, rfl, rfl, trivial⟩ (move_S b mm x.1 (t : Int) hx32 hW) rfl ?_)
      rintro v Θ ⟨rfl, rfl⟩
      rw [← hmm]
      first | with_reducible refine S.nilK ?_ | refine S.nil ?_
      with_reducible repeat (first | refine S.then_n ?_ | refine S.then_x ?_ | refine S.then_r ?_ | refine S.inBlock_n ?_ | refine S.inBlock_r ?_ | refine S.inBlock_x rfl ?_ | refine S.noGoto_r ?_ | refine S.noGoto_n ?_ | refine S.noGoto_x ?_)
      refine hK18 _ _ ?_
      refine S.region rfl ?_
      refine S.op (S.q (q_add rfl rfl (inI64 (by omega) (by omega))) rfl rfl ?_)
      refine S.op (S.q (q_move rfl) rfl rfl ?_)
      first | with_reducible refine S.nilK ?_ | refine S.nil ?_
      with_reducible repeat (first | refine S.then_n ?_ | refine S.then_x ?_ | refine S.then_r ?_ | refine S.inBlock_n ?_ | refine S.inBlock_r ?_ | refine S.inBlock_x rfl ?_ | refine S.noGoto_r ?_ | refine S.noGoto_n ?_ | refine S.noGoto_x ?_)
      exact S.next (q - 1) (⟨k + 1, c2.1, c2.2, by omega, by omega, hc2, rfl, rfl⟩) (by omega) (by repeat (first | exact trivial | refine ⟨rfl, ?_⟩)) Sub.ent
    · have hkl : k = ids.length := by omega
      rw [hkl, ← hil, hru] at hrk
      simp only [Option.some.injEq, Prod.mk.injEq] at hrk
      rw [← hrk.2]
      refine S.exit ?_
      with_reducible repeat (first | refine S.then_n ?_ | refine S.then_x ?_ | refine S.then_r ?_ | refine S.inBlock_n ?_ | refine S.inBlock_r ?_ | refine S.inBlock_x rfl ?_ | refine S.noGoto_r ?_ | refine S.noGoto_n ?_ | refine S.noGoto_x ?_)
      with_reducible refine S.inBlock_s ?_
      with_reducible repeat (first | refine S.then_n ?_ | refine S.then_x ?_ | refine S.then_r ?_ | refine S.inBlock_n ?_ | refine S.inBlock_r ?_ | refine S.inBlock_x rfl ?_ | refine S.noGoto_r ?_ | refine S.noGoto_n ?_ | refine S.noGoto_x ?_)
      refine hK14 _ _ ?_
      refine S.seq fun K20 hK20 => ?_
      refine S.region rfl ?_
      refine S.op (S.q (q_move rfl) rfl rfl ?_)
      refine S.op (S.q (q_assign rfl) rfl rfl ?_)
      first | with_reducible refine S.nilK ?_ | refine S.nil ?_
      refine hK20 _ _ ?_
      refine S.ret ?_
      with_reducible repeat (first | refine S.then_n ?_ | refine S.then_x ?_ | refine S.then_r ?_ | refine S.inBlock_n ?_ | refine S.inBlock_r ?_ | refine S.inBlock_x rfl ?_ | refine S.noGoto_r ?_ | refine S.noGoto_n ?_ | refine S.noGoto_x ?_)
      exact S.fin (rs := [_]) (vs := [_]) Tryd.results49 (⟨rfl, trivial⟩)  (⟨sv, rfl, by rw [hfin]; show sv.n = xs.length; omega, by rw [hfin]⟩) Sub.ent
end Go.Proofs.YtegjmmocnffpiaaDoor
/- Rows put together, jobs put ahead: the walks of Unify and Repack. -/
namespace Go.Proofs.YtegjmmocnffpiaaDoor
open Go.RowKit
set_option maxRecDepth 20000
theorem mvC_one (l : List Mv) : allOne (l.flatMap mvC) = true := List.all_eq_true.2 fun u hu => by
  obtain ⟨x, _, hx⟩ := List.mem_flatMap.1 hu
  simp only [mvC, List.mem_cons, List.not_mem_nil, or_false] at hx
  rcases hx with rfl | rfl | rfl <;> rfl
theorem allR_ok {m : Mx} (hm : MxOk m) {f t : Nat} : MxOk (allR m f t).2 ∧ (allR m f t).2.R = m.R := by
  unfold allR
  cases h : runUp m t (rowIds m f) (rowIds m f).length with
  | none => exact ⟨hm, rfl⟩
  | some a =>
    obtain ⟨h1, h2, _⟩ := runUp_some hm (Nat.le_refl _) h
    exact ⟨h1, by show a.2.R = m.R; rw [h2]⟩
theorem rowIds_len (m : Mx) (z : Int) : (rowIds m z).length ≤ 16 := by
  unfold rowIds
  split
  · rw [List.length_map]; exact rowJ_len m _
  · simp
theorem allR_len {m : Mx} (hm : MxOk m) (f t : Nat) : (allR m f t).1.length ≤ 16 := by
  unfold allR
  cases h : runUp m t (rowIds m f) (rowIds m f).length with
  | none => simp
  | some a =>
    obtain ⟨_, _, h3⟩ := runUp_some hm (Nat.le_refl _) h
    have := rowIds_len m f
    show a.1.length ≤ 16
    omega
theorem Unify_S (b : Nat) (m : Mx) {W : World} (hW : TabW W) : Spec Tryd.prog 15 [.pointer (some ⟨b, 0, none⟩)] [MI b m, old W] fun Γ v Θ => ∃ (c : Nat) (sv : SV), v = .tuple #[.pointer (some ⟨c, 0, none⟩), sv.v] ∧ sv.n = (unifyR m).2.length ∧
    Θ = own sv 107 3 ((unifyR m).2.flatMap mvC) :: MI c (unifyR m).1 :: MI b m :: old W :: Γ := by
  refine Spec.miOk fun hok => ?_
  refine Spec.of_body Tryd.func15 rfl Tryd.ntmps15 rfl ?_
  intro w0 Γ
  show S _ w0 [(0, .pointer (some ⟨b, 0, none⟩))] (MI b m :: old W :: Γ) _
  have hR8 := hok.R8
  refine S.seq fun K1 hK1 => ?_
  refine S.region rfl ?_
  refine S.op (S.q (q_assign rfl) rfl rfl ?_)
  refine S.op (S.q (q_assign rfl) rfl rfl ?_)
  first | with_reducible refine S.nilK ?_ | refine S.nil ?_
  refine hK1 _ _ ?_
  refine S.seq fun K2 hK2 => ?_
  refine S.region rfl ?_
  refine S.op (S.q (q_move rfl) rfl rfl ?_)
  refine S.op (S.call Tryd.en25 (vs := [_]) ⟨rfl, trivial⟩ (Copy_S b m) rfl ?_)
  rintro v Θ ⟨c, rfl, rfl⟩
  refine S.op (S.q (q_assign rfl) rfl rfl ?_)
  first | with_reducible refine S.nilK ?_ | refine S.nil ?_
  refine hK2 _ _ ?_
  refine S.seq fun K3 hK3 => ?_
  refine S.region rfl ?_
  refine S.op (S.q (q_assign rfl) rfl rfl ?_)
  first | with_reducible refine S.nilK ?_ | refine S.nil ?_
  refine hK3 _ _ ?_
  refine S.seq fun K4 hK4 => ?_
  refine S.seq fun K5 hK5 => ?_
  refine S.region rfl ?_
  refine S.op (S.q (q_move rfl) rfl rfl ?_)
  refine S.op (S.call Tryd.en48 (vs := [_]) ⟨rfl, trivial⟩ (rowsCount_S c m) rfl ?_)
  rintro v Θ ⟨rfl, rfl⟩
  refine S.ent (Ent.ownNil 107 3) ?_
  show S _ w0 _ (own SV.nil 107 3 (([] : List Mv).flatMap mvC) :: _) _
  refine S.op (S.q (q_move rfl) rfl rfl ?_)
  first | with_reducible refine S.nilK ?_ | refine S.nil ?_
  refine hK5 _ _ ?_
  refine S.block ?_
  refine S.loop (fun q ρ' Γ' => ∃ (i : Nat) (sv : SV) (xs : List Mv) (mm : Mx), q = m.R - i ∧ i ≤ m.R ∧ uniUp m i = (mm, xs) ∧ MxOk mm ∧ mm.R = m.R ∧ xs.length ≤ 128 * i ∧ sv.n = xs.length ∧ ρ' = [(4, .pointer (some ⟨c, 0, none⟩)), (5, sv.v), (11, .int .i64 (m.R : Int)), (12, .int .i64 (i : Int))] ∧   Γ' = own sv 107 3 (xs.flatMap mvC) :: MI c mm :: MI b m :: old W :: Γ) (m := _) (ρ0 := _) (Γ0 := _) (⟨0, SV.nil, [], m, rfl, by omega, rfl, hok, rfl, Nat.le_refl _, rfl, rfl, rfl⟩) (by repeat (first | exact trivial | refine ⟨rfl, ?_⟩)) Sub.ent ?_
  rintro q ρ' Γ' ⟨i, sv, xs, mm, hq, hi, huu, hmo, hmR, hxl, hsv, rfl, rfl⟩
  refine S.seq fun K6 hK6 => ?_
  refine S.region rfl ?_
  refine S.op (S.q (q_lt rfl rfl) rfl rfl ?_)
  first | with_reducible refine S.nilK ?_ | refine S.nil ?_
  refine hK6 _ _ ?_
  refine S.seq fun K7 hK7 => ?_
  refine S.condD rfl (fun h1 => ?_) (fun h1 => ?_)
  · refine S.skip ?_
    with_reducible repeat (first | refine S.then_n ?_ | refine S.then_x ?_ | refine S.then_r ?_ | refine S.inBlock_n ?_ | refine S.inBlock_r ?_ | refine S.inBlock_x rfl ?_ | refine S.noGoto_r ?_ | refine S.noGoto_n ?_ | refine S.noGoto_x ?_)
    refine hK7 _ _ ?_
    refine S.seq fun K8 hK8 => ?_
    refine S.block ?_
    refine S.seq fun K9 hK9 => ?_
    refine S.region rfl ?_
    refine S.op (S.q (q_move rfl) rfl rfl ?_)
    refine S.op (S.q (q_assign rfl) rfl rfl ?_)
    first | with_reducible refine S.nilK ?_ | refine S.nil ?_
    refine hK9 _ _ ?_
    refine S.seq fun K10 hK10 => ?_
    refine S.region rfl ?_
    refine S.op (S.q (q_move rfl) rfl rfl ?_)
    refine S.op (S.q (q_add rfl rfl (inI64 (by omega) (by omega))) rfl rfl ?_)
    refine S.op (S.q (q_assign rfl) rfl rfl ?_)
    first | with_reducible refine S.nilK ?_ | refine S.nil ?_
    refine hK10 _ _ ?_
    refine S.block ?_
    refine S.loop (fun q2 ρ' Γ' => ∃ (j p : Nat) (s2 : SV) (ys : List Mv) (m2 : Mx), q2 = m.R - j ∧ j = i + 1 + p ∧ j ≤ m.R ∧ uniIn i (mm, xs) p = (m2, ys) ∧ MxOk m2 ∧ m2.R = m.R ∧ ys.length ≤ 128 * i + 16 * p ∧ s2.n = ys.length ∧ ρ' = [(4, .pointer (some ⟨c, 0, none⟩)), (5, s2.v), (6, .int .i64 (i : Int)), (7, .int .i64 (j : Int)), (11, .int .i64 (m.R : Int)), (12, .int .i64 (i : Int))] ∧   Γ' = own s2 107 3 (ys.flatMap mvC) :: MI c m2 :: MI b m :: old W :: Γ) (m := _) (ρ0 := _) (Γ0 := _) (⟨i + 1, 0, sv, xs, mm, rfl, rfl, by omega, rfl, hmo, hmR, by omega, hsv, rfl, rfl⟩) (by repeat (first | exact trivial | refine ⟨rfl, ?_⟩)) Sub.ent ?_
    rintro q2 ρ' Γ' ⟨j, p, s2, ys, m2, hq2, hj, hjR, hin, hm2, hm2R, hyl, hs2, rfl, rfl⟩
    refine S.seq fun K11 hK11 => ?_
    refine S.seq fun K12 hK12 => ?_
    refine S.region rfl ?_
    refine S.op (S.q (q_move rfl) rfl rfl ?_)
    refine S.op (S.q (q_move rfl) rfl rfl ?_)
    refine S.op (S.call Tryd.en48 (vs := [_]) ⟨rfl, trivial⟩ (rowsCount_S c m2) rfl ?_)
    rintro v Θ ⟨rfl, rfl⟩
    rw [hm2R]
    refine S.op (S.q (q_lt rfl rfl) rfl rfl ?_)
    first | with_reducible refine S.nilK ?_ | refine S.nil ?_
    refine hK12 _ _ ?_
    refine S.condD rfl (fun h2 => ?_) (fun h2 => ?_)
    · have hal := allR_len hm2 j i
      obtain ⟨hao, haR⟩ := allR_ok (f := j) (t := i) hm2
      have hin2 : uniIn i (mm, xs) (p + 1) = ((allR m2 j i).2, ys ++ (allR m2 j i).1) := by
        rw [uniIn, hin, allStep]
        simp only [← hj]
      refine S.skip ?_
      with_reducible repeat (first | refine S.then_n ?_ | refine S.then_x ?_ | refine S.then_r ?_ | refine S.inBlock_n ?_ | refine S.inBlock_r ?_ | refine S.inBlock_x rfl ?_ | refine S.noGoto_r ?_ | refine S.noGoto_n ?_ | refine S.noGoto_x ?_)
      refine hK11 _ _ ?_
      refine S.seq fun K13 hK13 => ?_
      refine S.block ?_
      refine S.region rfl ?_
      refine S.op (S.q (q_move rfl) rfl rfl ?_)
      refine S.op (S.q (q_move rfl) rfl rfl ?_)
      refine S.op (S.q (q_move rfl) rfl rfl ?_)
      refine S.op (S.q (q_move rfl) rfl rfl ?_)
      refine S.op (S.call Tryd.en49 (vs := [_, _, _]) ⟨rfl, rfl, rfl, trivial⟩ (all_S c m2 j i (by omega) hW) rfl ?_)
      rintro v Θ ⟨s3, rfl, hs3, rfl⟩
      refine S.op (S.appendOw (s := s2) (s3.n) ((allR m2 j i).1.flatMap mvC) Tryd.underlying46 Tryd.inf107 rfl rfl rfl (fun w hs => HasOw.slAt (s := s3) inferInstance hs) (mvC_one _) (⟨by omega, by omega⟩) rfl ?_)
      intro s4 hs4
      refine S.op (S.q (q_assign rfl) rfl rfl ?_)
      first | with_reducible refine S.nilK ?_ | refine S.nil ?_
      with_reducible repeat (first | refine S.then_n ?_ | refine S.then_x ?_ | refine S.then_r ?_ | refine S.inBlock_n ?_ | refine S.inBlock_r ?_ | refine S.inBlock_x rfl ?_ | refine S.noGoto_r ?_ | refine S.noGoto_n ?_ | refine S.noGoto_x ?_)
      refine hK13 _ _ ?_
      refine S.region rfl ?_
      refine S.op (S.q (q_move rfl) rfl rfl ?_)
      refine S.op (S.q (q_add rfl rfl (inI64 (by omega) (by omega))) rfl rfl ?_)
      refine S.op (S.q (q_assign rfl) rfl rfl ?_)
      first | with_reducible refine S.nilK ?_ | refine S.nil ?_
      with_reducible repeat (first | refine S.then_n ?_ | refine S.then_x ?_ | refine S.then_r ?_ | refine S.inBlock_n ?_ | refine S.inBlock_r ?_ | refine S.inBlock_x rfl ?_ | refine S.noGoto_r ?_ | refine S.noGoto_n ?_ | refine S.noGoto_x ?_)
      rw [← List.flatMap_append]
      exact S.next (q2 - 1) (⟨j + 1, p + 1, s4, ys ++ (allR m2 j i).1, (allR m2 j i).2, by omega, by omega, by omega, hin2, hao, by omega, by rw [List.length_append]; omega, by rw [List.length_append]; omega, rfl, rfl⟩) (by omega) (by repeat (first | exact trivial | refine ⟨rfl, ?_⟩)) Sub.ent
    · have hjR2 : j = m.R := by omega
      have huu2 : uniUp m (i + 1) = (m2, ys) := by rw [uniUp, huu, show m.R - (i + 1) = p by omega, hin]
      refine S.exit ?_
      with_reducible repeat (first | refine S.then_n ?_ | refine S.then_x ?_ | refine S.then_r ?_ | refine S.inBlock_n ?_ | refine S.inBlock_r ?_ | refine S.inBlock_x rfl ?_ | refine S.noGoto_r ?_ | refine S.noGoto_n ?_ | refine S.noGoto_x ?_)
      with_reducible refine S.inBlock_s ?_
      with_reducible repeat (first | refine S.then_n ?_ | refine S.then_x ?_ | refine S.then_r ?_ | refine S.inBlock_n ?_ | refine S.inBlock_r ?_ | refine S.inBlock_x rfl ?_ | refine S.noGoto_r ?_ | refine S.noGoto_n ?_ | refine S.noGoto_x ?_)
      with_reducible repeat (first | refine S.then_n ?_ | refine S.then_x ?_ | refine S.then_r ?_ | refine S.inBlock_n ?_ | refine S.inBlock_r ?_ | refine S.inBlock_x rfl ?_ | refine S.noGoto_r ?_ | refine S.noGoto_n ?_ | refine S.noGoto_x ?_)
      refine hK8 _ _ ?_
      refine S.region rfl ?_
      refine S.op (S.q (q_add rfl rfl (inI64 (by omega) (by omega))) rfl rfl ?_)
      refine S.op (S.q (q_move rfl) rfl rfl ?_)
      first | with_reducible refine S.nilK ?_ | refine S.nil ?_
      with_reducible repeat (first | refine S.then_n ?_ | refine S.then_x ?_ | refine S.then_r ?_ | refine S.inBlock_n ?_ | refine S.inBlock_r ?_ | refine S.inBlock_x rfl ?_ | refine S.noGoto_r ?_ | refine S.noGoto_n ?_ | refine S.noGoto_x ?_)
      exact S.next (q - 1) (⟨i + 1, s2, ys, m2, by omega, by omega, huu2, hm2, hm2R, by omega, hs2, rfl, rfl⟩) (by omega) (by repeat (first | exact trivial | refine ⟨rfl, ?_⟩)) Sub.ent
  · have hiR : i = m.R := by omega
    have hfin : unifyR m = (mm, xs) := by rw [unifyR, ← hiR, huu]
    refine S.exit ?_
    with_reducible repeat (first | refine S.then_n ?_ | refine S.then_x ?_ | refine S.then_r ?_ | refine S.inBlock_n ?_ | refine S.inBlock_r ?_ | refine S.inBlock_x rfl ?_ | refine S.noGoto_r ?_ | refine S.noGoto_n ?_ | refine S.noGoto_x ?_)
    with_reducible refine S.inBlock_s ?_
    with_reducible repeat (first | refine S.then_n ?_ | refine S.then_x ?_ | refine S.then_r ?_ | refine S.inBlock_n ?_ | refine S.inBlock_r ?_ | refine S.inBlock_x rfl ?_ | refine S.noGoto_r ?_ | refine S.noGoto_n ?_ | refine S.noGoto_x ?_)
    refine hK4 _ _ ?_
    refine S.seq fun K14 hK14 => ?_
    refine S.region rfl ?_
    refine S.op (S.q (q_move rfl) rfl rfl ?_)
    refine S.op (S.q (q_move rfl) rfl rfl ?_)
    refine S.op (S.q (q_assign rfl) rfl rfl ?_)
    refine S.op (S.q (q_assign rfl) rfl rfl ?_)
    first | with_reducible refine S.nilK ?_ | refine S.nil ?_
    refine hK14 _ _ ?_
    refine S.ret ?_
    with_reducible repeat (first | refine S.then_n ?_ | refine S.then_x ?_ | refine S.then_r ?_ | refine S.inBlock_n ?_ | refine S.inBlock_r ?_ | refine S.inBlock_x rfl ?_ | refine S.noGoto_r ?_ | refine S.noGoto_n ?_ | refine S.noGoto_x ?_)
    exact S.fin (rs := [_, _]) (vs := [_, _]) Tryd.results15 (⟨rfl, rfl, trivial⟩)  (⟨c, sv, rfl, by rw [hfin]; exact hsv, by rw [hfin]⟩) Sub.ent
theorem repTry_none {m : Mx} {j : Nat} : ∀ {p : Nat}, repTry m j p = none → ∀ i, i < p → (moveR m j i).1 = none
  | 0, _, i, hi => by omega
  | p + 1, h, i, hi => by
    rw [repTry] at h
    cases hr : repTry m j p with
    | some r => rw [hr] at h; cases h
    | none =>
      rw [hr] at h
      simp only at h
      cases hv : moveR m j p with
      | mk x m' =>
        rw [hv] at h
        cases x with
        | some x => cases h
        | none =>
          by_cases e : i = p
          · rw [e, hv]
          · exact repTry_none hr i (by omega)
theorem repTry_mono {m : Mx} {j : Nat} {r : Mv × Mx} : ∀ {p q : Nat}, repTry m j p = some r → p ≤ q → repTry m j q = some r
  | p, 0, h, hq => by rwa [show p = 0 by omega] at h
  | p, q + 1, h, hq => by
    by_cases e : p = q + 1
    · rwa [e] at h
    · rw [repTry, repTry_mono h (by omega)]
theorem repTry_some {m : Mx} (hm : MxOk m) {j : Nat} {r : Mv × Mx} : ∀ {p : Nat}, repTry m j p = some r → MxOk r.2 ∧ r.2.R = m.R ∧ ∃ i, i < p ∧ moveR m j i = (some r.1, r.2)
  | 0, h => by cases h
  | p + 1, h => by
    rw [repTry] at h
    cases hr : repTry m j p with
    | some r' =>
      rw [hr] at h
      simp only [Option.some.injEq] at h
      subst h
      obtain ⟨h1, h2, i, h3, h4⟩ := repTry_some hm hr
      exact ⟨h1, h2, i, by omega, h4⟩
    | none =>
      rw [hr] at h
      simp only at h
      cases hv : moveR m j p with
      | mk x m' =>
        rw [hv] at h
        cases x with
        | none => cases h
        | some x =>
          simp only [Option.some.injEq] at h
          subst h
          have h1 := moveR_ok hm j p
          have h2 := (moveR_N m j p).1
          rw [hv] at h1 h2
          exact ⟨h1, h2, p, by omega, hv⟩
theorem Repack_S (b : Nat) (m : Mx) {W : World} (hW : TabW W) : Spec Tryd.prog 17 [.pointer (some ⟨b, 0, none⟩)] [MI b m, old W] fun Γ v Θ => ∃ (c : Nat) (sv : SV), v = .tuple #[.pointer (some ⟨c, 0, none⟩), sv.v] ∧ sv.n = (repackR m).2.length ∧
    Θ = own sv 107 3 ((repackR m).2.flatMap mvC) :: MI c (repackR m).1 :: MI b m :: old W :: Γ := by
  refine Spec.miOk fun hok => ?_
  refine Spec.of_body Tryd.func17 rfl Tryd.ntmps17 rfl ?_
  intro w0 Γ
  show S _ w0 [(0, .pointer (some ⟨b, 0, none⟩))] (MI b m :: old W :: Γ) _
  have hR8 := hok.R8
  have hR1 := hok.R1
  refine S.seq fun K1 hK1 => ?_
  refine S.region rfl ?_
  refine S.op (S.q (q_assign rfl) rfl rfl ?_)
  refine S.op (S.q (q_assign rfl) rfl rfl ?_)
  first | with_reducible refine S.nilK ?_ | refine S.nil ?_
  refine hK1 _ _ ?_
  refine S.seq fun K2 hK2 => ?_
  refine S.region rfl ?_
  refine S.op (S.q (q_move rfl) rfl rfl ?_)
  refine S.op (S.call Tryd.en25 (vs := [_]) ⟨rfl, trivial⟩ (Copy_S b m) rfl ?_)
  rintro v Θ ⟨c, rfl, rfl⟩
  refine S.op (S.q (q_assign rfl) rfl rfl ?_)
  first | with_reducible refine S.nilK ?_ | refine S.nil ?_
  refine hK2 _ _ ?_
  refine S.seq fun K3 hK3 => ?_
  refine S.region rfl ?_
  refine S.op (S.q (q_assign rfl) rfl rfl ?_)
  first | with_reducible refine S.nilK ?_ | refine S.nil ?_
  refine hK3 _ _ ?_
  refine S.seq fun K4 hK4 => ?_
  refine S.seq fun K5 hK5 => ?_
  refine S.region rfl ?_
  refine S.ent (Ent.ownNil 107 3) ?_
  show S _ w0 _ (own SV.nil 107 3 (([] : List Mv).flatMap mvC) :: _) _
  refine S.op (S.q (q_assign rfl) rfl rfl ?_)
  first | with_reducible refine S.nilK ?_ | refine S.nil ?_
  refine hK5 _ _ ?_
  refine S.block ?_
  refine S.loop (fun q ρ' Γ' => ∃ (j k : Nat) (sv : SV) (xs : List Mv) (mm : Mx), q = m.R - j ∧ j = k + 1 ∧ j ≤ m.R ∧ repUp m k = (mm, xs) ∧ MxOk mm ∧ mm.R = m.R ∧ xs.length ≤ 16 * k ∧ sv.n = xs.length ∧ ρ' = [(4, .pointer (some ⟨c, 0, none⟩)), (5, sv.v), (6, .int .i64 (j : Int))] ∧   Γ' = own sv 107 3 (xs.flatMap mvC) :: MI c mm :: MI b m :: old W :: Γ) (m := _) (ρ0 := _) (Γ0 := _) (⟨1, 0, SV.nil, [], m, rfl, rfl, by omega, rfl, hok, rfl, Nat.le_refl _, rfl, rfl, rfl⟩) (by repeat (first | exact trivial | refine ⟨rfl, ?_⟩)) Sub.ent ?_
  rintro q ρ' Γ' ⟨j, k, sv, xs, mm, hq, hjk, hj, hru, hmo, hmR, hxl, hsv, rfl, rfl⟩
  refine S.seq fun K6 hK6 => ?_
  refine S.seq fun K7 hK7 => ?_
  refine S.region rfl ?_
  refine S.op (S.q (q_move rfl) rfl rfl ?_)
  refine S.op (S.q (q_move rfl) rfl rfl ?_)
  refine S.op (S.call Tryd.en48 (vs := [_]) ⟨rfl, trivial⟩ (rowsCount_S c mm) rfl ?_)
  rintro v Θ ⟨rfl, rfl⟩
  rw [hmR]
  refine S.op (S.q (q_lt rfl rfl) rfl rfl ?_)
  first | with_reducible refine S.nilK ?_ | refine S.nil ?_
  refine hK7 _ _ ?_
  refine S.condD rfl (fun h1 => ?_) (fun h1 => ?_)
  · obtain ⟨ids, hids⟩ : ∃ ids, ids = rowIds mm j := ⟨_, rfl⟩
    have h16 := rowIds_len mm j
    rw [← hids] at h16
    have hidj : ∀ y ∈ ids, y ≤ 4294967295 := fun y hy => by
      rw [hids] at hy
      obtain ⟨x, h1, _, h3⟩ := (mem_rowIds hmo (by omega)).1 hy
      rw [← h3]
      exact hmo.id2 x h1
    have hru2 : repUp m (k + 1) = repRow j ids (mm, xs) ids.length := by rw [repUp, hru, hids, hjk]
    refine S.skip ?_
    with_reducible repeat (first | refine S.then_n ?_ | refine S.then_x ?_ | refine S.then_r ?_ | refine S.inBlock_n ?_ | refine S.inBlock_r ?_ | refine S.inBlock_x rfl ?_ | refine S.noGoto_r ?_ | refine S.noGoto_n ?_ | refine S.noGoto_x ?_)
    refine hK6 _ _ ?_
    refine S.seq fun K8 hK8 => ?_
    refine S.block ?_
    refine S.seq fun K9 hK9 => ?_
    refine S.region rfl ?_
    refine S.op (S.q (q_move rfl) rfl rfl ?_)
    refine S.op (S.q (q_move rfl) rfl rfl ?_)
    refine S.op (S.call Tryd.en52 (vs := [_, _]) ⟨rfl, rfl, trivial⟩ (Row_S c mm j hW) rfl ?_)
    rintro v Θ ⟨rv, rfl, hrv, rfl⟩
    rw [← hids] at hrv ⊢
    refine S.op (S.q (q_len Tryd.underlying31 rfl) rfl rfl ?_)
    refine S.op (S.q (q_move rfl) rfl rfl ?_)
    first | with_reducible refine S.nilK ?_ | refine S.nil ?_
    refine hK9 _ _ ?_
    refine S.block ?_
    refine S.loop (fun q2 ρ' Γ' => ∃ (p : Nat) (s2 : SV) (ys : List Mv) (m2 : Mx), q2 = ids.length - p ∧ p ≤ ids.length ∧ repRow j ids (mm, xs) p = (m2, ys) ∧ MxOk m2 ∧ m2.R = m.R ∧ ys.length ≤ 16 * k + p ∧ s2.n = ys.length ∧ ρ' = [(4, .pointer (some ⟨c, 0, none⟩)), (5, s2.v), (6, .int .i64 (j : Int)), (22, rv.v), (23, .int .i64 rv.n), (24, .int .i64 (p : Int))] ∧   Γ' = own s2 107 3 (ys.flatMap mvC) :: own rv 68 1 (idsV ids) :: MI c m2 :: MI b m :: old W :: Γ) (m := _) (ρ0 := _) (Γ0 := _) (⟨0, sv, xs, mm, rfl, by omega, rfl, hmo, hmR, by omega, hsv, rfl, rfl⟩) (by repeat (first | exact trivial | refine ⟨rfl, ?_⟩)) Sub.ent ?_
    rintro q2 ρ' Γ' ⟨p, s2, ys, m2, hq2, hp, hrr, hm2, hm2R, hyl, hs2, rfl, rfl⟩
    refine S.seq fun K10 hK10 => ?_
    refine S.region rfl ?_
    refine S.op (S.q (q_lt rfl rfl) rfl rfl ?_)
    first | with_reducible refine S.nilK ?_ | refine S.nil ?_
    refine hK10 _ _ ?_
    refine S.seq fun K11 hK11 => ?_
    refine S.condD rfl (fun h2 => ?_) (fun h2 => ?_)
    · refine S.ownSome rv (by omega) fun rb rf hra _ _ _ => ?_
      obtain ⟨y, hy⟩ := getE (show p < ids.length by omega)
      have hyd : ids.getD p 0 = y := by simp [List.getD, hy]
      have hy32 := hidj y (List.mem_of_getElem? hy)
      refine S.skip ?_
      with_reducible repeat (first | refine S.then_n ?_ | refine S.then_x ?_ | refine S.then_r ?_ | refine S.inBlock_n ?_ | refine S.inBlock_r ?_ | refine S.inBlock_x rfl ?_ | refine S.noGoto_r ?_ | refine S.noGoto_n ?_ | refine S.noGoto_x ?_)
      refine hK11 _ _ ?_
      refine S.seq fun K12 hK12 => ?_
      refine S.cut (fun ρ' Γ' => ∃ (s2' : SV) (ys' : List Mv) (m2' : Mx), repRow j ids (mm, xs) (p + 1) = (m2', ys') ∧ MxOk m2' ∧ m2'.R = m.R ∧ ys'.length ≤ 16 * k + (p + 1) ∧ s2'.n = ys'.length ∧ ρ' = [(4, .pointer (some ⟨c, 0, none⟩)), (5, s2'.v), (6, .int .i64 (j : Int)), (22, rv.v), (23, .int .i64 rv.n), (24, .int .i64 (p : Int))] ∧   Γ' = own s2' 107 3 (ys'.flatMap mvC) :: own rv 68 1 (idsV ids) :: MI c m2' :: MI b m :: old W :: Γ) ?_ ?_
      · refine S.block ?_
        refine S.seq fun K13 hK13 => ?_
        refine S.region rfl ?_
        refine S.op (S.q (q_indexO (p) Tryd.el31 rfl hra rfl rfl (by omega)) rfl rfl ?_)
        refine S.op (S.q (q_loadOw (rv) (p) Tryd.at68 rfl hra (by first | rfl | exact Nat.add_assoc _ _ _ | omega) (idsV_get hy)) rfl rfl ?_)
        refine S.op (S.q (q_assign rfl) rfl rfl ?_)
        first | with_reducible refine S.nilK ?_ | refine S.nil ?_
        refine hK13 _ _ ?_
        refine S.seq fun K14 hK14 => ?_
        refine S.region rfl ?_
        refine S.op (S.q (q_move rfl) rfl rfl ?_)
        refine S.op (S.q (q_move rfl) rfl rfl ?_)
        first | with_reducible refine S.nilK ?_ | refine S.nil ?_
        refine hK14 _ _ ?_
        refine S.block ?_
        refine S.loop (fun q3 ρ' Γ' => ∃ i : Nat, q3 = j - i ∧ i ≤ j ∧ repTry m2 y i = none ∧ ρ' = [(4, .pointer (some ⟨c, 0, none⟩)), (5, s2.v), (6, .int .i64 (j : Int)), (8, .int .u32 (y : Int)), (22, rv.v), (23, .int .i64 rv.n), (24, .int .i64 (p : Int)), (28, .int .i64 (j : Int)), (29, .int .i64 (i : Int))] ∧   Γ' = own s2 107 3 (ys.flatMap mvC) :: own rv 68 1 (idsV ids) :: MI c m2 :: MI b m :: old W :: Γ) (m := _) (ρ0 := _) (Γ0 := _) (⟨0, rfl, by omega, rfl, rfl, rfl⟩) (by repeat (first | exact trivial | refine ⟨rfl, ?_⟩)) Sub.ent ?_
        rintro q3 ρ' Γ' ⟨i, hq3, hi, htr, rfl, rfl⟩
        refine S.seq fun K15 hK15 => ?_
        refine S.region rfl ?_
        refine S.op (S.q (q_lt rfl rfl) rfl rfl ?_)
        first | with_reducible refine S.nilK ?_ | refine S.nil ?_
        refine hK15 _ _ ?_
        refine S.seq fun K16 hK16 => ?_
        refine S.condD rfl (fun h3 => ?_) (fun h3 => ?_)
        · refine S.skip ?_
          with_reducible repeat (first | refine S.then_n ?_ | refine S.then_x ?_ | refine S.then_r ?_ | refine S.inBlock_n ?_ | refine S.inBlock_r ?_ | refine S.inBlock_x rfl ?_ | refine S.noGoto_r ?_ | refine S.noGoto_n ?_ | refine S.noGoto_x ?_)
          refine hK16 _ _ ?_
          refine S.seq fun K17 hK17 => ?_
          refine S.block ?_
          refine S.seq fun K18 hK18 => ?_
          refine S.region rfl ?_
          refine S.op (S.q (q_move rfl) rfl rfl ?_)
          refine S.op (S.q (q_assign rfl) rfl rfl ?_)
          first | with_reducible refine S.nilK ?_ | refine S.nil ?_
          refine hK18 _ _ ?_
          refine S.seq fun K19 hK19 => ?_
          refine S.region rfl ?_
          refine S.op (S.q (q_move rfl) rfl rfl ?_)
          refine S.op (S.q (q_move rfl) rfl rfl ?_)
          refine S.op (S.q (q_move rfl) rfl rfl ?_)
          refine S.op (S.call Tryd.en53 (vs := [_, _, _]) ⟨rfl, rfl, rfl, trivial⟩ (move_S c m2 y i hy32 hW) rfl ?_)
          rintro v Θ ⟨rfl, rfl⟩
          refine S.op (S.q (q_move rfl) rfl rfl ?_)
          refine S.op (S.q (q_extract rfl rfl) rfl rfl ?_)
          refine S.op (S.q (q_extract rfl rfl) rfl rfl ?_)
          refine S.op (S.alloc Tryd.z107 rfl ?_)
          intro b10
          refine S.op (S.storeS (cs' := [_, _, _]) Tryd.ag107 rfl rfl rfl rfl rfl rfl ?_)
          refine S.op (S.q (q_assign rfl) rfl rfl ?_)
          first | with_reducible refine S.nilK ?_ | refine S.nil ?_
          refine hK19 _ _ ?_
          refine S.seq fun K20 hK20 => ?_
          refine S.region rfl ?_
          refine S.op (S.q (q_move rfl) rfl rfl ?_)
          first | with_reducible refine S.nilK ?_ | refine S.nil ?_
          refine hK20 _ _ ?_
          refine S.cond rfl (fun h4 => ?_) (fun h4 => ?_)
          · obtain ⟨x, m3, hv⟩ : ∃ x m3, moveR m2 y i = (some x, m3) := by
              cases hv : moveR m2 y i with
              | mk x m' =>
                rw [hv] at h4
                cases x with
                | none => cases h4
                | some x => exact ⟨x, m', rfl⟩
            have htr2 : repTry m2 y (i + 1) = some (x, m3) := by rw [repTry, htr]; simp only [hv]
            have htr3 := repTry_mono htr2 (show i + 1 ≤ j by omega)
            have hrr2 : repRow j ids (mm, xs) (p + 1) = (m3, ys ++ [x]) := by rw [repRow, hrr, hyd, htr3]
            obtain ⟨hm3, hm3R, _⟩ := repTry_some hm2 htr3
            have hm3R2 : m3.R = m.R := hm3R.trans hm2R
            rw [hv]
            simp only [mvR, Option.getD_some]
            refine S.seq fun K21 hK21 => ?_
            refine S.region rfl ?_
            refine S.op (S.q (q_move rfl) rfl rfl ?_)
            refine S.op (S.q (q_loadS [_, _, _] Tryd.ag107 rfl rfl ⟨rfl, rfl, rfl, trivial⟩) rfl rfl ?_)
            refine S.op (S.buildSlice (pvs := [(_, _)]) [_, _, _] Tryd.underlying46 Tryd.inf107 rfl rfl ⟨⟨rfl, rfl⟩, trivial⟩ rfl rfl ?_)
            intro b42
            refine S.op (S.appendOw (s := s2) (1) (mvC x) Tryd.underlying46 Tryd.inf107 rfl rfl rfl (blk_slAt (b := b42) rfl (by unfold maxLen; omega)) (by first | rfl | exact allOne_bcells _) (⟨by omega, by omega⟩) rfl ?_)
            intro s4 hs4
            refine S.op (S.q (q_assign rfl) rfl rfl ?_)
            first | with_reducible refine S.nilK ?_ | refine S.nil ?_
            refine hK21 _ _ ?_
            refine S.exit ?_
            with_reducible repeat (first | refine S.then_n ?_ | refine S.then_x ?_ | refine S.then_r ?_ | refine S.inBlock_n ?_ | refine S.inBlock_r ?_ | refine S.inBlock_x rfl ?_ | refine S.noGoto_r ?_ | refine S.noGoto_n ?_ | refine S.noGoto_x ?_)
            with_reducible refine S.inBlock_s ?_
            with_reducible repeat (first | refine S.then_n ?_ | refine S.then_x ?_ | refine S.then_r ?_ | refine S.inBlock_n ?_ | refine S.inBlock_r ?_ | refine S.inBlock_x rfl ?_ | refine S.noGoto_r ?_ | refine S.noGoto_n ?_ | refine S.noGoto_x ?_)
            with_reducible repeat (first | refine S.then_n ?_ | refine S.then_x ?_ | refine S.then_r ?_ | refine S.inBlock_n ?_ | refine S.inBlock_r ?_ | refine S.inBlock_x rfl ?_ | refine S.noGoto_r ?_ | refine S.noGoto_n ?_ | refine S.noGoto_x ?_)
            with_reducible repeat (first | refine S.then_n ?_ | refine S.then_x ?_ | refine S.then_r ?_ | refine S.inBlock_n ?_ | refine S.inBlock_r ?_ | refine S.inBlock_x rfl ?_ | refine S.noGoto_r ?_ | refine S.noGoto_n ?_ | refine S.noGoto_x ?_)
            first | (rw [flat_snoc mvC ys x]; exact S.meet ⟨s4, ys ++ [x], m3, hrr2, hm3, hm3R2, by rw [List.length_append, List.length_singleton]; omega, by rw [List.length_append, List.length_singleton]; omega, rfl, rfl⟩ ⟨rfl, rfl, rfl, rfl, rfl, rfl, trivial⟩ Sub.ent) | exact S.meet ⟨s2, ys, m2, hrr2, hm2, hm2R, by omega, hs2, rfl, rfl⟩ ⟨rfl, rfl, rfl, rfl, rfl, rfl, trivial⟩ Sub.ent
          · have htr2 : repTry m2 y (i + 1) = none ∧ (moveR m2 y i).2 = m2 := by
              cases hv : moveR m2 y i with
              | mk x m' =>
                rw [hv] at h4
                cases x with
                | some x => cases h4
                | none => exact ⟨by rw [repTry, htr]; simp only [hv], (moveR_none hv).1⟩
            rw [htr2.2]
            refine S.skip ?_
            with_reducible repeat (first | refine S.then_n ?_ | refine S.then_x ?_ | refine S.then_r ?_ | refine S.inBlock_n ?_ | refine S.inBlock_r ?_ | refine S.inBlock_x rfl ?_ | refine S.noGoto_r ?_ | refine S.noGoto_n ?_ | refine S.noGoto_x ?_)
            with_reducible repeat (first | refine S.then_n ?_ | refine S.then_x ?_ | refine S.then_r ?_ | refine S.inBlock_n ?_ | refine S.inBlock_r ?_ | refine S.inBlock_x rfl ?_ | refine S.noGoto_r ?_ | refine S.noGoto_n ?_ | refine S.noGoto_x ?_)
            refine hK17 _ _ ?_
            refine S.region rfl ?_
            refine S.op (S.q (q_add rfl rfl (inI64 (by omega) (by omega))) rfl rfl ?_)
            refine S.op (S.q (q_move rfl) rfl rfl ?_)
            first | with_reducible refine S.nilK ?_ | refine S.nil ?_
            with_reducible repeat (first | refine S.then_n ?_ | refine S.then_x ?_ | refine S.then_r ?_ | refine S.inBlock_n ?_ | refine S.inBlock_r ?_ | refine S.inBlock_x rfl ?_ | refine S.noGoto_r ?_ | refine S.noGoto_n ?_ | refine S.noGoto_x ?_)
            exact S.next (q3 - 1) (⟨i + 1, by omega, by omega, htr2.1, rfl, rfl⟩) (by omega) (by repeat (first | exact trivial | refine ⟨rfl, ?_⟩)) Sub.ent
        · have hij : i = j := by omega
          rw [hij] at htr
          have hrr2 : repRow j ids (mm, xs) (p + 1) = (m2, ys) := by rw [repRow, hrr, hyd, htr]
          refine S.exit ?_
          with_reducible repeat (first | refine S.then_n ?_ | refine S.then_x ?_ | refine S.then_r ?_ | refine S.inBlock_n ?_ | refine S.inBlock_r ?_ | refine S.inBlock_x rfl ?_ | refine S.noGoto_r ?_ | refine S.noGoto_n ?_ | refine S.noGoto_x ?_)
          with_reducible refine S.inBlock_s ?_
          with_reducible repeat (first | refine S.then_n ?_ | refine S.then_x ?_ | refine S.then_r ?_ | refine S.inBlock_n ?_ | refine S.inBlock_r ?_ | refine S.inBlock_x rfl ?_ | refine S.noGoto_r ?_ | refine S.noGoto_n ?_ | refine S.noGoto_x ?_)
          with_reducible repeat (first | refine S.then_n ?_ | refine S.then_x ?_ | refine S.then_r ?_ | refine S.inBlock_n ?_ | refine S.inBlock_r ?_ | refine S.inBlock_x rfl ?_ | refine S.noGoto_r ?_ | refine S.noGoto_n ?_ | refine S.noGoto_x ?_)
          with_reducible repeat (first | refine S.then_n ?_ | refine S.then_x ?_ | refine S.then_r ?_ | refine S.inBlock_n ?_ | refine S.inBlock_r ?_ | refine S.inBlock_x rfl ?_ | refine S.noGoto_r ?_ | refine S.noGoto_n ?_ | refine S.noGoto_x ?_)
          first | (rw [flat_snoc mvC ys x]; exact S.meet ⟨s4, ys ++ [x], m3, hrr2, hm3, hm3R2, by rw [List.length_append, List.length_singleton]; omega, by rw [List.length_append, List.length_singleton]; omega, rfl, rfl⟩ ⟨rfl, rfl, rfl, rfl, rfl, rfl, trivial⟩ Sub.ent) | exact S.meet ⟨s2, ys, m2, hrr2, hm2, hm2R, by omega, hs2, rfl, rfl⟩ ⟨rfl, rfl, rfl, rfl, rfl, rfl, trivial⟩ Sub.ent
      · rintro ρ' Γ' ⟨s2', ys', m2', hrr', hm2', hm2R', hyl', hs2', rfl, rfl⟩
        refine hK12 _ _ ?_
        refine S.region rfl ?_
        refine S.op (S.q (q_add rfl rfl (inI64 (by omega) (by omega))) rfl rfl ?_)
        refine S.op (S.q (q_move rfl) rfl rfl ?_)
        first | with_reducible refine S.nilK ?_ | refine S.nil ?_
        with_reducible repeat (first | refine S.then_n ?_ | refine S.then_x ?_ | refine S.then_r ?_ | refine S.inBlock_n ?_ | refine S.inBlock_r ?_ | refine S.inBlock_x rfl ?_ | refine S.noGoto_r ?_ | refine S.noGoto_n ?_ | refine S.noGoto_x ?_)
        exact S.next (q2 - 1) (⟨p + 1, s2', ys', m2', by omega, by omega, hrr', hm2', hm2R', hyl', hs2', rfl, rfl⟩) (by omega) (by repeat (first | exact trivial | refine ⟨rfl, ?_⟩)) Sub.ent
    · have hpl : p = ids.length := by omega
      rw [hpl] at hrr
      rw [hrr] at hru2
      refine S.exit ?_
      with_reducible repeat (first | refine S.then_n ?_ | refine S.then_x ?_ | refine S.then_r ?_ | refine S.inBlock_n ?_ | refine S.inBlock_r ?_ | refine S.inBlock_x rfl ?_ | refine S.noGoto_r ?_ | refine S.noGoto_n ?_ | refine S.noGoto_x ?_)
      with_reducible refine S.inBlock_s ?_
      with_reducible repeat (first | refine S.then_n ?_ | refine S.then_x ?_ | refine S.then_r ?_ | refine S.inBlock_n ?_ | refine S.inBlock_r ?_ | refine S.inBlock_x rfl ?_ | refine S.noGoto_r ?_ | refine S.noGoto_n ?_ | refine S.noGoto_x ?_)
      with_reducible repeat (first | refine S.then_n ?_ | refine S.then_x ?_ | refine S.then_r ?_ | refine S.inBlock_n ?_ | refine S.inBlock_r ?_ | refine S.inBlock_x rfl ?_ | refine S.noGoto_r ?_ | refine S.noGoto_n ?_ | refine S.noGoto_x ?_)
      refine hK8 _ _ ?_
      refine S.region rfl ?_
      refine S.op (S.q (q_move rfl) rfl rfl ?_)
      refine S.op (S.q (q_add rfl rfl (inI64 (by omega) (by omega))) rfl rfl ?_)
      refine S.op (S.q (q_assign rfl) rfl rfl ?_)
      first | with_reducible refine S.nilK ?_ | refine S.nil ?_
      with_reducible repeat (first | refine S.then_n ?_ | refine S.then_x ?_ | refine S.then_r ?_ | refine S.inBlock_n ?_ | refine S.inBlock_r ?_ | refine S.inBlock_x rfl ?_ | refine S.noGoto_r ?_ | refine S.noGoto_n ?_ | refine S.noGoto_x ?_)
      exact S.next (q - 1) (⟨j + 1, k + 1, s2, ys, m2, by omega, by omega, by omega, hru2, hm2, hm2R, by omega, hs2, rfl, rfl⟩) (by omega) (by repeat (first | exact trivial | refine ⟨rfl, ?_⟩)) Sub.ent
  · have hfin : repackR m = (mm, xs) := by rw [repackR, show m.R - 1 = k by omega, hru]
    refine S.exit ?_
    with_reducible repeat (first | refine S.then_n ?_ | refine S.then_x ?_ | refine S.then_r ?_ | refine S.inBlock_n ?_ | refine S.inBlock_r ?_ | refine S.inBlock_x rfl ?_ | refine S.noGoto_r ?_ | refine S.noGoto_n ?_ | refine S.noGoto_x ?_)
    with_reducible refine S.inBlock_s ?_
    with_reducible repeat (first | refine S.then_n ?_ | refine S.then_x ?_ | refine S.then_r ?_ | refine S.inBlock_n ?_ | refine S.inBlock_r ?_ | refine S.inBlock_x rfl ?_ | refine S.noGoto_r ?_ | refine S.noGoto_n ?_ | refine S.noGoto_x ?_)
    refine hK4 _ _ ?_
    refine S.seq fun K22 hK22 => ?_
    refine S.region rfl ?_
    refine S.op (S.q (q_move rfl) rfl rfl ?_)
    refine S.op (S.q (q_move rfl) rfl rfl ?_)
    refine S.op (S.q (q_assign rfl) rfl rfl ?_)
    refine S.op (S.q (q_assign rfl) rfl rfl ?_)
    first | with_reducible refine S.nilK ?_ | refine S.nil ?_
    refine hK22 _ _ ?_
    refine S.ret ?_
    with_reducible repeat (first | refine S.then_n ?_ | refine S.then_x ?_ | refine S.then_r ?_ | refine S.inBlock_n ?_ | refine S.inBlock_r ?_ | refine S.inBlock_x rfl ?_ | refine S.noGoto_r ?_ | refine S.noGoto_n ?_ | refine S.noGoto_x ?_)
    exact S.fin (rs := [_, _]) (vs := [_, _]) Tryd.results17 (⟨rfl, rfl, trivial⟩)  (⟨c, sv, rfl, by rw [hfin]; exact hsv, by rw [hfin]⟩) Sub.ent
end Go.Proofs.YtegjmmocnffpiaaDoor
/- The document's matrix: Put, where its row and its nodes are there; a node that is down. -/
namespace Go.Proofs.YtegjmmocnffpiaaDoor
open Go.RowKit
set_option maxRecDepth 20000
def setAll (d : List Nat) (ns : List Nat) (j : Nat) : List Nat := ns.foldl (fun d n => d.set n j) d
theorem setAll_len (j : Nat) : ∀ (ns : List Nat) (d : List Nat), (setAll d ns j).length = d.length
  | [], d => rfl
  | n :: ns, d => by rw [setAll, List.foldl_cons]; exact (setAll_len j ns (d.set n j)).trans (List.length_set ..)
theorem setAll_get (j : Nat) : ∀ (ns : List Nat) (d : List Nat) (i : Nat), i < d.length → (setAll d ns j)[i]? = if i ∈ ns then some j else d[i]?
  | [], d, i, h => rfl
  | n :: ns, d, i, h => by
    rw [setAll, List.foldl_cons]
    have ih := setAll_get j ns (d.set n j) i (by rw [List.length_set]; exact h)
    rw [setAll] at ih
    rw [ih]
    by_cases e : i ∈ ns
    · rw [if_pos e, if_pos (List.mem_cons_of_mem _ e)]
    · rw [if_neg e]
      by_cases e2 : i = n
      · subst e2
        rw [if_pos (List.mem_cons_self ..), List.getElem?_set_self h]
      · rw [if_neg (by simp [e, e2]), List.getElem?_set_ne (fun h => e2 h.symm)]
theorem setAll_snoc (d : List Nat) (ns : List Nat) (n j : Nat) : setAll d (ns ++ [n]) j = (setAll d ns j).set n j := by rw [setAll, List.foldl_append]; rfl
theorem rowN_add {m : Mx} (hm : MxOk m) {x : Jb} (hm' : MxOk (m.add x)) (o : Nat) : rowN (m.add x) o = if o = x.row then setAll (rowN m o) (lst x.ns) x.id else rowN m o := by
  have hat : ∀ i, atJ (m.add x).js o i = if o = x.row ∧ x.ns.getLsbD i = true then x.id else atJ m.js o i := fun i => by
    by_cases h : o = x.row ∧ x.ns.getLsbD i = true
    · rw [if_pos h]
      exact atJ_some hm' (mem_addJ.2 (.inl rfl)) h.1.symm h.2
    · rw [if_neg h]
      by_cases h2 : ∃ y ∈ m.js, y.row = o ∧ y.ns.getLsbD i = true
      · obtain ⟨y, y1, y2, y3⟩ := h2
        rw [atJ_some hm y1 y2 y3]
        exact atJ_some hm' (mem_addJ.2 (.inr y1)) y2 y3
      · have hz : atJ m.js o i = 0 := atJ_none fun y y1 y2 => by cases hb : y.ns.getLsbD i with | false => rfl | true => exact absurd ⟨y, y1, y2, hb⟩ h2
        rw [hz]
        refine atJ_none fun y y1 y2 => ?_
        cases hb : y.ns.getLsbD i with
        | false => rfl
        | true =>
          rcases mem_addJ.1 y1 with e | y1
          · rw [e] at y2 hb; exact absurd ⟨y2.symm, hb⟩ h
          · exact absurd ⟨y, y1, y2, hb⟩ h2
  refine List.ext_getElem? fun i => ?_
  by_cases hi : i < m.N
  · have h1 : (rowN (m.add x) o)[i]? = some (atJ (m.add x).js o i) := rowN_get (m := m.add x) hi o
    rw [h1, hat]
    by_cases e : o = x.row
    · rw [if_pos e, setAll_get _ _ _ _ (by rw [rowN_len]; exact hi), rowN_get hi]
      by_cases e2 : x.ns.getLsbD i = true
      · rw [if_pos ⟨e, e2⟩, if_pos (mem_lst.2 e2)]
      · rw [if_neg (fun h => e2 h.2), if_neg (fun h => e2 (mem_lst.1 h))]
    · rw [if_neg e, if_neg (fun h => e h.1), rowN_get hi]
  · rw [List.getElem?_eq_none (by rw [rowN_len]; show m.N ≤ i; omega)]
    split
    · rw [List.getElem?_eq_none (by rw [setAll_len, rowN_len]; omega)]
    · rw [List.getElem?_eq_none (by rw [rowN_len]; omega)]
/-- Is every one of the first i nodes of a row free? -/
theorem busy_iff {m : Mx} (hm : MxOk m) {r i : Nat} : atJ m.js r i = 0 ↔ (tk m.js r).getLsbD i = false := by
  constructor
  · intro h
    cases hb : (tk m.js r).getLsbD i with
    | false => rfl
    | true =>
      obtain ⟨x, h1, h2, h3⟩ := (tk_bit m.js r i).1 hb
      have := atJ_some hm h1 h2 h3
      have := hm.id1 x h1
      omega
  · intro h
    refine atJ_none fun x hx e => ?_
    cases hb : x.ns.getLsbD i with
    | false => rfl
    | true => rw [(tk_bit m.js r i).2 ⟨x, hx, e, hb⟩] at h; cases h
theorem rPut_S (b : Nat) (m : Mx) (j r : Nat) (R : Assn) (s : SV) (l : List Int) (hsn : s.n = l.length) (hR : RdS R s s.n 1 (ints l)) (hj : j ≤ 4294967295) (hj0 : j ≠ 0) (hr : r < m.R) (hup : okUp m l l.length = true) : Spec Tryd.prog 31 [.pointer (some ⟨b, 0, none⟩), .int .u32 (j : Int), .int .i64 (r : Int), s.v] [RI b m, R] fun Γ v Θ =>
    v = .int .i64 (putR m j r l).1 ∧ Θ = RI b (putR m j r l).2 :: R :: Γ := by
  refine Spec.riOk fun hok => ?_
  refine Spec.of_body Tryd.func31 rfl Tryd.ntmps31 rfl ?_
  intro w0 Γ
  show S _ w0 [(0, .pointer (some ⟨b, 0, none⟩)), (1, .int .u32 (j : Int)), (2, .int .i64 (r : Int)), (3, s.v)] (RI b m :: R :: Γ) _
  refine S.rCap hR fun _ hcap1 hcap2 => ?_
  have hN16 := hok.N16
  have hR8 := hok.R8
  refine S.riOpen b m fun cs us rs hri => ?_
  have hcn := hri.cn
  have hun := hri.un
  have hrl := hri.rlen
  have hpk : putOk m j r l = decide (0 < l.length) := by
    rw [putOk, decide_eq_true (show ((j : Nat) : Int) ≠ 0 by omega), rowB_iff.2 ⟨by omega, by omega⟩, Bool.true_and, Bool.true_and]
    exact decide_eq_decide.2 (by omega)
  refine S.ownSome cs (by omega) fun cb co hca _ _ _ => ?_
  refine S.seq fun K1 hK1 => ?_
  refine S.region rfl ?_
  refine S.op (S.q (q_assign rfl) rfl rfl ?_)
  first | with_reducible refine S.nilK ?_ | refine S.nil ?_
  refine hK1 _ _ ?_
  refine S.seq fun K2 hK2 => ?_
  refine S.seq fun K3 hK3 => ?_
  refine S.region rfl ?_
  refine S.op (S.q (q_move rfl) rfl rfl ?_)
  refine S.op (S.q (q_eqN Tryd.underlying26 rfl rfl) rfl rfl ?_)
  first | with_reducible refine S.nilK ?_ | refine S.nil ?_
  refine hK3 _ _ ?_
  refine S.condF rfl ?_
  refine S.skip ?_
  with_reducible repeat (first | refine S.then_n ?_ | refine S.then_x ?_ | refine S.then_r ?_ | refine S.inBlock_n ?_ | refine S.inBlock_r ?_ | refine S.inBlock_x rfl ?_ | refine S.noGoto_r ?_ | refine S.noGoto_n ?_ | refine S.noGoto_x ?_)
  refine hK2 _ _ ?_
  refine S.seq fun K4 hK4 => ?_
  refine S.seq fun K5 hK5 => ?_
  refine S.regionG ?_
  refine S.g_op rfl (S.q (q_move rfl) rfl rfl ?_)
  refine S.g_op rfl (S.q (q_eq rfl rfl) rfl rfl ?_)
  refine S.g_op rfl (S.q (q_move rfl) rfl rfl ?_)
  refine S.g_yes rfl rfl rfl ((decide_eq_false (by omega))) (S.q (q_move rfl) rfl rfl ?_)
  refine S.g_yes rfl rfl rfl ((decide_eq_false (by omega))) (S.q (q_lt rfl rfl) rfl rfl ?_)
  refine S.g_op rfl (S.q (q_pickF rfl ((decide_eq_false (by omega))) rfl) rfl rfl ?_)
  refine S.g_op rfl (S.q (q_move rfl) rfl rfl ?_)
  refine S.g_yes rfl rfl rfl ((decide_eq_false (by omega))) (S.q (q_move rfl) rfl rfl ?_)
  refine S.g_yes rfl rfl rfl ((decide_eq_false (by omega))) (S.q (q_move rfl) rfl rfl ?_)
  refine S.g_yes rfl rfl rfl ((decide_eq_false (by omega))) (S.q (q_nilCheck rfl) rfl rfl ?_)
  refine S.g_yes rfl rfl rfl ((decide_eq_false (by omega))) (S.q (q_field Tryd.fo55_0 rfl) rfl rfl ?_)
  refine S.g_yes rfl rfl rfl ((decide_eq_false (by omega))) (S.q (q_load Tryd.at52 rfl rfl) rfl rfl ?_)
  refine S.g_yes rfl rfl rfl ((decide_eq_false (by omega))) (S.q (q_len Tryd.underlying52 rfl) rfl rfl ?_)
  refine S.g_yes rfl rfl rfl ((decide_eq_false (by omega))) (S.q (q_ge rfl rfl) rfl rfl ?_)
  refine S.g_op rfl (S.q (q_pickF rfl ((decide_eq_false (by omega))) rfl) rfl rfl ?_)
  refine S.g_op rfl (S.q (q_move rfl) rfl rfl ?_)
  refine S.g_yes rfl rfl rfl ((decide_eq_false (by omega))) (S.q (q_move rfl) rfl rfl ?_)
  refine S.g_yes rfl rfl rfl ((decide_eq_false (by omega))) (S.q (q_len Tryd.underlying69 rfl) rfl rfl ?_)
  refine S.g_yes rfl rfl rfl ((decide_eq_false (by omega))) (S.q (q_eq rfl rfl) rfl rfl ?_)
  refine S.g_op rfl (S.q (q_pickF rfl ((decide_eq_false (by omega))) rfl) rfl rfl ?_)
  first | with_reducible refine S.g_nilK ?_ | refine S.g_nil ?_
  refine hK5 _ _ ?_
  refine S.condD rfl (fun h2 => ?_) (fun h2 => ?_)
  · have hp : putR m j r l = (1, m) := by rw [putR, hpk, decide_eq_false (by omega)]; rfl
    refine S.riClose b m cs us rs hri ?_
    refine S.seq fun K6 hK6 => ?_
    refine S.region rfl ?_
    refine S.op (S.q (q_assign rfl) rfl rfl ?_)
    first | with_reducible refine S.nilK ?_ | refine S.nil ?_
    refine hK6 _ _ ?_
    refine S.ret ?_
    with_reducible repeat (first | refine S.then_n ?_ | refine S.then_x ?_ | refine S.then_r ?_ | refine S.inBlock_n ?_ | refine S.inBlock_r ?_ | refine S.inBlock_x rfl ?_ | refine S.noGoto_r ?_ | refine S.noGoto_n ?_ | refine S.noGoto_x ?_)
    exact S.fin (rs := [_]) (vs := [_]) Tryd.results31 (⟨rfl, trivial⟩)  (⟨by rw [hp]; rfl, by rw [hp]⟩) Sub.ent
  · have hpos : 0 < l.length := by omega
    obtain ⟨p1, p2, p3⟩ := put_ok hok hpos hup
    have hpn : putR m j r l = if (look m.js j).isSome then (7, m) else if tk m.js r &&& ofL (nats l) ≠ 0#16 then (15, m) else (0, m.add ⟨j, r, ofL (nats l)⟩) := by
      rw [putR, hpk, hup, decide_eq_true hpos, if_neg (by decide), Int.toNat_natCast]
    refine S.skip ?_
    with_reducible repeat (first | refine S.then_n ?_ | refine S.then_x ?_ | refine S.then_r ?_ | refine S.inBlock_n ?_ | refine S.inBlock_r ?_ | refine S.inBlock_x rfl ?_ | refine S.noGoto_r ?_ | refine S.noGoto_n ?_ | refine S.noGoto_x ?_)
    refine hK4 _ _ ?_
    refine S.seq fun K7 hK7 => ?_
    refine S.seq fun K8 hK8 => ?_
    refine S.region rfl ?_
    refine S.op (S.q (q_move rfl) rfl rfl ?_)
    refine S.op (S.q (q_len Tryd.underlying69 rfl) rfl rfl ?_)
    refine S.op (S.q (q_move rfl) rfl rfl ?_)
    first | with_reducible refine S.nilK ?_ | refine S.nil ?_
    refine hK8 _ _ ?_
    refine S.block ?_
    refine S.loop (fun q ρ' Γ' => ∃ i : Nat, q = l.length - i ∧ i ≤ l.length ∧ ρ' = [(0, .pointer (some ⟨b, 0, none⟩)), (1, .int .u32 (j : Int)), (2, .int .i64 (r : Int)), (3, s.v), (40, s.v), (41, .int .i64 s.n), (42, .int .i64 (i : Int))] ∧   Γ' = blk b 55 #[cs.v, us.v] :: own cs 31 1 (rs.map rrV) :: own us 4 1 (upC m) :: alls rs rrB :: R :: Γ) (m := _) (ρ0 := _) (Γ0 := _) (⟨0, rfl, by omega, rfl, rfl⟩) (by repeat (first | exact trivial | refine ⟨rfl, ?_⟩)) Sub.ent ?_
    rintro q ρ' Γ' ⟨i, hq, hi, rfl, rfl⟩
    refine S.seq fun K9 hK9 => ?_
    refine S.region rfl ?_
    refine S.op (S.q (q_lt rfl rfl) rfl rfl ?_)
    first | with_reducible refine S.nilK ?_ | refine S.nil ?_
    refine hK9 _ _ ?_
    refine S.seq fun K10 hK10 => ?_
    refine S.condD rfl (fun h3 => ?_) (fun h3 => ?_)
    · refine S.rSome hR (by omega) fun sb so hsa => ?_
      obtain ⟨x, hx⟩ := getE (show i < l.length by omega)
      have hxd : l.getD i 0 = x := by simp [List.getD, hx]
      obtain ⟨u1, u2⟩ := okUp_at hup (show i < l.length by omega)
      rw [hxd] at u1 u2
      have u3 := nodeB_iff.1 u1
      refine S.skip ?_
      with_reducible repeat (first | refine S.then_n ?_ | refine S.then_x ?_ | refine S.then_r ?_ | refine S.inBlock_n ?_ | refine S.inBlock_r ?_ | refine S.inBlock_x rfl ?_ | refine S.noGoto_r ?_ | refine S.noGoto_n ?_ | refine S.noGoto_x ?_)
      refine hK10 _ _ ?_
      refine S.seq fun K11 hK11 => ?_
      refine S.block ?_
      refine S.seq fun K12 hK12 => ?_
      refine S.region rfl ?_
      refine S.op (S.q (q_move rfl) rfl rfl ?_)
      refine S.op (S.q (q_indexO (i) Tryd.el69 rfl hsa rfl rfl (by omega)) rfl rfl ?_)
      refine S.op (S.q (q_loadR hR i Tryd.at3 rfl hsa (by omega) (by omega) (ints_get hx)) rfl rfl ?_)
      refine S.op (S.q (q_assign rfl) rfl rfl ?_)
      refine S.op (S.q (q_assign rfl) rfl rfl ?_)
      first | with_reducible refine S.nilK ?_ | refine S.nil ?_
      refine hK12 _ _ ?_
      refine S.seq fun K13 hK13 => ?_
      refine S.cut (fun ρ' Γ' => ρ' = [(0, .pointer (some ⟨b, 0, none⟩)), (1, .int .u32 (j : Int)), (2, .int .i64 (r : Int)), (3, s.v), (40, s.v), (41, .int .i64 s.n), (42, .int .i64 (i : Int)), (70, .bool false)] ∧   Γ' = blk b 55 #[cs.v, us.v] :: own cs 31 1 (rs.map rrV) :: own us 4 1 (upC m) :: alls rs rrB :: R :: Γ) ?_ ?_
      · refine S.regionG ?_
        refine S.g_op rfl (S.q (q_move rfl) rfl rfl ?_)
        refine S.g_op rfl (S.q (q_lt rfl rfl) rfl rfl ?_)
        refine S.g_op rfl (S.q (q_move rfl) rfl rfl ?_)
        refine S.g_yes rfl rfl rfl ((decide_eq_false (by omega))) (S.q (q_move rfl) rfl rfl ?_)
        refine S.g_yes rfl rfl rfl ((decide_eq_false (by omega))) (S.q (q_move rfl) rfl rfl ?_)
        refine S.g_yes rfl rfl rfl ((decide_eq_false (by omega))) (S.q (q_nilCheck rfl) rfl rfl ?_)
        refine S.g_yes rfl rfl rfl ((decide_eq_false (by omega))) (S.q (q_field Tryd.fo55_1 rfl) rfl rfl ?_)
        refine S.g_yes rfl rfl rfl ((decide_eq_false (by omega))) (S.q (q_load Tryd.at53 rfl rfl) rfl rfl ?_)
        refine S.g_yes rfl rfl rfl ((decide_eq_false (by omega))) (S.q (q_len Tryd.underlying53 rfl) rfl rfl ?_)
        refine S.g_yes rfl rfl rfl ((decide_eq_false (by omega))) (S.q (q_ge rfl rfl) rfl rfl ?_)
        refine S.g_op rfl (S.q (q_pickF rfl ((decide_eq_false (by omega))) rfl) rfl rfl ?_)
        refine S.g_op rfl (S.q (q_move rfl) rfl rfl ?_)
        refine S.g_yes rfl rfl rfl ((decide_eq_false (by omega))) (S.q (q_move rfl) rfl rfl ?_)
        refine S.g_yes rfl rfl rfl ((decide_eq_false (by omega))) (S.q (q_gt rfl rfl) rfl rfl ?_)
        refine S.g_yes rfl rfl rfl ((decide_eq_false (by omega))) (S.q (q_move rfl) rfl rfl ?_)
        by_cases hg8_14 : 0 < (i : Int)
        · obtain ⟨y, hy⟩ := getE (show i - 1 < l.length by omega)
          have hyd : l.getD (i - 1) 0 = y := by simp [List.getD, hy]
          rw [hyd] at u2
          refine S.g_yes rfl rfl rfl (decide_eq_true hg8_14) (S.q (q_move rfl) rfl rfl ?_)
          refine S.g_yes rfl rfl rfl (decide_eq_true hg8_14) (S.q (q_move rfl) rfl rfl ?_)
          refine S.g_yes rfl rfl rfl (decide_eq_true hg8_14) (S.q (q_move rfl) rfl rfl ?_)
          refine S.g_yes rfl rfl rfl (decide_eq_true hg8_14) (S.q (q_sub rfl rfl (inI64 (by omega) (by omega))) rfl rfl ?_)
          refine S.g_yes rfl rfl rfl (decide_eq_true hg8_14) (S.q (q_indexO (i - 1) Tryd.el69 rfl hsa rfl (by omega) (by omega)) rfl rfl ?_)
          refine S.g_yes rfl rfl rfl (decide_eq_true hg8_14) (S.q (q_loadR hR (i - 1) Tryd.at3 rfl hsa (by omega) (by omega) (ints_get hy)) rfl rfl ?_)
          refine S.g_yes rfl rfl rfl (decide_eq_true hg8_14) (S.q (q_le rfl rfl) rfl rfl ?_)
          refine S.g_yes rfl rfl rfl ((decide_eq_false (by omega))) (S.q (q_pickT rfl (decide_eq_true hg8_14) rfl) rfl rfl ?_)
          refine S.g_op rfl (S.q (q_pickF rfl ((decide_eq_false (by omega))) rfl) rfl rfl ?_)
          first | with_reducible refine S.g_nilK ?_ | refine S.g_nil ?_
          with_reducible repeat (first | refine S.then_n ?_ | refine S.then_x ?_ | refine S.then_r ?_ | refine S.inBlock_n ?_ | refine S.inBlock_r ?_ | refine S.inBlock_x rfl ?_ | refine S.noGoto_r ?_ | refine S.noGoto_n ?_ | refine S.noGoto_x ?_)
          first | (have e : decide (x ≤ y) = false := decide_eq_false (by have := u2 (by omega); omega) ; rw [e] ; exact S.meet ⟨rfl, rfl⟩ ⟨rfl, rfl, rfl, rfl, rfl, rfl, rfl, rfl, trivial⟩ Sub.ent) | exact S.meet ⟨rfl, rfl⟩ ⟨rfl, rfl, rfl, rfl, rfl, rfl, rfl, rfl, trivial⟩ Sub.ent
        · refine S.g_no rfl rfl rfl (decide_eq_false hg8_14) rfl rfl ?_
          refine S.g_no rfl rfl rfl (decide_eq_false hg8_14) rfl rfl ?_
          refine S.g_no rfl rfl rfl (decide_eq_false hg8_14) rfl rfl ?_
          refine S.g_no rfl rfl rfl (decide_eq_false hg8_14) rfl rfl ?_
          refine S.g_no rfl rfl rfl (decide_eq_false hg8_14) rfl rfl ?_
          refine S.g_no rfl rfl rfl (decide_eq_false hg8_14) rfl rfl ?_
          refine S.g_no rfl rfl rfl (decide_eq_false hg8_14) rfl rfl ?_
          refine S.g_yes rfl rfl rfl ((decide_eq_false (by omega))) (S.q (q_pickF rfl (decide_eq_false hg8_14) rfl) rfl rfl ?_)
          refine S.g_op rfl (S.q (q_pickF rfl ((decide_eq_false (by omega))) rfl) rfl rfl ?_)
          first | with_reducible refine S.g_nilK ?_ | refine S.g_nil ?_
          with_reducible repeat (first | refine S.then_n ?_ | refine S.then_x ?_ | refine S.then_r ?_ | refine S.inBlock_n ?_ | refine S.inBlock_r ?_ | refine S.inBlock_x rfl ?_ | refine S.noGoto_r ?_ | refine S.noGoto_n ?_ | refine S.noGoto_x ?_)
          first | (have e : decide (x ≤ y) = false := decide_eq_false (by have := u2 (by omega); omega) ; rw [e] ; exact S.meet ⟨rfl, rfl⟩ ⟨rfl, rfl, rfl, rfl, rfl, rfl, rfl, rfl, trivial⟩ Sub.ent) | exact S.meet ⟨rfl, rfl⟩ ⟨rfl, rfl, rfl, rfl, rfl, rfl, rfl, rfl, trivial⟩ Sub.ent
      · rintro ρ' Γ' ⟨rfl, rfl⟩
        refine hK13 _ _ ?_
        refine S.condF rfl ?_
        refine S.skip ?_
        with_reducible repeat (first | refine S.then_n ?_ | refine S.then_x ?_ | refine S.then_r ?_ | refine S.inBlock_n ?_ | refine S.inBlock_r ?_ | refine S.inBlock_x rfl ?_ | refine S.noGoto_r ?_ | refine S.noGoto_n ?_ | refine S.noGoto_x ?_)
        with_reducible repeat (first | refine S.then_n ?_ | refine S.then_x ?_ | refine S.then_r ?_ | refine S.inBlock_n ?_ | refine S.inBlock_r ?_ | refine S.inBlock_x rfl ?_ | refine S.noGoto_r ?_ | refine S.noGoto_n ?_ | refine S.noGoto_x ?_)
        refine hK11 _ _ ?_
        refine S.region rfl ?_
        refine S.op (S.q (q_add rfl rfl (inI64 (by omega) (by omega))) rfl rfl ?_)
        refine S.op (S.q (q_move rfl) rfl rfl ?_)
        first | with_reducible refine S.nilK ?_ | refine S.nil ?_
        with_reducible repeat (first | refine S.then_n ?_ | refine S.then_x ?_ | refine S.then_r ?_ | refine S.inBlock_n ?_ | refine S.inBlock_r ?_ | refine S.inBlock_x rfl ?_ | refine S.noGoto_r ?_ | refine S.noGoto_n ?_ | refine S.noGoto_x ?_)
        exact S.next (q - 1) (⟨i + 1, by omega, by omega, rfl, rfl⟩) (by omega) (by repeat (first | exact trivial | refine ⟨rfl, ?_⟩)) Sub.ent
    · refine S.exit ?_
      with_reducible repeat (first | refine S.then_n ?_ | refine S.then_x ?_ | refine S.then_r ?_ | refine S.inBlock_n ?_ | refine S.inBlock_r ?_ | refine S.inBlock_x rfl ?_ | refine S.noGoto_r ?_ | refine S.noGoto_n ?_ | refine S.noGoto_x ?_)
      with_reducible refine S.inBlock_s ?_
      with_reducible repeat (first | refine S.then_n ?_ | refine S.then_x ?_ | refine S.then_r ?_ | refine S.inBlock_n ?_ | refine S.inBlock_r ?_ | refine S.inBlock_x rfl ?_ | refine S.noGoto_r ?_ | refine S.noGoto_n ?_ | refine S.noGoto_x ?_)
      refine hK7 _ _ ?_
      refine S.seq fun K14 hK14 => ?_
      refine S.seq fun K15 hK15 => ?_
      refine S.region rfl ?_
      refine S.riClose b m cs us rs hri ?_
      refine S.op (S.q (q_move rfl) rfl rfl ?_)
      refine S.op (S.q (q_move rfl) rfl rfl ?_)
      refine S.op (S.call Tryd.en46 (vs := [_, _]) ⟨rfl, rfl, trivial⟩ (rOf_S b m j) rfl ?_)
      rintro v Θ ⟨s5, rfl, _, rfl⟩
      refine S.op (S.q (q_move rfl) rfl rfl ?_)
      refine S.op (S.q (q_extract rfl rfl) rfl rfl ?_)
      refine S.op (S.q (q_extract rfl rfl) rfl rfl ?_)
      refine S.op (S.q (q_extract rfl rfl) rfl rfl ?_)
      refine S.op (S.q (q_assign rfl) rfl rfl ?_)
      refine S.op (S.q (q_assign rfl) rfl rfl ?_)
      refine S.op (S.q (q_assign rfl) rfl rfl ?_)
      first | with_reducible refine S.nilK ?_ | refine S.nil ?_
      refine hK15 _ _ ?_
      refine S.seq fun K16 hK16 => ?_
      refine S.region rfl ?_
      refine S.op (S.q (q_move rfl) rfl rfl ?_)
      first | with_reducible refine S.nilK ?_ | refine S.nil ?_
      refine hK16 _ _ ?_
      refine S.cond rfl (fun h5 => ?_) (fun h5 => ?_)
      · have hls : (look m.js j).isSome = true := by
          cases h : look m.js j with
          | none => rw [ofR_none h] at h5; cases h5
          | some x => rfl
        rw [if_pos hls] at hpn
        refine S.seq fun K17 hK17 => ?_
        refine S.region rfl ?_
        refine S.op (S.q (q_assign rfl) rfl rfl ?_)
        first | with_reducible refine S.nilK ?_ | refine S.nil ?_
        refine hK17 _ _ ?_
        refine S.ret ?_
        with_reducible repeat (first | refine S.then_n ?_ | refine S.then_x ?_ | refine S.then_r ?_ | refine S.inBlock_n ?_ | refine S.inBlock_r ?_ | refine S.inBlock_x rfl ?_ | refine S.noGoto_r ?_ | refine S.noGoto_n ?_ | refine S.noGoto_x ?_)
        exact S.fin (rs := [_]) (vs := [_]) Tryd.results31 (⟨rfl, trivial⟩)  (⟨by rw [hpn]; rfl, by rw [hpn]⟩) Sub.ent
      · have hlk : look m.js j = none := by
          cases h : look m.js j with
          | none => rfl
          | some x => rw [ofR_some h] at h5; cases h5
        rw [hlk, if_neg (by decide)] at hpn
        clear hri
        refine S.riOpen b m fun cs us rs hri => ?_
        have hcn := hri.cn
        have hun := hri.un
        have hrl := hri.rlen
        refine S.ownSome cs (by omega) fun cb co hca _ _ _ => ?_
        obtain ⟨p, hp, hpd, hpl⟩ := hri.at_ hr
        have hRp : RdS (alls rs rrB) p.1 p.1.n 1 (idsV p.2) := RdS.alls hp RdS.own
        have hN1 := hok.N1
        refine S.rSome hRp (by omega) fun pb po hpa => ?_
        refine S.skip ?_
        with_reducible repeat (first | refine S.then_n ?_ | refine S.then_x ?_ | refine S.then_r ?_ | refine S.inBlock_n ?_ | refine S.inBlock_r ?_ | refine S.inBlock_x rfl ?_ | refine S.noGoto_r ?_ | refine S.noGoto_n ?_ | refine S.noGoto_x ?_)
        refine hK14 _ _ ?_
        refine S.seq fun K18 hK18 => ?_
        refine S.seq fun K19 hK19 => ?_
        refine S.region rfl ?_
        refine S.op (S.q (q_move rfl) rfl rfl ?_)
        refine S.op (S.q (q_len Tryd.underlying69 rfl) rfl rfl ?_)
        refine S.op (S.q (q_move rfl) rfl rfl ?_)
        first | with_reducible refine S.nilK ?_ | refine S.nil ?_
        refine hK19 _ _ ?_
        refine S.block ?_
        refine S.loop (fun q ρ' Γ' => ∃ i : Nat, q = l.length - i ∧ i ≤ l.length ∧ (∀ k, k ∈ nats (l.take i) → (tk m.js r).getLsbD k = false) ∧ ρ' = [(0, .pointer (some ⟨b, 0, none⟩)), (1, .int .u32 (j : Int)), (2, .int .i64 (r : Int)), (3, s.v), (80, s.v), (81, .int .i64 s.n), (82, .int .i64 (i : Int))] ∧   Γ' = blk b 55 #[cs.v, us.v] :: own cs 31 1 (rs.map rrV) :: own us 4 1 (upC m) :: alls rs rrB :: R :: Γ) (m := _) (ρ0 := _) (Γ0 := _) (⟨0, rfl, by omega, fun _ h => (by cases h), rfl, rfl⟩) (by repeat (first | exact trivial | refine ⟨rfl, ?_⟩)) Sub.ent ?_
        rintro q ρ' Γ' ⟨i, hq, hi, hfree, rfl, rfl⟩
        refine S.seq fun K20 hK20 => ?_
        refine S.region rfl ?_
        refine S.op (S.q (q_lt rfl rfl) rfl rfl ?_)
        first | with_reducible refine S.nilK ?_ | refine S.nil ?_
        refine hK20 _ _ ?_
        refine S.seq fun K21 hK21 => ?_
        refine S.condD rfl (fun h6 => ?_) (fun h6 => ?_)
        · refine S.rSome hR (by omega) fun sb so hsa => ?_
          obtain ⟨x, hx⟩ := getE (show i < l.length by omega)
          have hxd : l.getD i 0 = x := by simp [List.getD, hx]
          have u1 := (okUp_at hup (show i < l.length by omega)).1
          rw [hxd] at u1
          have u3 := nodeB_iff.1 u1
          obtain ⟨xn, rfl⟩ : ∃ xn : Nat, x = xn := ⟨x.toNat, by omega⟩
          have hxa := rowN_get (m := m) (i := xn) (by omega) r
          rw [← hpd] at hxa
          have htn : nats (l.take (i + 1)) = nats (l.take i) ++ [xn] := by rw [List.take_add_one, hx]; simp
          refine S.skip ?_
          with_reducible repeat (first | refine S.then_n ?_ | refine S.then_x ?_ | refine S.then_r ?_ | refine S.inBlock_n ?_ | refine S.inBlock_r ?_ | refine S.inBlock_x rfl ?_ | refine S.noGoto_r ?_ | refine S.noGoto_n ?_ | refine S.noGoto_x ?_)
          refine hK21 _ _ ?_
          refine S.seq fun K22 hK22 => ?_
          refine S.block ?_
          refine S.seq fun K23 hK23 => ?_
          refine S.region rfl ?_
          refine S.op (S.q (q_indexO (i) Tryd.el69 rfl hsa rfl rfl (by omega)) rfl rfl ?_)
          refine S.op (S.q (q_loadR hR i Tryd.at3 rfl hsa (by omega) (by omega) (ints_get hx)) rfl rfl ?_)
          refine S.op (S.q (q_assign rfl) rfl rfl ?_)
          first | with_reducible refine S.nilK ?_ | refine S.nil ?_
          refine hK23 _ _ ?_
          refine S.seq fun K24 hK24 => ?_
          refine S.region rfl ?_
          refine S.op (S.q (q_move rfl) rfl rfl ?_)
          refine S.op (S.q (q_nilCheck rfl) rfl rfl ?_)
          refine S.op (S.q (q_field Tryd.fo55_0 rfl) rfl rfl ?_)
          refine S.op (S.q (q_load Tryd.at52 rfl rfl) rfl rfl ?_)
          refine S.op (S.q (q_move rfl) rfl rfl ?_)
          refine S.op (S.q (q_indexO (r) Tryd.el52 rfl hca rfl rfl (by omega)) rfl rfl ?_)
          refine S.op (S.q (q_loadOw (cs) (r) Tryd.at31 rfl hca (by first | rfl | exact Nat.add_assoc _ _ _ | omega) (by rw [List.getElem?_map, hp]; rfl)) rfl rfl ?_)
          refine S.op (S.q (q_move rfl) rfl rfl ?_)
          refine S.op (S.q (q_indexO (xn) Tryd.el31 rfl hpa rfl rfl (by omega)) rfl rfl ?_)
          refine S.op (S.q (q_loadR hRp xn Tryd.at68 rfl hpa (by omega) (by omega) (idsV_get hxa)) rfl rfl ?_)
          refine S.op (S.q (q_ne rfl rfl) rfl rfl ?_)
          first | with_reducible refine S.nilK ?_ | refine S.nil ?_
          refine hK24 _ _ ?_
          refine S.condD rfl (fun h7 => ?_) (fun h7 => ?_)
          · have hbz : tk m.js r &&& ofL (nats l) ≠ 0#16 := fun e => by
              have h8 : (tk m.js r).getLsbD xn = true := by
                cases hb : (tk m.js r).getLsbD xn with
                | true => rfl
                | false => exact absurd (by rw [(busy_iff hok).2 hb]; rfl) h7
              have h9 := congrArg (fun s => s.getLsbD xn) e
              have h10 : (ofL (nats l)).getLsbD xn = true := (ofL_bit _ _).2 ⟨by omega, List.mem_map.2 ⟨(xn : Int), List.mem_of_getElem? hx, by simp⟩⟩
              simp only [BitVec.getLsbD_and, h8, h10] at h9
              simp at h9
            rw [if_pos hbz] at hpn
            refine S.riClose b m cs us rs hri ?_
            refine S.seq fun K25 hK25 => ?_
            refine S.region rfl ?_
            refine S.op (S.q (q_assign rfl) rfl rfl ?_)
            first | with_reducible refine S.nilK ?_ | refine S.nil ?_
            refine hK25 _ _ ?_
            refine S.ret ?_
            with_reducible repeat (first | refine S.then_n ?_ | refine S.then_x ?_ | refine S.then_r ?_ | refine S.inBlock_n ?_ | refine S.inBlock_r ?_ | refine S.inBlock_x rfl ?_ | refine S.noGoto_r ?_ | refine S.noGoto_n ?_ | refine S.noGoto_x ?_)
            exact S.fin (rs := [_]) (vs := [_]) Tryd.results31 (⟨rfl, trivial⟩)  (⟨by rw [hpn]; rfl, by rw [hpn]⟩) Sub.ent
          · have hfree2 : ∀ k, k ∈ nats (l.take (i + 1)) → (tk m.js r).getLsbD k = false := fun k hk => by
              rw [htn, List.mem_append, List.mem_singleton] at hk
              rcases hk with hk | rfl
              · exact hfree k hk
              · exact (busy_iff hok).1 (by omega)
            refine S.skip ?_
            with_reducible repeat (first | refine S.then_n ?_ | refine S.then_x ?_ | refine S.then_r ?_ | refine S.inBlock_n ?_ | refine S.inBlock_r ?_ | refine S.inBlock_x rfl ?_ | refine S.noGoto_r ?_ | refine S.noGoto_n ?_ | refine S.noGoto_x ?_)
            with_reducible repeat (first | refine S.then_n ?_ | refine S.then_x ?_ | refine S.then_r ?_ | refine S.inBlock_n ?_ | refine S.inBlock_r ?_ | refine S.inBlock_x rfl ?_ | refine S.noGoto_r ?_ | refine S.noGoto_n ?_ | refine S.noGoto_x ?_)
            refine hK22 _ _ ?_
            refine S.region rfl ?_
            refine S.op (S.q (q_add rfl rfl (inI64 (by omega) (by omega))) rfl rfl ?_)
            refine S.op (S.q (q_move rfl) rfl rfl ?_)
            first | with_reducible refine S.nilK ?_ | refine S.nil ?_
            with_reducible repeat (first | refine S.then_n ?_ | refine S.then_x ?_ | refine S.then_r ?_ | refine S.inBlock_n ?_ | refine S.inBlock_r ?_ | refine S.inBlock_x rfl ?_ | refine S.noGoto_r ?_ | refine S.noGoto_n ?_ | refine S.noGoto_x ?_)
            exact S.next (q - 1) (⟨i + 1, by omega, by omega, hfree2, rfl, rfl⟩) (by omega) (by repeat (first | exact trivial | refine ⟨rfl, ?_⟩)) Sub.ent
        · have hie : i = l.length := by omega
          rw [hie, List.take_length] at hfree
          have hbz : tk m.js r &&& ofL (nats l) = 0#16 := by
            refine BitVec.eq_of_getLsbD_eq fun k _ => ?_
            rw [BitVec.getLsbD_and]
            cases hb : (ofL (nats l)).getLsbD k with
            | false => simp
            | true => rw [hfree k ((ofL_bit _ _).1 hb).2]; simp
          rw [if_neg (fun e => e hbz)] at hpn
          have hok' : MxOk (m.add ⟨j, r, ofL (nats l)⟩) := hok.add (look_none hlk) (by show 1 ≤ j; omega) hj hr p2 p3 hbz
          refine S.conv (alls rs rrB) (Ent.allsAt rrB hp _) ?_
          show S _ w0 _ (own p.1 68 1 (idsV p.2) :: alls (rs.take r) rrB :: alls (rs.drop (r + 1)) rrB :: _) _
          refine S.exit ?_
          with_reducible repeat (first | refine S.then_n ?_ | refine S.then_x ?_ | refine S.then_r ?_ | refine S.inBlock_n ?_ | refine S.inBlock_r ?_ | refine S.inBlock_x rfl ?_ | refine S.noGoto_r ?_ | refine S.noGoto_n ?_ | refine S.noGoto_x ?_)
          with_reducible refine S.inBlock_s ?_
          with_reducible repeat (first | refine S.then_n ?_ | refine S.then_x ?_ | refine S.then_r ?_ | refine S.inBlock_n ?_ | refine S.inBlock_r ?_ | refine S.inBlock_x rfl ?_ | refine S.noGoto_r ?_ | refine S.noGoto_n ?_ | refine S.noGoto_x ?_)
          refine hK18 _ _ ?_
          refine S.seq fun K26 hK26 => ?_
          refine S.seq fun K27 hK27 => ?_
          refine S.region rfl ?_
          refine S.op (S.q (q_move rfl) rfl rfl ?_)
          refine S.op (S.q (q_len Tryd.underlying69 rfl) rfl rfl ?_)
          refine S.op (S.q (q_move rfl) rfl rfl ?_)
          first | with_reducible refine S.nilK ?_ | refine S.nil ?_
          refine hK27 _ _ ?_
          refine S.block ?_
          refine S.loop (fun q ρ' Γ' => ∃ (i : Nat) (d : List Nat), q = l.length - i ∧ i ≤ l.length ∧ d = setAll p.2 (nats (l.take i)) j ∧ ρ' = [(0, .pointer (some ⟨b, 0, none⟩)), (1, .int .u32 (j : Int)), (2, .int .i64 (r : Int)), (98, s.v), (99, .int .i64 s.n), (100, .int .i64 (i : Int))] ∧   Γ' = own p.1 68 1 (idsV d) :: alls (rs.take r) rrB :: alls (rs.drop (r + 1)) rrB :: blk b 55 #[cs.v, us.v] :: own cs 31 1 (rs.map rrV) :: own us 4 1 (upC m) :: R :: Γ) (m := _) (ρ0 := _) (Γ0 := _) (⟨0, p.2, rfl, by omega, rfl, rfl, rfl⟩) (by repeat (first | exact trivial | refine ⟨rfl, ?_⟩)) Sub.ent ?_
          rintro q ρ' Γ' ⟨i, d, hq, hi, hd, rfl, rfl⟩
          have hdl : d.length = m.N := by rw [hd, setAll_len, hpd, rowN_len]
          refine S.seq fun K28 hK28 => ?_
          refine S.region rfl ?_
          refine S.op (S.q (q_lt rfl rfl) rfl rfl ?_)
          first | with_reducible refine S.nilK ?_ | refine S.nil ?_
          refine hK28 _ _ ?_
          refine S.seq fun K29 hK29 => ?_
          refine S.condD rfl (fun h8 => ?_) (fun h8 => ?_)
          · refine S.rSome hR (by omega) fun sb so hsa => ?_
            obtain ⟨x, hx⟩ := getE (show i < l.length by omega)
            have hxd : l.getD i 0 = x := by simp [List.getD, hx]
            have u1 := (okUp_at hup (show i < l.length by omega)).1
            rw [hxd] at u1
            have u3 := nodeB_iff.1 u1
            obtain ⟨xn, rfl⟩ : ∃ xn : Nat, x = xn := ⟨x.toNat, by omega⟩
            have hd2 : d.set xn j = setAll p.2 (nats (l.take (i + 1))) j := by
              rw [hd, ← setAll_snoc, List.take_add_one, hx]
              simp
            have hset : (idsV d).set xn (.int .u32 (j : Int)) = idsV (d.set xn j) := by
              show (d.map _).set _ _ = (d.set xn j).map _
              rw [List.map_set]
            refine S.skip ?_
            with_reducible repeat (first | refine S.then_n ?_ | refine S.then_x ?_ | refine S.then_r ?_ | refine S.inBlock_n ?_ | refine S.inBlock_r ?_ | refine S.inBlock_x rfl ?_ | refine S.noGoto_r ?_ | refine S.noGoto_n ?_ | refine S.noGoto_x ?_)
            refine hK29 _ _ ?_
            refine S.seq fun K30 hK30 => ?_
            refine S.block ?_
            refine S.seq fun K31 hK31 => ?_
            refine S.region rfl ?_
            refine S.op (S.q (q_indexO (i) Tryd.el69 rfl hsa rfl rfl (by omega)) rfl rfl ?_)
            refine S.op (S.q (q_loadR hR i Tryd.at3 rfl hsa (by omega) (by omega) (ints_get hx)) rfl rfl ?_)
            refine S.op (S.q (q_assign rfl) rfl rfl ?_)
            first | with_reducible refine S.nilK ?_ | refine S.nil ?_
            refine hK31 _ _ ?_
            refine S.region rfl ?_
            refine S.op (S.q (q_move rfl) rfl rfl ?_)
            refine S.op (S.q (q_nilCheck rfl) rfl rfl ?_)
            refine S.op (S.q (q_field Tryd.fo55_0 rfl) rfl rfl ?_)
            refine S.op (S.q (q_load Tryd.at52 rfl rfl) rfl rfl ?_)
            refine S.op (S.q (q_move rfl) rfl rfl ?_)
            refine S.op (S.q (q_indexO (r) Tryd.el52 rfl hca rfl rfl (by omega)) rfl rfl ?_)
            refine S.op (S.q (q_loadOw (cs) (r) Tryd.at31 rfl hca (by first | rfl | exact Nat.add_assoc _ _ _ | omega) (by rw [List.getElem?_map, hp]; rfl)) rfl rfl ?_)
            refine S.op (S.q (q_move rfl) rfl rfl ?_)
            refine S.op (S.q (q_move rfl) rfl rfl ?_)
            refine S.op (S.q (q_indexO (xn) Tryd.el31 rfl hpa rfl rfl (by omega)) rfl rfl ?_)
            refine S.op (S.storeOw (p.1) (xn) Tryd.at68 rfl rfl rfl hpa (by first | rfl | exact Nat.add_assoc _ _ _ | omega) (by rw [List.length_map]; omega) (hset) ?_)
            first | with_reducible refine S.nilK ?_ | refine S.nil ?_
            with_reducible repeat (first | refine S.then_n ?_ | refine S.then_x ?_ | refine S.then_r ?_ | refine S.inBlock_n ?_ | refine S.inBlock_r ?_ | refine S.inBlock_x rfl ?_ | refine S.noGoto_r ?_ | refine S.noGoto_n ?_ | refine S.noGoto_x ?_)
            refine hK30 _ _ ?_
            refine S.region rfl ?_
            refine S.op (S.q (q_add rfl rfl (inI64 (by omega) (by omega))) rfl rfl ?_)
            refine S.op (S.q (q_move rfl) rfl rfl ?_)
            first | with_reducible refine S.nilK ?_ | refine S.nil ?_
            with_reducible repeat (first | refine S.then_n ?_ | refine S.then_x ?_ | refine S.then_r ?_ | refine S.inBlock_n ?_ | refine S.inBlock_r ?_ | refine S.inBlock_x rfl ?_ | refine S.noGoto_r ?_ | refine S.noGoto_n ?_ | refine S.noGoto_x ?_)
            exact S.next (q - 1) (⟨i + 1, d.set xn j, by omega, by omega, hd2, rfl, rfl⟩) (by omega) (by repeat (first | exact trivial | refine ⟨rfl, ?_⟩)) Sub.ent
          · have hie2 : i = l.length := by omega
            rw [hie2, List.take_length] at hd
            refine S.conv3 (own p.1 68 1 (idsV d)) (alls (rs.take r) rrB) (alls (rs.drop (r + 1)) rrB) (Ent.allsBack rrB (x' := (p.1, d)) hp _) ?_
            have hrow := rowN_add hok hok'
            have hrv : (rs.set r (p.1, d)).map rrV = rs.map rrV := by
              rw [List.map_set]
              refine List.ext_getElem? fun k => ?_
              by_cases e : r = k
              · subst e; rw [List.getElem?_set_self (by rw [List.length_map]; omega), List.getElem?_map, hp]; rfl
              · rw [List.getElem?_set_ne e]
            have hri2 : RiOk (m.add ⟨j, r, ofL (nats l)⟩) cs us (rs.set r (p.1, d)) := ⟨hok', hcn, hun, by
              refine List.ext_getElem? fun k => ?_
              by_cases hk : k < m.R
              · rw [List.getElem?_map, List.getElem?_map, List.getElem?_range (show k < (m.add ⟨j, r, ofL (nats l)⟩).R from hk), Option.map_some, hrow]
                by_cases e : r = k
                · subst e
                  rw [List.getElem?_set_self (by omega), Option.map_some, if_pos rfl, hd, hpd]
                  simp only [p1]
                · rw [List.getElem?_set_ne e, if_neg (fun h => e h.symm)]
                  obtain ⟨p', hp', hpd', _⟩ := hri.at_ hk
                  rw [hp', Option.map_some, hpd']
              · rw [List.getElem?_eq_none (by rw [List.length_map, List.length_set]; omega), List.getElem?_eq_none (by rw [List.length_map, List.length_range]; show m.R ≤ k; omega)], fun p' hp' => by
              rcases List.mem_or_eq_of_mem_set hp' with h9 | h9
              · exact hri.len p' h9
              · rw [h9]; exact hpl⟩
            rw [← hrv, show upC m = upC (m.add ⟨j, r, ofL (nats l)⟩) from rfl]
            refine S.exit ?_
            with_reducible repeat (first | refine S.then_n ?_ | refine S.then_x ?_ | refine S.then_r ?_ | refine S.inBlock_n ?_ | refine S.inBlock_r ?_ | refine S.inBlock_x rfl ?_ | refine S.noGoto_r ?_ | refine S.noGoto_n ?_ | refine S.noGoto_x ?_)
            with_reducible refine S.inBlock_s ?_
            with_reducible repeat (first | refine S.then_n ?_ | refine S.then_x ?_ | refine S.then_r ?_ | refine S.inBlock_n ?_ | refine S.inBlock_r ?_ | refine S.inBlock_x rfl ?_ | refine S.noGoto_r ?_ | refine S.noGoto_n ?_ | refine S.noGoto_x ?_)
            refine hK26 _ _ ?_
            refine S.seq fun K32 hK32 => ?_
            refine S.region rfl ?_
            refine S.op (S.q (q_assign rfl) rfl rfl ?_)
            first | with_reducible refine S.nilK ?_ | refine S.nil ?_
            refine hK32 _ _ ?_
            refine S.ret ?_
            with_reducible repeat (first | refine S.then_n ?_ | refine S.then_x ?_ | refine S.then_r ?_ | refine S.inBlock_n ?_ | refine S.inBlock_r ?_ | refine S.inBlock_x rfl ?_ | refine S.noGoto_r ?_ | refine S.noGoto_n ?_ | refine S.noGoto_x ?_)
            refine S.riClose b (m.add ⟨j, r, ofL (nats l)⟩) cs us (rs.set r (p.1, d)) hri2 ?_
            exact S.fin (rs := [_]) (vs := [_]) Tryd.results31 (⟨rfl, trivial⟩)  (⟨by rw [hpn]; rfl, by rw [hpn]⟩) Sub.ent
end Go.Proofs.YtegjmmocnffpiaaDoor
/- The document's matrix: nodes by their bits; nodes that are down. -/
namespace Go.Proofs.YtegjmmocnffpiaaDoor
open Go.RowKit
set_option maxRecDepth 20000
/-- The nodes below k of a set. -/
def bitU (s : Bs) : Nat → List Nat
  | 0 => []
  | k + 1 => if s.getLsbD k then bitU s k ++ [k] else bitU s k
theorem mem_bitU {s : Bs} {i : Nat} : ∀ {k : Nat}, i ∈ bitU s k ↔ i < k ∧ s.getLsbD i = true
  | 0 => by simp [bitU]
  | k + 1 => by
    rw [bitU]
    split
    · rename_i h
      rw [List.mem_append, mem_bitU, List.mem_singleton]
      constructor
      · rintro (⟨h1, h2⟩ | rfl)
        · exact ⟨by omega, h2⟩
        · exact ⟨by omega, h⟩
      · rintro ⟨h1, h2⟩
        by_cases e : i = k
        · exact .inr e
        · exact .inl ⟨by omega, h2⟩
    · rename_i h
      rw [mem_bitU]
      constructor
      · rintro ⟨h1, h2⟩; exact ⟨by omega, h2⟩
      · rintro ⟨h1, h2⟩
        by_cases e : i = k
        · subst e; exact absurd h2 h
        · exact ⟨by omega, h2⟩
theorem bitU_rise (s : Bs) : ∀ k, (bitU s k).Pairwise (· < ·)
  | 0 => List.Pairwise.nil
  | k + 1 => by
    rw [bitU]
    split
    · refine List.pairwise_append.2 ⟨bitU_rise s k, List.pairwise_singleton _ _, fun a ha b hb => ?_⟩
      rw [List.mem_singleton] at hb
      have := (mem_bitU.1 ha).1
      omega
    · exact bitU_rise s k
theorem bitU_len (s : Bs) : ∀ k, (bitU s k).length ≤ k
  | 0 => Nat.le_refl _
  | k + 1 => by
    have := bitU_len s k
    rw [bitU]
    split
    · rw [List.length_append, List.length_singleton]; omega
    · omega
theorem bitU_lst (s : Bs) {k : Nat} (hk : k ≤ 16) : bitU s k = lst (s &&& mask k) := rise_ext (bitU_rise s k) (lst_rise _) fun i => by
  rw [mem_bitU, mem_lst, BitVec.getLsbD_and, Bool.and_eq_true, mask_bit hk, And.comm]
theorem bitU_ok {m : Mx} (hm : MxOk m) (s : Bs) : okUp m (casts (bitU s m.N)) (casts (bitU s m.N)).length = true := by
  rw [bitU_lst s hm.N16, List.length_map]
  refine okUp_lst m _ (fun i hi => ?_) _ (Nat.le_refl _)
  rw [BitVec.getLsbD_and, Bool.and_eq_true, mask_bit hm.N16] at hi
  exact hi.2
theorem putR_N (m : Mx) (j : Nat) (z : Int) (l : List Int) : (putR m j z l).2.N = m.N ∧ (putR m j z l).2.up = m.up ∧ (putR m j z l).2.R = m.R := by
  unfold putR
  split
  · exact ⟨rfl, rfl, rfl⟩
  · split
    · exact ⟨rfl, rfl, rfl⟩
    · split <;> exact ⟨rfl, rfl, rfl⟩
theorem upC_set {m : Mx} {k : Nat} (hN : m.N ≤ 16) (hk : k < m.N) : (upC m).set k (.bool false) = upC (m.setUp k false) := by
  refine List.ext_getElem? fun i => ?_
  show _ = ((List.range m.N).map fun i => Value.bool ((m.setUp k false).up.getLsbD i))[i]?
  by_cases hi : i < m.N
  · rw [List.getElem?_map, List.getElem?_range hi, Option.map_some]
    have e : (m.setUp k false).up.getLsbD i = (m.up.getLsbD i && !decide (k = i)) := by
      simp only [Mx.setUp, Bool.false_eq_true, if_false, BitVec.getLsbD_and, BitVec.getLsbD_not, BitVec.getLsbD_twoPow]
      have h1 : i < 16 := by omega
      have h2 : k < 16 := by omega
      simp [h1, h2]
    rw [e]
    by_cases ek : k = i
    · subst ek
      rw [List.getElem?_set_self (by simp; exact hk)]
      simp
    · rw [List.getElem?_set_ne ek, List.getElem?_map, List.getElem?_range hi, Option.map_some, decide_eq_false ek]
      simp
  · rw [List.getElem?_eq_none (by simp; omega), List.getElem?_eq_none (by simp; omega)]
theorem RiOk.setUp {m : Mx} {cs us : SV} {rs : List Rr} (h : RiOk m cs us rs) {k : Nat} (hk : k < m.N) : RiOk (m.setUp k false) cs us rs := ⟨h.ok.setUp hk false, h.cn, h.un, h.dat, h.len⟩
theorem upR_ok {m : Mx} (hm : MxOk m) (z : Int) (on : Bool) : MxOk (upR m z on).2 := by
  unfold upR
  split
  · rename_i h
    have := nodeB_iff.1 h
    exact hm.setUp (by omega) on
  · exact hm
theorem upR_N (m : Mx) (z : Int) (on : Bool) : (upR m z on).2.N = m.N ∧ (upR m z on).2.R = m.R := by
  unfold upR
  split <;> exact ⟨rfl, rfl⟩
end Go.Proofs.YtegjmmocnffpiaaDoor
/- The laws of shuffle: what both sides build; awake. -/
namespace Go.Proofs.YtegjmmocnffpiaaDoor
open Go.RowKit
set_option maxRecDepth 20000
section
variable {n : Nat} {ρ : Env} {Γ : List Assn} {ty : TypeId} {pos : String} {af : Array Edge} {gd : Option (Nat × Bool)} {ds : Option Tmp}
theorem run_eqMv (t : TypeId) (ht : t = 107 ∨ t = 113) (a b : Mv) (w : World) : (Op.equalIn 10000 t (.agg (mvC a).toArray) (.agg (mvC b).toArray)).run Tryd.prog w = .ok (decide (a = b)) w := by
  have e0 : decide (a = b) = ((a.1 : Int) == (b.1 : Int) && (a.2.1 == b.2.1 && a.2.2 == b.2.2)) := by
    rw [Bool.eq_iff_iff]
    simp only [decide_eq_true_eq, Bool.and_eq_true, beq_iff_eq]
    constructor
    · intro e; subst e; exact ⟨rfl, rfl, rfl⟩
    · obtain ⟨a1, a2, a3⟩ := a
      obtain ⟨b1, b2, b3⟩ := b
      simp only
      rintro ⟨h1, h2, h3⟩
      have h1 : a1 = b1 := by omega
      rw [h1, h2, h3]
  have h32 : ∀ (x y : Int) (w : World), (Op.equalIn 9999 68 (.int .u32 x) (.int .u32 y)).run Tryd.prog w = .ok (x == y) w := fun x y w => run_equalIn_int w 9998 68 .u32 .u32 x y Tryd.underlying68
  have h64 : ∀ (x y : Int) (w : World), (Op.equalIn 9999 3 (.int .i64 x) (.int .i64 y)).run Tryd.prog w = .ok (x == y) w := fun x y w => run_equalIn_int w 9998 3 .i64 .i64 x y Tryd.underlying3
  have p32 : ∀ (xs : Array Value) (o : Nat) (v : Value) (w : World), xs[o]? = some v → (part 68 xs o).run Tryd.prog w = .ok v w := fun xs o v w h => by simp [part, (run_isAgg_atom (P := Tryd.prog) Tryd.at68 w).1, h]
  have p64 : ∀ (xs : Array Value) (o : Nat) (v : Value) (w : World), xs[o]? = some v → (part 3 xs o).run Tryd.prog w = .ok v w := fun xs o v w h => by simp [part, (run_isAgg_atom (P := Tryd.prog) Tryd.at3 w).1, h]
  have key : ∀ (xs ys : Array Value), (∀ w, (part 68 xs 0).run Tryd.prog w = .ok (.int .u32 (a.1 : Int)) w) → (∀ w, (part 3 xs 1).run Tryd.prog w = .ok (.int .i64 a.2.1) w) → (∀ w, (part 3 xs 2).run Tryd.prog w = .ok (.int .i64 a.2.2) w) →
      (∀ w, (part 68 ys 0).run Tryd.prog w = .ok (.int .u32 (b.1 : Int)) w) → (∀ w, (part 3 ys 1).run Tryd.prog w = .ok (.int .i64 b.2.1) w) → (∀ w, (part 3 ys 2).run Tryd.prog w = .ok (.int .i64 b.2.2) w) →
      (Op.eqFields 9999 xs ys (Tryd.prog.fieldsOf t).toList).run Tryd.prog w = .ok (decide (a = b)) w := by
    intro xs ys a0 a1 a2 b0 b1 b2
    rw [e0]
    rcases ht with rfl | rfl
    · rw [Program.fieldsOf, Tryd.underlying107]
      simp only [Op.eqFields]
      cases h1 : ((a.1 : Int) == (b.1 : Int)) <;> cases h2 : (a.2.1 == b.2.1) <;> cases h3 : (a.2.2 == b.2.2) <;> simp [a0, a1, a2, b0, b1, b2, h32, h64, h1, h2, h3, Result.andThen]
    · rw [Program.fieldsOf, Tryd.underlying113]
      simp only [Op.eqFields]
      cases h1 : ((a.1 : Int) == (b.1 : Int)) <;> cases h2 : (a.2.1 == b.2.1) <;> cases h3 : (a.2.2 == b.2.2) <;> simp [a0, a1, a2, b0, b1, b2, h32, h64, h1, h2, h3, Result.andThen]
  rw [run_equalIn_agg w 9999 t _ _ (by rcases ht with rfl | rfl; (rw [Program.fieldsOf, Tryd.underlying107]); (rw [Program.fieldsOf, Tryd.underlying113])) (by rcases ht with rfl | rfl <;> kernel_rfl)]
  exact key _ _ (fun w => p32 _ 0 _ w rfl) (fun w => p64 _ 1 _ w rfl) (fun w => p64 _ 2 _ w rfl) (fun w => p32 _ 0 _ w rfl) (fun w => p64 _ 1 _ w rfl) (fun w => p64 _ 2 _ w rfl)
theorem guardMv (t : TypeId) (ht : t = 107 ∨ t = 113) : Tryd.prog.eqGuardType Tryd.prog.depth t = false := by
  rcases ht with rfl | rfl <;> kernel_rfl
theorem q_neMv {t yt : TypeId} {x y : Operand} (a b : Mv) (ht : t = 107 ∨ t = 113) (hx : ev ρ x = some (.agg (mvC a).toArray)) (hy : ev ρ y = some (.agg (mvC b).toArray)) : Qv Tryd.prog n ρ Γ ⟨ds, .binOp .neq t x y yt, ty, pos, af, gd⟩ (.bool (!decide (a = b))) :=
  q_binR hx hy (fun w => run_eqGuard_agg w _ t x y _ _ (guardMv t ht)) (fun w => by rw [run_neq_struct, run_eqMv t ht]; rfl)
theorem q_eqMv {t yt : TypeId} {x y : Operand} (a b : Mv) (ht : t = 107 ∨ t = 113) (hx : ev ρ x = some (.agg (mvC a).toArray)) (hy : ev ρ y = some (.agg (mvC b).toArray)) : Qv Tryd.prog n ρ Γ ⟨ds, .binOp .eql t x y yt, ty, pos, af, gd⟩ (.bool (decide (a = b))) :=
  q_binR hx hy (fun w => run_eqGuard_agg w _ t x y _ _ (guardMv t ht)) (fun w => by rw [run_eql_struct, run_eqMv t ht]; rfl)
end
def usedUp (m : Mx) : Nat → Nat
  | 0 => 0
  | r + 1 => if 0 < (rowIds m r).length then usedUp m r + 1 else usedUp m r
theorem usedUp_le (m : Mx) : ∀ r, usedUp m r ≤ r
  | 0 => Nat.le_refl _
  | r + 1 => by have := usedUp_le m r; rw [usedUp]; split <;> omega
theorem Used_S (b : Nat) (m : Mx) {W : World} (hW : TabW W) : Spec Tryd.prog 21 [.pointer (some ⟨b, 0, none⟩)] [MI b m, old W] fun Γ v Θ => v = .int .i64 (usedUp m m.R : Nat) ∧ Θ = MI b m :: old W :: Γ := by
  refine Spec.miOk fun hok => ?_
  refine Spec.of_body Tryd.func21 rfl Tryd.ntmps21 rfl ?_
  intro w0 Γ
  show S _ w0 [(0, .pointer (some ⟨b, 0, none⟩))] (MI b m :: old W :: Γ) _
  have hR8 := hok.R8
  refine S.seq fun K1 hK1 => ?_
  refine S.region rfl ?_
  refine S.op (S.q (q_assign rfl) rfl rfl ?_)
  first | with_reducible refine S.nilK ?_ | refine S.nil ?_
  refine hK1 _ _ ?_
  refine S.seq fun K2 hK2 => ?_
  refine S.region rfl ?_
  refine S.op (S.q (q_assign rfl) rfl rfl ?_)
  first | with_reducible refine S.nilK ?_ | refine S.nil ?_
  refine hK2 _ _ ?_
  refine S.seq fun K3 hK3 => ?_
  refine S.seq fun K4 hK4 => ?_
  refine S.region rfl ?_
  refine S.op (S.q (q_move rfl) rfl rfl ?_)
  refine S.op (S.call Tryd.en48 (vs := [_]) ⟨rfl, trivial⟩ (rowsCount_S b m) rfl ?_)
  rintro v Θ ⟨rfl, rfl⟩
  refine S.op (S.q (q_move rfl) rfl rfl ?_)
  first | with_reducible refine S.nilK ?_ | refine S.nil ?_
  refine hK4 _ _ ?_
  refine S.block ?_
  refine S.loop (fun q ρ' Γ' => ∃ r : Nat, q = m.R - r ∧ r ≤ m.R ∧ ρ' = [(0, .pointer (some ⟨b, 0, none⟩)), (3, .int .i64 (usedUp m r : Nat)), (6, .int .i64 (m.R : Int)), (7, .int .i64 (r : Int))] ∧ Γ' = MI b m :: old W :: Γ) (m := _) (ρ0 := _) (Γ0 := _) (⟨0, rfl, by omega, rfl, rfl⟩) (by repeat (first | exact trivial | refine ⟨rfl, ?_⟩)) Sub.ent ?_
  rintro q ρ' Γ' ⟨r, hq, hr, rfl, rfl⟩
  have hle := usedUp_le m r
  refine S.seq fun K5 hK5 => ?_
  refine S.region rfl ?_
  refine S.op (S.q (q_lt rfl rfl) rfl rfl ?_)
  first | with_reducible refine S.nilK ?_ | refine S.nil ?_
  refine hK5 _ _ ?_
  refine S.seq fun K6 hK6 => ?_
  refine S.condD rfl (fun h1 => ?_) (fun h1 => ?_)
  · refine S.skip ?_
    with_reducible repeat (first | refine S.then_n ?_ | refine S.then_x ?_ | refine S.then_r ?_ | refine S.inBlock_n ?_ | refine S.inBlock_r ?_ | refine S.inBlock_x rfl ?_ | refine S.noGoto_r ?_ | refine S.noGoto_n ?_ | refine S.noGoto_x ?_)
    refine hK6 _ _ ?_
    refine S.seq fun K7 hK7 => ?_
    refine S.block ?_
    refine S.seq fun K8 hK8 => ?_
    refine S.region rfl ?_
    refine S.op (S.q (q_move rfl) rfl rfl ?_)
    refine S.op (S.q (q_assign rfl) rfl rfl ?_)
    first | with_reducible refine S.nilK ?_ | refine S.nil ?_
    refine hK8 _ _ ?_
    refine S.seq fun K9 hK9 => ?_
    refine S.region rfl ?_
    refine S.op (S.q (q_move rfl) rfl rfl ?_)
    refine S.op (S.q (q_move rfl) rfl rfl ?_)
    refine S.op (S.call Tryd.en52 (vs := [_, _]) ⟨rfl, rfl, trivial⟩ (Row_S b m r hW) rfl ?_)
    rintro v Θ ⟨rv, rfl, hrv, rfl⟩
    refine S.op (S.q (q_len Tryd.underlying31 rfl) rfl rfl ?_)
    refine S.op (S.q (q_gt rfl rfl) rfl rfl ?_)
    first | with_reducible refine S.nilK ?_ | refine S.nil ?_
    refine hK9 _ _ ?_
    refine S.condD rfl (fun h2 => ?_) (fun h2 => ?_)
    · have hs : usedUp m (r + 1) = usedUp m r + 1 := by rw [usedUp, if_pos (by omega)]
      refine S.region rfl ?_
      refine S.op (S.q (q_move rfl) rfl rfl ?_)
      refine S.op (S.q (q_add rfl rfl (inI64 (by omega) (by omega))) rfl rfl ?_)
      refine S.op (S.q (q_assign rfl) rfl rfl ?_)
      first | with_reducible refine S.nilK ?_ | refine S.nil ?_
      with_reducible repeat (first | refine S.then_n ?_ | refine S.then_x ?_ | refine S.then_r ?_ | refine S.inBlock_n ?_ | refine S.inBlock_r ?_ | refine S.inBlock_x rfl ?_ | refine S.noGoto_r ?_ | refine S.noGoto_n ?_ | refine S.noGoto_x ?_)
      refine hK7 _ _ ?_
      refine S.region rfl ?_
      refine S.op (S.q (q_add rfl rfl (inI64 (by omega) (by omega))) rfl rfl ?_)
      refine S.op (S.q (q_move rfl) rfl rfl ?_)
      first | with_reducible refine S.nilK ?_ | refine S.nil ?_
      with_reducible repeat (first | refine S.then_n ?_ | refine S.then_x ?_ | refine S.then_r ?_ | refine S.inBlock_n ?_ | refine S.inBlock_r ?_ | refine S.inBlock_x rfl ?_ | refine S.noGoto_r ?_ | refine S.noGoto_n ?_ | refine S.noGoto_x ?_)
      first | exact S.next (q - 1) ⟨r + 1, by omega, by omega, by rw [hs], rfl⟩ (by omega) (by repeat (first | exact trivial | refine ⟨rfl, ?_⟩)) Sub.ent
    · have hs : usedUp m (r + 1) = usedUp m r := by rw [usedUp, if_neg (by omega)]
      refine S.skip ?_
      with_reducible repeat (first | refine S.then_n ?_ | refine S.then_x ?_ | refine S.then_r ?_ | refine S.inBlock_n ?_ | refine S.inBlock_r ?_ | refine S.inBlock_x rfl ?_ | refine S.noGoto_r ?_ | refine S.noGoto_n ?_ | refine S.noGoto_x ?_)
      with_reducible repeat (first | refine S.then_n ?_ | refine S.then_x ?_ | refine S.then_r ?_ | refine S.inBlock_n ?_ | refine S.inBlock_r ?_ | refine S.inBlock_x rfl ?_ | refine S.noGoto_r ?_ | refine S.noGoto_n ?_ | refine S.noGoto_x ?_)
      refine hK7 _ _ ?_
      refine S.region rfl ?_
      refine S.op (S.q (q_add rfl rfl (inI64 (by omega) (by omega))) rfl rfl ?_)
      refine S.op (S.q (q_move rfl) rfl rfl ?_)
      first | with_reducible refine S.nilK ?_ | refine S.nil ?_
      with_reducible repeat (first | refine S.then_n ?_ | refine S.then_x ?_ | refine S.then_r ?_ | refine S.inBlock_n ?_ | refine S.inBlock_r ?_ | refine S.inBlock_x rfl ?_ | refine S.noGoto_r ?_ | refine S.noGoto_n ?_ | refine S.noGoto_x ?_)
      first | exact S.next (q - 1) ⟨r + 1, by omega, by omega, by rw [hs], rfl⟩ (by omega) (by repeat (first | exact trivial | refine ⟨rfl, ?_⟩)) Sub.ent
  · rw [show r = m.R by omega]
    refine S.exit ?_
    with_reducible repeat (first | refine S.then_n ?_ | refine S.then_x ?_ | refine S.then_r ?_ | refine S.inBlock_n ?_ | refine S.inBlock_r ?_ | refine S.inBlock_x rfl ?_ | refine S.noGoto_r ?_ | refine S.noGoto_n ?_ | refine S.noGoto_x ?_)
    with_reducible refine S.inBlock_s ?_
    with_reducible repeat (first | refine S.then_n ?_ | refine S.then_x ?_ | refine S.then_r ?_ | refine S.inBlock_n ?_ | refine S.inBlock_r ?_ | refine S.inBlock_x rfl ?_ | refine S.noGoto_r ?_ | refine S.noGoto_n ?_ | refine S.noGoto_x ?_)
    refine hK3 _ _ ?_
    refine S.seq fun K10 hK10 => ?_
    refine S.region rfl ?_
    refine S.op (S.q (q_move rfl) rfl rfl ?_)
    refine S.op (S.q (q_assign rfl) rfl rfl ?_)
    first | with_reducible refine S.nilK ?_ | refine S.nil ?_
    refine hK10 _ _ ?_
    refine S.ret ?_
    with_reducible repeat (first | refine S.then_n ?_ | refine S.then_x ?_ | refine S.then_r ?_ | refine S.inBlock_n ?_ | refine S.inBlock_r ?_ | refine S.inBlock_x rfl ?_ | refine S.noGoto_r ?_ | refine S.noGoto_n ?_ | refine S.noGoto_x ?_)
    exact S.fin (rs := [_]) (vs := [_]) Tryd.results21 (⟨rfl, trivial⟩)  (⟨rfl, rfl⟩) Sub.ent
abbrev Sd := Int × Bs
abbrev sdC (x : Sd) : List Value := [.int .u8 x.1, bsv x.2]
structure SW (W : World) (s : SV) (l : List Sd) : Prop where
  at_ : SlAt W s.v l.length 2 (l.flatMap sdC)
  len : s.n = l.length
  rng : ∀ x ∈ l, 0 ≤ x.1 ∧ x.1 ≤ 255
theorem rd_sd {W : World} {cs : List Value} (h : Rd W (.cat 1 (.int .u8) (.cat 1 (.int .u16) .nil)) cs) : ∃ x : Sd, cs = sdC x ∧ 0 ≤ x.1 ∧ x.1 ≤ 255 := by
  obtain ⟨_, _, rfl, _, ⟨a, rfl, ha⟩, _, _, rfl, _, ⟨b, rfl, hb⟩, rfl⟩ := h
  have h1 := u8_rng ha
  have h2 := u16_rng hb
  refine ⟨(a, BitVec.ofNat 16 b.toNat), ?_, h1⟩
  have e : ((BitVec.ofNat 16 b.toNat).toNat : Int) = b := by
    rw [BitVec.toNat_ofNat, Nat.mod_eq_of_lt (by omega)]
    omega
  show [Value.int .u8 a] ++ ([Value.int .u16 b] ++ []) = _
  simp only [sdC, bsv, e]
  rfl
theorem rd_sds {W : World} {cs : List Value} (h : Rd W (.slice 2 (.cat 1 (.int .u8) (.cat 1 (.int .u16) .nil))) cs) : ∃ (s : SV) (l : List Sd), cs = [s.v] ∧ SW W s l := by
  obtain ⟨s, l, h1, h2, h3, h4, _⟩ := rd_slice (α := Sd) (encA := sdC) (p := fun x => 0 ≤ x.1 ∧ x.1 ≤ 255) (fun cs hr _ => by
    obtain ⟨x, rfl, hx⟩ := rd_sd hr
    exact ⟨x, rfl, hx⟩) h (by omega)
  exact ⟨s, l, h1, h3, h2, h4⟩
def stUp (m : Mx) (l : List Sd) : Nat → Mx
  | 0 => m
  | i + 1 => (putR (stUp m l i) (i + 1) ((l.getD i (0, 0#16)).1 % (m.R : Int)) (casts (bitU (l.getD i (0, 0#16)).2 m.N))).2
def dnUp (m : Mx) (d : Bs) : Nat → Mx
  | 0 => m
  | k + 1 => if d.getLsbD k then (upR (dnUp m d k) k false).2 else dnUp m d k
def stR (r n : Int) (l : List Sd) : Mx := stUp (mx0 (1 + r % 8).toNat (1 + n % 16).toNat) l (min l.length 40)
def bldR (r n : Int) (l : List Sd) (d : Bs) : Mx := dnUp (stR r n l) d (1 + n % 16).toNat
theorem build_S (r n : Int) (l : List Sd) (d : Bs) (s : SV) (hr : 0 ≤ r ∧ r ≤ 255) (hn : 0 ≤ n ∧ n ≤ 255) {W : World} (hs : SW W s l) : Spec Tryd.prog 14 [.int .u8 r, .int .u8 n, s.v, bsv d] [old W] fun Γ v Θ => ∃ b c, v = .tuple #[.pointer (some ⟨b, 0, none⟩), .pointer (some ⟨c, 0, none⟩)] ∧ Θ = MI b (bldR r n l d) :: RI c (bldR r n l d) :: old W :: Γ := by
  refine Spec.of_body Tryd.func14 rfl Tryd.ntmps14 rfl ?_
  intro w0 Γ
  show S _ w0 [(0, .int .u8 r), (1, .int .u8 n), (2, s.v), (3, bsv d)] (old W :: Γ) _
  have hsl := hs.len
  have hRs : RdS (old W) s s.n 2 (l.flatMap sdC) := by rw [hsl]; exact RdS.old hs.at_
  refine S.rCap hRs fun _ hc1 hc2 => ?_
  obtain ⟨R, hR⟩ : ∃ R : Nat, (R : Int) = 1 + r % 8 := ⟨(1 + r % 8).toNat, by omega⟩
  obtain ⟨N, hN⟩ : ∃ N : Nat, (N : Int) = 1 + n % 16 := ⟨(1 + n % 16).toNat, by omega⟩
  have hsR : stR r n l = stUp (mx0 R N) l (min l.length 40) := by rw [stR, ← hR, ← hN, Int.toNat_natCast, Int.toNat_natCast]
  have hbR : bldR r n l d = dnUp (stUp (mx0 R N) l (min l.length 40)) d N := by rw [bldR, hsR, ← hN, Int.toNat_natCast]
  refine S.seq fun K1 hK1 => ?_
  refine S.region rfl ?_
  refine S.op (S.q (q_assign rfl) rfl rfl ?_)
  refine S.op (S.q (q_assign rfl) rfl rfl ?_)
  first | with_reducible refine S.nilK ?_ | refine S.nil ?_
  refine hK1 _ _ ?_
  refine S.seq fun K2 hK2 => ?_
  refine S.region rfl ?_
  refine S.op (S.q (q_move rfl) rfl rfl ?_)
  refine S.op (S.q (q_rem rfl rfl (⟨by omega, by omega⟩)) rfl rfl ?_)
  refine S.op (S.q (q_conv Tryd.it3 (by rw [Tryd.underlying5]; rfl) rfl (inI64 (by omega) (by omega))) rfl rfl ?_)
  refine S.op (S.q (q_add rfl rfl (inI64 (by omega) (by omega))) rfl rfl ?_)
  refine S.op (S.q (q_move rfl) rfl rfl ?_)
  refine S.op (S.q (q_rem rfl rfl (⟨by omega, by omega⟩)) rfl rfl ?_)
  refine S.op (S.q (q_conv Tryd.it3 (by rw [Tryd.underlying5]; rfl) rfl (inI64 (by omega) (by omega))) rfl rfl ?_)
  refine S.op (S.q (q_add rfl rfl (inI64 (by omega) (by omega))) rfl rfl ?_)
  refine S.op (S.q (q_assign rfl) rfl rfl ?_)
  refine S.op (S.q (q_assign rfl) rfl rfl ?_)
  first | with_reducible refine S.nilK ?_ | refine S.nil ?_
  refine hK2 _ _ ?_
  refine S.seq fun K3 hK3 => ?_
  refine S.region rfl ?_
  rw [← hR, ← hN]
  refine S.op (S.q (q_move rfl) rfl rfl ?_)
  refine S.op (S.q (q_move rfl) rfl rfl ?_)
  refine S.op (S.call Tryd.en23 (vs := [_, _]) ⟨rfl, rfl, trivial⟩ (New_S R N (by omega) (by omega) (by omega) (by omega)) rfl ?_)
  rintro v Θ ⟨b, rfl, rfl⟩
  refine S.op (S.q (q_move rfl) rfl rfl ?_)
  refine S.op (S.q (q_extract rfl rfl) rfl rfl ?_)
  refine S.op (S.q (q_extract rfl rfl) rfl rfl ?_)
  refine S.op (S.q (q_assign rfl) rfl rfl ?_)
  refine S.op (S.q (q_assign rfl) rfl rfl ?_)
  first | with_reducible refine S.nilK ?_ | refine S.nil ?_
  refine hK3 _ _ ?_
  refine S.seq fun K4 hK4 => ?_
  refine S.region rfl ?_
  refine S.op (S.q (q_move rfl) rfl rfl ?_)
  refine S.op (S.q (q_move rfl) rfl rfl ?_)
  refine S.op (S.call Tryd.en24 (vs := [_, _]) ⟨rfl, rfl, trivial⟩ (rNew_S R N (by omega) (by omega) (by omega) (by omega)) rfl ?_)
  rintro v Θ ⟨c, rfl, rfl⟩
  refine S.op (S.q (q_move rfl) rfl rfl ?_)
  refine S.op (S.q (q_extract rfl rfl) rfl rfl ?_)
  refine S.op (S.q (q_extract rfl rfl) rfl rfl ?_)
  refine S.op (S.q (q_assign rfl) rfl rfl ?_)
  refine S.op (S.q (q_assign rfl) rfl rfl ?_)
  first | with_reducible refine S.nilK ?_ | refine S.nil ?_
  refine hK4 _ _ ?_
  refine S.seq fun K5 hK5 => ?_
  refine S.seq fun K6 hK6 => ?_
  refine S.region rfl ?_
  refine S.op (S.q (q_move rfl) rfl rfl ?_)
  refine S.op (S.q (q_len Tryd.underlying43 rfl) rfl rfl ?_)
  refine S.op (S.q (q_move rfl) rfl rfl ?_)
  first | with_reducible refine S.nilK ?_ | refine S.nil ?_
  refine hK6 _ _ ?_
  refine S.cut (fun ρ' Γ' => ∃ mm : Mx, mm = stUp (mx0 R N) l (min l.length 40) ∧ mm.R = R ∧ mm.N = N ∧ ρ' = [(3, bsv d), (11, .int .i64 (N : Int)), (12, .pointer (some ⟨b, 0, none⟩)), (14, .pointer (some ⟨c, 0, none⟩))] ∧ Γ' = MI b mm :: RI c mm :: old W :: Γ) ?_ ?_
  · refine S.block ?_
    refine S.loop (fun q ρ' Γ' => ∃ (i : Nat) (mm : Mx), q = l.length - i ∧ i ≤ l.length ∧ i ≤ 40 ∧ mm = stUp (mx0 R N) l i ∧ mm.R = R ∧ mm.N = N ∧ ρ' = [(3, bsv d), (10, .int .i64 (R : Int)), (11, .int .i64 (N : Int)), (12, .pointer (some ⟨b, 0, none⟩)), (14, .pointer (some ⟨c, 0, none⟩)), (41, s.v), (42, .int .i64 s.n), (43, .int .i64 (i : Int))] ∧ Γ' = MI b mm :: RI c mm :: old W :: Γ) (m := _) (ρ0 := _) (Γ0 := _) (⟨0, mx0 R N, rfl, by omega, by omega, rfl, rfl, rfl, rfl, rfl⟩) (by repeat (first | exact trivial | refine ⟨rfl, ?_⟩)) Sub.ent ?_
    rintro q ρ' Γ' ⟨i, mm, hq, hi, hi40, hmm, hmR, hmN, rfl, rfl⟩
    refine S.seq fun K7 hK7 => ?_
    refine S.region rfl ?_
    refine S.op (S.q (q_lt rfl rfl) rfl rfl ?_)
    first | with_reducible refine S.nilK ?_ | refine S.nil ?_
    refine hK7 _ _ ?_
    refine S.seq fun K8 hK8 => ?_
    refine S.condD rfl (fun h1 => ?_) (fun h1 => ?_)
    · refine S.miOk b mm fun hok => ?_
      obtain ⟨x, hx⟩ := getE (show i < l.length by omega)
      have hxr := hs.rng x (List.mem_of_getElem? hx)
      have hxd : l.getD i (0, 0#16) = x := by simp [List.getD, hx]
      obtain ⟨sb, so, hsa, hcell⟩ := slAt_some hs.at_ (by omega)
      have hN16 := hok.N16
      refine S.skip ?_
      with_reducible repeat (first | refine S.then_n ?_ | refine S.then_x ?_ | refine S.then_r ?_ | refine S.inBlock_n ?_ | refine S.inBlock_r ?_ | refine S.inBlock_x rfl ?_ | refine S.noGoto_r ?_ | refine S.noGoto_n ?_ | refine S.noGoto_x ?_)
      refine hK8 _ _ ?_
      refine S.seq fun K9 hK9 => ?_
      refine S.block ?_
      refine S.seq fun K10 hK10 => ?_
      refine S.region rfl ?_
      refine S.op (S.q (q_move rfl) rfl rfl ?_)
      refine S.op (S.q (q_indexO (i) Tryd.el43 rfl hsa rfl rfl (by omega)) rfl rfl ?_)
      refine S.op (S.q (q_loadWS (sdC x) Tryd.ag110 rfl rfl (fun i u hu => by rw [Nat.add_assoc]; exact hcell _ _ (flat_seg (enc := sdC) (sz := 2) (fun _ => rfl) hx i u hu))) rfl rfl ?_)
      refine S.op (S.alloc Tryd.z110 rfl ?_)
      intro b17
      refine S.op (S.q (q_assign rfl) rfl rfl ?_)
      refine S.op (S.storeS (cs' := [_, _]) Tryd.ag110 rfl rfl rfl rfl rfl rfl ?_)
      first | with_reducible refine S.nilK ?_ | refine S.nil ?_
      refine hK10 _ _ ?_
      refine S.seq fun K11 hK11 => ?_
      refine S.seq fun K12 hK12 => ?_
      refine S.region rfl ?_
      refine S.op (S.q (q_move rfl) rfl rfl ?_)
      refine S.op (S.q (q_ge rfl rfl) rfl rfl ?_)
      first | with_reducible refine S.nilK ?_ | refine S.nil ?_
      refine hK12 _ _ ?_
      refine S.condD rfl (fun h2 => ?_) (fun h2 => ?_)
      · have hmin : min l.length 40 = i := by omega
        refine S.exit ?_
        with_reducible repeat (first | refine S.then_n ?_ | refine S.then_x ?_ | refine S.then_r ?_ | refine S.inBlock_n ?_ | refine S.inBlock_r ?_ | refine S.inBlock_x rfl ?_ | refine S.noGoto_r ?_ | refine S.noGoto_n ?_ | refine S.noGoto_x ?_)
        with_reducible refine S.inBlock_s ?_
        with_reducible repeat (first | refine S.then_n ?_ | refine S.then_x ?_ | refine S.then_r ?_ | refine S.inBlock_n ?_ | refine S.inBlock_r ?_ | refine S.inBlock_x rfl ?_ | refine S.noGoto_r ?_ | refine S.noGoto_n ?_ | refine S.noGoto_x ?_)
        with_reducible repeat (first | refine S.then_n ?_ | refine S.then_x ?_ | refine S.then_r ?_ | refine S.inBlock_n ?_ | refine S.inBlock_r ?_ | refine S.inBlock_x rfl ?_ | refine S.noGoto_r ?_ | refine S.noGoto_n ?_ | refine S.noGoto_x ?_)
        exact S.meet ⟨mm, by rw [hmin]; exact hmm, hmR, hmN, rfl, rfl⟩ ⟨rfl, rfl, rfl, rfl, trivial⟩ Sub.ent
      · refine S.skip ?_
        with_reducible repeat (first | refine S.then_n ?_ | refine S.then_x ?_ | refine S.then_r ?_ | refine S.inBlock_n ?_ | refine S.inBlock_r ?_ | refine S.inBlock_x rfl ?_ | refine S.noGoto_r ?_ | refine S.noGoto_n ?_ | refine S.noGoto_x ?_)
        refine hK11 _ _ ?_
        refine S.seq fun K13 hK13 => ?_
        refine S.region rfl ?_
        refine S.op (S.q (q_assign rfl) rfl rfl ?_)
        first | with_reducible refine S.nilK ?_ | refine S.nil ?_
        refine hK13 _ _ ?_
        refine S.seq fun K14 hK14 => ?_
        refine S.seq fun K15 hK15 => ?_
        refine S.region rfl ?_
        refine S.ent (Ent.ownNil 3 1) ?_
        show S _ w0 _ (own SV.nil 3 1 (nds (bitU x.2 0)) :: _) _
        refine S.op (S.q (q_move rfl) rfl rfl ?_)
        refine S.op (S.q (q_move rfl) rfl rfl ?_)
        first | with_reducible refine S.nilK ?_ | refine S.nil ?_
        refine hK15 _ _ ?_
        refine S.block ?_
        refine S.loop (fun q2 ρ' Γ' => ∃ (k : Nat) (sv : SV) (nl : List Nat), q2 = N - k ∧ k ≤ N ∧ nl = bitU x.2 k ∧ sv.n = nl.length ∧ ρ' = [(3, bsv d), (10, .int .i64 (R : Int)), (11, .int .i64 (N : Int)), (12, .pointer (some ⟨b, 0, none⟩)), (14, .pointer (some ⟨c, 0, none⟩)), (16, .int .i64 (i : Int)), (17, .pointer (some ⟨b17, 0, none⟩)), (18, sv.v), (41, s.v), (42, .int .i64 s.n), (43, .int .i64 (i : Int)), (50, .int .i64 (N : Int)), (51, .int .i64 (k : Int))] ∧   Γ' = own sv 3 1 (nds nl) :: blk b17 110 #[.int .u8 x.1, bsv x.2] :: MI b mm :: RI c mm :: old W :: Γ) (m := _) (ρ0 := _) (Γ0 := _) (⟨0, SV.nil, bitU x.2 0, rfl, by omega, rfl, rfl, rfl, rfl⟩) (by repeat (first | exact trivial | refine ⟨rfl, ?_⟩)) Sub.ent ?_
        rintro q2 ρ' Γ' ⟨k, sv, nl, hq2, hk, hnl, hsv, rfl, rfl⟩
        have hnlen := bitU_len x.2 k
        rw [← hnl] at hnlen
        refine S.seq fun K16 hK16 => ?_
        refine S.region rfl ?_
        refine S.op (S.q (q_lt rfl rfl) rfl rfl ?_)
        first | with_reducible refine S.nilK ?_ | refine S.nil ?_
        refine hK16 _ _ ?_
        refine S.seq fun K17 hK17 => ?_
        refine S.condD rfl (fun h3 => ?_) (fun h3 => ?_)
        · refine S.skip ?_
          with_reducible repeat (first | refine S.then_n ?_ | refine S.then_x ?_ | refine S.then_r ?_ | refine S.inBlock_n ?_ | refine S.inBlock_r ?_ | refine S.inBlock_x rfl ?_ | refine S.noGoto_r ?_ | refine S.noGoto_n ?_ | refine S.noGoto_x ?_)
          refine hK17 _ _ ?_
          refine S.seq fun K18 hK18 => ?_
          refine S.block ?_
          refine S.seq fun K19 hK19 => ?_
          refine S.region rfl ?_
          refine S.op (S.q (q_move rfl) rfl rfl ?_)
          refine S.op (S.q (q_assign rfl) rfl rfl ?_)
          first | with_reducible refine S.nilK ?_ | refine S.nil ?_
          refine hK19 _ _ ?_
          refine S.seq fun K20 hK20 => ?_
          refine S.region rfl ?_
          refine S.op (S.q (q_field Tryd.fo110_1 rfl) rfl rfl ?_)
          refine S.op (S.q (q_load Tryd.at23 rfl rfl) rfl rfl ?_)
          refine S.op (S.q (q_move rfl) rfl rfl ?_)
          refine S.op (S.q (q_shrB (x.2) (k) rfl rfl rfl (rfl) (by omega)) rfl rfl ?_)
          refine S.op (S.q (q_andB (x.2 >>> k) (1#16) rfl rfl (rfl) (rfl)) rfl rfl ?_)
          refine S.op (S.q (q_eq rfl rfl) rfl rfl ?_)
          first | with_reducible refine S.nilK ?_ | refine S.nil ?_
          refine hK20 _ _ ?_
          refine S.condD rfl (fun h4 => ?_) (fun h4 => ?_)
          · have hb4 : x.2.getLsbD k = true := by rw [← has_bit]; exact decide_eq_true h4
            have hnl2 : nl ++ [k] = bitU x.2 (k + 1) := by rw [bitU, if_pos hb4, hnl]
            have hd4 : nds nl ++ [.int .i64 (k : Int)] = nds (nl ++ [k]) := by simp
            refine S.region rfl ?_
            refine S.op (S.q (q_move rfl) rfl rfl ?_)
            refine S.op (S.q (q_move rfl) rfl rfl ?_)
            refine S.op (S.buildSlice (pvs := [(_, _)]) [_] Tryd.underlying69 Tryd.inf3 rfl rfl ⟨⟨rfl, rfl⟩, trivial⟩ rfl rfl ?_)
            intro b62
            refine S.op (S.appendOw (s := sv) (1) ([.int .i64 (k : Int)]) Tryd.underlying69 Tryd.inf3 rfl rfl rfl (blk_slAt (b := b62) rfl (by unfold maxLen; omega)) (by first | rfl | exact allOne_bcells _) (⟨by omega, by omega⟩) rfl ?_)
            intro sv2 hsv2
            refine S.op (S.q (q_assign rfl) rfl rfl ?_)
            first | with_reducible refine S.nilK ?_ | refine S.nil ?_
            with_reducible repeat (first | refine S.then_n ?_ | refine S.then_x ?_ | refine S.then_r ?_ | refine S.inBlock_n ?_ | refine S.inBlock_r ?_ | refine S.inBlock_x rfl ?_ | refine S.noGoto_r ?_ | refine S.noGoto_n ?_ | refine S.noGoto_x ?_)
            refine hK18 _ _ ?_
            refine S.region rfl ?_
            refine S.op (S.q (q_add rfl rfl (inI64 (by omega) (by omega))) rfl rfl ?_)
            refine S.op (S.q (q_move rfl) rfl rfl ?_)
            first | with_reducible refine S.nilK ?_ | refine S.nil ?_
            with_reducible repeat (first | refine S.then_n ?_ | refine S.then_x ?_ | refine S.then_r ?_ | refine S.inBlock_n ?_ | refine S.inBlock_r ?_ | refine S.inBlock_x rfl ?_ | refine S.noGoto_r ?_ | refine S.noGoto_n ?_ | refine S.noGoto_x ?_)
            first | (rw [hd4]; exact S.next (q2 - 1) ⟨k + 1, sv2, nl ++ [k], by omega, by omega, hnl2, by rw [List.length_append, List.length_singleton]; omega, rfl, rfl⟩ (by omega) (by repeat (first | exact trivial | refine ⟨rfl, ?_⟩)) Sub.ent) | exact S.next (q2 - 1) ⟨k + 1, sv, nl, by omega, by omega, hnl2, hsv, rfl, rfl⟩ (by omega) (by repeat (first | exact trivial | refine ⟨rfl, ?_⟩)) Sub.ent
          · have hb4 : x.2.getLsbD k = false := by rw [← has_bit]; exact decide_eq_false h4
            have hnl2 : nl = bitU x.2 (k + 1) := by rw [bitU, if_neg (by rw [hb4]; simp), hnl]
            refine S.skip ?_
            with_reducible repeat (first | refine S.then_n ?_ | refine S.then_x ?_ | refine S.then_r ?_ | refine S.inBlock_n ?_ | refine S.inBlock_r ?_ | refine S.inBlock_x rfl ?_ | refine S.noGoto_r ?_ | refine S.noGoto_n ?_ | refine S.noGoto_x ?_)
            with_reducible repeat (first | refine S.then_n ?_ | refine S.then_x ?_ | refine S.then_r ?_ | refine S.inBlock_n ?_ | refine S.inBlock_r ?_ | refine S.inBlock_x rfl ?_ | refine S.noGoto_r ?_ | refine S.noGoto_n ?_ | refine S.noGoto_x ?_)
            refine hK18 _ _ ?_
            refine S.region rfl ?_
            refine S.op (S.q (q_add rfl rfl (inI64 (by omega) (by omega))) rfl rfl ?_)
            refine S.op (S.q (q_move rfl) rfl rfl ?_)
            first | with_reducible refine S.nilK ?_ | refine S.nil ?_
            with_reducible repeat (first | refine S.then_n ?_ | refine S.then_x ?_ | refine S.then_r ?_ | refine S.inBlock_n ?_ | refine S.inBlock_r ?_ | refine S.inBlock_x rfl ?_ | refine S.noGoto_r ?_ | refine S.noGoto_n ?_ | refine S.noGoto_x ?_)
            first | (rw [hd4]; exact S.next (q2 - 1) ⟨k + 1, sv2, nl ++ [k], by omega, by omega, hnl2, by rw [List.length_append, List.length_singleton]; omega, rfl, rfl⟩ (by omega) (by repeat (first | exact trivial | refine ⟨rfl, ?_⟩)) Sub.ent) | exact S.next (q2 - 1) ⟨k + 1, sv, nl, by omega, by omega, hnl2, hsv, rfl, rfl⟩ (by omega) (by repeat (first | exact trivial | refine ⟨rfl, ?_⟩)) Sub.ent
        · have hkN : k = N := by omega
          obtain ⟨t, ht⟩ : ∃ t : Nat, (t : Int) = x.1 % (R : Int) := ⟨(x.1 % (R : Int)).toNat, Int.toNat_of_nonneg (Int.emod_nonneg _ (by omega))⟩
          have htR : t < R := by have := Int.emod_lt_of_pos x.1 (show (0 : Int) < R by omega); omega
          have hup := bitU_ok hok x.2
          rw [hmN, ← hkN, ← hnl] at hup
          have hst : stUp (mx0 R N) l (i + 1) = (putR mm (i + 1) (x.1 % (R : Int)) (casts nl)).2 := by
            rw [stUp, hxd, ← hmm, hnl, hkN]
            rfl
          obtain ⟨n1, _, n3⟩ := putR_N mm (i + 1) (x.1 % (R : Int)) (casts nl)
          refine S.exit ?_
          with_reducible repeat (first | refine S.then_n ?_ | refine S.then_x ?_ | refine S.then_r ?_ | refine S.inBlock_n ?_ | refine S.inBlock_r ?_ | refine S.inBlock_x rfl ?_ | refine S.noGoto_r ?_ | refine S.noGoto_n ?_ | refine S.noGoto_x ?_)
          with_reducible refine S.inBlock_s ?_
          with_reducible repeat (first | refine S.then_n ?_ | refine S.then_x ?_ | refine S.then_r ?_ | refine S.inBlock_n ?_ | refine S.inBlock_r ?_ | refine S.inBlock_x rfl ?_ | refine S.noGoto_r ?_ | refine S.noGoto_n ?_ | refine S.noGoto_x ?_)
          refine hK14 _ _ ?_
          refine S.seq fun K21 hK21 => ?_
          refine S.region rfl ?_
          refine S.op (S.q (q_move rfl) rfl rfl ?_)
          refine S.op (S.q (q_move rfl) rfl rfl ?_)
          refine S.op (S.q (q_add rfl rfl (inI64 (by omega) (by omega))) rfl rfl ?_)
          refine S.op (S.q (q_conv Tryd.it68 (by rw [Tryd.underlying3]; rfl) rfl (inU32 (by omega) (by omega))) rfl rfl ?_)
          refine S.op (S.q (q_field Tryd.fo110_0 rfl) rfl rfl ?_)
          refine S.op (S.q (q_load Tryd.at5 rfl rfl) rfl rfl ?_)
          refine S.op (S.q (q_conv Tryd.it3 (by rw [Tryd.underlying5]; rfl) rfl (inI64 (by omega) (by omega))) rfl rfl ?_)
          refine S.op (S.q (q_move rfl) rfl rfl ?_)
          refine S.op (S.q (q_rem rfl rfl (⟨by omega, by omega⟩)) rfl rfl ?_)
          refine S.op (S.q (q_move rfl) rfl rfl ?_)
          refine S.op (S.call Tryd.en30 (vs := [_, _, _, _]) ⟨rfl, rfl, rfl, rfl, trivial⟩ (Put_S b mm (i + 1) (x.1 % (R : Int)) (own sv 3 1 (nds nl)) sv (casts nl) (by rw [hsv, List.length_map]) (rdNds sv 3 nl) (by omega)) rfl ?_)
          rintro v Θ ⟨rfl, rfl⟩
          first | with_reducible refine S.nilK ?_ | refine S.nil ?_
          refine hK21 _ _ ?_
          refine S.region rfl ?_
          refine S.op (S.q (q_move rfl) rfl rfl ?_)
          refine S.op (S.q (q_move rfl) rfl rfl ?_)
          refine S.op (S.q (q_add rfl rfl (inI64 (by omega) (by omega))) rfl rfl ?_)
          refine S.op (S.q (q_conv Tryd.it68 (by rw [Tryd.underlying3]; rfl) rfl (inU32 (by omega) (by omega))) rfl rfl ?_)
          refine S.op (S.q (q_field Tryd.fo110_0 rfl) rfl rfl ?_)
          refine S.op (S.q (q_load Tryd.at5 rfl rfl) rfl rfl ?_)
          refine S.op (S.q (q_conv Tryd.it3 (by rw [Tryd.underlying5]; rfl) rfl (inI64 (by omega) (by omega))) rfl rfl ?_)
          refine S.op (S.q (q_move rfl) rfl rfl ?_)
          refine S.op (S.q (q_rem rfl rfl (⟨by omega, by omega⟩)) rfl rfl ?_)
          refine S.op (S.q (q_move rfl) rfl rfl ?_)
          refine S.op (S.call Tryd.en31 (vs := [_, _, _, _]) ⟨rfl, rfl, rfl, rfl, trivial⟩ ((by rw [← ht]; exact rPut_S c mm (i + 1) t (own sv 3 1 (nds nl)) sv (casts nl) (by rw [hsv, List.length_map]) (rdNds sv 3 nl) (by omega) (by omega) (by omega) hup)) rfl ?_)
          rintro v Θ ⟨rfl, rfl⟩
          rw [ht]
          first | with_reducible refine S.nilK ?_ | refine S.nil ?_
          with_reducible repeat (first | refine S.then_n ?_ | refine S.then_x ?_ | refine S.then_r ?_ | refine S.inBlock_n ?_ | refine S.inBlock_r ?_ | refine S.inBlock_x rfl ?_ | refine S.noGoto_r ?_ | refine S.noGoto_n ?_ | refine S.noGoto_x ?_)
          refine hK9 _ _ ?_
          refine S.region rfl ?_
          refine S.op (S.q (q_add rfl rfl (inI64 (by omega) (by omega))) rfl rfl ?_)
          refine S.op (S.q (q_move rfl) rfl rfl ?_)
          first | with_reducible refine S.nilK ?_ | refine S.nil ?_
          with_reducible repeat (first | refine S.then_n ?_ | refine S.then_x ?_ | refine S.then_r ?_ | refine S.inBlock_n ?_ | refine S.inBlock_r ?_ | refine S.inBlock_x rfl ?_ | refine S.noGoto_r ?_ | refine S.noGoto_n ?_ | refine S.noGoto_x ?_)
          exact S.next (q - 1) (⟨i + 1, (putR mm (i + 1) (x.1 % (R : Int)) (casts nl)).2, by omega, by omega, by omega, hst.symm, by omega, by omega, rfl, rfl⟩) (by omega) (by repeat (first | exact trivial | refine ⟨rfl, ?_⟩)) Sub.ent
    · have hmin : min l.length 40 = i := by omega
      refine S.exit ?_
      with_reducible repeat (first | refine S.then_n ?_ | refine S.then_x ?_ | refine S.then_r ?_ | refine S.inBlock_n ?_ | refine S.inBlock_r ?_ | refine S.inBlock_x rfl ?_ | refine S.noGoto_r ?_ | refine S.noGoto_n ?_ | refine S.noGoto_x ?_)
      with_reducible refine S.inBlock_s ?_
      with_reducible repeat (first | refine S.then_n ?_ | refine S.then_x ?_ | refine S.then_r ?_ | refine S.inBlock_n ?_ | refine S.inBlock_r ?_ | refine S.inBlock_x rfl ?_ | refine S.noGoto_r ?_ | refine S.noGoto_n ?_ | refine S.noGoto_x ?_)
      with_reducible repeat (first | refine S.then_n ?_ | refine S.then_x ?_ | refine S.then_r ?_ | refine S.inBlock_n ?_ | refine S.inBlock_r ?_ | refine S.inBlock_x rfl ?_ | refine S.noGoto_r ?_ | refine S.noGoto_n ?_ | refine S.noGoto_x ?_)
      exact S.meet ⟨mm, by rw [hmin]; exact hmm, hmR, hmN, rfl, rfl⟩ ⟨rfl, rfl, rfl, rfl, trivial⟩ Sub.ent
  · rintro ρ' Γ' ⟨mm, hmm, hmR, hmN, rfl, rfl⟩
    refine hK5 _ _ ?_
    refine S.seq fun K22 hK22 => ?_
    refine S.seq fun K23 hK23 => ?_
    refine S.region rfl ?_
    refine S.op (S.q (q_move rfl) rfl rfl ?_)
    refine S.op (S.q (q_move rfl) rfl rfl ?_)
    first | with_reducible refine S.nilK ?_ | refine S.nil ?_
    refine hK23 _ _ ?_
    refine S.block ?_
    refine S.loop (fun q ρ' Γ' => ∃ (k : Nat) (m2 : Mx), q = N - k ∧ k ≤ N ∧ m2 = dnUp mm d k ∧ m2.N = N ∧ ρ' = [(3, bsv d), (12, .pointer (some ⟨b, 0, none⟩)), (14, .pointer (some ⟨c, 0, none⟩)), (88, .int .i64 (N : Int)), (89, .int .i64 (k : Int))] ∧ Γ' = MI b m2 :: RI c m2 :: old W :: Γ) (m := _) (ρ0 := _) (Γ0 := _) (⟨0, mm, rfl, by omega, rfl, hmN, rfl, rfl⟩) (by repeat (first | exact trivial | refine ⟨rfl, ?_⟩)) Sub.ent ?_
    rintro q ρ' Γ' ⟨k, m2, hq, hk, hm2, hm2N, rfl, rfl⟩
    refine S.miOk b m2 fun hok => ?_
    have hN16 := hok.N16
    refine S.seq fun K24 hK24 => ?_
    refine S.region rfl ?_
    refine S.op (S.q (q_lt rfl rfl) rfl rfl ?_)
    first | with_reducible refine S.nilK ?_ | refine S.nil ?_
    refine hK24 _ _ ?_
    refine S.seq fun K25 hK25 => ?_
    refine S.condD rfl (fun h5 => ?_) (fun h5 => ?_)
    · refine S.skip ?_
      with_reducible repeat (first | refine S.then_n ?_ | refine S.then_x ?_ | refine S.then_r ?_ | refine S.inBlock_n ?_ | refine S.inBlock_r ?_ | refine S.inBlock_x rfl ?_ | refine S.noGoto_r ?_ | refine S.noGoto_n ?_ | refine S.noGoto_x ?_)
      refine hK25 _ _ ?_
      refine S.seq fun K26 hK26 => ?_
      refine S.block ?_
      refine S.seq fun K27 hK27 => ?_
      refine S.region rfl ?_
      refine S.op (S.q (q_move rfl) rfl rfl ?_)
      refine S.op (S.q (q_assign rfl) rfl rfl ?_)
      first | with_reducible refine S.nilK ?_ | refine S.nil ?_
      refine hK27 _ _ ?_
      refine S.seq fun K28 hK28 => ?_
      refine S.region rfl ?_
      refine S.op (S.q (q_move rfl) rfl rfl ?_)
      refine S.op (S.q (q_move rfl) rfl rfl ?_)
      refine S.op (S.q (q_shrB (d) (k) rfl rfl rfl (rfl) (by omega)) rfl rfl ?_)
      refine S.op (S.q (q_andB (d >>> k) (1#16) rfl rfl (rfl) (rfl)) rfl rfl ?_)
      refine S.op (S.q (q_eq rfl rfl) rfl rfl ?_)
      first | with_reducible refine S.nilK ?_ | refine S.nil ?_
      refine hK28 _ _ ?_
      refine S.condD rfl (fun h6 => ?_) (fun h6 => ?_)
      · have hb6 : d.getLsbD k = true := by rw [← has_bit]; exact decide_eq_true h6
        have hur : upR m2 k false = (0, m2.setUp k false) := by rw [upR, if_pos (nodeB_iff.2 ⟨by omega, by omega⟩), Int.toNat_natCast]
        have hdn : m2.setUp k false = dnUp mm d (k + 1) := by rw [dnUp, if_pos hb6, ← hm2, hur]
        refine S.seq fun K29 hK29 => ?_
        refine S.region rfl ?_
        refine S.op (S.q (q_move rfl) rfl rfl ?_)
        refine S.op (S.q (q_move rfl) rfl rfl ?_)
        refine S.op (S.call Tryd.en34 (vs := [_, _, _]) ⟨rfl, rfl, rfl, trivial⟩ (Up_S b m2 k false) rfl ?_)
        rintro v Θ ⟨rfl, rfl⟩
        rw [hur]
        refine S.riOpen c m2 fun cs us rs hri => ?_
        have hun := hri.un
        refine S.ownSome us (by omega) fun ub uo hua _ _ _ => ?_
        first | with_reducible refine S.nilK ?_ | refine S.nil ?_
        refine hK29 _ _ ?_
        refine S.region rfl ?_
        refine S.op (S.q (q_move rfl) rfl rfl ?_)
        refine S.op (S.q (q_nilCheck rfl) rfl rfl ?_)
        refine S.op (S.q (q_field Tryd.fo55_1 rfl) rfl rfl ?_)
        refine S.op (S.q (q_load Tryd.at53 rfl rfl) rfl rfl ?_)
        refine S.op (S.q (q_move rfl) rfl rfl ?_)
        refine S.op (S.q (q_indexO (k) Tryd.el53 rfl hua rfl rfl (by omega)) rfl rfl ?_)
        refine S.op (S.storeOw (us) (k) Tryd.at4 rfl rfl rfl hua (by first | rfl | exact Nat.add_assoc _ _ _ | omega) (by simp; omega) (upC_set hN16 (by omega)) ?_)
        first | with_reducible refine S.nilK ?_ | refine S.nil ?_
        with_reducible repeat (first | refine S.then_n ?_ | refine S.then_x ?_ | refine S.then_r ?_ | refine S.inBlock_n ?_ | refine S.inBlock_r ?_ | refine S.inBlock_x rfl ?_ | refine S.noGoto_r ?_ | refine S.noGoto_n ?_ | refine S.noGoto_x ?_)
        refine hK26 _ _ ?_
        refine S.region rfl ?_
        skip
        refine S.op (S.q (q_add rfl rfl (inI64 (by omega) (by omega))) rfl rfl ?_)
        refine S.op (S.q (q_move rfl) rfl rfl ?_)
        first | with_reducible refine S.nilK ?_ | refine S.nil ?_
        with_reducible repeat (first | refine S.then_n ?_ | refine S.then_x ?_ | refine S.then_r ?_ | refine S.inBlock_n ?_ | refine S.inBlock_r ?_ | refine S.inBlock_x rfl ?_ | refine S.noGoto_r ?_ | refine S.noGoto_n ?_ | refine S.noGoto_x ?_)
        first | (refine S.riClose c (m2.setUp k false) cs us rs (hri.setUp (by omega)) ?_; exact S.next (q - 1) ⟨k + 1, m2.setUp k false, by omega, by omega, hdn, hm2N, rfl, rfl⟩ (by omega) (by repeat (first | exact trivial | refine ⟨rfl, ?_⟩)) Sub.ent) | exact S.next (q - 1) ⟨k + 1, m2, by omega, by omega, hdn, hm2N, rfl, rfl⟩ (by omega) (by repeat (first | exact trivial | refine ⟨rfl, ?_⟩)) Sub.ent
      · have hb6 : d.getLsbD k = false := by rw [← has_bit]; exact decide_eq_false h6
        have hdn : m2 = dnUp mm d (k + 1) := by rw [dnUp, if_neg (by rw [hb6]; simp), ← hm2]
        refine S.skip ?_
        with_reducible repeat (first | refine S.then_n ?_ | refine S.then_x ?_ | refine S.then_r ?_ | refine S.inBlock_n ?_ | refine S.inBlock_r ?_ | refine S.inBlock_x rfl ?_ | refine S.noGoto_r ?_ | refine S.noGoto_n ?_ | refine S.noGoto_x ?_)
        with_reducible repeat (first | refine S.then_n ?_ | refine S.then_x ?_ | refine S.then_r ?_ | refine S.inBlock_n ?_ | refine S.inBlock_r ?_ | refine S.inBlock_x rfl ?_ | refine S.noGoto_r ?_ | refine S.noGoto_n ?_ | refine S.noGoto_x ?_)
        refine hK26 _ _ ?_
        refine S.region rfl ?_
        skip
        refine S.op (S.q (q_add rfl rfl (inI64 (by omega) (by omega))) rfl rfl ?_)
        refine S.op (S.q (q_move rfl) rfl rfl ?_)
        first | with_reducible refine S.nilK ?_ | refine S.nil ?_
        with_reducible repeat (first | refine S.then_n ?_ | refine S.then_x ?_ | refine S.then_r ?_ | refine S.inBlock_n ?_ | refine S.inBlock_r ?_ | refine S.inBlock_x rfl ?_ | refine S.noGoto_r ?_ | refine S.noGoto_n ?_ | refine S.noGoto_x ?_)
        first | (refine S.riClose c (m2.setUp k false) cs us rs (hri.setUp (by omega)) ?_; exact S.next (q - 1) ⟨k + 1, m2.setUp k false, by omega, by omega, hdn, hm2N, rfl, rfl⟩ (by omega) (by repeat (first | exact trivial | refine ⟨rfl, ?_⟩)) Sub.ent) | exact S.next (q - 1) ⟨k + 1, m2, by omega, by omega, hdn, hm2N, rfl, rfl⟩ (by omega) (by repeat (first | exact trivial | refine ⟨rfl, ?_⟩)) Sub.ent
    · have hfin : bldR r n l d = m2 := by rw [hbR, ← hmm, hm2, show k = N by omega]
      rw [← hfin]
      refine S.exit ?_
      with_reducible repeat (first | refine S.then_n ?_ | refine S.then_x ?_ | refine S.then_r ?_ | refine S.inBlock_n ?_ | refine S.inBlock_r ?_ | refine S.inBlock_x rfl ?_ | refine S.noGoto_r ?_ | refine S.noGoto_n ?_ | refine S.noGoto_x ?_)
      with_reducible refine S.inBlock_s ?_
      with_reducible repeat (first | refine S.then_n ?_ | refine S.then_x ?_ | refine S.then_r ?_ | refine S.inBlock_n ?_ | refine S.inBlock_r ?_ | refine S.inBlock_x rfl ?_ | refine S.noGoto_r ?_ | refine S.noGoto_n ?_ | refine S.noGoto_x ?_)
      refine hK22 _ _ ?_
      refine S.seq fun K30 hK30 => ?_
      refine S.region rfl ?_
      refine S.op (S.q (q_move rfl) rfl rfl ?_)
      refine S.op (S.q (q_move rfl) rfl rfl ?_)
      refine S.op (S.q (q_assign rfl) rfl rfl ?_)
      refine S.op (S.q (q_assign rfl) rfl rfl ?_)
      first | with_reducible refine S.nilK ?_ | refine S.nil ?_
      refine hK30 _ _ ?_
      refine S.ret ?_
      with_reducible repeat (first | refine S.then_n ?_ | refine S.then_x ?_ | refine S.then_r ?_ | refine S.inBlock_n ?_ | refine S.inBlock_r ?_ | refine S.inBlock_x rfl ?_ | refine S.noGoto_r ?_ | refine S.noGoto_n ?_ | refine S.noGoto_x ?_)
      exact S.fin (rs := [_, _]) (vs := [_, _]) Tryd.results14 (⟨rfl, rfl, trivial⟩)  (⟨b, c, rfl, rfl⟩) Sub.ent
end Go.Proofs.YtegjmmocnffpiaaDoor
/- Once rows are put together none can be; once jobs are put ahead none can move. Of no program. -/
namespace Go.Proofs.YtegjmmocnffpiaaDoor
open Go.RowKit
set_option maxRecDepth 20000
theorem meet_iff {s t : Bs} : s &&& t ≠ 0#16 ↔ ∃ i, s.getLsbD i = true ∧ t.getLsbD i = true := by
  constructor
  · intro h
    refine Classical.byContradiction fun hn => h (BitVec.eq_of_getLsbD_eq fun i _ => ?_)
    rw [BitVec.getLsbD_and]
    cases h1 : s.getLsbD i with
    | false => simp
    | true =>
      cases h2 : t.getLsbD i with
      | false => simp
      | true => exact absurd ⟨i, h1, h2⟩ hn
  · rintro ⟨i, h1, h2⟩ e
    have := congrArg (fun s => s.getLsbD i) e
    simp only [BitVec.getLsbD_and, h1, h2] at this
    simp at this
theorem tk_toRow {m : Mx} (hm : MxOk m) {f t : Nat} (hf : f < m.R) (hft : f ≠ t) (o : Nat) : tk (toRow m.js (rowIds m f) t) o = if o = t then tk m.js t ||| tk m.js f else if o = f then 0#16 else tk m.js o := by
  have hin : ∀ x ∈ m.js, x.id ∈ rowIds m f ↔ x.row = f := fun x hx => by
    rw [mem_rowIds hm hf]
    constructor
    · rintro ⟨y, h1, h2, h3⟩
      rw [← id_inj hm.srt h1 hx h3]
      exact h2
    · intro h
      exact ⟨x, hx, h, rfl⟩
  refine lst_ext fun i => ?_
  rw [tk_bit]
  constructor
  · rintro ⟨y, h1, h2, h3⟩
    rcases mem_toRow.1 h1 with ⟨x, x1, x2, rfl⟩ | ⟨x1, x2⟩
    · have h2 : t = o := h2
      subst h2
      rw [if_pos rfl, BitVec.getLsbD_or, Bool.or_eq_true]
      exact .inr ((tk_bit _ _ _).2 ⟨x, x1, (hin x x1).1 x2, h3⟩)
    · have hyf : y.row ≠ f := fun e => x2 ((hin y x1).2 e)
      have hb := (tk_bit m.js o i).2 ⟨y, x1, h2, h3⟩
      by_cases e : o = t
      · subst e
        rw [if_pos rfl, BitVec.getLsbD_or, Bool.or_eq_true]
        exact .inl hb
      · rw [if_neg e, if_neg (by omega)]
        exact hb
  · intro h
    have back : ∀ p, p ≠ f → (tk m.js p).getLsbD i = true → ∃ x ∈ toRow m.js (rowIds m f) t, x.row = p ∧ x.ns.getLsbD i = true := fun p hp hb => by
      obtain ⟨x, x1, x2, x3⟩ := (tk_bit _ _ _).1 hb
      exact ⟨x, mem_toRow.2 (.inr ⟨x1, fun e => hp (x2 ▸ (hin x x1).1 e)⟩), x2, x3⟩
    by_cases e : o = t
    · subst e
      rw [if_pos rfl, BitVec.getLsbD_or, Bool.or_eq_true] at h
      rcases h with h | h
      · exact back o (fun h => hft h.symm) h
      · obtain ⟨x, x1, x2, x3⟩ := (tk_bit _ _ _).1 h
        exact ⟨_, mem_toRow.2 (.inl ⟨x, x1, (hin x x1).2 x2, rfl⟩), rfl, x3⟩
    · rw [if_neg e] at h
      by_cases e2 : o = f
      · rw [if_pos e2] at h
        simp at h
      · rw [if_neg e2] at h
        exact back o e2 h
theorem allR_yes {m : Mx} (hm : MxOk m) {f t : Nat} (hf : f < m.R) (ht : t < m.R) (hft : f ≠ t) (h : tk m.js f &&& tk m.js t = 0#16) (o : Nat) : tk (allR m f t).2.js o = if o = t then tk m.js t ||| tk m.js f else if o = f then 0#16 else tk m.js o := by
  obtain ⟨a, ha⟩ := runUp_can hm hf ht hft h _ (Nat.le_refl _)
  obtain ⟨_, h2, _⟩ := runUp_some hm (Nat.le_refl _) ha
  rw [List.take_length] at h2
  rw [allR, ha]
  show tk a.2.js o = _
  rw [h2]
  exact tk_toRow hm hf hft o
theorem allR_no {m : Mx} (hm : MxOk m) {f t : Nat} (hf : f < m.R) (hft : f ≠ t) (h : tk m.js f &&& tk m.js t ≠ 0#16) : allR m f t = ([], m) := by
  unfold allR
  cases ha : runUp m t (rowIds m f) (rowIds m f).length with
  | none => rfl
  | some a => exact absurd (runUp_cannot hm hf hft ha) h
theorem rowIds_nil {m : Mx} (hm : MxOk m) {f : Nat} (hf : f < m.R) : rowIds m f = [] ↔ tk m.js f = 0#16 := by
  constructor
  · intro h
    refine lst_ext fun i => ?_
    rw [tk_bit]
    constructor
    · rintro ⟨x, x1, x2, _⟩
      have := (mem_rowIds hm hf).2 ⟨x, x1, x2, rfl⟩
      rw [h] at this
      cases this
    · intro h; simp at h
  · intro h
    refine List.eq_nil_iff_forall_not_mem.2 fun j hj => ?_
    obtain ⟨x, x1, x2, _⟩ := (mem_rowIds hm hf).1 hj
    have h1 := tz_mem (hm.some x x1)
    have h2 := (tk_bit m.js f (tz x.ns)).2 ⟨x, x1, x2, mem_lst.1 h1⟩
    rw [h] at h2
    simp at h2
theorem allR_nil {m : Mx} (hm : MxOk m) {f t : Nat} (hf : f < m.R) (h : tk m.js f = 0#16) : allR m f t = ([], m) := by
  have := (rowIds_nil hm hf).2 h
  unfold allR
  rw [this]
  rfl
/-- Row j is empty, or can't be put into row i. -/
def Cr (m : Mx) (i j : Nat) : Prop := tk m.js j = 0#16 ∨ tk m.js i &&& tk m.js j ≠ 0#16
theorem and_comm16 (s t : Bs) : s &&& t = t &&& s := BitVec.and_comm s t
theorem allR_Cr {m : Mx} (hm : MxOk m) {i j : Nat} (hij : i < j) (hj : j < m.R) (h : ∀ a, a < i → ∀ b, a < b → b < m.R → Cr m a b) (h2 : ∀ b, i < b → b < j → Cr m i b) :
    (∀ a, a < i → ∀ b, a < b → b < m.R → Cr (allR m j i).2 a b) ∧ ∀ b, i < b → b < j + 1 → Cr (allR m j i).2 i b := by
  by_cases hd : tk m.js j &&& tk m.js i = 0#16
  · have ht := allR_yes hm hj (show i < m.R by omega) (by omega) hd
    constructor
    · intro a ha b hab hb
      by_cases e1 : b = j
      · exact .inl (by rw [ht, if_neg (by omega), if_pos e1])
      · have ea : tk (allR m j i).2.js a = tk m.js a := by rw [ht, if_neg (by omega), if_neg (by omega)]
        by_cases e2 : b = i
        · subst e2
          have eb : tk (allR m j b).2.js b = tk m.js b ||| tk m.js j := by rw [ht, if_pos rfl]
          unfold Cr
          rw [ea, eb]
          rcases h a ha b hab hb with q1 | q1
          · rcases h a ha j (by omega) hj with q2 | q2
            · left; rw [q1, q2]; rfl
            · right
              obtain ⟨k, k1, k2⟩ := meet_iff.1 q2
              exact meet_iff.2 ⟨k, k1, by rw [BitVec.getLsbD_or, k2, Bool.or_true]⟩
          · right
            obtain ⟨k, k1, k2⟩ := meet_iff.1 q1
            exact meet_iff.2 ⟨k, k1, by rw [BitVec.getLsbD_or, k2, Bool.true_or]⟩
        · have eb : tk (allR m j i).2.js b = tk m.js b := by rw [ht, if_neg e2, if_neg e1]
          unfold Cr
          rw [ea, eb]
          exact h a ha b hab hb
    · intro b hib hb
      by_cases e1 : b = j
      · exact .inl (by rw [ht, if_neg (by omega), if_pos e1])
      · have eb : tk (allR m j i).2.js b = tk m.js b := by rw [ht, if_neg (by omega), if_neg e1]
        have ei : tk (allR m j i).2.js i = tk m.js i ||| tk m.js j := by rw [ht, if_pos rfl]
        unfold Cr
        rw [ei, eb]
        rcases h2 b hib (by omega) with q1 | q1
        · exact .inl q1
        · right
          obtain ⟨k, k1, k2⟩ := meet_iff.1 q1
          exact meet_iff.2 ⟨k, by rw [BitVec.getLsbD_or, k1, Bool.true_or], k2⟩
  · rw [allR_no hm hj (by omega) hd]
    refine ⟨h, fun b hib hb => ?_⟩
    by_cases e : b = j
    · subst e
      exact .inr (by rw [and_comm16]; exact hd)
    · exact h2 b hib (by omega)
theorem uniIn_Cr {m : Mx} (hm : MxOk m) {i : Nat} (xs : List Mv) (h : ∀ a, a < i → ∀ b, a < b → b < m.R → Cr m a b) : ∀ q, i + 1 + q ≤ m.R → MxOk (uniIn i (m, xs) q).1 ∧ (uniIn i (m, xs) q).1.R = m.R ∧ (∀ a, a < i → ∀ b, a < b → b < m.R → Cr (uniIn i (m, xs) q).1 a b) ∧ ∀ b, i < b → b < i + 1 + q → Cr (uniIn i (m, xs) q).1 i b
  | 0, _ => ⟨hm, rfl, h, fun b h1 h2 => by omega⟩
  | q + 1, hq => by
    obtain ⟨h1, h2, h3, h4⟩ := uniIn_Cr hm xs h q (by omega)
    obtain ⟨a1, a2⟩ := allR_ok (f := i + 1 + q) (t := i) h1
    obtain ⟨c1, c2⟩ := allR_Cr h1 (show i < i + 1 + q by omega) (by omega) (by rw [h2]; exact h3) h4
    rw [uniIn]
    refine ⟨a1, a2.trans h2, fun a ha b hab hb => c1 a ha b hab (by omega), c2⟩
theorem uniUp_Cr {m : Mx} (hm : MxOk m) : ∀ k, k ≤ m.R → MxOk (uniUp m k).1 ∧ (uniUp m k).1.R = m.R ∧ ∀ a, a < k → ∀ b, a < b → b < m.R → Cr (uniUp m k).1 a b
  | 0, _ => ⟨hm, rfl, fun a ha => by omega⟩
  | k + 1, hk => by
    obtain ⟨h1, h2, h3⟩ := uniUp_Cr hm k (by omega)
    have h4 := uniIn_Cr h1 (i := k) (uniUp m k).2 (by rw [h2]; exact h3) (m.R - (k + 1)) (by omega)
    rw [uniUp]
    obtain ⟨q1, q2, q3, q4⟩ := h4
    refine ⟨q1, q2.trans h2, fun a ha b hab hb => ?_⟩
    by_cases e : a = k
    · subst e
      exact q4 b hab (by omega)
    · exact q3 a (by omega) b hab (by omega)
theorem unify_Cr {m : Mx} (hm : MxOk m) : MxOk (unifyR m).1 ∧ (unifyR m).1.R = m.R ∧ ∀ a b, a < b → b < m.R → Cr (unifyR m).1 a b := by
  obtain ⟨h1, h2, h3⟩ := uniUp_Cr hm m.R (Nat.le_refl _)
  exact ⟨h1, h2, fun a b hab hb => h3 a (by omega) b hab hb⟩
/-- Where every two rows are so nothing is put together. -/
theorem unify_still {m : Mx} (hm : MxOk m) (h : ∀ a b, a < b → b < m.R → Cr m a b) : unifyR m = (m, []) := by
  have hin : ∀ i q, i + 1 + q ≤ m.R → uniIn i (m, []) q = (m, []) := fun i q => by
    induction q with
    | zero => intro _; rfl
    | succ q ih =>
      intro hq
      rw [uniIn, ih (by omega), allStep]
      have e : allR m (i + 1 + q) i = ([], m) := by
        rcases h i (i + 1 + q) (by omega) (by omega) with h1 | h1
        · exact allR_nil hm (by omega) h1
        · exact allR_no hm (by omega) (by omega) (by rw [and_comm16]; exact h1)
      simp only [e, List.append_nil]
  have hup : ∀ k, k ≤ m.R → uniUp m k = (m, []) := fun k => by
    induction k with
    | zero => intro _; rfl
    | succ k ih => intro hk; rw [uniUp, ih (by omega), hin k _ (by omega)]
  exact hup m.R (Nat.le_refl _)
/-- A job that can't go ahead. -/
def Stuck (m : Mx) (x : Jb) : Prop := ∀ i, i < x.row → tk m.js i &&& x.ns ≠ 0#16
theorem stuck_still {m : Mx} (hm : MxOk m) (h : ∀ x ∈ m.js, Stuck m x) : repackR m = (m, []) := by
  have htry : ∀ j r, (∀ x ∈ m.js, x.id = j → x.row = r) → ∀ i, i ≤ r → repTry m j i = none := fun j r hr i => by
    induction i with
    | zero => intro _; rfl
    | succ i ih =>
      intro hi
      rw [repTry, ih (by omega)]
      have e : moveR m j i = (none, m) := by
        unfold moveR
        cases hl : look m.js j with
        | none => rfl
        | some x =>
          obtain ⟨h1, h2⟩ := look_some hl
          have h3 := hr x h1 h2
          have h4 := h x h1 i (by omega)
          have h5 : canMove m x i = false := by
            rw [canMove, Int.toNat_natCast, tk_delJ hm h1, if_neg (by omega), decide_eq_false h4, Bool.and_false]
          simp only [h5]
          rfl
      simp only [e]
  have hrow : ∀ r, r < m.R → ∀ p, p ≤ (rowIds m r).length → repRow r (rowIds m r) (m, []) p = (m, []) := fun r hr p => by
    induction p with
    | zero => intro _; rfl
    | succ p ih =>
      intro hp
      have hx := List.getElem?_eq_getElem (show p < (rowIds m r).length by omega)
      have hg : (rowIds m r).getD p 0 = (rowIds m r)[p] := by simp [List.getD, hx]
      obtain ⟨x, x1, x2, x3⟩ := (mem_rowIds hm hr).1 (List.getElem_mem (show p < (rowIds m r).length by omega))
      rw [repRow, ih (by omega), htry _ r (fun y y1 y2 => by
        rw [hg, ← x3] at y2
        rw [id_inj hm.srt y1 x1 y2]
        exact x2) r (Nat.le_refl _)]
  have hup : ∀ k, k + 1 ≤ m.R → repUp m k = (m, []) := fun k => by
    induction k with
    | zero => intro _; rfl
    | succ k ih =>
      intro hk
      rw [repUp, ih (by omega)]
      exact hrow (k + 1) (by omega) _ (Nat.le_refl _)
  have := hm.R1
  exact hup (m.R - 1) (by omega)
theorem stuck_Cr {m : Mx} (h : ∀ x ∈ m.js, Stuck m x) (a b : Nat) (hab : a < b) : Cr m a b := by
  by_cases e : tk m.js b = 0#16
  · exact .inl e
  · right
    have h1 := mem_lst.1 (tz_mem e)
    obtain ⟨x, x1, x2, _⟩ := (tk_bit _ _ _).1 h1
    obtain ⟨k, k1, k2⟩ := meet_iff.1 (h x x1 a (by omega))
    exact meet_iff.2 ⟨k, k1, (tk_bit _ _ _).2 ⟨x, x1, x2, k2⟩⟩
theorem tk_reRow {m : Mx} (hm : MxOk m) {x : Jb} (hx : x ∈ m.js) (t o : Nat) (ho : o ≠ x.row) : tk (reRow m.js x.id t) o = if t = o then tk m.js o ||| x.ns else tk m.js o := by
  have e := congrArg (fun q : Mx => tk q.js o) (add_del hm hx t)
  show tk (({ m with js := reRow m.js x.id t } : Mx)).js o = _
  rw [← e]
  show tk (addJ ⟨x.id, t, x.ns⟩ (delJ x.id m.js)) o = _
  rw [tk_addJ]
  show (if t = o then tk (delJ x.id m.js) o ||| x.ns else tk (delJ x.id m.js) o) = _
  have e2 : tk (delJ x.id m.js) o = tk m.js o := by rw [tk_delJ hm hx, if_neg (fun h => ho h.symm)]
  rw [e2]
/-- The first row to which a job goes; those ahead of it have no room. -/
theorem repTry_first {m : Mx} {j : Nat} {r : Mv × Mx} : ∀ {p : Nat}, repTry m j p = some r → ∃ i, i < p ∧ moveR m j i = (some r.1, r.2) ∧ ∀ k, k < i → (moveR m j k).1 = none
  | 0, h => by cases h
  | p + 1, h => by
    rw [repTry] at h
    cases hr : repTry m j p with
    | some r' =>
      rw [hr] at h
      simp only [Option.some.injEq] at h
      subst h
      obtain ⟨i, h3, h4, h5⟩ := repTry_first hr
      exact ⟨i, by omega, h4, h5⟩
    | none =>
      rw [hr] at h
      simp only at h
      cases hv : moveR m j p with
      | mk x m' =>
        rw [hv] at h
        cases x with
        | none => cases h
        | some x =>
          simp only [Option.some.injEq] at h
          subst h
          exact ⟨p, by omega, hv, repTry_none hr⟩
theorem move_no {m : Mx} (hm : MxOk m) {x : Jb} (hx : x ∈ m.js) {i : Nat} (hi : i < x.row) (h : (moveR m x.id i).1 = none) : tk m.js i &&& x.ns ≠ 0#16 := by
  intro e
  have hr := hm.row x hx
  have hc : canMove m x i = true := by
    rw [canMove, Int.toNat_natCast, tk_delJ hm hx, if_neg (by omega), decide_eq_true e, rowB_iff.2 ⟨by omega, by omega⟩]
    rfl
  unfold moveR at h
  rw [look_mem hm.srt hx] at h
  simp only [hc] at h
  cases h
structure RepI (m : Mx) (j : Nat) (ids : List Nat) (p : Nat) : Prop where
  ok : MxOk m
  less : ∀ x ∈ m.js, x.row < j → Stuck m x
  at_ : ∀ x ∈ m.js, x.row = j → x.id ∈ ids
  done : ∀ x ∈ m.js, x.row = j → x.id ∈ ids.take p → Stuck m x
  left : ∀ x ∈ m.js, x.id ∈ ids.drop p → x.row = j
theorem RepI.step {m : Mx} {j : Nat} {ids : List Nat} {p : Nat} (h : RepI m j ids p) (hp : p < ids.length) (hnd : ids.Nodup) : (repTry m ids[p] j = none → RepI m j ids (p + 1)) ∧ ∀ r, repTry m ids[p] j = some r → RepI r.2 j ids (p + 1) := by
  have htake : ∀ y, y ∈ ids.take (p + 1) → y = ids[p] ∨ y ∈ ids.take p := fun y hy => by
    rw [List.take_add_one, List.getElem?_eq_getElem hp, List.mem_append] at hy
    rcases hy with hy | hy
    · exact .inr hy
    · left; simpa using hy
  have hdrop : ids.drop p = ids[p] :: ids.drop (p + 1) := List.drop_eq_getElem_cons hp
  constructor
  · intro ht
    refine ⟨h.ok, h.less, h.at_, fun x hx hr hi => ?_, fun x hx hi => h.left x hx (by rw [hdrop]; exact List.mem_cons_of_mem _ hi)⟩
    rcases htake _ hi with e | e
    · intro i hij
      exact move_no h.ok hx hij (by rw [e]; exact repTry_none ht i (by omega))
    · exact h.done x hx hr e
  · intro r ht
    obtain ⟨i, hi, hv, hno⟩ := repTry_first ht
    obtain ⟨y, hl, _, _, hm'⟩ := moveR_some hv
    obtain ⟨hy, hyi⟩ := look_some hl
    have hyj : y.row = j := h.left y hy (by rw [hdrop, hyi]; exact List.mem_cons_self ..)
    have hok' := moveR_ok h.ok ids[p] i
    rw [hv] at hok'
    have hok' : MxOk r.2 := hok'
    have hjs : r.2.js = reRow m.js y.id i := by rw [hm', hyi, Int.toNat_natCast]
    have htk : ∀ o, o < j → tk r.2.js o = if i = o then tk m.js o ||| y.ns else tk m.js o := fun o ho => by rw [hjs]; exact tk_reRow h.ok hy i o (by omega)
    have hgrow : ∀ o, o < j → ∀ s : Bs, tk m.js o &&& s ≠ 0#16 → tk r.2.js o &&& s ≠ 0#16 := fun o ho s hs => by
      obtain ⟨k, k1, k2⟩ := meet_iff.1 hs
      refine meet_iff.2 ⟨k, ?_, k2⟩
      rw [htk o ho]
      split
      · rw [BitVec.getLsbD_or, k1, Bool.true_or]
      · exact k1
    have hmem : ∀ x, x ∈ r.2.js ↔ x = ⟨y.id, i, y.ns⟩ ∨ (x ∈ m.js ∧ x.id ≠ y.id) := fun x => by rw [hjs]; exact mem_reRow h.ok.srt hy i x
    refine ⟨hok', fun x hx hr => ?_, fun x hx hr => ?_, fun x hx hr hxi => ?_, fun x hx hxi => ?_⟩
    · rcases (hmem x).1 hx with rfl | ⟨x1, x2⟩
      · intro k hk
        have hk : k < i := hk
        exact hgrow k (by omega) _ (move_no h.ok hy (by omega) (by rw [hyi]; exact hno k hk))
      · intro k hk
        exact hgrow k (by omega) _ (h.less x x1 hr k hk)
    · rcases (hmem x).1 hx with rfl | ⟨x1, x2⟩
      · have hr : i = j := hr
        omega
      · exact h.at_ x x1 hr
    · rcases (hmem x).1 hx with rfl | ⟨x1, x2⟩
      · have hr : i = j := hr
        omega
      · rcases htake _ hxi with e | e
        · exact absurd (e.trans hyi.symm) x2
        · intro k hk
          exact hgrow k (by omega) _ (h.done x x1 hr e k hk)
    · rcases (hmem x).1 hx with rfl | ⟨x1, x2⟩
      · exfalso
        have hxi : y.id ∈ ids.drop (p + 1) := hxi
        rw [hyi] at hxi
        obtain ⟨q, hq, e⟩ := List.getElem_of_mem hxi
        rw [List.getElem_drop] at e
        have hq' : p + 1 + q < ids.length := by rw [List.length_drop] at hq; omega
        have := List.pairwise_iff_getElem.1 hnd p (p + 1 + q) hp hq' (by omega)
        exact this e.symm
      · exact h.left x x1 (by rw [hdrop]; exact List.mem_cons_of_mem _ hxi)
theorem repRow_I {m : Mx} {j : Nat} {ids : List Nat} (xs : List Mv) (h : RepI m j ids 0) (hnd : ids.Nodup) : ∀ p, p ≤ ids.length → RepI (repRow j ids (m, xs) p).1 j ids p ∧ (repRow j ids (m, xs) p).1.R = m.R
  | 0, _ => ⟨h, rfl⟩
  | p + 1, hp => by
    obtain ⟨h1, h2⟩ := repRow_I xs h hnd p (by omega)
    have hp' : p < ids.length := by omega
    have hg : ids.getD p 0 = ids[p] := by simp [List.getD, List.getElem?_eq_getElem hp']
    have hs := h1.step hp' hnd
    rw [repRow, hg]
    cases ht : repTry (repRow j ids (m, xs) p).1 ids[p] j with
    | none => exact ⟨hs.1 ht, h2⟩
    | some r => exact ⟨hs.2 r ht, (repTry_some h1.ok ht).2.1.trans h2⟩
theorem repUp_stuck {m : Mx} (hm : MxOk m) : ∀ k, k + 1 ≤ m.R → MxOk (repUp m k).1 ∧ (repUp m k).1.R = m.R ∧ ∀ x ∈ (repUp m k).1.js, x.row ≤ k → Stuck (repUp m k).1 x
  | 0, _ => ⟨hm, rfl, fun x _ h i hi => by omega⟩
  | k + 1, hk => by
    obtain ⟨h1, h2, h3⟩ := repUp_stuck hm k (by omega)
    have hf : k + 1 < (repUp m k).1.R := by omega
    have h0 : RepI (repUp m k).1 (k + 1) (rowIds (repUp m k).1 ((k + 1 : Nat) : Int)) 0 := by
      refine ⟨h1, fun x hx hr => h3 x hx (by omega), fun x hx hr => (mem_rowIds h1 hf).2 ⟨x, hx, hr, rfl⟩, fun x hx hr hi => (by cases hi), fun x hx hi => ?_⟩
      obtain ⟨y, y1, y2, y3⟩ := (mem_rowIds h1 hf).1 hi
      rw [← id_inj h1.srt y1 hx y3]
      exact y2
    obtain ⟨q1, q2⟩ := repRow_I (repUp m k).2 h0 (rowIds_nodup h1 hf) _ (Nat.le_refl _)
    rw [repUp]
    refine ⟨q1.ok, q2.trans h2, fun x hx hr => ?_⟩
    by_cases e : x.row = k + 1
    · exact q1.done x hx e (by rw [List.take_length]; exact q1.at_ x hx e)
    · exact q1.less x hx (by omega)
theorem repack_stuck {m : Mx} (hm : MxOk m) : MxOk (repackR m).1 ∧ ∀ x ∈ (repackR m).1.js, Stuck (repackR m).1 x := by
  have hR := hm.R1
  obtain ⟨h1, h2, h3⟩ := repUp_stuck hm (m.R - 1) (by omega)
  exact ⟨h1, fun x hx => h3 x hx (by have := h1.row x hx; omega)⟩
end Go.Proofs.YtegjmmocnffpiaaDoor
