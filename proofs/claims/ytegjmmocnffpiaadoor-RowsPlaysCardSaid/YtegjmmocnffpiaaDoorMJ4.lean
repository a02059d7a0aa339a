/- The document's matrix: Free, Row, Remove, Place, Next. -/
import Derived.Test.YtegjmmocnffpiaaDoorMJ3
/- The document's lists held against lists: Same, SameInts. -/
namespace Go.Proofs.YtegjmmocnffpiaaDoor
open Go.RowKit
set_option maxRecDepth 20000
abbrev u32s (l : List Int) : List Value := l.map (Value.int .u32)
theorem u32s_get {l : List Int} {i : Nat} {x : Int} (h : l[i]? = some x) : (u32s l)[i]? = some (.int .u32 x) := by rw [List.getElem?_map, h]; rfl
theorem SameInts_S (A B : Assn) (s t : SV) (k l : List Int) (hA : RdS A s s.n 1 (ints k)) (hB : RdS B t t.n 1 (ints l)) (hk : s.n = k.length) (hl : t.n = l.length) : Spec Tryd.prog 29 [s.v, t.v] [A, B] fun Γ v Θ => v = .bool (decide (k = l)) ∧ Θ = A :: B :: Γ := by
  refine Spec.of_body Tryd.func29 rfl Tryd.ntmps29 rfl ?_
  intro w0 Γ
  show S _ w0 [(0, s.v), (1, t.v)] (A :: B :: Γ) _
  refine S.rCap hA fun _ hc1 hc2 => ?_
  refine S.rCap hB fun _ hd1 hd2 => ?_
  refine S.seq fun K1 hK1 => ?_
  refine S.region rfl ?_
  refine S.op (S.q (q_assign rfl) rfl rfl ?_)
  first | with_reducible refine S.nilK ?_ | refine S.nil ?_
  refine hK1 _ _ ?_
  refine S.seq fun K2 hK2 => ?_
  refine S.seq fun K3 hK3 => ?_
  refine S.region rfl ?_
  refine S.op (S.q (q_move rfl) rfl rfl ?_)
  refine S.op (S.q (q_len Tryd.underlying69 rfl) rfl rfl ?_)
  refine S.op (S.q (q_move rfl) rfl rfl ?_)
  refine S.op (S.q (q_len Tryd.underlying69 rfl) rfl rfl ?_)
  refine S.op (S.q (q_ne rfl rfl) rfl rfl ?_)
  first | with_reducible refine S.nilK ?_ | refine S.nil ?_
  refine hK3 _ _ ?_
  refine S.condD rfl (fun h1 => ?_) (fun h1 => ?_)
  · have hne : k ≠ l := fun e => h1 (by rw [hk, hl, e])
    refine S.seq fun K4 hK4 => ?_
    refine S.region rfl ?_
    refine S.op (S.q (q_assign rfl) rfl rfl ?_)
    first | with_reducible refine S.nilK ?_ | refine S.nil ?_
    refine hK4 _ _ ?_
    refine S.ret ?_
    with_reducible repeat (first | refine S.then_n ?_ | refine S.then_x ?_ | refine S.then_r ?_ | refine S.inBlock_n ?_ | refine S.inBlock_r ?_ | refine S.inBlock_x rfl ?_ | refine S.noGoto_r ?_ | refine S.noGoto_n ?_ | refine S.noGoto_x ?_)
    exact S.fin (rs := [_]) (vs := [_]) Tryd.results29 (⟨rfl, trivial⟩)  (⟨by simp only [resV]; rw [decide_eq_false hne], rfl⟩) Sub.ent
  · have hlen : k.length = l.length := by omega
    refine S.skip ?_
    with_reducible repeat (first | refine S.then_n ?_ | refine S.then_x ?_ | refine S.then_r ?_ | refine S.inBlock_n ?_ | refine S.inBlock_r ?_ | refine S.inBlock_x rfl ?_ | refine S.noGoto_r ?_ | refine S.noGoto_n ?_ | refine S.noGoto_x ?_)
    refine hK2 _ _ ?_
    refine S.seq fun K5 hK5 => ?_
    refine S.seq fun K6 hK6 => ?_
    refine S.region rfl ?_
    refine S.op (S.q (q_move rfl) rfl rfl ?_)
    refine S.op (S.q (q_len Tryd.underlying69 rfl) rfl rfl ?_)
    refine S.op (S.q (q_move rfl) rfl rfl ?_)
    first | with_reducible refine S.nilK ?_ | refine S.nil ?_
    refine hK6 _ _ ?_
    refine S.block ?_
    refine S.loop (fun q ρ' Γ' => ∃ i : Nat, q = k.length - i ∧ i ≤ k.length ∧ sameUp k l i = true ∧ ρ' = [(0, s.v), (1, t.v), (12, .int .i64 s.n), (13, .int .i64 (i : Int))] ∧ Γ' = A :: B :: Γ) (m := _) (ρ0 := _) (Γ0 := _) (⟨0, rfl, by omega, rfl, rfl, rfl⟩) (by repeat (first | exact trivial | refine ⟨rfl, ?_⟩)) Sub.ent ?_
    rintro q ρ' Γ' ⟨i, hq, hi, hsu, rfl, rfl⟩
    refine S.seq fun K7 hK7 => ?_
    refine S.region rfl ?_
    refine S.op (S.q (q_lt rfl rfl) rfl rfl ?_)
    first | with_reducible refine S.nilK ?_ | refine S.nil ?_
    refine hK7 _ _ ?_
    refine S.seq fun K8 hK8 => ?_
    refine S.condD rfl (fun h2 => ?_) (fun h2 => ?_)
    · refine S.rSome hA (by omega) fun sb so hsa => ?_
      refine S.rSome hB (by omega) fun tb tf hta => ?_
      obtain ⟨x, hx⟩ := getE (show i < k.length by omega)
      obtain ⟨y, hy⟩ := getE (show i < l.length by omega)
      have hsu2 : sameUp k l (i + 1) = decide (x = y) := by rw [sameUp, hsu]; simp [List.getD, hx, hy]
      refine S.skip ?_
      with_reducible repeat (first | refine S.then_n ?_ | refine S.then_x ?_ | refine S.then_r ?_ | refine S.inBlock_n ?_ | refine S.inBlock_r ?_ | refine S.inBlock_x rfl ?_ | refine S.noGoto_r ?_ | refine S.noGoto_n ?_ | refine S.noGoto_x ?_)
      refine hK8 _ _ ?_
      refine S.seq fun K9 hK9 => ?_
      refine S.block ?_
      refine S.seq fun K10 hK10 => ?_
      refine S.region rfl ?_
      refine S.op (S.q (q_move rfl) rfl rfl ?_)
      refine S.op (S.q (q_assign rfl) rfl rfl ?_)
      first | with_reducible refine S.nilK ?_ | refine S.nil ?_
      refine hK10 _ _ ?_
      refine S.seq fun K11 hK11 => ?_
      refine S.draw ([A, B]) [] Tryd.mixed ?_
      refine S.dr_take 0 [] rfl (by kernel_rfl) rfl rfl rfl (q_move rfl) Sub.ent ?_
      refine S.dr_take 1 [] rfl (by kernel_rfl) rfl rfl rfl (q_move rfl) Sub.ent ?_
      refine S.dr_take 2 [] rfl (by kernel_rfl) rfl rfl rfl (q_indexO (i) Tryd.el69 rfl hsa rfl rfl (by omega)) Sub.ent ?_
      refine S.dr_take 3 [] rfl (by kernel_rfl) rfl rfl rfl (q_loadR hA i Tryd.at3 rfl hsa (by omega) (by omega) (ints_get hx)) Sub.ent ?_
      refine S.dr_take 4 [] rfl (by kernel_rfl) rfl rfl rfl (q_move rfl) Sub.ent ?_
      refine S.dr_take 5 [] rfl (by kernel_rfl) rfl rfl rfl (q_move rfl) Sub.ent ?_
      refine S.dr_take 6 [] rfl (by kernel_rfl) rfl rfl rfl (q_indexO (i) Tryd.el69 rfl hta rfl rfl (by omega)) Sub.ent ?_
      refine S.dr_take 7 [] rfl (by kernel_rfl) rfl rfl rfl (q_loadR hB i Tryd.at3 rfl hta (by omega) (by omega) (ints_get hy)) Sub.ent ?_
      refine S.dr_take 8 [] rfl (by kernel_rfl) rfl rfl rfl (q_ne rfl rfl) Sub.ent ?_
      first | with_reducible refine S.dr_doneK (by kernel_rfl) ?_ | refine S.dr_done (by kernel_rfl) ?_
      refine hK11 _ _ ?_
      refine S.condD rfl (fun h3 => ?_) (fun h3 => ?_)
      · have hne : k ≠ l := fun e => h3 (by rw [e, hy] at hx; exact (Option.some.inj hx).symm)
        refine S.seq fun K12 hK12 => ?_
        refine S.region rfl ?_
        refine S.op (S.q (q_assign rfl) rfl rfl ?_)
        first | with_reducible refine S.nilK ?_ | refine S.nil ?_
        refine hK12 _ _ ?_
        refine S.ret ?_
        with_reducible repeat (first | refine S.then_n ?_ | refine S.then_x ?_ | refine S.then_r ?_ | refine S.inBlock_n ?_ | refine S.inBlock_r ?_ | refine S.inBlock_x rfl ?_ | refine S.noGoto_r ?_ | refine S.noGoto_n ?_ | refine S.noGoto_x ?_)
        exact S.fin (rs := [_]) (vs := [_]) Tryd.results29 (⟨rfl, trivial⟩)  (⟨by simp only [resV]; rw [decide_eq_false hne], rfl⟩) Sub.ent
      · have hxy : x = y := Classical.byContradiction h3
        refine S.skip ?_
        with_reducible repeat (first | refine S.then_n ?_ | refine S.then_x ?_ | refine S.then_r ?_ | refine S.inBlock_n ?_ | refine S.inBlock_r ?_ | refine S.inBlock_x rfl ?_ | refine S.noGoto_r ?_ | refine S.noGoto_n ?_ | refine S.noGoto_x ?_)
        with_reducible repeat (first | refine S.then_n ?_ | refine S.then_x ?_ | refine S.then_r ?_ | refine S.inBlock_n ?_ | refine S.inBlock_r ?_ | refine S.inBlock_x rfl ?_ | refine S.noGoto_r ?_ | refine S.noGoto_n ?_ | refine S.noGoto_x ?_)
        refine hK9 _ _ ?_
        refine S.region rfl ?_
        refine S.op (S.q (q_add rfl rfl (inI64 (by omega) (by omega))) rfl rfl ?_)
        refine S.op (S.q (q_move rfl) rfl rfl ?_)
        first | with_reducible refine S.nilK ?_ | refine S.nil ?_
        with_reducible repeat (first | refine S.then_n ?_ | refine S.then_x ?_ | refine S.then_r ?_ | refine S.inBlock_n ?_ | refine S.inBlock_r ?_ | refine S.inBlock_x rfl ?_ | refine S.noGoto_r ?_ | refine S.noGoto_n ?_ | refine S.noGoto_x ?_)
        exact S.next (q - 1) (⟨i + 1, by omega, by omega, by rw [hsu2]; exact decide_eq_true hxy, rfl, rfl⟩) (by omega) (by repeat (first | exact trivial | refine ⟨rfl, ?_⟩)) Sub.ent
    · have hik : i = k.length := by omega
      rw [hik, sameUp_eq hlen] at hsu
      refine S.exit ?_
      with_reducible repeat (first | refine S.then_n ?_ | refine S.then_x ?_ | refine S.then_r ?_ | refine S.inBlock_n ?_ | refine S.inBlock_r ?_ | refine S.inBlock_x rfl ?_ | refine S.noGoto_r ?_ | refine S.noGoto_n ?_ | refine S.noGoto_x ?_)
      with_reducible refine S.inBlock_s ?_
      with_reducible repeat (first | refine S.then_n ?_ | refine S.then_x ?_ | refine S.then_r ?_ | refine S.inBlock_n ?_ | refine S.inBlock_r ?_ | refine S.inBlock_x rfl ?_ | refine S.noGoto_r ?_ | refine S.noGoto_n ?_ | refine S.noGoto_x ?_)
      refine hK5 _ _ ?_
      refine S.seq fun K13 hK13 => ?_
      refine S.region rfl ?_
      refine S.op (S.q (q_assign rfl) rfl rfl ?_)
      first | with_reducible refine S.nilK ?_ | refine S.nil ?_
      refine hK13 _ _ ?_
      refine S.ret ?_
      with_reducible repeat (first | refine S.then_n ?_ | refine S.then_x ?_ | refine S.then_r ?_ | refine S.inBlock_n ?_ | refine S.inBlock_r ?_ | refine S.inBlock_x rfl ?_ | refine S.noGoto_r ?_ | refine S.noGoto_n ?_ | refine S.noGoto_x ?_)
      exact S.fin (rs := [_]) (vs := [_]) Tryd.results29 (⟨rfl, trivial⟩)  (⟨by simp only [resV]; rw [hsu], rfl⟩) Sub.ent
theorem Same_S (A B : Assn) (s t : SV) (k l : List Int) (hA : RdS A s s.n 1 (u32s k)) (hB : RdS B t t.n 1 (u32s l)) (hk : s.n = k.length) (hl : t.n = l.length) : Spec Tryd.prog 12 [s.v, t.v] [A, B] fun Γ v Θ => v = .bool (decide (k = l)) ∧ Θ = A :: B :: Γ := by
  refine Spec.of_body Tryd.func12 rfl Tryd.ntmps12 rfl ?_
  intro w0 Γ
  show S _ w0 [(0, s.v), (1, t.v)] (A :: B :: Γ) _
  refine S.rCap hA fun _ hc1 hc2 => ?_
  refine S.rCap hB fun _ hd1 hd2 => ?_
  refine S.seq fun K1 hK1 => ?_
  refine S.region rfl ?_
  refine S.op (S.q (q_assign rfl) rfl rfl ?_)
  first | with_reducible refine S.nilK ?_ | refine S.nil ?_
  refine hK1 _ _ ?_
  refine S.seq fun K2 hK2 => ?_
  refine S.seq fun K3 hK3 => ?_
  refine S.region rfl ?_
  refine S.op (S.q (q_move rfl) rfl rfl ?_)
  refine S.op (S.q (q_len Tryd.underlying31 rfl) rfl rfl ?_)
  refine S.op (S.q (q_move rfl) rfl rfl ?_)
  refine S.op (S.q (q_len Tryd.underlying31 rfl) rfl rfl ?_)
  refine S.op (S.q (q_ne rfl rfl) rfl rfl ?_)
  first | with_reducible refine S.nilK ?_ | refine S.nil ?_
  refine hK3 _ _ ?_
  refine S.condD rfl (fun h1 => ?_) (fun h1 => ?_)
  · have hne : k ≠ l := fun e => h1 (by rw [hk, hl, e])
    refine S.seq fun K4 hK4 => ?_
    refine S.region rfl ?_
    refine S.op (S.q (q_assign rfl) rfl rfl ?_)
    first | with_reducible refine S.nilK ?_ | refine S.nil ?_
    refine hK4 _ _ ?_
    refine S.ret ?_
    with_reducible repeat (first | refine S.then_n ?_ | refine S.then_x ?_ | refine S.then_r ?_ | refine S.inBlock_n ?_ | refine S.inBlock_r ?_ | refine S.inBlock_x rfl ?_ | refine S.noGoto_r ?_ | refine S.noGoto_n ?_ | refine S.noGoto_x ?_)
    exact S.fin (rs := [_]) (vs := [_]) Tryd.results12 (⟨rfl, trivial⟩)  (⟨by simp only [resV]; rw [decide_eq_false hne], rfl⟩) Sub.ent
  · have hlen : k.length = l.length := by omega
    refine S.skip ?_
    with_reducible repeat (first | refine S.then_n ?_ | refine S.then_x ?_ | refine S.then_r ?_ | refine S.inBlock_n ?_ | refine S.inBlock_r ?_ | refine S.inBlock_x rfl ?_ | refine S.noGoto_r ?_ | refine S.noGoto_n ?_ | refine S.noGoto_x ?_)
    refine hK2 _ _ ?_
    refine S.seq fun K5 hK5 => ?_
    refine S.seq fun K6 hK6 => ?_
    refine S.region rfl ?_
    refine S.op (S.q (q_move rfl) rfl rfl ?_)
    refine S.op (S.q (q_len Tryd.underlying31 rfl) rfl rfl ?_)
    refine S.op (S.q (q_move rfl) rfl rfl ?_)
    first | with_reducible refine S.nilK ?_ | refine S.nil ?_
    refine hK6 _ _ ?_
    refine S.block ?_
    refine S.loop (fun q ρ' Γ' => ∃ i : Nat, q = k.length - i ∧ i ≤ k.length ∧ sameUp k l i = true ∧ ρ' = [(0, s.v), (1, t.v), (12, .int .i64 s.n), (13, .int .i64 (i : Int))] ∧ Γ' = A :: B :: Γ) (m := _) (ρ0 := _) (Γ0 := _) (⟨0, rfl, by omega, rfl, rfl, rfl⟩) (by repeat (first | exact trivial | refine ⟨rfl, ?_⟩)) Sub.ent ?_
    rintro q ρ' Γ' ⟨i, hq, hi, hsu, rfl, rfl⟩
    refine S.seq fun K7 hK7 => ?_
    refine S.region rfl ?_
    refine S.op (S.q (q_lt rfl rfl) rfl rfl ?_)
    first | with_reducible refine S.nilK ?_ | refine S.nil ?_
    refine hK7 _ _ ?_
    refine S.seq fun K8 hK8 => ?_
    refine S.condD rfl (fun h2 => ?_) (fun h2 => ?_)
    · refine S.rSome hA (by omega) fun sb so hsa => ?_
      refine S.rSome hB (by omega) fun tb tf hta => ?_
      obtain ⟨x, hx⟩ := getE (show i < k.length by omega)
      obtain ⟨y, hy⟩ := getE (show i < l.length by omega)
      have hsu2 : sameUp k l (i + 1) = decide (x = y) := by rw [sameUp, hsu]; simp [List.getD, hx, hy]
      refine S.skip ?_
      with_reducible repeat (first | refine S.then_n ?_ | refine S.then_x ?_ | refine S.then_r ?_ | refine S.inBlock_n ?_ | refine S.inBlock_r ?_ | refine S.inBlock_x rfl ?_ | refine S.noGoto_r ?_ | refine S.noGoto_n ?_ | refine S.noGoto_x ?_)
      refine hK8 _ _ ?_
      refine S.seq fun K9 hK9 => ?_
      refine S.block ?_
      refine S.seq fun K10 hK10 => ?_
      refine S.region rfl ?_
      refine S.op (S.q (q_move rfl) rfl rfl ?_)
      refine S.op (S.q (q_assign rfl) rfl rfl ?_)
      first | with_reducible refine S.nilK ?_ | refine S.nil ?_
      refine hK10 _ _ ?_
      refine S.seq fun K11 hK11 => ?_
      refine S.draw ([A, B]) [] Tryd.mixed ?_
      refine S.dr_take 0 [] rfl (by kernel_rfl) rfl rfl rfl (q_move rfl) Sub.ent ?_
      refine S.dr_take 1 [] rfl (by kernel_rfl) rfl rfl rfl (q_move rfl) Sub.ent ?_
      refine S.dr_take 2 [] rfl (by kernel_rfl) rfl rfl rfl (q_indexO (i) Tryd.el31 rfl hsa rfl rfl (by omega)) Sub.ent ?_
      refine S.dr_take 3 [] rfl (by kernel_rfl) rfl rfl rfl (q_loadR hA i Tryd.at68 rfl hsa (by omega) (by omega) (u32s_get hx)) Sub.ent ?_
      refine S.dr_take 4 [] rfl (by kernel_rfl) rfl rfl rfl (q_move rfl) Sub.ent ?_
      refine S.dr_take 5 [] rfl (by kernel_rfl) rfl rfl rfl (q_move rfl) Sub.ent ?_
      refine S.dr_take 6 [] rfl (by kernel_rfl) rfl rfl rfl (q_indexO (i) Tryd.el31 rfl hta rfl rfl (by omega)) Sub.ent ?_
      refine S.dr_take 7 [] rfl (by kernel_rfl) rfl rfl rfl (q_loadR hB i Tryd.at68 rfl hta (by omega) (by omega) (u32s_get hy)) Sub.ent ?_
      refine S.dr_take 8 [] rfl (by kernel_rfl) rfl rfl rfl (q_ne rfl rfl) Sub.ent ?_
      first | with_reducible refine S.dr_doneK (by kernel_rfl) ?_ | refine S.dr_done (by kernel_rfl) ?_
      refine hK11 _ _ ?_
      refine S.condD rfl (fun h3 => ?_) (fun h3 => ?_)
      · have hne : k ≠ l := fun e => h3 (by rw [e, hy] at hx; exact (Option.some.inj hx).symm)
        refine S.seq fun K12 hK12 => ?_
        refine S.region rfl ?_
        refine S.op (S.q (q_assign rfl) rfl rfl ?_)
        first | with_reducible refine S.nilK ?_ | refine S.nil ?_
        refine hK12 _ _ ?_
        refine S.ret ?_
        with_reducible repeat (first | refine S.then_n ?_ | refine S.then_x ?_ | refine S.then_r ?_ | refine S.inBlock_n ?_ | refine S.inBlock_r ?_ | refine S.inBlock_x rfl ?_ | refine S.noGoto_r ?_ | refine S.noGoto_n ?_ | refine S.noGoto_x ?_)
        exact S.fin (rs := [_]) (vs := [_]) Tryd.results12 (⟨rfl, trivial⟩)  (⟨by simp only [resV]; rw [decide_eq_false hne], rfl⟩) Sub.ent
      · have hxy : x = y := Classical.byContradiction h3
        refine S.skip ?_
        with_reducible repeat (first | refine S.then_n ?_ | refine S.then_x ?_ | refine S.then_r ?_ | refine S.inBlock_n ?_ | refine S.inBlock_r ?_ | refine S.inBlock_x rfl ?_ | refine S.noGoto_r ?_ | refine S.noGoto_n ?_ | refine S.noGoto_x ?_)
        with_reducible repeat (first | refine S.then_n ?_ | refine S.then_x ?_ | refine S.then_r ?_ | refine S.inBlock_n ?_ | refine S.inBlock_r ?_ | refine S.inBlock_x rfl ?_ | refine S.noGoto_r ?_ | refine S.noGoto_n ?_ | refine S.noGoto_x ?_)
        refine hK9 _ _ ?_
        refine S.region rfl ?_
        refine S.op (S.q (q_add rfl rfl (inI64 (by omega) (by omega))) rfl rfl ?_)
        refine S.op (S.q (q_move rfl) rfl rfl ?_)
        first | with_reducible refine S.nilK ?_ | refine S.nil ?_
        with_reducible repeat (first | refine S.then_n ?_ | refine S.then_x ?_ | refine S.then_r ?_ | refine S.inBlock_n ?_ | refine S.inBlock_r ?_ | refine S.inBlock_x rfl ?_ | refine S.noGoto_r ?_ | refine S.noGoto_n ?_ | refine S.noGoto_x ?_)
        exact S.next (q - 1) (⟨i + 1, by omega, by omega, by rw [hsu2]; exact decide_eq_true hxy, rfl, rfl⟩) (by omega) (by repeat (first | exact trivial | refine ⟨rfl, ?_⟩)) Sub.ent
    · have hik : i = k.length := by omega
      rw [hik, sameUp_eq hlen] at hsu
      refine S.exit ?_
      with_reducible repeat (first | refine S.then_n ?_ | refine S.then_x ?_ | refine S.then_r ?_ | refine S.inBlock_n ?_ | refine S.inBlock_r ?_ | refine S.inBlock_x rfl ?_ | refine S.noGoto_r ?_ | refine S.noGoto_n ?_ | refine S.noGoto_x ?_)
      with_reducible refine S.inBlock_s ?_
      with_reducible repeat (first | refine S.then_n ?_ | refine S.then_x ?_ | refine S.then_r ?_ | refine S.inBlock_n ?_ | refine S.inBlock_r ?_ | refine S.inBlock_x rfl ?_ | refine S.noGoto_r ?_ | refine S.noGoto_n ?_ | refine S.noGoto_x ?_)
      refine hK5 _ _ ?_
      refine S.seq fun K13 hK13 => ?_
      refine S.region rfl ?_
      refine S.op (S.q (q_assign rfl) rfl rfl ?_)
      first | with_reducible refine S.nilK ?_ | refine S.nil ?_
      refine hK13 _ _ ?_
      refine S.ret ?_
      with_reducible repeat (first | refine S.then_n ?_ | refine S.then_x ?_ | refine S.then_r ?_ | refine S.inBlock_n ?_ | refine S.inBlock_r ?_ | refine S.inBlock_x rfl ?_ | refine S.noGoto_r ?_ | refine S.noGoto_n ?_ | refine S.noGoto_x ?_)
      exact S.fin (rs := [_]) (vs := [_]) Tryd.results12 (⟨rfl, trivial⟩)  (⟨by simp only [resV]; rw [hsu], rfl⟩) Sub.ent
abbrev casts (l : List Nat) : List Int := l.map fun i : Nat => (i : Int)
theorem rdNds (s : SV) (T : TypeId) (l : List Nat) : RdS (own s T 1 (nds l)) s s.n 1 (ints (casts l)) := by
  have e : ints (casts l) = nds l := by simp
  rw [e]
  exact RdS.own
theorem rdIds (s : SV) (T : TypeId) (l : List Nat) : RdS (own s T 1 (idsV l)) s s.n 1 (u32s (casts l)) := by
  have e : u32s (casts l) = idsV l := by simp
  rw [e]
  exact RdS.own
end Go.Proofs.YtegjmmocnffpiaaDoor
/- The document's matrix: cells, and which nodes are up; New. -/
namespace Go.Proofs.YtegjmmocnffpiaaDoor
open Go.RowKit
set_option maxRecDepth 20000
def rowN (m : Mx) (r : Nat) : List Nat := (List.range m.N).map (atJ m.js r)
theorem rowN_len (m : Mx) (r : Nat) : (rowN m r).length = m.N := by rw [rowN, List.length_map, List.length_range]
theorem rowN_get {m : Mx} {i : Nat} (h : i < m.N) (r : Nat) : (rowN m r)[i]? = some (atJ m.js r i) := by simp [rowN, h]
abbrev Rr := SV × List Nat
abbrev rrV (p : Rr) : Value := p.1.v
abbrev rrB (p : Rr) : Assn := own p.1 68 1 (idsV p.2)
abbrev upC (m : Mx) : List Value := (List.range m.N).map fun i => .bool (m.up.getLsbD i)
structure RiOk (m : Mx) (cs us : SV) (rs : List Rr) : Prop where
  ok : MxOk m
  cn : cs.n = m.R
  un : us.n = m.N
  dat : rs.map (·.2) = (List.range m.R).map (rowN m)
  len : ∀ p ∈ rs, p.1.n = m.N
theorem RiOk.rlen {m : Mx} {cs us : SV} {rs : List Rr} (h : RiOk m cs us rs) : rs.length = m.R := by
  have := congrArg List.length h.dat
  simpa using this
theorem RiOk.at_ {m : Mx} {cs us : SV} {rs : List Rr} (h : RiOk m cs us rs) {r : Nat} (hr : r < m.R) : ∃ p : Rr, rs[r]? = some p ∧ p.2 = rowN m r ∧ p.1.n = m.N := by
  have h1 := List.getElem?_eq_getElem (show r < rs.length by rw [h.rlen]; exact hr)
  refine ⟨rs[r]'(by rw [h.rlen]; exact hr), h1, ?_, h.len _ (List.getElem_mem _)⟩
  have h2 := congrArg (fun l => l[r]?) h.dat
  simp only [List.getElem?_map, h1, List.getElem?_range hr, Option.map_some] at h2
  exact Option.some.inj h2
def RI (b : Nat) (m : Mx) : Assn := fun h => ∃ (cs us : SV) (rs : List Rr), RiOk m cs us rs ∧ stars [blk b 55 #[cs.v, us.v], own cs 31 1 (rs.map rrV), own us 4 1 (upC m), alls rs rrB] h
section
variable {n : Nat} {md : Bool} {w0 : WM md} {ρ : Env} {Γ Δ : List Assn} {φ : Act → World → Prop}
theorem S.riOpen (b : Nat) (m : Mx) [p : Pick (RI b m) Γ Δ] (k : ∀ cs us rs, RiOk m cs us rs → S n w0 ρ (blk b 55 #[cs.v, us.v] :: own cs 31 1 (rs.map rrV) :: own us 4 1 (upC m) :: alls rs rrB :: Δ) φ) : S n w0 ρ Γ φ := by
  intro a w ha hs hx
  obtain ⟨h0, l0, h1, h2, d, l1, l2, ⟨cs, us, rs, q1, q4⟩, s⟩ := hs.ent p.ent
  exact k cs us rs q1 a w ha ⟨h0, l0, (Ent.unpack [blk b 55 #[cs.v, us.v], own cs 31 1 (rs.map rrV), own us 4 1 (upC m), alls rs rrB] Δ) _ ⟨h1, h2, d, l1, l2, q4, s⟩⟩ hx
theorem Ent.ri {b : Nat} {m : Mx} {cs us : SV} {rs : List Rr} (h : RiOk m cs us rs) (Γ : List Assn) : Ent (blk b 55 #[cs.v, us.v] :: own cs 31 1 (rs.map rrV) :: own us 4 1 (upC m) :: alls rs rrB :: Γ) (RI b m :: Γ) :=
  (Ent.pack [blk b 55 #[cs.v, us.v], own cs 31 1 (rs.map rrV), own us 4 1 (upC m), alls rs rrB] Γ).trans (Ent.mono1 Γ fun _ s => ⟨cs, us, rs, h, s⟩)
theorem S.riClose (b : Nat) (m : Mx) (cs us : SV) (rs : List Rr) {Δ1 Δ2 Δ3 Δ4 : List Assn} (h : RiOk m cs us rs) [p1 : Pick (blk b 55 #[cs.v, us.v]) Γ Δ1] [p2 : Pick (own cs 31 1 (rs.map rrV)) Δ1 Δ2] [p3 : Pick (own us 4 1 (upC m)) Δ2 Δ3] [p4 : Pick (alls rs rrB) Δ3 Δ4]
    (k : S n w0 ρ (RI b m :: Δ4) φ) : S n w0 ρ Γ φ :=
  S.ent ((p1.ent.trans ((p2.ent.trans ((p3.ent.trans (p4.ent.cons _)).cons _)).cons _)).trans (Ent.ri h Δ4)) k
end
theorem Spec.riOk {b : Nat} {m : Mx} {P : Program} {f : FuncId} {args : List Value} {pre : List Assn} {post : List Assn → Value → List Assn → Prop} {md : Bool} (h : MxOk m → Spec P f args (RI b m :: pre) post md) : Spec P f args (RI b m :: pre) post md := by
  intro Γ w hs
  obtain ⟨_, _, _, _, _, q1, _⟩ := hs.head
  exact h q1.ok Γ w hs
theorem rowN_mx0 (R N r : Nat) : rowN (mx0 R N) r = List.replicate N 0 := by
  refine List.eq_replicate_iff.2 ⟨rowN_len _ _, fun v hv => ?_⟩
  obtain ⟨i, _, rfl⟩ := List.mem_map.1 hv
  rfl
theorem zeroRow_ids (N : Nat) : zeroRow [Value.int .u32 0] N = idsV (List.replicate N 0) := by
  induction N with
  | zero => rfl
  | succ N ih => rw [zeroRow, ih, List.replicate_succ]; rfl
theorem upC_mx0 (R : Nat) {N : Nat} (h : N ≤ 16) : upC (mx0 R N) = List.replicate N (.bool true) := by
  refine List.eq_replicate_iff.2 ⟨by simp; rfl, fun v hv => ?_⟩
  obtain ⟨i, hi, rfl⟩ := List.mem_map.1 hv
  rw [show (mx0 R N).up.getLsbD i = true from (mask_bit h i).2 (List.mem_range.1 hi)]
theorem rNew_S (R N : Nat) (hR1 : 1 ≤ R) (hR8 : R ≤ 8) (hN1 : 1 ≤ N) (hN16 : N ≤ 16) : Spec Tryd.prog 24 [.int .i64 (R : Int), .int .i64 (N : Int)] [] fun Γ v Θ => ∃ b, v = .tuple #[.pointer (some ⟨b, 0, none⟩), .int .i64 0] ∧ Θ = RI b (mx0 R N) :: Γ := by
  refine Spec.of_body Tryd.func24 rfl Tryd.ntmps24 rfl ?_
  intro w0 Γ
  show S _ w0 [(0, .int .i64 (R : Int)), (1, .int .i64 (N : Int))] Γ _
  refine S.seq fun K1 hK1 => ?_
  refine S.region rfl ?_
  refine S.op (S.q (q_assign rfl) rfl rfl ?_)
  refine S.op (S.q (q_assign rfl) rfl rfl ?_)
  first | with_reducible refine S.nilK ?_ | refine S.nil ?_
  refine hK1 _ _ ?_
  refine S.seq fun K2 hK2 => ?_
  refine S.seq fun K3 hK3 => ?_
  refine S.regionG ?_
  refine S.g_op rfl (S.q (q_move rfl) rfl rfl ?_)
  refine S.g_op rfl (S.q (q_lt rfl rfl) rfl rfl ?_)
  refine S.g_op rfl (S.q (q_move rfl) rfl rfl ?_)
  by_cases hg1_2 : (R : Int) < 1
  · omega
  · refine S.g_yes rfl rfl rfl (decide_eq_false hg1_2) (S.q (q_move rfl) rfl rfl ?_)
    refine S.g_yes rfl rfl rfl (decide_eq_false hg1_2) (S.q (q_gt rfl rfl) rfl rfl ?_)
    refine S.g_op rfl (S.q (q_pickF rfl (decide_eq_false hg1_2) rfl) rfl rfl ?_)
    refine S.g_op rfl (S.q (q_move rfl) rfl rfl ?_)
    by_cases hg1_6 : (8 : Int) < R
    · omega
    · refine S.g_yes rfl rfl rfl (decide_eq_false hg1_6) (S.q (q_move rfl) rfl rfl ?_)
      refine S.g_yes rfl rfl rfl (decide_eq_false hg1_6) (S.q (q_lt rfl rfl) rfl rfl ?_)
      refine S.g_op rfl (S.q (q_pickF rfl (decide_eq_false hg1_6) rfl) rfl rfl ?_)
      refine S.g_op rfl (S.q (q_move rfl) rfl rfl ?_)
      by_cases hg1_10 : (N : Int) < 1
      · omega
      · refine S.g_yes rfl rfl rfl (decide_eq_false hg1_10) (S.q (q_move rfl) rfl rfl ?_)
        refine S.g_yes rfl rfl rfl (decide_eq_false hg1_10) (S.q (q_gt rfl rfl) rfl rfl ?_)
        refine S.g_op rfl (S.q (q_pickF rfl (decide_eq_false hg1_10) rfl) rfl rfl ?_)
        first | with_reducible refine S.g_nilK ?_ | refine S.g_nil ?_
        refine hK3 _ _ ?_
        refine S.condD rfl (fun h1 => ?_) (fun h1 => ?_)
        · omega
        · refine S.skip ?_
          with_reducible repeat (first | refine S.then_n ?_ | refine S.then_x ?_ | refine S.then_r ?_ | refine S.inBlock_n ?_ | refine S.inBlock_r ?_ | refine S.inBlock_x rfl ?_ | refine S.noGoto_r ?_ | refine S.noGoto_n ?_ | refine S.noGoto_x ?_)
          refine hK2 _ _ ?_
          refine S.seq fun K4 hK4 => ?_
          refine S.region rfl ?_
          refine S.op (S.q (q_build (pvs := []) [_, _] Tryd.z55 Tryd.p55 trivial rfl) rfl rfl ?_)
          refine S.op (S.box (cs := [_, _]) rfl rfl rfl ?_)
          intro b22
          refine S.op (S.q (q_assign rfl) rfl rfl ?_)
          first | with_reducible refine S.nilK ?_ | refine S.nil ?_
          refine hK4 _ _ ?_
          refine S.seq fun K5 hK5 => ?_
          refine S.seq fun K6 hK6 => ?_
          refine S.region rfl ?_
          show S _ w0 _ (blk b22 55 #[SV.nil.v, SV.nil.v] :: Γ) _
          refine S.ent (Ent.ownNil 31 1) ?_
          refine S.ent (Ent.allsNil rrB _) ?_
          show S _ w0 _ (alls [] rrB :: own SV.nil 31 1 (([] : List Rr).map rrV) :: blk b22 55 #[SV.nil.v, SV.nil.v] :: Γ) _
          refine S.op (S.q (q_move rfl) rfl rfl ?_)
          refine S.op (S.q (q_move rfl) rfl rfl ?_)
          first | with_reducible refine S.nilK ?_ | refine S.nil ?_
          refine hK6 _ _ ?_
          refine S.block ?_
          refine S.loop (fun q ρ' Γ' => ∃ (i : Nat) (rs : List Rr) (cs : SV), q = R - i ∧ i ≤ R ∧ rs.length = i ∧ cs.n = i ∧ (∀ p ∈ rs, p.1.n = N ∧ p.2 = List.replicate N 0) ∧ ρ' = [(1, .int .i64 (N : Int)), (6, .pointer (some ⟨b22, 0, none⟩)), (23, .int .i64 (R : Int)), (24, .int .i64 (i : Int))] ∧   Γ' = alls rs rrB :: own cs 31 1 (rs.map rrV) :: blk b22 55 #[cs.v, SV.nil.v] :: Γ) (m := _) (ρ0 := _) (Γ0 := _) (⟨0, [], SV.nil, rfl, by omega, rfl, rfl, fun _ h => (by cases h), rfl, rfl⟩) (by repeat (first | exact trivial | refine ⟨rfl, ?_⟩)) Sub.ent ?_
          rintro q ρ' Γ' ⟨i, rs, cs, hq, hi, hrl, hcn, hall, rfl, rfl⟩
          refine S.seq fun K7 hK7 => ?_
          refine S.region rfl ?_
          refine S.op (S.q (q_lt rfl rfl) rfl rfl ?_)
          first | with_reducible refine S.nilK ?_ | refine S.nil ?_
          refine hK7 _ _ ?_
          refine S.seq fun K8 hK8 => ?_
          refine S.condD rfl (fun h2 => ?_) (fun h2 => ?_)
          · refine S.skip ?_
            with_reducible repeat (first | refine S.then_n ?_ | refine S.then_x ?_ | refine S.then_r ?_ | refine S.inBlock_n ?_ | refine S.inBlock_r ?_ | refine S.inBlock_x rfl ?_ | refine S.noGoto_r ?_ | refine S.noGoto_n ?_ | refine S.noGoto_x ?_)
            refine hK8 _ _ ?_
            refine S.seq fun K9 hK9 => ?_
            refine S.block ?_
            refine S.draw ([blk b22 55 #[cs.v, SV.nil.v]]) [11] Tryd.mixed ?_
            refine S.dr_take 0 [9, 10, 11] rfl (by kernel_rfl) rfl rfl rfl (q_move rfl) Sub.ent ?_
            refine S.dr_take 1 [2, 3, 4, 8, 9, 10, 11] rfl (by kernel_rfl) rfl rfl rfl (q_move rfl) Sub.ent ?_
            refine S.dr_take 2 [3, 4, 8, 9, 10, 11] rfl (by kernel_rfl) rfl rfl rfl (q_nilCheck rfl) Sub.ent ?_
            refine S.dr_take 3 [4, 8, 9, 10, 11] rfl (by kernel_rfl) rfl rfl rfl (q_field Tryd.fo55_0 rfl) Sub.ent ?_
            refine S.dr_take 4 [8, 9, 10, 11] rfl (by kernel_rfl) rfl rfl rfl (q_load Tryd.at52 rfl rfl) Sub.ent ?_
            refine S.dr_take 5 [6, 7, 8, 9, 10, 11] rfl (by kernel_rfl) rfl rfl rfl (q_move rfl) Sub.ent ?_
            refine S.dr_1 (i := 6) (by kernel_rfl) rfl rfl ?_
            refine  (S.makeSlice (N) (N) Tryd.underlying31 Tryd.inf68 rfl rfl rfl rfl rfl (Nat.le_refl _) (by omega) rfl ?_)
            intro nv hnv
            refine S.dr_k rfl Sub.ent ?_
            refine S.dr_1 (i := 7) (by kernel_rfl) rfl rfl ?_
            refine  (S.buildSlice (pvs := [(_, _)]) [_] Tryd.underlying52 Tryd.inf31 rfl rfl ⟨⟨rfl, rfl⟩, trivial⟩ rfl rfl ?_)
            intro b33
            refine S.dr_k rfl Sub.ent ?_
            refine S.dr_1 (i := 8) (by kernel_rfl) rfl rfl ?_
            refine  (S.appendOw (s := cs) (1) ([nv.v]) Tryd.underlying52 Tryd.inf31 rfl rfl rfl (blk_slAt (b := b33) rfl (by unfold maxLen; omega)) (by first | rfl | exact allOne_bcells _) (⟨by omega, by omega⟩) rfl ?_)
            intro cs2 hcs2
            refine S.dr_k rfl Sub.ent ?_
            refine S.dr_take 9 [10, 11] rfl (by kernel_rfl) rfl rfl rfl (q_nilCheck rfl) Sub.ent ?_
            refine S.dr_take 10 [11] rfl (by kernel_rfl) rfl rfl rfl (q_field Tryd.fo55_0 rfl) Sub.ent ?_
            refine S.dr_1 (i := 11) (by kernel_rfl) rfl rfl ?_
            refine  (S.store (cs' := [_, _]) Tryd.at52 rfl rfl rfl rfl rfl ?_)
            refine S.dr_late ([]) [] rfl ?_
            first | with_reducible refine S.dr_doneK (by kernel_rfl) ?_ | refine S.dr_done (by kernel_rfl) ?_
            with_reducible repeat (first | refine S.then_n ?_ | refine S.then_x ?_ | refine S.then_r ?_ | refine S.inBlock_n ?_ | refine S.inBlock_r ?_ | refine S.inBlock_x rfl ?_ | refine S.noGoto_r ?_ | refine S.noGoto_n ?_ | refine S.noGoto_x ?_)
            refine hK9 _ _ ?_
            refine S.region rfl ?_
            refine S.op (S.q (q_add rfl rfl (inI64 (by omega) (by omega))) rfl rfl ?_)
            refine S.op (S.q (q_move rfl) rfl rfl ?_)
            first | with_reducible refine S.nilK ?_ | refine S.nil ?_
            with_reducible repeat (first | refine S.then_n ?_ | refine S.then_x ?_ | refine S.then_r ?_ | refine S.inBlock_n ?_ | refine S.inBlock_r ?_ | refine S.inBlock_x rfl ?_ | refine S.noGoto_r ?_ | refine S.noGoto_n ?_ | refine S.noGoto_x ?_)
            have hall2 : ∀ p ∈ rs ++ [(nv, List.replicate N 0)], p.1.n = N ∧ p.2 = List.replicate N 0 := fun p hp => by
              rcases List.mem_append.1 hp with h9 | h9
              · exact hall p h9
              · rw [List.mem_singleton] at h9
                subst h9
                exact ⟨hnv, rfl⟩
            have hmap : rs.map rrV ++ [nv.v] = (rs ++ [((nv, List.replicate N 0) : Rr)]).map rrV := by rw [List.map_append]; rfl
            rw [hmap, zeroRow_ids]
            refine S.conv2 (own nv 68 1 (idsV (List.replicate N 0))) (alls rs rrB) (Ent.allsSnoc rrB rs ((nv, List.replicate N 0) : Rr) _) ?_
            exact S.next (q - 1) (⟨i + 1, rs ++ [(nv, List.replicate N 0)], cs2, by omega, by omega, by rw [List.length_append, hrl]; rfl, by omega, hall2, rfl, rfl⟩) (by omega) (by repeat (first | exact trivial | refine ⟨rfl, ?_⟩)) Sub.ent
          · have hiR : i = R := by omega
            refine S.ent (Ent.ownNil 4 1) ?_
            show S _ w0 _ (own SV.nil 4 1 (List.replicate 0 (.bool true)) :: _) _
            refine S.exit ?_
            with_reducible repeat (first | refine S.then_n ?_ | refine S.then_x ?_ | refine S.then_r ?_ | refine S.inBlock_n ?_ | refine S.inBlock_r ?_ | refine S.inBlock_x rfl ?_ | refine S.noGoto_r ?_ | refine S.noGoto_n ?_ | refine S.noGoto_x ?_)
            with_reducible refine S.inBlock_s ?_
            with_reducible repeat (first | refine S.then_n ?_ | refine S.then_x ?_ | refine S.then_r ?_ | refine S.inBlock_n ?_ | refine S.inBlock_r ?_ | refine S.inBlock_x rfl ?_ | refine S.noGoto_r ?_ | refine S.noGoto_n ?_ | refine S.noGoto_x ?_)
            refine hK5 _ _ ?_
            refine S.seq fun K10 hK10 => ?_
            refine S.seq fun K11 hK11 => ?_
            refine S.region rfl ?_
            refine S.op (S.q (q_move rfl) rfl rfl ?_)
            refine S.op (S.q (q_move rfl) rfl rfl ?_)
            first | with_reducible refine S.nilK ?_ | refine S.nil ?_
            refine hK11 _ _ ?_
            refine S.block ?_
            refine S.loop (fun q ρ' Γ' => ∃ (k : Nat) (us : SV), q = N - k ∧ k ≤ N ∧ us.n = k ∧ ρ' = [(6, .pointer (some ⟨b22, 0, none⟩)), (38, .int .i64 (N : Int)), (39, .int .i64 (k : Int))] ∧   Γ' = own us 4 1 (List.replicate k (.bool true)) :: alls rs rrB :: own cs 31 1 (rs.map rrV) :: blk b22 55 #[cs.v, us.v] :: Γ) (m := _) (ρ0 := _) (Γ0 := _) (⟨0, SV.nil, rfl, by omega, rfl, rfl, rfl⟩) (by repeat (first | exact trivial | refine ⟨rfl, ?_⟩)) Sub.ent ?_
            rintro q ρ' Γ' ⟨k, us, hq, hk, hun, rfl, rfl⟩
            refine S.seq fun K12 hK12 => ?_
            refine S.region rfl ?_
            refine S.op (S.q (q_lt rfl rfl) rfl rfl ?_)
            first | with_reducible refine S.nilK ?_ | refine S.nil ?_
            refine hK12 _ _ ?_
            refine S.seq fun K13 hK13 => ?_
            refine S.condD rfl (fun h3 => ?_) (fun h3 => ?_)
            · refine S.skip ?_
              with_reducible repeat (first | refine S.then_n ?_ | refine S.then_x ?_ | refine S.then_r ?_ | refine S.inBlock_n ?_ | refine S.inBlock_r ?_ | refine S.inBlock_x rfl ?_ | refine S.noGoto_r ?_ | refine S.noGoto_n ?_ | refine S.noGoto_x ?_)
              refine hK13 _ _ ?_
              refine S.seq fun K14 hK14 => ?_
              refine S.block ?_
              refine S.region rfl ?_
              refine S.op (S.q (q_move rfl) rfl rfl ?_)
              refine S.op (S.q (q_move rfl) rfl rfl ?_)
              refine S.op (S.q (q_nilCheck rfl) rfl rfl ?_)
              refine S.op (S.q (q_field Tryd.fo55_1 rfl) rfl rfl ?_)
              refine S.op (S.q (q_load Tryd.at53 rfl rfl) rfl rfl ?_)
              refine S.op (S.buildSlice (pvs := [(_, _)]) [_] Tryd.underlying53 Tryd.inf4 rfl rfl ⟨⟨rfl, rfl⟩, trivial⟩ rfl rfl ?_)
              intro b46
              refine S.op (S.appendOw (s := us) (1) ([.bool true]) Tryd.underlying53 Tryd.inf4 rfl rfl rfl (blk_slAt (b := b46) rfl (by unfold maxLen; omega)) (by first | rfl | exact allOne_bcells _) (⟨by omega, by omega⟩) rfl ?_)
              intro us2 hus2
              refine S.op (S.q (q_nilCheck rfl) rfl rfl ?_)
              refine S.op (S.q (q_field Tryd.fo55_1 rfl) rfl rfl ?_)
              refine S.op (S.store (cs' := [_, _]) Tryd.at53 rfl rfl rfl rfl rfl ?_)
              first | with_reducible refine S.nilK ?_ | refine S.nil ?_
              with_reducible repeat (first | refine S.then_n ?_ | refine S.then_x ?_ | refine S.then_r ?_ | refine S.inBlock_n ?_ | refine S.inBlock_r ?_ | refine S.inBlock_x rfl ?_ | refine S.noGoto_r ?_ | refine S.noGoto_n ?_ | refine S.noGoto_x ?_)
              refine hK14 _ _ ?_
              refine S.region rfl ?_
              refine S.op (S.q (q_add rfl rfl (inI64 (by omega) (by omega))) rfl rfl ?_)
              refine S.op (S.q (q_move rfl) rfl rfl ?_)
              first | with_reducible refine S.nilK ?_ | refine S.nil ?_
              with_reducible repeat (first | refine S.then_n ?_ | refine S.then_x ?_ | refine S.then_r ?_ | refine S.inBlock_n ?_ | refine S.inBlock_r ?_ | refine S.inBlock_x rfl ?_ | refine S.noGoto_r ?_ | refine S.noGoto_n ?_ | refine S.noGoto_x ?_)
              rw [show List.replicate k (Value.bool true) ++ [.bool true] = List.replicate (k + 1) (.bool true) from (List.replicate_succ').symm]
              exact S.next (q - 1) (⟨k + 1, us2, by omega, by omega, by omega, rfl, rfl⟩) (by omega) (by repeat (first | exact trivial | refine ⟨rfl, ?_⟩)) Sub.ent
            · have hkN : k = N := by omega
              rw [hkN, ← upC_mx0 R hN16]
              have hri : RiOk (mx0 R N) cs us rs := ⟨mx0_ok hR1 hR8 hN1 hN16, by rw [hcn, hiR]; rfl, by rw [hun, hkN]; rfl, by
                refine List.ext_getElem (by simp [hrl, hiR]; rfl) fun r h1 h2 => ?_
                simp only [List.getElem_map, List.getElem_range, rowN_mx0]
                exact (hall _ (List.getElem_mem _)).2, fun p hp => (hall p hp).1⟩
              refine S.exit ?_
              with_reducible repeat (first | refine S.then_n ?_ | refine S.then_x ?_ | refine S.then_r ?_ | refine S.inBlock_n ?_ | refine S.inBlock_r ?_ | refine S.inBlock_x rfl ?_ | refine S.noGoto_r ?_ | refine S.noGoto_n ?_ | refine S.noGoto_x ?_)
              with_reducible refine S.inBlock_s ?_
              with_reducible repeat (first | refine S.then_n ?_ | refine S.then_x ?_ | refine S.then_r ?_ | refine S.inBlock_n ?_ | refine S.inBlock_r ?_ | refine S.inBlock_x rfl ?_ | refine S.noGoto_r ?_ | refine S.noGoto_n ?_ | refine S.noGoto_x ?_)
              refine hK10 _ _ ?_
              refine S.seq fun K15 hK15 => ?_
              refine S.region rfl ?_
              refine S.op (S.q (q_move rfl) rfl rfl ?_)
              refine S.op (S.q (q_assign rfl) rfl rfl ?_)
              refine S.op (S.q (q_assign rfl) rfl rfl ?_)
              first | with_reducible refine S.nilK ?_ | refine S.nil ?_
              refine hK15 _ _ ?_
              refine S.ret ?_
              with_reducible repeat (first | refine S.then_n ?_ | refine S.then_x ?_ | refine S.then_r ?_ | refine S.inBlock_n ?_ | refine S.inBlock_r ?_ | refine S.inBlock_x rfl ?_ | refine S.noGoto_r ?_ | refine S.noGoto_n ?_ | refine S.noGoto_x ?_)
              refine S.riClose b22 (mx0 R N) cs us rs hri ?_
              exact S.fin (rs := [_, _]) (vs := [_, _]) Tryd.results24 (⟨rfl, rfl, trivial⟩)  (⟨b22, rfl, rfl⟩) Sub.ent
end Go.Proofs.YtegjmmocnffpiaaDoor
/- The document's matrix: Of. -/
namespace Go.Proofs.YtegjmmocnffpiaaDoor
open Go.RowKit
set_option maxRecDepth 20000
/-- The nodes below i of a row at which a job stands. -/
def ndsAt (m : Mx) (j r : Nat) : Nat → List Nat
  | 0 => []
  | i + 1 => if atJ m.js r i = j then ndsAt m j r i ++ [i] else ndsAt m j r i
theorem mem_ndsAt {m : Mx} {j r k : Nat} : ∀ {i : Nat}, k ∈ ndsAt m j r i ↔ k < i ∧ atJ m.js r k = j
  | 0 => by simp [ndsAt]
  | i + 1 => by
    rw [ndsAt]
    split
    · rename_i h
      rw [List.mem_append, mem_ndsAt, List.mem_singleton]
      constructor
      · rintro (⟨h1, h2⟩ | rfl)
        · exact ⟨by omega, h2⟩
        · exact ⟨by omega, h⟩
      · rintro ⟨h1, h2⟩
        by_cases e : k = i
        · exact .inr e
        · exact .inl ⟨by omega, h2⟩
    · rename_i h
      rw [mem_ndsAt]
      constructor
      · rintro ⟨h1, h2⟩; exact ⟨by omega, h2⟩
      · rintro ⟨h1, h2⟩
        by_cases e : k = i
        · subst e; exact absurd h2 h
        · exact ⟨by omega, h2⟩
theorem ndsAt_rise (m : Mx) (j r : Nat) : ∀ i, (ndsAt m j r i).Pairwise (· < ·)
  | 0 => List.Pairwise.nil
  | i + 1 => by
    rw [ndsAt]
    split
    · refine List.pairwise_append.2 ⟨ndsAt_rise m j r i, List.pairwise_singleton _ _, fun a ha b hb => ?_⟩
      rw [List.mem_singleton] at hb
      have := (mem_ndsAt.1 ha).1
      omega
    · exact ndsAt_rise m j r i
theorem ndsAt_len (m : Mx) (j r : Nat) : ∀ i, (ndsAt m j r i).length ≤ i
  | 0 => Nat.le_refl _
  | i + 1 => by
    have := ndsAt_len m j r i
    rw [ndsAt]
    split
    · rw [List.length_append, List.length_singleton]; omega
    · omega
theorem atJ_iff {m : Mx} (hm : MxOk m) {j r i : Nat} (hj : j ≠ 0) : atJ m.js r i = j ↔ ∃ x ∈ m.js, x.row = r ∧ x.ns.getLsbD i = true ∧ x.id = j := by
  constructor
  · intro h
    refine Classical.byContradiction fun hn => hj ?_
    rw [← h]
    refine atJ_none fun x hx e => ?_
    cases hb : x.ns.getLsbD i with
    | false => rfl
    | true => exact absurd ⟨x, hx, e, hb, (atJ_some hm hx e hb).symm.trans h⟩ hn
  · rintro ⟨x, h1, h2, h3, h4⟩
    rw [← h4]
    exact atJ_some hm h1 h2 h3
theorem ndsAt_some {m : Mx} (hm : MxOk m) {j : Nat} {x : Jb} (h : look m.js j = some x) : ndsAt m j x.row m.N = lst x.ns := by
  obtain ⟨h1, h2⟩ := look_some h
  have hj : j ≠ 0 := by have := hm.id1 x h1; omega
  refine rise_ext (ndsAt_rise _ _ _ _) (lst_rise _) fun k => ?_
  rw [mem_ndsAt, atJ_iff hm hj, mem_lst]
  constructor
  · rintro ⟨_, y, y1, _, y3, y4⟩
    rw [← id_inj hm.srt y1 h1 (y4.trans h2.symm)]
    exact y3
  · intro hk
    exact ⟨hm.ns x h1 k hk, x, h1, rfl, hk, h2⟩
theorem ndsAt_none {m : Mx} (hm : MxOk m) {j r : Nat} (hj : j ≠ 0) (h : ∀ x, look m.js j = some x → x.row ≠ r) : ndsAt m j r m.N = [] := by
  refine List.eq_nil_iff_forall_not_mem.2 fun k hk => ?_
  rw [mem_ndsAt, atJ_iff hm hj] at hk
  obtain ⟨_, x, h1, h2, _, h4⟩ := hk
  exact h x (by rw [← h4]; exact look_mem hm.srt h1) h2
theorem idsV_get {l : List Nat} {i x : Nat} (h : l[i]? = some x) : (idsV l)[i]? = some (.int .u32 (x : Int)) := by
  show (l.map _)[i]? = _
  rw [List.getElem?_map, h]
  rfl
abbrev riX (b : Nat) (m : Mx) (cs us : SV) (rs : List Rr) (Γ : List Assn) : List Assn := blk b 55 #[cs.v, us.v] :: own cs 31 1 (rs.map rrV) :: own us 4 1 (upC m) :: alls rs rrB :: Γ
/-- A contract over the document's matrix, laid open. -/
theorem Spec.riX {b : Nat} {m : Mx} {P : Program} {f : FuncId} {args : List Value} {pre : List Assn} {post : List Assn → Value → List Assn → Prop} {md : Bool} (h : ∀ cs us rs, RiOk m cs us rs → Spec P f args (riX b m cs us rs pre) post md) : Spec P f args (RI b m :: pre) post md := by
  intro Γ w hs
  obtain ⟨h0, l0, h1, h2, d, l1, l2, ⟨cs, us, rs, q1, q4⟩, s⟩ := hs
  exact h cs us rs q1 Γ w ⟨h0, l0, (Ent.unpack [blk b 55 #[cs.v, us.v], own cs 31 1 (rs.map rrV), own us 4 1 (upC m), alls rs rrB] (pre ++ Γ)) _ ⟨h1, h2, d, l1, l2, q4, s⟩⟩
theorem rOfX_S (b : Nat) (m : Mx) (j : Nat) (cs us : SV) (rs : List Rr) (hri : RiOk m cs us rs) : Spec Tryd.prog 46 [.pointer (some ⟨b, 0, none⟩), .int .u32 (j : Int)] (riX b m cs us rs []) fun Γ v Θ => ∃ sv : SV, v = .tuple #[.int .i64 (ofR m j).1, sv.v, .bool (ofR m j).2.2] ∧ sv.n = (ofR m j).2.1.length ∧
    Θ = own sv 3 1 (nds (ofR m j).2.1) :: riX b m cs us rs Γ := by
  have hm := hri.ok
  refine Spec.of_body Tryd.func46 rfl Tryd.ntmps46 rfl ?_
  intro w0 Γ
  show S _ w0 [(0, .pointer (some ⟨b, 0, none⟩)), (1, .int .u32 (j : Int))] (riX b m cs us rs Γ) _
  have hR8 := hm.R8
  have hN16 := hm.N16
  have hN1 := hm.N1
  have hR1 := hm.R1
  refine S.seq fun K1 hK1 => ?_
  refine S.region rfl ?_
  refine S.op (S.q (q_assign rfl) rfl rfl ?_)
  refine S.op (S.q (q_assign rfl) rfl rfl ?_)
  refine S.op (S.q (q_assign rfl) rfl rfl ?_)
  first | with_reducible refine S.nilK ?_ | refine S.nil ?_
  refine hK1 _ _ ?_
  refine S.seq fun K2 hK2 => ?_
  refine S.seq fun K3 hK3 => ?_
  refine S.regionG ?_
  refine S.g_op rfl (S.q (q_move rfl) rfl rfl ?_)
  refine S.g_op rfl (S.q (q_eqN Tryd.underlying26 rfl rfl) rfl rfl ?_)
  refine S.g_op rfl (S.q (q_move rfl) rfl rfl ?_)
  refine S.g_yes rfl rfl rfl (rfl) (S.q (q_move rfl) rfl rfl ?_)
  refine S.g_yes rfl rfl rfl (rfl) (S.q (q_eq rfl rfl) rfl rfl ?_)
  refine S.g_op rfl (S.q (q_pickF rfl (rfl) rfl) rfl rfl ?_)
  first | with_reducible refine S.g_nilK ?_ | refine S.g_nil ?_
  refine hK3 _ _ ?_
  refine S.condD rfl (fun h1 => ?_) (fun h1 => ?_)
  · have hn : look m.js j = none := by
      cases h : look m.js j with
      | none => rfl
      | some x => obtain ⟨q1, q2⟩ := look_some h; have := hm.id1 x q1; omega
    refine S.seq fun K4 hK4 => ?_
    refine S.region rfl ?_
    refine S.op (S.q (q_assign rfl) rfl rfl ?_)
    refine S.op (S.q (q_assign rfl) rfl rfl ?_)
    refine S.op (S.q (q_assign rfl) rfl rfl ?_)
    first | with_reducible refine S.nilK ?_ | refine S.nil ?_
    refine hK4 _ _ ?_
    refine S.ret ?_
    with_reducible repeat (first | refine S.then_n ?_ | refine S.then_x ?_ | refine S.then_r ?_ | refine S.inBlock_n ?_ | refine S.inBlock_r ?_ | refine S.inBlock_x rfl ?_ | refine S.noGoto_r ?_ | refine S.noGoto_n ?_ | refine S.noGoto_x ?_)
    refine S.ent (Ent.ownNil 3 1) ?_
    show S _ w0 _ (own SV.nil 3 1 (nds []) :: riX b m cs us rs Γ) _
    exact S.fin (rs := [_, _, _]) (vs := [_, _, _]) Tryd.results46 (⟨rfl, rfl, rfl, trivial⟩)  (⟨SV.nil, by rw [ofR_none hn]; rfl, by rw [ofR_none hn]; rfl, by rw [ofR_none hn]⟩) Sub.ent
  · have hj0 : j ≠ 0 := by omega
    have hcn := hri.cn
    have hrl := hri.rlen
    refine S.ownSome cs (by omega) fun cb co hca _ _ _ => ?_
    refine S.skip ?_
    with_reducible repeat (first | refine S.then_n ?_ | refine S.then_x ?_ | refine S.then_r ?_ | refine S.inBlock_n ?_ | refine S.inBlock_r ?_ | refine S.inBlock_x rfl ?_ | refine S.noGoto_r ?_ | refine S.noGoto_n ?_ | refine S.noGoto_x ?_)
    refine hK2 _ _ ?_
    refine S.seq fun K5 hK5 => ?_
    refine S.seq fun K6 hK6 => ?_
    refine S.region rfl ?_
    refine S.op (S.q (q_move rfl) rfl rfl ?_)
    refine S.op (S.q (q_nilCheck rfl) rfl rfl ?_)
    refine S.op (S.q (q_field Tryd.fo55_0 rfl) rfl rfl ?_)
    refine S.op (S.q (q_load Tryd.at52 rfl rfl) rfl rfl ?_)
    refine S.op (S.q (q_len Tryd.underlying52 rfl) rfl rfl ?_)
    refine S.op (S.q (q_move rfl) rfl rfl ?_)
    first | with_reducible refine S.nilK ?_ | refine S.nil ?_
    refine hK6 _ _ ?_
    refine S.block ?_
    refine S.loop (fun q ρ' Γ' => ∃ o : Nat, q = m.R - o ∧ o ≤ m.R ∧ (∀ x, look m.js j = some x → o ≤ x.row) ∧ ρ' = [(1, .int .u32 (j : Int)), (21, cs.v), (22, .int .i64 cs.n), (23, .int .i64 (o : Int))] ∧ Γ' = blk b 55 #[cs.v, us.v] :: own cs 31 1 (rs.map rrV) :: own us 4 1 (upC m) :: alls rs rrB :: Γ) (m := _) (ρ0 := _) (Γ0 := _) (⟨0, rfl, by omega, fun _ _ => Nat.zero_le _, rfl, rfl⟩) (by repeat (first | exact trivial | refine ⟨rfl, ?_⟩)) Sub.ent ?_
    rintro q ρ' Γ' ⟨o, hq, ho, hno, rfl, rfl⟩
    refine S.seq fun K7 hK7 => ?_
    refine S.region rfl ?_
    refine S.op (S.q (q_lt rfl rfl) rfl rfl ?_)
    first | with_reducible refine S.nilK ?_ | refine S.nil ?_
    refine hK7 _ _ ?_
    refine S.seq fun K8 hK8 => ?_
    refine S.condD rfl (fun h2 => ?_) (fun h2 => ?_)
    · obtain ⟨p, hp, hpd, hpn⟩ := hri.at_ (show o < m.R by omega)
      have hRp : RdS (alls rs rrB) p.1 p.1.n 1 (idsV p.2) := RdS.alls hp RdS.own
      refine S.rSome hRp (by omega) fun pb po hpa => ?_
      refine S.skip ?_
      with_reducible repeat (first | refine S.then_n ?_ | refine S.then_x ?_ | refine S.then_r ?_ | refine S.inBlock_n ?_ | refine S.inBlock_r ?_ | refine S.inBlock_x rfl ?_ | refine S.noGoto_r ?_ | refine S.noGoto_n ?_ | refine S.noGoto_x ?_)
      refine hK8 _ _ ?_
      refine S.seq fun K9 hK9 => ?_
      refine S.block ?_
      refine S.seq fun K10 hK10 => ?_
      refine S.region rfl ?_
      refine S.op (S.q (q_move rfl) rfl rfl ?_)
      refine S.op (S.q (q_indexO (o) Tryd.el52 rfl hca rfl rfl (by omega)) rfl rfl ?_)
      refine S.op (S.q (q_loadOw (cs) (o) Tryd.at31 rfl hca (by first | rfl | exact Nat.add_assoc _ _ _ | omega) (by rw [List.getElem?_map, hp]; rfl)) rfl rfl ?_)
      refine S.op (S.q (q_assign rfl) rfl rfl ?_)
      refine S.op (S.q (q_assign rfl) rfl rfl ?_)
      first | with_reducible refine S.nilK ?_ | refine S.nil ?_
      refine hK10 _ _ ?_
      refine S.seq fun K11 hK11 => ?_
      refine S.region rfl ?_
      refine S.ent (Ent.ownNil 3 1) ?_
      show S _ w0 _ (own SV.nil 3 1 (nds (ndsAt m j o 0)) :: _) _
      refine S.op (S.q (q_assign rfl) rfl rfl ?_)
      first | with_reducible refine S.nilK ?_ | refine S.nil ?_
      refine hK11 _ _ ?_
      refine S.seq fun K12 hK12 => ?_
      refine S.seq fun K13 hK13 => ?_
      refine S.region rfl ?_
      refine S.op (S.q (q_move rfl) rfl rfl ?_)
      refine S.op (S.q (q_len Tryd.underlying31 rfl) rfl rfl ?_)
      refine S.op (S.q (q_move rfl) rfl rfl ?_)
      first | with_reducible refine S.nilK ?_ | refine S.nil ?_
      refine hK13 _ _ ?_
      refine S.block ?_
      refine S.loop (fun q2 ρ' Γ' => ∃ (k : Nat) (sv : SV) (nl : List Nat), q2 = m.N - k ∧ k ≤ m.N ∧ nl = ndsAt m j o k ∧ sv.n = nl.length ∧ ρ' = [(1, .int .u32 (j : Int)), (7, .int .i64 (o : Int)), (9, sv.v), (21, cs.v), (22, .int .i64 cs.n), (23, .int .i64 (o : Int)), (28, p.1.v), (29, .int .i64 p.1.n), (30, .int .i64 (k : Int))] ∧   Γ' = own sv 3 1 (nds nl) :: blk b 55 #[cs.v, us.v] :: own cs 31 1 (rs.map rrV) :: own us 4 1 (upC m) :: alls rs rrB :: Γ) (m := _) (ρ0 := _) (Γ0 := _) (⟨0, SV.nil, ndsAt m j o 0, rfl, by omega, rfl, rfl, rfl, rfl⟩) (by repeat (first | exact trivial | refine ⟨rfl, ?_⟩)) Sub.ent ?_
      rintro q2 ρ' Γ' ⟨k, sv, nl, hq2, hk, hnl, hsv, rfl, rfl⟩
      have hlen := ndsAt_len m j o k
      rw [← hnl] at hlen
      refine S.seq fun K14 hK14 => ?_
      refine S.region rfl ?_
      refine S.op (S.q (q_lt rfl rfl) rfl rfl ?_)
      first | with_reducible refine S.nilK ?_ | refine S.nil ?_
      refine hK14 _ _ ?_
      refine S.seq fun K15 hK15 => ?_
      refine S.condD rfl (fun h3 => ?_) (fun h3 => ?_)
      · have hxa := rowN_get (m := m) (i := k) (by omega) o
        rw [← hpd] at hxa
        refine S.skip ?_
        with_reducible repeat (first | refine S.then_n ?_ | refine S.then_x ?_ | refine S.then_r ?_ | refine S.inBlock_n ?_ | refine S.inBlock_r ?_ | refine S.inBlock_x rfl ?_ | refine S.noGoto_r ?_ | refine S.noGoto_n ?_ | refine S.noGoto_x ?_)
        refine hK15 _ _ ?_
        refine S.seq fun K16 hK16 => ?_
        refine S.block ?_
        refine S.seq fun K17 hK17 => ?_
        refine S.region rfl ?_
        refine S.op (S.q (q_move rfl) rfl rfl ?_)
        refine S.op (S.q (q_indexO (k) Tryd.el31 rfl hpa rfl rfl (by omega)) rfl rfl ?_)
        refine S.op (S.q (q_loadR hRp k Tryd.at68 rfl hpa (by omega) (by omega) (idsV_get hxa)) rfl rfl ?_)
        refine S.op (S.q (q_assign rfl) rfl rfl ?_)
        refine S.op (S.q (q_assign rfl) rfl rfl ?_)
        first | with_reducible refine S.nilK ?_ | refine S.nil ?_
        refine hK17 _ _ ?_
        refine S.seq fun K18 hK18 => ?_
        refine S.region rfl ?_
        refine S.op (S.q (q_move rfl) rfl rfl ?_)
        refine S.op (S.q (q_move rfl) rfl rfl ?_)
        refine S.op (S.q (q_eq rfl rfl) rfl rfl ?_)
        first | with_reducible refine S.nilK ?_ | refine S.nil ?_
        refine hK18 _ _ ?_
        refine S.condD rfl (fun h4 => ?_) (fun h4 => ?_)
        · have hs4 : nl ++ [k] = ndsAt m j o (k + 1) := by rw [ndsAt, if_pos (by omega), hnl]
          have hl4 : (nl ++ [k]).length = nl.length + 1 := by simp
          have hd4 : nds nl ++ [.int .i64 (k : Int)] = nds (nl ++ [k]) := by simp
          refine S.region rfl ?_
          refine S.op (S.q (q_move rfl) rfl rfl ?_)
          refine S.op (S.q (q_move rfl) rfl rfl ?_)
          refine S.op (S.buildSlice (pvs := [(_, _)]) [_] Tryd.underlying69 Tryd.inf3 rfl rfl ⟨⟨rfl, rfl⟩, trivial⟩ rfl rfl ?_)
          intro b40
          refine S.op (S.appendOw (s := sv) (1) ([.int .i64 (k : Int)]) Tryd.underlying69 Tryd.inf3 rfl rfl rfl (blk_slAt (b := b40) rfl (by unfold maxLen; omega)) (by first | rfl | exact allOne_bcells _) (⟨by omega, by omega⟩) rfl ?_)
          intro sv2 hsv2
          refine S.op (S.q (q_assign rfl) rfl rfl ?_)
          first | with_reducible refine S.nilK ?_ | refine S.nil ?_
          with_reducible repeat (first | refine S.then_n ?_ | refine S.then_x ?_ | refine S.then_r ?_ | refine S.inBlock_n ?_ | refine S.inBlock_r ?_ | refine S.inBlock_x rfl ?_ | refine S.noGoto_r ?_ | refine S.noGoto_n ?_ | refine S.noGoto_x ?_)
          refine hK16 _ _ ?_
          refine S.region rfl ?_
          refine S.op (S.q (q_add rfl rfl (inI64 (by omega) (by omega))) rfl rfl ?_)
          refine S.op (S.q (q_move rfl) rfl rfl ?_)
          first | with_reducible refine S.nilK ?_ | refine S.nil ?_
          with_reducible repeat (first | refine S.then_n ?_ | refine S.then_x ?_ | refine S.then_r ?_ | refine S.inBlock_n ?_ | refine S.inBlock_r ?_ | refine S.inBlock_x rfl ?_ | refine S.noGoto_r ?_ | refine S.noGoto_n ?_ | refine S.noGoto_x ?_)
          first | (rw [hd4]; exact S.next (q2 - 1) ⟨k + 1, sv2, nl ++ [k], by omega, by omega, hs4, by omega, rfl, rfl⟩ (by omega) (by repeat (first | exact trivial | refine ⟨rfl, ?_⟩)) Sub.ent) | exact S.next (q2 - 1) ⟨k + 1, sv, nl, by omega, by omega, hs4, hsv, rfl, rfl⟩ (by omega) (by repeat (first | exact trivial | refine ⟨rfl, ?_⟩)) Sub.ent
        · have hs4 : nl = ndsAt m j o (k + 1) := by rw [ndsAt, if_neg (by omega), hnl]
          refine S.skip ?_
          with_reducible repeat (first | refine S.then_n ?_ | refine S.then_x ?_ | refine S.then_r ?_ | refine S.inBlock_n ?_ | refine S.inBlock_r ?_ | refine S.inBlock_x rfl ?_ | refine S.noGoto_r ?_ | refine S.noGoto_n ?_ | refine S.noGoto_x ?_)
          with_reducible repeat (first | refine S.then_n ?_ | refine S.then_x ?_ | refine S.then_r ?_ | refine S.inBlock_n ?_ | refine S.inBlock_r ?_ | refine S.inBlock_x rfl ?_ | refine S.noGoto_r ?_ | refine S.noGoto_n ?_ | refine S.noGoto_x ?_)
          refine hK16 _ _ ?_
          refine S.region rfl ?_
          refine S.op (S.q (q_add rfl rfl (inI64 (by omega) (by omega))) rfl rfl ?_)
          refine S.op (S.q (q_move rfl) rfl rfl ?_)
          first | with_reducible refine S.nilK ?_ | refine S.nil ?_
          with_reducible repeat (first | refine S.then_n ?_ | refine S.then_x ?_ | refine S.then_r ?_ | refine S.inBlock_n ?_ | refine S.inBlock_r ?_ | refine S.inBlock_x rfl ?_ | refine S.noGoto_r ?_ | refine S.noGoto_n ?_ | refine S.noGoto_x ?_)
          first | (rw [hd4]; exact S.next (q2 - 1) ⟨k + 1, sv2, nl ++ [k], by omega, by omega, hs4, by omega, rfl, rfl⟩ (by omega) (by repeat (first | exact trivial | refine ⟨rfl, ?_⟩)) Sub.ent) | exact S.next (q2 - 1) ⟨k + 1, sv, nl, by omega, by omega, hs4, hsv, rfl, rfl⟩ (by omega) (by repeat (first | exact trivial | refine ⟨rfl, ?_⟩)) Sub.ent
      · have hkN : k = m.N := by omega
        rw [hkN] at hnl
        refine S.exit ?_
        with_reducible repeat (first | refine S.then_n ?_ | refine S.then_x ?_ | refine S.then_r ?_ | refine S.inBlock_n ?_ | refine S.inBlock_r ?_ | refine S.inBlock_x rfl ?_ | refine S.noGoto_r ?_ | refine S.noGoto_n ?_ | refine S.noGoto_x ?_)
        with_reducible refine S.inBlock_s ?_
        with_reducible repeat (first | refine S.then_n ?_ | refine S.then_x ?_ | refine S.then_r ?_ | refine S.inBlock_n ?_ | refine S.inBlock_r ?_ | refine S.inBlock_x rfl ?_ | refine S.noGoto_r ?_ | refine S.noGoto_n ?_ | refine S.noGoto_x ?_)
        refine hK12 _ _ ?_
        refine S.seq fun K19 hK19 => ?_
        refine S.region rfl ?_
        refine S.op (S.q (q_move rfl) rfl rfl ?_)
        refine S.op (S.q (q_len Tryd.underlying69 rfl) rfl rfl ?_)
        refine S.op (S.q (q_gt rfl rfl) rfl rfl ?_)
        first | with_reducible refine S.nilK ?_ | refine S.nil ?_
        refine hK19 _ _ ?_
        refine S.condD rfl (fun h5 => ?_) (fun h5 => ?_)
        · have hx5 : ∃ x, look m.js j = some x ∧ x.row = o := Classical.byContradiction fun hn => by
            rw [ndsAt_none hm hj0 fun x hx e => hn ⟨x, hx, e⟩] at hnl
            rw [hnl] at hsv
            simp at hsv
            omega
          obtain ⟨x, hx, hxo⟩ := hx5
          have hfin : ofR m j = ((o : Int), nl, true) := by rw [ofR_some hx, hxo, hnl, ← hxo, ndsAt_some hm hx]
          refine S.seq fun K20 hK20 => ?_
          refine S.region rfl ?_
          refine S.op (S.q (q_move rfl) rfl rfl ?_)
          refine S.op (S.q (q_move rfl) rfl rfl ?_)
          refine S.op (S.q (q_assign rfl) rfl rfl ?_)
          refine S.op (S.q (q_assign rfl) rfl rfl ?_)
          refine S.op (S.q (q_assign rfl) rfl rfl ?_)
          first | with_reducible refine S.nilK ?_ | refine S.nil ?_
          refine hK20 _ _ ?_
          refine S.ret ?_
          with_reducible repeat (first | refine S.then_n ?_ | refine S.then_x ?_ | refine S.then_r ?_ | refine S.inBlock_n ?_ | refine S.inBlock_r ?_ | refine S.inBlock_x rfl ?_ | refine S.noGoto_r ?_ | refine S.noGoto_n ?_ | refine S.noGoto_x ?_)
          exact S.fin (rs := [_, _, _]) (vs := [_, _, _]) Tryd.results46 (⟨rfl, rfl, rfl, trivial⟩)  (⟨sv, by rw [hfin]; rfl, by rw [hfin]; exact hsv, by rw [hfin]⟩) Sub.ent
        · have hno2 : ∀ x, look m.js j = some x → o + 1 ≤ x.row := fun x hx => by
            have h8 := hno x hx
            by_cases e : x.row = o
            · have h9 := ndsAt_some hm hx
              rw [e, ← hnl] at h9
              have h7 := hm.some x (look_some hx).1
              rw [h9] at hsv
              have : (lst x.ns).length ≠ 0 := fun e2 => h7 (lst_nil.1 (List.length_eq_zero_iff.1 e2))
              omega
            · omega
          refine S.skip ?_
          with_reducible repeat (first | refine S.then_n ?_ | refine S.then_x ?_ | refine S.then_r ?_ | refine S.inBlock_n ?_ | refine S.inBlock_r ?_ | refine S.inBlock_x rfl ?_ | refine S.noGoto_r ?_ | refine S.noGoto_n ?_ | refine S.noGoto_x ?_)
          with_reducible repeat (first | refine S.then_n ?_ | refine S.then_x ?_ | refine S.then_r ?_ | refine S.inBlock_n ?_ | refine S.inBlock_r ?_ | refine S.inBlock_x rfl ?_ | refine S.noGoto_r ?_ | refine S.noGoto_n ?_ | refine S.noGoto_x ?_)
          refine hK9 _ _ ?_
          refine S.region rfl ?_
          refine S.op (S.q (q_add rfl rfl (inI64 (by omega) (by omega))) rfl rfl ?_)
          refine S.op (S.q (q_move rfl) rfl rfl ?_)
          first | with_reducible refine S.nilK ?_ | refine S.nil ?_
          with_reducible repeat (first | refine S.then_n ?_ | refine S.then_x ?_ | refine S.then_r ?_ | refine S.inBlock_n ?_ | refine S.inBlock_r ?_ | refine S.inBlock_x rfl ?_ | refine S.noGoto_r ?_ | refine S.noGoto_n ?_ | refine S.noGoto_x ?_)
          exact S.next (q - 1) (⟨o + 1, by omega, by omega, hno2, rfl, rfl⟩) (by omega) (by repeat (first | exact trivial | refine ⟨rfl, ?_⟩)) Sub.ent
    · have hn : look m.js j = none := by
        cases h : look m.js j with
        | none => rfl
        | some x => have h8 := hno x h; have h9 := hm.row x (look_some h).1; omega
      refine S.exit ?_
      with_reducible repeat (first | refine S.then_n ?_ | refine S.then_x ?_ | refine S.then_r ?_ | refine S.inBlock_n ?_ | refine S.inBlock_r ?_ | refine S.inBlock_x rfl ?_ | refine S.noGoto_r ?_ | refine S.noGoto_n ?_ | refine S.noGoto_x ?_)
      with_reducible refine S.inBlock_s ?_
      with_reducible repeat (first | refine S.then_n ?_ | refine S.then_x ?_ | refine S.then_r ?_ | refine S.inBlock_n ?_ | refine S.inBlock_r ?_ | refine S.inBlock_x rfl ?_ | refine S.noGoto_r ?_ | refine S.noGoto_n ?_ | refine S.noGoto_x ?_)
      refine hK5 _ _ ?_
      refine S.seq fun K21 hK21 => ?_
      refine S.region rfl ?_
      refine S.op (S.q (q_assign rfl) rfl rfl ?_)
      refine S.op (S.q (q_assign rfl) rfl rfl ?_)
      refine S.op (S.q (q_assign rfl) rfl rfl ?_)
      first | with_reducible refine S.nilK ?_ | refine S.nil ?_
      refine hK21 _ _ ?_
      refine S.ret ?_
      with_reducible repeat (first | refine S.then_n ?_ | refine S.then_x ?_ | refine S.then_r ?_ | refine S.inBlock_n ?_ | refine S.inBlock_r ?_ | refine S.inBlock_x rfl ?_ | refine S.noGoto_r ?_ | refine S.noGoto_n ?_ | refine S.noGoto_x ?_)
      refine S.ent (Ent.ownNil 3 1) ?_
      show S _ w0 _ (own SV.nil 3 1 (nds []) :: riX b m cs us rs Γ) _
      exact S.fin (rs := [_, _, _]) (vs := [_, _, _]) Tryd.results46 (⟨rfl, rfl, rfl, trivial⟩)  (⟨SV.nil, by rw [ofR_none hn]; rfl, by rw [ofR_none hn]; rfl, by rw [ofR_none hn]⟩) Sub.ent
theorem rOf_S (b : Nat) (m : Mx) (j : Nat) : Spec Tryd.prog 46 [.pointer (some ⟨b, 0, none⟩), .int .u32 (j : Int)] [RI b m] fun Γ v Θ => ∃ sv : SV, v = .tuple #[.int .i64 (ofR m j).1, sv.v, .bool (ofR m j).2.2] ∧ sv.n = (ofR m j).2.1.length ∧
    Θ = own sv 3 1 (nds (ofR m j).2.1) :: RI b m :: Γ := by
  refine Spec.riX fun cs us rs hri => ?_
  refine (rOfX_S b m j cs us rs hri).weaken fun Γ => ⟨Γ, Ent.refl _, fun v Θ h => ?_⟩
  obtain ⟨sv, h1, h2, rfl⟩ := h
  exact ⟨_, ⟨sv, h1, h2, rfl⟩, (Ent.ri hri Γ).cons _⟩
end Go.Proofs.YtegjmmocnffpiaaDoor
/- The document's matrix: Put, where its row and its nodes are there; a node that is down. -/
namespace Go.Proofs.YtegjmmocnffpiaaDoor
open Go.RowKit
set_option maxRecDepth 20000
def setAll (d : List Nat) (ns : List Nat) (j : Nat) : List Nat := ns.foldl (fun d n => d.set n j) d
theorem setAll_len (j : Nat) : ∀ (ns : List Nat) (d : List Nat), (setAll d ns j).length = d.length
  | [], d => rfl
  | n :: ns, d => by rw [setAll, List.foldl_cons]; exact (setAll_len j ns (d.set n j)).trans (List.length_set ..)
theorem setAll_get (j : Nat) : ∀ (ns : List Nat) (d : List Nat) (i : Nat), i < d.length → (setAll d ns j)[i]? = if i ∈ ns then some j else d[i]?
  | [], d, i, h => rfl
  | n :: ns, d, i, h => by
    rw [setAll, List.foldl_cons]
    have ih := setAll_get j ns (d.set n j) i (by rw [List.length_set]; exact h)
    rw [setAll] at ih
    rw [ih]
    by_cases e : i ∈ ns
    · rw [if_pos e, if_pos (List.mem_cons_of_mem _ e)]
    · rw [if_neg e]
      by_cases e2 : i = n
      · subst e2
        rw [if_pos (List.mem_cons_self ..), List.getElem?_set_self h]
      · rw [if_neg (by simp [e, e2]), List.getElem?_set_ne (fun h => e2 h.symm)]
theorem setAll_snoc (d : List Nat) (ns : List Nat) (n j : Nat) : setAll d (ns ++ [n]) j = (setAll d ns j).set n j := by rw [setAll, List.foldl_append]; rfl
theorem rowN_add {m : Mx} (hm : MxOk m) {x : Jb} (hm' : MxOk (m.add x)) (o : Nat) : rowN (m.add x) o = if o = x.row then setAll (rowN m o) (lst x.ns) x.id else rowN m o := by
  have hat : ∀ i, atJ (m.add x).js o i = if o = x.row ∧ x.ns.getLsbD i = true then x.id else atJ m.js o i := fun i => by
    by_cases h : o = x.row ∧ x.ns.getLsbD i = true
    · rw [if_pos h]
      exact atJ_some hm' (mem_addJ.2 (.inl rfl)) h.1.symm h.2
    · rw [if_neg h]
      by_cases h2 : ∃ y ∈ m.js, y.row = o ∧ y.ns.getLsbD i = true
      · obtain ⟨y, y1, y2, y3⟩ := h2
        rw [atJ_some hm y1 y2 y3]
        exact atJ_some hm' (mem_addJ.2 (.inr y1)) y2 y3
      · have hz : atJ m.js o i = 0 := atJ_none fun y y1 y2 => by cases hb : y.ns.getLsbD i with | false => rfl | true => exact absurd ⟨y, y1, y2, hb⟩ h2
        rw [hz]
        refine atJ_none fun y y1 y2 => ?_
        cases hb : y.ns.getLsbD i with
        | false => rfl
        | true =>
          rcases mem_addJ.1 y1 with e | y1
          · rw [e] at y2 hb; exact absurd ⟨y2.symm, hb⟩ h
          · exact absurd ⟨y, y1, y2, hb⟩ h2
  refine List.ext_getElem? fun i => ?_
  by_cases hi : i < m.N
  · have h1 : (rowN (m.add x) o)[i]? = some (atJ (m.add x).js o i) := rowN_get (m := m.add x) hi o
    rw [h1, hat]
    by_cases e : o = x.row
    · rw [if_pos e, setAll_get _ _ _ _ (by rw [rowN_len]; exact hi), rowN_get hi]
      by_cases e2 : x.ns.getLsbD i = true
      · rw [if_pos ⟨e, e2⟩, if_pos (mem_lst.2 e2)]
      · rw [if_neg (fun h => e2 h.2), if_neg (fun h => e2 (mem_lst.1 h))]
    · rw [if_neg e, if_neg (fun h => e h.1), rowN_get hi]
  · rw [List.getElem?_eq_none (by rw [rowN_len]; show m.N ≤ i; omega)]
    split
    · rw [List.getElem?_eq_none (by rw [setAll_len, rowN_len]; omega)]
    · rw [List.getElem?_eq_none (by rw [rowN_len]; omega)]
/-- Is every one of the first i nodes of a row free? -/
theorem busy_iff {m : Mx} (hm : MxOk m) {r i : Nat} : atJ m.js r i = 0 ↔ (tk m.js r).getLsbD i = false := by
  constructor
  · intro h
    cases hb : (tk m.js r).getLsbD i with
    | false => rfl
    | true =>
      obtain ⟨x, h1, h2, h3⟩ := (tk_bit m.js r i).1 hb
      have := atJ_some hm h1 h2 h3
      have := hm.id1 x h1
      omega
  · intro h
    refine atJ_none fun x hx e => ?_
    cases hb : x.ns.getLsbD i with
    | false => rfl
    | true => rw [(tk_bit m.js r i).2 ⟨x, hx, e, hb⟩] at h; cases h
theorem rPut_S (b : Nat) (m : Mx) (j r : Nat) (R : Assn) (s : SV) (l : List Int) (hsn : s.n = l.length) (hR : RdS R s s.n 1 (ints l)) (hj : j ≤ 4294967295) (hj0 : j ≠ 0) (hr : r < m.R) (hup : okUp m l l.length = true) : Spec Tryd.prog 31 [.pointer (some ⟨b, 0, none⟩), .int .u32 (j : Int), .int .i64 (r : Int), s.v] [RI b m, R] fun Γ v Θ =>
    v = .int .i64 (putR m j r l).1 ∧ Θ = RI b (putR m j r l).2 :: R :: Γ := by
  refine Spec.riOk fun hok => ?_
  refine Spec.of_body Tryd.func31 rfl Tryd.ntmps31 rfl ?_
  intro w0 Γ
  show S _ w0 [(0, .pointer (some ⟨b, 0, none⟩)), (1, .int .u32 (j : Int)), (2, .int .i64 (r : Int)), (3, s.v)] (RI b m :: R :: Γ) _
  refine S.rCap hR fun _ hcap1 hcap2 => ?_
  have hN16 := hok.N16
  have hR8 := hok.R8
  refine S.riOpen b m fun cs us rs hri => ?_
  have hcn := hri.cn
  have hun := hri.un
  have hrl := hri.rlen
  have hpk : putOk m j r l = decide (0 < l.length) := by
    rw [putOk, decide_eq_true (show ((j : Nat) : Int) ≠ 0 by omega), rowB_iff.2 ⟨by omega, by omega⟩, Bool.true_and, Bool.true_and]
    exact decide_eq_decide.2 (by omega)
  refine S.ownSome cs (by omega) fun cb co hca _ _ _ => ?_
  refine S.seq fun K1 hK1 => ?_
  refine S.region rfl ?_
  refine S.op (S.q (q_assign rfl) rfl rfl ?_)
  first | with_reducible refine S.nilK ?_ | refine S.nil ?_
  refine hK1 _ _ ?_
  refine S.seq fun K2 hK2 => ?_
  refine S.seq fun K3 hK3 => ?_
  refine S.region rfl ?_
  refine S.op (S.q (q_move rfl) rfl rfl ?_)
  refine S.op (S.q (q_eqN Tryd.underlying26 rfl rfl) rfl rfl ?_)
  first | with_reducible refine S.nilK ?_ | refine S.nil ?_
  refine hK3 _ _ ?_
  refine S.condF rfl ?_
  refine S.skip ?_
  with_reducible repeat (first | refine S.then_n ?_ | refine S.then_x ?_ | refine S.then_r ?_ | refine S.inBlock_n ?_ | refine S.inBlock_r ?_ | refine S.inBlock_x rfl ?_ | refine S.noGoto_r ?_ | refine S.noGoto_n ?_ | refine S.noGoto_x ?_)
  refine hK2 _ _ ?_
  refine S.seq fun K4 hK4 => ?_
  refine S.seq fun K5 hK5 => ?_
  refine S.regionG ?_
  refine S.g_op rfl (S.q (q_move rfl) rfl rfl ?_)
  refine S.g_op rfl (S.q (q_eq rfl rfl) rfl rfl ?_)
  refine S.g_op rfl (S.q (q_move rfl) rfl rfl ?_)
  refine S.g_yes rfl rfl rfl ((decide_eq_false (by omega))) (S.q (q_move rfl) rfl rfl ?_)
  refine S.g_yes rfl rfl rfl ((decide_eq_false (by omega))) (S.q (q_lt rfl rfl) rfl rfl ?_)
  refine S.g_op rfl (S.q (q_pickF rfl ((decide_eq_false (by omega))) rfl) rfl rfl ?_)
  refine S.g_op rfl (S.q (q_move rfl) rfl rfl ?_)
  refine S.g_yes rfl rfl rfl ((decide_eq_false (by omega))) (S.q (q_move rfl) rfl rfl ?_)
  refine S.g_yes rfl rfl rfl ((decide_eq_false (by omega))) (S.q (q_move rfl) rfl rfl ?_)
  refine S.g_yes rfl rfl rfl ((decide_eq_false (by omega))) (S.q (q_nilCheck rfl) rfl rfl ?_)
  refine S.g_yes rfl rfl rfl ((decide_eq_false (by omega))) (S.q (q_field Tryd.fo55_0 rfl) rfl rfl ?_)
  refine S.g_yes rfl rfl rfl ((decide_eq_false (by omega))) (S.q (q_load Tryd.at52 rfl rfl) rfl rfl ?_)
  refine S.g_yes rfl rfl rfl ((decide_eq_false (by omega))) (S.q (q_len Tryd.underlying52 rfl) rfl rfl ?_)
  refine S.g_yes rfl rfl rfl ((decide_eq_false (by omega))) (S.q (q_ge rfl rfl) rfl rfl ?_)
  refine S.g_op rfl (S.q (q_pickF rfl ((decide_eq_false (by omega))) rfl) rfl rfl ?_)
  refine S.g_op rfl (S.q (q_move rfl) rfl rfl ?_)
  refine S.g_yes rfl rfl rfl ((decide_eq_false (by omega))) (S.q (q_move rfl) rfl rfl ?_)
  refine S.g_yes rfl rfl rfl ((decide_eq_false (by omega))) (S.q (q_len Tryd.underlying69 rfl) rfl rfl ?_)
  refine S.g_yes rfl rfl rfl ((decide_eq_false (by omega))) (S.q (q_eq rfl rfl) rfl rfl ?_)
  refine S.g_op rfl (S.q (q_pickF rfl ((decide_eq_false (by omega))) rfl) rfl rfl ?_)
  first | with_reducible refine S.g_nilK ?_ | refine S.g_nil ?_
  refine hK5 _ _ ?_
  refine S.condD rfl (fun h2 => ?_) (fun h2 => ?_)
  · have hp : putR m j r l = (1, m) := by rw [putR, hpk, decide_eq_false (by omega)]; rfl
    refine S.riClose b m cs us rs hri ?_
    refine S.seq fun K6 hK6 => ?_
    refine S.region rfl ?_
    refine S.op (S.q (q_assign rfl) rfl rfl ?_)
    first | with_reducible refine S.nilK ?_ | refine S.nil ?_
    refine hK6 _ _ ?_
    refine S.ret ?_
    with_reducible repeat (first | refine S.then_n ?_ | refine S.then_x ?_ | refine S.then_r ?_ | refine S.inBlock_n ?_ | refine S.inBlock_r ?_ | refine S.inBlock_x rfl ?_ | refine S.noGoto_r ?_ | refine S.noGoto_n ?_ | refine S.noGoto_x ?_)
    exact S.fin (rs := [_]) (vs := [_]) Tryd.results31 (⟨rfl, trivial⟩)  (⟨by rw [hp]; rfl, by rw [hp]⟩) Sub.ent
  · have hpos : 0 < l.length := by omega
    obtain ⟨p1, p2, p3⟩ := put_ok hok hpos hup
    have hpn : putR m j r l = if (look m.js j).isSome then (7, m) else if tk m.js r &&& ofL (nats l) ≠ 0#16 then (15, m) else (0, m.add ⟨j, r, ofL (nats l)⟩) := by
      rw [putR, hpk, hup, decide_eq_true hpos, if_neg (by decide), Int.toNat_natCast]
    refine S.skip ?_
    with_reducible repeat (first | refine S.then_n ?_ | refine S.then_x ?_ | refine S.then_r ?_ | refine S.inBlock_n ?_ | refine S.inBlock_r ?_ | refine S.inBlock_x rfl ?_ | refine S.noGoto_r ?_ | refine S.noGoto_n ?_ | refine S.noGoto_x ?_)
    refine hK4 _ _ ?_
    refine S.seq fun K7 hK7 => ?_
    refine S.seq fun K8 hK8 => ?_
    refine S.region rfl ?_
    refine S.op (S.q (q_move rfl) rfl rfl ?_)
    refine S.op (S.q (q_len Tryd.underlying69 rfl) rfl rfl ?_)
    refine S.op (S.q (q_move rfl) rfl rfl ?_)
    first | with_reducible refine S.nilK ?_ | refine S.nil ?_
    refine hK8 _ _ ?_
    refine S.block ?_
    refine S.loop (fun q ρ' Γ' => ∃ i : Nat, q = l.length - i ∧ i ≤ l.length ∧ ρ' = [(0, .pointer (some ⟨b, 0, none⟩)), (1, .int .u32 (j : Int)), (2, .int .i64 (r : Int)), (3, s.v), (40, s.v), (41, .int .i64 s.n), (42, .int .i64 (i : Int))] ∧   Γ' = blk b 55 #[cs.v, us.v] :: own cs 31 1 (rs.map rrV) :: own us 4 1 (upC m) :: alls rs rrB :: R :: Γ) (m := _) (ρ0 := _) (Γ0 := _) (⟨0, rfl, by omega, rfl, rfl⟩) (by repeat (first | exact trivial | refine ⟨rfl, ?_⟩)) Sub.ent ?_
    rintro q ρ' Γ' ⟨i, hq, hi, rfl, rfl⟩
    refine S.seq fun K9 hK9 => ?_
    refine S.region rfl ?_
    refine S.op (S.q (q_lt rfl rfl) rfl rfl ?_)
    first | with_reducible refine S.nilK ?_ | refine S.nil ?_
    refine hK9 _ _ ?_
    refine S.seq fun K10 hK10 => ?_
    refine S.condD rfl (fun h3 => ?_) (fun h3 => ?_)
    · refine S.rSome hR (by omega) fun sb so hsa => ?_
      obtain ⟨x, hx⟩ := getE (show i < l.length by omega)
      have hxd : l.getD i 0 = x := by simp [List.getD, hx]
      obtain ⟨u1, u2⟩ := okUp_at hup (show i < l.length by omega)
      rw [hxd] at u1 u2
      have u3 := nodeB_iff.1 u1
      refine S.skip ?_
      with_reducible repeat (first | refine S.then_n ?_ | refine S.then_x ?_ | refine S.then_r ?_ | refine S.inBlock_n ?_ | refine S.inBlock_r ?_ | refine S.inBlock_x rfl ?_ | refine S.noGoto_r ?_ | refine S.noGoto_n ?_ | refine S.noGoto_x ?_)
      refine hK10 _ _ ?_
      refine S.seq fun K11 hK11 => ?_
      refine S.block ?_
      refine S.seq fun K12 hK12 => ?_
      refine S.region rfl ?_
      refine S.op (S.q (q_move rfl) rfl rfl ?_)
      refine S.op (S.q (q_indexO (i) Tryd.el69 rfl hsa rfl rfl (by omega)) rfl rfl ?_)
      refine S.op (S.q (q_loadR hR i Tryd.at3 rfl hsa (by omega) (by omega) (ints_get hx)) rfl rfl ?_)
      refine S.op (S.q (q_assign rfl) rfl rfl ?_)
      refine S.op (S.q (q_assign rfl) rfl rfl ?_)
      first | with_reducible refine S.nilK ?_ | refine S.nil ?_
      refine hK12 _ _ ?_
      refine S.seq fun K13 hK13 => ?_
      refine S.cut (fun ρ' Γ' => ρ' = [(0, .pointer (some ⟨b, 0, none⟩)), (1, .int .u32 (j : Int)), (2, .int .i64 (r : Int)), (3, s.v), (40, s.v), (41, .int .i64 s.n), (42, .int .i64 (i : Int)), (70, .bool false)] ∧   Γ' = blk b 55 #[cs.v, us.v] :: own cs 31 1 (rs.map rrV) :: own us 4 1 (upC m) :: alls rs rrB :: R :: Γ) ?_ ?_
      · refine S.regionG ?_
        refine S.g_op rfl (S.q (q_move rfl) rfl rfl ?_)
        refine S.g_op rfl (S.q (q_lt rfl rfl) rfl rfl ?_)
        refine S.g_op rfl (S.q (q_move rfl) rfl rfl ?_)
        refine S.g_yes rfl rfl rfl ((decide_eq_false (by omega))) (S.q (q_move rfl) rfl rfl ?_)
        refine S.g_yes rfl rfl rfl ((decide_eq_false (by omega))) (S.q (q_move rfl) rfl rfl ?_)
        refine S.g_yes rfl rfl rfl ((decide_eq_false (by omega))) (S.q (q_nilCheck rfl) rfl rfl ?_)
        refine S.g_yes rfl rfl rfl ((decide_eq_false (by omega))) (S.q (q_field Tryd.fo55_1 rfl) rfl rfl ?_)
        refine S.g_yes rfl rfl rfl ((decide_eq_false (by omega))) (S.q (q_load Tryd.at53 rfl rfl) rfl rfl ?_)
        refine S.g_yes rfl rfl rfl ((decide_eq_false (by omega))) (S.q (q_len Tryd.underlying53 rfl) rfl rfl ?_)
        refine S.g_yes rfl rfl rfl ((decide_eq_false (by omega))) (S.q (q_ge rfl rfl) rfl rfl ?_)
        refine S.g_op rfl (S.q (q_pickF rfl ((decide_eq_false (by omega))) rfl) rfl rfl ?_)
        refine S.g_op rfl (S.q (q_move rfl) rfl rfl ?_)
        refine S.g_yes rfl rfl rfl ((decide_eq_false (by omega))) (S.q (q_move rfl) rfl rfl ?_)
        refine S.g_yes rfl rfl rfl ((decide_eq_false (by omega))) (S.q (q_gt rfl rfl) rfl rfl ?_)
        refine S.g_yes rfl rfl rfl ((decide_eq_false (by omega))) (S.q (q_move rfl) rfl rfl ?_)
        by_cases hg8_14 : 0 < (i : Int)
        · obtain ⟨y, hy⟩ := getE (show i - 1 < l.length by omega)
          have hyd : l.getD (i - 1) 0 = y := by simp [List.getD, hy]
          rw [hyd] at u2
          refine S.g_yes rfl rfl rfl (decide_eq_true hg8_14) (S.q (q_move rfl) rfl rfl ?_)
          refine S.g_yes rfl rfl rfl (decide_eq_true hg8_14) (S.q (q_move rfl) rfl rfl ?_)
          refine S.g_yes rfl rfl rfl (decide_eq_true hg8_14) (S.q (q_move rfl) rfl rfl ?_)
          refine S.g_yes rfl rfl rfl (decide_eq_true hg8_14) (S.q (q_sub rfl rfl (inI64 (by omega) (by omega))) rfl rfl ?_)
          refine S.g_yes rfl rfl rfl (decide_eq_true hg8_14) (S.q (q_indexO (i - 1) Tryd.el69 rfl hsa rfl (by omega) (by omega)) rfl rfl ?_)
          refine S.g_yes rfl rfl rfl (decide_eq_true hg8_14) (S.q (q_loadR hR (i - 1) Tryd.at3 rfl hsa (by omega) (by omega) (ints_get hy)) rfl rfl ?_)
          refine S.g_yes rfl rfl rfl (decide_eq_true hg8_14) (S.q (q_le rfl rfl) rfl rfl ?_)
          refine S.g_yes rfl rfl rfl ((decide_eq_false (by omega))) (S.q (q_pickT rfl (decide_eq_true hg8_14) rfl) rfl rfl ?_)
          refine S.g_op rfl (S.q (q_pickF rfl ((decide_eq_false (by omega))) rfl) rfl rfl ?_)
          first | with_reducible refine S.g_nilK ?_ | refine S.g_nil ?_
          with_reducible repeat (first | refine S.then_n ?_ | refine S.then_x ?_ | refine S.then_r ?_ | refine S.inBlock_n ?_ | refine S.inBlock_r ?_ | refine S.inBlock_x rfl ?_ | refine S.noGoto_r ?_ | refine S.noGoto_n ?_ | refine S.noGoto_x ?_)
          first | (have e : decide (x ≤ y) = false := decide_eq_false (by have := u2 (by omega); omega) ; rw [e] ; exact S.meet ⟨rfl, rfl⟩ ⟨rfl, rfl, rfl, rfl, rfl, rfl, rfl, rfl, trivial⟩ Sub.ent) | exact S.meet ⟨rfl, rfl⟩ ⟨rfl, rfl, rfl, rfl, rfl, rfl, rfl, rfl, trivial⟩ Sub.ent
        · refine S.g_no rfl rfl rfl (decide_eq_false hg8_14) rfl rfl ?_
          refine S.g_no rfl rfl rfl (decide_eq_false hg8_14) rfl rfl ?_
          refine S.g_no rfl rfl rfl (decide_eq_false hg8_14) rfl rfl ?_
          refine S.g_no rfl rfl rfl (decide_eq_false hg8_14) rfl rfl ?_
          refine S.g_no rfl rfl rfl (decide_eq_false hg8_14) rfl rfl ?_
          refine S.g_no rfl rfl rfl (decide_eq_false hg8_14) rfl rfl ?_
          refine S.g_no rfl rfl rfl (decide_eq_false hg8_14) rfl rfl ?_
          refine S.g_yes rfl rfl rfl ((decide_eq_false (by omega))) (S.q (q_pickF rfl (decide_eq_false hg8_14) rfl) rfl rfl ?_)
          refine S.g_op rfl (S.q (q_pickF rfl ((decide_eq_false (by omega))) rfl) rfl rfl ?_)
          first | with_reducible refine S.g_nilK ?_ | refine S.g_nil ?_
          with_reducible repeat (first | refine S.then_n ?_ | refine S.then_x ?_ | refine S.then_r ?_ | refine S.inBlock_n ?_ | refine S.inBlock_r ?_ | refine S.inBlock_x rfl ?_ | refine S.noGoto_r ?_ | refine S.noGoto_n ?_ | refine S.noGoto_x ?_)
          first | (have e : decide (x ≤ y) = false := decide_eq_false (by have := u2 (by omega); omega) ; rw [e] ; exact S.meet ⟨rfl, rfl⟩ ⟨rfl, rfl, rfl, rfl, rfl, rfl, rfl, rfl, trivial⟩ Sub.ent) | exact S.meet ⟨rfl, rfl⟩ ⟨rfl, rfl, rfl, rfl, rfl, rfl, rfl, rfl, trivial⟩ Sub.ent
      · rintro ρ' Γ' ⟨rfl, rfl⟩
        refine hK13 _ _ ?_
        refine S.condF rfl ?_
        refine S.skip ?_
        with_reducible repeat (first | refine S.then_n ?_ | refine S.then_x ?_ | refine S.then_r ?_ | refine S.inBlock_n ?_ | refine S.inBlock_r ?_ | refine S.inBlock_x rfl ?_ | refine S.noGoto_r ?_ | refine S.noGoto_n ?_ | refine S.noGoto_x ?_)
        with_reducible repeat (first | refine S.then_n ?_ | refine S.then_x ?_ | refine S.then_r ?_ | refine S.inBlock_n ?_ | refine S.inBlock_r ?_ | refine S.inBlock_x rfl ?_ | refine S.noGoto_r ?_ | refine S.noGoto_n ?_ | refine S.noGoto_x ?_)
        refine hK11 _ _ ?_
        refine S.region rfl ?_
        refine S.op (S.q (q_add rfl rfl (inI64 (by omega) (by omega))) rfl rfl ?_)
        refine S.op (S.q (q_move rfl) rfl rfl ?_)
        first | with_reducible refine S.nilK ?_ | refine S.nil ?_
        with_reducible repeat (first | refine S.then_n ?_ | refine S.then_x ?_ | refine S.then_r ?_ | refine S.inBlock_n ?_ | refine S.inBlock_r ?_ | refine S.inBlock_x rfl ?_ | refine S.noGoto_r ?_ | refine S.noGoto_n ?_ | refine S.noGoto_x ?_)
        exact S.next (q - 1) (⟨i + 1, by omega, by omega, rfl, rfl⟩) (by omega) (by repeat (first | exact trivial | refine ⟨rfl, ?_⟩)) Sub.ent
    · refine S.exit ?_
      with_reducible repeat (first | refine S.then_n ?_ | refine S.then_x ?_ | refine S.then_r ?_ | refine S.inBlock_n ?_ | refine S.inBlock_r ?_ | refine S.inBlock_x rfl ?_ | refine S.noGoto_r ?_ | refine S.noGoto_n ?_ | refine S.noGoto_x ?_)
      with_reducible refine S.inBlock_s ?_
      with_reducible repeat (first | refine S.then_n ?_ | refine S.then_x ?_ | refine S.then_r ?_ | refine S.inBlock_n ?_ | refine S.inBlock_r ?_ | refine S.inBlock_x rfl ?_ | refine S.noGoto_r ?_ | refine S.noGoto_n ?_ | refine S.noGoto_x ?_)
      refine hK7 _ _ ?_
      refine S.seq fun K14 hK14 => ?_
      refine S.seq fun K15 hK15 => ?_
      refine S.region rfl ?_
      refine S.riClose b m cs us rs hri ?_
      refine S.op (S.q (q_move rfl) rfl rfl ?_)
      refine S.op (S.q (q_move rfl) rfl rfl ?_)
      refine S.op (S.call Tryd.en46 (vs := [_, _]) ⟨rfl, rfl, trivial⟩ (rOf_S b m j) rfl ?_)
      rintro v Θ ⟨s5, rfl, _, rfl⟩
      refine S.op (S.q (q_move rfl) rfl rfl ?_)
      refine S.op (S.q (q_extract rfl rfl) rfl rfl ?_)
      refine S.op (S.q (q_extract rfl rfl) rfl rfl ?_)
      refine S.op (S.q (q_extract rfl rfl) rfl rfl ?_)
      refine S.op (S.q (q_assign rfl) rfl rfl ?_)
      refine S.op (S.q (q_assign rfl) rfl rfl ?_)
      refine S.op (S.q (q_assign rfl) rfl rfl ?_)
      first | with_reducible refine S.nilK ?_ | refine S.nil ?_
      refine hK15 _ _ ?_
      refine S.seq fun K16 hK16 => ?_
      refine S.region rfl ?_
      refine S.op (S.q (q_move rfl) rfl rfl ?_)
      first | with_reducible refine S.nilK ?_ | refine S.nil ?_
      refine hK16 _ _ ?_
      refine S.cond rfl (fun h5 => ?_) (fun h5 => ?_)
      · have hls : (look m.js j).isSome = true := by
          cases h : look m.js j with
          | none => rw [ofR_none h] at h5; cases h5
          | some x => rfl
        rw [if_pos hls] at hpn
        refine S.seq fun K17 hK17 => ?_
        refine S.region rfl ?_
        refine S.op (S.q (q_assign rfl) rfl rfl ?_)
        first | with_reducible refine S.nilK ?_ | refine S.nil ?_
        refine hK17 _ _ ?_
        refine S.ret ?_
        with_reducible repeat (first | refine S.then_n ?_ | refine S.then_x ?_ | refine S.then_r ?_ | refine S.inBlock_n ?_ | refine S.inBlock_r ?_ | refine S.inBlock_x rfl ?_ | refine S.noGoto_r ?_ | refine S.noGoto_n ?_ | refine S.noGoto_x ?_)
        exact S.fin (rs := [_]) (vs := [_]) Tryd.results31 (⟨rfl, trivial⟩)  (⟨by rw [hpn]; rfl, by rw [hpn]⟩) Sub.ent
      · have hlk : look m.js j = none := by
          cases h : look m.js j with
          | none => rfl
          | some x => rw [ofR_some h] at h5; cases h5
        rw [hlk, if_neg (by decide)] at hpn
        clear hri
        refine S.riOpen b m fun cs us rs hri => ?_
        have hcn := hri.cn
        have hun := hri.un
        have hrl := hri.rlen
        refine S.ownSome cs (by omega) fun cb co hca _ _ _ => ?_
        obtain ⟨p, hp, hpd, hpl⟩ := hri.at_ hr
        have hRp : RdS (alls rs rrB) p.1 p.1.n 1 (idsV p.2) := RdS.alls hp RdS.own
        have hN1 := hok.N1
        refine S.rSome hRp (by omega) fun pb po hpa => ?_
        refine S.skip ?_
        with_reducible repeat (first | refine S.then_n ?_ | refine S.then_x ?_ | refine S.then_r ?_ | refine S.inBlock_n ?_ | refine S.inBlock_r ?_ | refine S.inBlock_x rfl ?_ | refine S.noGoto_r ?_ | refine S.noGoto_n ?_ | refine S.noGoto_x ?_)
        refine hK14 _ _ ?_
        refine S.seq fun K18 hK18 => ?_
        refine S.seq fun K19 hK19 => ?_
        refine S.region rfl ?_
        refine S.op (S.q (q_move rfl) rfl rfl ?_)
        refine S.op (S.q (q_len Tryd.underlying69 rfl) rfl rfl ?_)
        refine S.op (S.q (q_move rfl) rfl rfl ?_)
        first | with_reducible refine S.nilK ?_ | refine S.nil ?_
        refine hK19 _ _ ?_
        refine S.block ?_
        refine S.loop (fun q ρ' Γ' => ∃ i : Nat, q = l.length - i ∧ i ≤ l.length ∧ (∀ k, k ∈ nats (l.take i) → (tk m.js r).getLsbD k = false) ∧ ρ' = [(0, .pointer (some ⟨b, 0, none⟩)), (1, .int .u32 (j : Int)), (2, .int .i64 (r : Int)), (3, s.v), (80, s.v), (81, .int .i64 s.n), (82, .int .i64 (i : Int))] ∧   Γ' = blk b 55 #[cs.v, us.v] :: own cs 31 1 (rs.map rrV) :: own us 4 1 (upC m) :: alls rs rrB :: R :: Γ) (m := _) (ρ0 := _) (Γ0 := _) (⟨0, rfl, by omega, fun _ h => (by cases h), rfl, rfl⟩) (by repeat (first | exact trivial | refine ⟨rfl, ?_⟩)) Sub.ent ?_
        rintro q ρ' Γ' ⟨i, hq, hi, hfree, rfl, rfl⟩
        refine S.seq fun K20 hK20 => ?_
        refine S.region rfl ?_
        refine S.op (S.q (q_lt rfl rfl) rfl rfl ?_)
        first | with_reducible refine S.nilK ?_ | refine S.nil ?_
        refine hK20 _ _ ?_
        refine S.seq fun K21 hK21 => ?_
        refine S.condD rfl (fun h6 => ?_) (fun h6 => ?_)
        · refine S.rSome hR (by omega) fun sb so hsa => ?_
          obtain ⟨x, hx⟩ := getE (show i < l.length by omega)
          have hxd : l.getD i 0 = x := by simp [List.getD, hx]
          have u1 := (okUp_at hup (show i < l.length by omega)).1
          rw [hxd] at u1
          have u3 := nodeB_iff.1 u1
          obtain ⟨xn, rfl⟩ : ∃ xn : Nat, x = xn := ⟨x.toNat, by omega⟩
          have hxa := rowN_get (m := m) (i := xn) (by omega) r
          rw [← hpd] at hxa
          have htn : nats (l.take (i + 1)) = nats (l.take i) ++ [xn] := by rw [List.take_add_one, hx]; simp
          refine S.skip ?_
          with_reducible repeat (first | refine S.then_n ?_ | refine S.then_x ?_ | refine S.then_r ?_ | refine S.inBlock_n ?_ | refine S.inBlock_r ?_ | refine S.inBlock_x rfl ?_ | refine S.noGoto_r ?_ | refine S.noGoto_n ?_ | refine S.noGoto_x ?_)
          refine hK21 _ _ ?_
          refine S.seq fun K22 hK22 => ?_
          refine S.block ?_
          refine S.seq fun K23 hK23 => ?_
          refine S.region rfl ?_
          refine S.op (S.q (q_indexO (i) Tryd.el69 rfl hsa rfl rfl (by omega)) rfl rfl ?_)
          refine S.op (S.q (q_loadR hR i Tryd.at3 rfl hsa (by omega) (by omega) (ints_get hx)) rfl rfl ?_)
          refine S.op (S.q (q_assign rfl) rfl rfl ?_)
          first | with_reducible refine S.nilK ?_ | refine S.nil ?_
          refine hK23 _ _ ?_
          refine S.seq fun K24 hK24 => ?_
          refine S.region rfl ?_
          refine S.op (S.q (q_move rfl) rfl rfl ?_)
          refine S.op (S.q (q_nilCheck rfl) rfl rfl ?_)
          refine S.op (S.q (q_field Tryd.fo55_0 rfl) rfl rfl ?_)
          refine S.op (S.q (q_load Tryd.at52 rfl rfl) rfl rfl ?_)
          refine S.op (S.q (q_move rfl) rfl rfl ?_)
          refine S.op (S.q (q_indexO (r) Tryd.el52 rfl hca rfl rfl (by omega)) rfl rfl ?_)
          refine S.op (S.q (q_loadOw (cs) (r) Tryd.at31 rfl hca (by first | rfl | exact Nat.add_assoc _ _ _ | omega) (by rw [List.getElem?_map, hp]; rfl)) rfl rfl ?_)
          refine S.op (S.q (q_move rfl) rfl rfl ?_)
          refine S.op (S.q (q_indexO (xn) Tryd.el31 rfl hpa rfl rfl (by omega)) rfl rfl ?_)
          refine S.op (S.q (q_loadR hRp xn Tryd.at68 rfl hpa (by omega) (by omega) (idsV_get hxa)) rfl rfl ?_)
          refine S.op (S.q (q_ne rfl rfl) rfl rfl ?_)
          first | with_reducible refine S.nilK ?_ | refine S.nil ?_
          refine hK24 _ _ ?_
          refine S.condD rfl (fun h7 => ?_) (fun h7 => ?_)
          · have hbz : tk m.js r &&& ofL (nats l) ≠ 0#16 := fun e => by
              have h8 : (tk m.js r).getLsbD xn = true := by
                cases hb : (tk m.js r).getLsbD xn with
                | true => rfl
                | false => exact absurd (by rw [(busy_iff hok).2 hb]; rfl) h7
              have h9 := congrArg (fun s => s.getLsbD xn) e
              have h10 : (ofL (nats l)).getLsbD xn = true := (ofL_bit _ _).2 ⟨by omega, List.mem_map.2 ⟨(xn : Int), List.mem_of_getElem? hx, by simp⟩⟩
              simp only [BitVec.getLsbD_and, h8, h10] at h9
              simp at h9
            rw [if_pos hbz] at hpn
            refine S.riClose b m cs us rs hri ?_
            refine S.seq fun K25 hK25 => ?_
            refine S.region rfl ?_
            refine S.op (S.q (q_assign rfl) rfl rfl ?_)
            first | with_reducible refine S.nilK ?_ | refine S.nil ?_
            refine hK25 _ _ ?_
            refine S.ret ?_
            with_reducible repeat (first | refine S.then_n ?_ | refine S.then_x ?_ | refine S.then_r ?_ | refine S.inBlock_n ?_ | refine S.inBlock_r ?_ | refine S.inBlock_x rfl ?_ | refine S.noGoto_r ?_ | refine S.noGoto_n ?_ | refine S.noGoto_x ?_)
            exact S.fin (rs := [_]) (vs := [_]) Tryd.results31 (⟨rfl, trivial⟩)  (⟨by rw [hpn]; rfl, by rw [hpn]⟩) Sub.ent
          · have hfree2 : ∀ k, k ∈ nats (l.take (i + 1)) → (tk m.js r).getLsbD k = false := fun k hk => by
              rw [htn, List.mem_append, List.mem_singleton] at hk
              rcases hk with hk | rfl
              · exact hfree k hk
              · exact (busy_iff hok).1 (by omega)
            refine S.skip ?_
            with_reducible repeat (first | refine S.then_n ?_ | refine S.then_x ?_ | refine S.then_r ?_ | refine S.inBlock_n ?_ | refine S.inBlock_r ?_ | refine S.inBlock_x rfl ?_ | refine S.noGoto_r ?_ | refine S.noGoto_n ?_ | refine S.noGoto_x ?_)
            with_reducible repeat (first | refine S.then_n ?_ | refine S.then_x ?_ | refine S.then_r ?_ | refine S.inBlock_n ?_ | refine S.inBlock_r ?_ | refine S.inBlock_x rfl ?_ | refine S.noGoto_r ?_ | refine S.noGoto_n ?_ | refine S.noGoto_x ?_)
            refine hK22 _ _ ?_
            refine S.region rfl ?_
            refine S.op (S.q (q_add rfl rfl (inI64 (by omega) (by omega))) rfl rfl ?_)
            refine S.op (S.q (q_move rfl) rfl rfl ?_)
            first | with_reducible refine S.nilK ?_ | refine S.nil ?_
            with_reducible repeat (first | refine S.then_n ?_ | refine S.then_x ?_ | refine S.then_r ?_ | refine S.inBlock_n ?_ | refine S.inBlock_r ?_ | refine S.inBlock_x rfl ?_ | refine S.noGoto_r ?_ | refine S.noGoto_n ?_ | refine S.noGoto_x ?_)
            exact S.next (q - 1) (⟨i + 1, by omega, by omega, hfree2, rfl, rfl⟩) (by omega) (by repeat (first | exact trivial | refine ⟨rfl, ?_⟩)) Sub.ent
        · have hie : i = l.length := by omega
          rw [hie, List.take_length] at hfree
          have hbz : tk m.js r &&& ofL (nats l) = 0#16 := by
            refine BitVec.eq_of_getLsbD_eq fun k _ => ?_
            rw [BitVec.getLsbD_and]
            cases hb : (ofL (nats l)).getLsbD k with
            | false => simp
            | true => rw [hfree k ((ofL_bit _ _).1 hb).2]; simp
          rw [if_neg (fun e => e hbz)] at hpn
          have hok' : MxOk (m.add ⟨j, r, ofL (nats l)⟩) := hok.add (look_none hlk) (by show 1 ≤ j; omega) hj hr p2 p3 hbz
          refine S.conv (alls rs rrB) (Ent.allsAt rrB hp _) ?_
          show S _ w0 _ (own p.1 68 1 (idsV p.2) :: alls (rs.take r) rrB :: alls (rs.drop (r + 1)) rrB :: _) _
          refine S.exit ?_
          with_reducible repeat (first | refine S.then_n ?_ | refine S.then_x ?_ | refine S.then_r ?_ | refine S.inBlock_n ?_ | refine S.inBlock_r ?_ | refine S.inBlock_x rfl ?_ | refine S.noGoto_r ?_ | refine S.noGoto_n ?_ | refine S.noGoto_x ?_)
          with_reducible refine S.inBlock_s ?_
          with_reducible repeat (first | refine S.then_n ?_ | refine S.then_x ?_ | refine S.then_r ?_ | refine S.inBlock_n ?_ | refine S.inBlock_r ?_ | refine S.inBlock_x rfl ?_ | refine S.noGoto_r ?_ | refine S.noGoto_n ?_ | refine S.noGoto_x ?_)
          refine hK18 _ _ ?_
          refine S.seq fun K26 hK26 => ?_
          refine S.seq fun K27 hK27 => ?_
          refine S.region rfl ?_
          refine S.op (S.q (q_move rfl) rfl rfl ?_)
          refine S.op (S.q (q_len Tryd.underlying69 rfl) rfl rfl ?_)
          refine S.op (S.q (q_move rfl) rfl rfl ?_)
          first | with_reducible refine S.nilK ?_ | refine S.nil ?_
          refine hK27 _ _ ?_
          refine S.block ?_
          refine S.loop (fun q ρ' Γ' => ∃ (i : Nat) (d : List Nat), q = l.length - i ∧ i ≤ l.length ∧ d = setAll p.2 (nats (l.take i)) j ∧ ρ' = [(0, .pointer (some ⟨b, 0, none⟩)), (1, .int .u32 (j : Int)), (2, .int .i64 (r : Int)), (98, s.v), (99, .int .i64 s.n), (100, .int .i64 (i : Int))] ∧   Γ' = own p.1 68 1 (idsV d) :: alls (rs.take r) rrB :: alls (rs.drop (r + 1)) rrB :: blk b 55 #[cs.v, us.v] :: own cs 31 1 (rs.map rrV) :: own us 4 1 (upC m) :: R :: Γ) (m := _) (ρ0 := _) (Γ0 := _) (⟨0, p.2, rfl, by omega, rfl, rfl, rfl⟩) (by repeat (first | exact trivial | refine ⟨rfl, ?_⟩)) Sub.ent ?_
          rintro q ρ' Γ' ⟨i, d, hq, hi, hd, rfl, rfl⟩
          have hdl : d.length = m.N := by rw [hd, setAll_len, hpd, rowN_len]
          refine S.seq fun K28 hK28 => ?_
          refine S.region rfl ?_
          refine S.op (S.q (q_lt rfl rfl) rfl rfl ?_)
          first | with_reducible refine S.nilK ?_ | refine S.nil ?_
          refine hK28 _ _ ?_
          refine S.seq fun K29 hK29 => ?_
          refine S.condD rfl (fun h8 => ?_) (fun h8 => ?_)
          · refine S.rSome hR (by omega) fun sb so hsa => ?_
            obtain ⟨x, hx⟩ := getE (show i < l.length by omega)
            have hxd : l.getD i 0 = x := by simp [List.getD, hx]
            have u1 := (okUp_at hup (show i < l.length by omega)).1
            rw [hxd] at u1
            have u3 := nodeB_iff.1 u1
            obtain ⟨xn, rfl⟩ : ∃ xn : Nat, x = xn := ⟨x.toNat, by omega⟩
            have hd2 : d.set xn j = setAll p.2 (nats (l.take (i + 1))) j := by
              rw [hd, ← setAll_snoc, List.take_add_one, hx]
              simp
            have hset : (idsV d).set xn (.int .u32 (j : Int)) = idsV (d.set xn j) := by
              show (d.map _).set _ _ = (d.set xn j).map _
              rw [List.map_set]
            refine S.skip ?_
            with_reducible repeat (first | refine S.then_n ?_ | refine S.then_x ?_ | refine S.then_r ?_ | refine S.inBlock_n ?_ | refine S.inBlock_r ?_ | refine S.inBlock_x rfl ?_ | refine S.noGoto_r ?_ | refine S.noGoto_n ?_ | refine S.noGoto_x ?_)
            refine hK29 _ _ ?_
            refine S.seq fun K30 hK30 => ?_
            refine S.block ?_
            refine S.seq fun K31 hK31 => ?_
            refine S.region rfl ?_
            refine S.op (S.q (q_indexO (i) Tryd.el69 rfl hsa rfl rfl (by omega)) rfl rfl ?_)
            refine S.op (S.q (q_loadR hR i Tryd.at3 rfl hsa (by omega) (by omega) (ints_get hx)) rfl rfl ?_)
            refine S.op (S.q (q_assign rfl) rfl rfl ?_)
            first | with_reducible refine S.nilK ?_ | refine S.nil ?_
            refine hK31 _ _ ?_
            refine S.region rfl ?_
            refine S.op (S.q (q_move rfl) rfl rfl ?_)
            refine S.op (S.q (q_nilCheck rfl) rfl rfl ?_)
            refine S.op (S.q (q_field Tryd.fo55_0 rfl) rfl rfl ?_)
            refine S.op (S.q (q_load Tryd.at52 rfl rfl) rfl rfl ?_)
            refine S.op (S.q (q_move rfl) rfl rfl ?_)
            refine S.op (S.q (q_indexO (r) Tryd.el52 rfl hca rfl rfl (by omega)) rfl rfl ?_)
            refine S.op (S.q (q_loadOw (cs) (r) Tryd.at31 rfl hca (by first | rfl | exact Nat.add_assoc _ _ _ | omega) (by rw [List.getElem?_map, hp]; rfl)) rfl rfl ?_)
            refine S.op (S.q (q_move rfl) rfl rfl ?_)
            refine S.op (S.q (q_move rfl) rfl rfl ?_)
            refine S.op (S.q (q_indexO (xn) Tryd.el31 rfl hpa rfl rfl (by omega)) rfl rfl ?_)
            refine S.op (S.storeOw (p.1) (xn) Tryd.at68 rfl rfl rfl hpa (by first | rfl | exact Nat.add_assoc _ _ _ | omega) (by rw [List.length_map]; omega) (hset) ?_)
            first | with_reducible refine S.nilK ?_ | refine S.nil ?_
            with_reducible repeat (first | refine S.then_n ?_ | refine S.then_x ?_ | refine S.then_r ?_ | refine S.inBlock_n ?_ | refine S.inBlock_r ?_ | refine S.inBlock_x rfl ?_ | refine S.noGoto_r ?_ | refine S.noGoto_n ?_ | refine S.noGoto_x ?_)
            refine hK30 _ _ ?_
            refine S.region rfl ?_
            refine S.op (S.q (q_add rfl rfl (inI64 (by omega) (by omega))) rfl rfl ?_)
            refine S.op (S.q (q_move rfl) rfl rfl ?_)
            first | with_reducible refine S.nilK ?_ | refine S.nil ?_
            with_reducible repeat (first | refine S.then_n ?_ | refine S.then_x ?_ | refine S.then_r ?_ | refine S.inBlock_n ?_ | refine S.inBlock_r ?_ | refine S.inBlock_x rfl ?_ | refine S.noGoto_r ?_ | refine S.noGoto_n ?_ | refine S.noGoto_x ?_)
            exact S.next (q - 1) (⟨i + 1, d.set xn j, by omega, by omega, hd2, rfl, rfl⟩) (by omega) (by repeat (first | exact trivial | refine ⟨rfl, ?_⟩)) Sub.ent
          · have hie2 : i = l.length := by omega
            rw [hie2, List.take_length] at hd
            refine S.conv3 (own p.1 68 1 (idsV d)) (alls (rs.take r) rrB) (alls (rs.drop (r + 1)) rrB) (Ent.allsBack rrB (x' := (p.1, d)) hp _) ?_
            have hrow := rowN_add hok hok'
            have hrv : (rs.set r (p.1, d)).map rrV = rs.map rrV := by
              rw [List.map_set]
              refine List.ext_getElem? fun k => ?_
              by_cases e : r = k
              · subst e; rw [List.getElem?_set_self (by rw [List.length_map]; omega), List.getElem?_map, hp]; rfl
              · rw [List.getElem?_set_ne e]
            have hri2 : RiOk (m.add ⟨j, r, ofL (nats l)⟩) cs us (rs.set r (p.1, d)) := ⟨hok', hcn, hun, by
              refine List.ext_getElem? fun k => ?_
              by_cases hk : k < m.R
              · rw [List.getElem?_map, List.getElem?_map, List.getElem?_range (show k < (m.add ⟨j, r, ofL (nats l)⟩).R from hk), Option.map_some, hrow]
                by_cases e : r = k
                · subst e
                  rw [List.getElem?_set_self (by omega), Option.map_some, if_pos rfl, hd, hpd]
                  simp only [p1]
                · rw [List.getElem?_set_ne e, if_neg (fun h => e h.symm)]
                  obtain ⟨p', hp', hpd', _⟩ := hri.at_ hk
                  rw [hp', Option.map_some, hpd']
              · rw [List.getElem?_eq_none (by rw [List.length_map, List.length_set]; omega), List.getElem?_eq_none (by rw [List.length_map, List.length_range]; show m.R ≤ k; omega)], fun p' hp' => by
              rcases List.mem_or_eq_of_mem_set hp' with h9 | h9
              · exact hri.len p' h9
              · rw [h9]; exact hpl⟩
            rw [← hrv, show upC m = upC (m.add ⟨j, r, ofL (nats l)⟩) from rfl]
            refine S.exit ?_
            with_reducible repeat (first | refine S.then_n ?_ | refine S.then_x ?_ | refine S.then_r ?_ | refine S.inBlock_n ?_ | refine S.inBlock_r ?_ | refine S.inBlock_x rfl ?_ | refine S.noGoto_r ?_ | refine S.noGoto_n ?_ | refine S.noGoto_x ?_)
            with_reducible refine S.inBlock_s ?_
            with_reducible repeat (first | refine S.then_n ?_ | refine S.then_x ?_ | refine S.then_r ?_ | refine S.inBlock_n ?_ | refine S.inBlock_r ?_ | refine S.inBlock_x rfl ?_ | refine S.noGoto_r ?_ | refine S.noGoto_n ?_ | refine S.noGoto_x ?_)
            refine hK26 _ _ ?_
            refine S.seq fun K32 hK32 => ?_
            refine S.region rfl ?_
            refine S.op (S.q (q_assign rfl) rfl rfl ?_)
            first | with_reducible refine S.nilK ?_ | refine S.nil ?_
            refine hK32 _ _ ?_
            refine S.ret ?_
            with_reducible repeat (first | refine S.then_n ?_ | refine S.then_x ?_ | refine S.then_r ?_ | refine S.inBlock_n ?_ | refine S.inBlock_r ?_ | refine S.inBlock_x rfl ?_ | refine S.noGoto_r ?_ | refine S.noGoto_n ?_ | refine S.noGoto_x ?_)
            refine S.riClose b (m.add ⟨j, r, ofL (nats l)⟩) cs us (rs.set r (p.1, d)) hri2 ?_
            exact S.fin (rs := [_]) (vs := [_]) Tryd.results31 (⟨rfl, trivial⟩)  (⟨by rw [hpn]; rfl, by rw [hpn]⟩) Sub.ent
end Go.Proofs.YtegjmmocnffpiaaDoor
/- Jobs that move from row to row, as plain data. Of no program. -/
namespace Go.Proofs.YtegjmmocnffpiaaDoor
open Go.RowKit
set_option maxRecDepth 20000
/-- A job stands in another row. -/
def reRow (js : List Jb) (j to_ : Nat) : List Jb := js.map fun x => if x.id = j then ⟨x.id, to_, x.ns⟩ else x
theorem reRow_ids (js : List Jb) (j t : Nat) : (reRow js j t).map (·.id) = js.map (·.id) := by
  rw [reRow, List.map_map]
  refine List.map_congr_left fun x _ => ?_
  simp only [Function.comp]
  split <;> rfl
theorem ids_srt {js js' : List Jb} (h : js'.map (·.id) = js.map (·.id)) (hs : js.Pairwise (fun a b => a.id < b.id)) : js'.Pairwise (fun a b => a.id < b.id) := by
  have h1 : (js.map (·.id)).Pairwise (· < ·) := List.pairwise_map.2 hs
  rw [← h] at h1
  exact List.pairwise_map.1 h1
theorem mem_reRow {js : List Jb} (hs : js.Pairwise (fun a b => a.id < b.id)) {x : Jb} (hx : x ∈ js) (t : Nat) (y : Jb) : y ∈ reRow js x.id t ↔ y = ⟨x.id, t, x.ns⟩ ∨ (y ∈ js ∧ y.id ≠ x.id) := by
  rw [reRow, List.mem_map]
  constructor
  · rintro ⟨z, hz, rfl⟩
    by_cases e : z.id = x.id
    · rw [if_pos e, id_inj hs hz hx e]
      exact .inl rfl
    · rw [if_neg e]
      exact .inr ⟨hz, e⟩
  · rintro (rfl | ⟨h1, h2⟩)
    · exact ⟨x, hx, if_pos rfl⟩
    · exact ⟨y, h1, if_neg h2⟩
theorem add_del {m : Mx} (hm : MxOk m) {x : Jb} (hx : x ∈ m.js) (t : Nat) : (m.del x.id).add ⟨x.id, t, x.ns⟩ = { m with js := reRow m.js x.id t } := by
  have : addJ ⟨x.id, t, x.ns⟩ (delJ x.id m.js) = reRow m.js x.id t := by
    refine srt_ext (addJ_srt (delJ_srt hm.srt) fun y hy => (mem_delJ.1 hy).2) (ids_srt (reRow_ids _ _ _) hm.srt) fun y => ?_
    rw [mem_addJ, mem_delJ, mem_reRow hm.srt hx]
  simp only [Mx.add, Mx.del, this]
theorem reRow_self {js : List Jb} (hs : js.Pairwise (fun a b => a.id < b.id)) {x : Jb} (hx : x ∈ js) : reRow js x.id x.row = js := by
  refine (List.map_congr_left fun y hy => ?_).trans (List.map_id _)
  by_cases e : y.id = x.id
  · rw [if_pos e, id_inj hs hy hx e]; rfl
  · rw [if_neg e]; rfl
/-- Put at nodes that were a job's. -/
theorem okUp_lst (m : Mx) (s : Bs) (hs : ∀ i, s.getLsbD i = true → i < m.N) : ∀ k, k ≤ (lst s).length → okUp m ((lst s).map fun i : Nat => (i : Int)) k = true
  | 0, _ => rfl
  | k + 1, hk => by
    have hr := List.pairwise_iff_getElem.1 (lst_rise s)
    have hk' : k < (lst s).length := by omega
    have e1 : ((lst s).map fun i : Nat => (i : Int)).getD k 0 = ((lst s)[k] : Int) := by simp [List.getD, List.getElem?_eq_getElem hk']
    rw [okUp, okUp_lst m s hs k (by omega), e1, nodeB_iff.2 ⟨by omega, by have := hs _ (mem_lst.1 (List.getElem_mem hk')); omega⟩, Bool.true_and, Bool.true_and, Bool.or_eq_true, decide_eq_true_eq, decide_eq_true_eq]
    by_cases e : k = 0
    · exact .inl e
    · refine .inr ?_
      have hk2 : k - 1 < (lst s).length := by omega
      have e2 : ((lst s).map fun i : Nat => (i : Int)).getD (k - 1) 0 = ((lst s)[k - 1] : Int) := by simp [List.getD, List.getElem?_eq_getElem hk2]
      rw [e2]
      have := hr (k - 1) k hk2 hk' (by omega)
      omega
theorem nats_lst (s : Bs) : nats ((lst s).map fun i : Nat => (i : Int)) = lst s := by
  rw [nats, List.map_map]
  exact (List.map_congr_left fun i _ => by simp [Function.comp]).trans (List.map_id _)
theorem putR_back {m : Mx} (hm : MxOk m) {x : Jb} (hx : x ∈ m.js) (z : Int) : putR (m.del x.id) x.id z ((lst x.ns).map fun i : Nat => (i : Int)) =
    if rowB m z = false then (1, m.del x.id) else if tk (delJ x.id m.js) z.toNat &&& x.ns ≠ 0#16 then (15, m.del x.id) else (0, { m with js := reRow m.js x.id z.toNat }) := by
  have h1 := hm.id1 x hx
  have hl : 0 < (lst x.ns).length := by
    cases e : lst x.ns with
    | nil => exact absurd (lst_nil.1 e) (hm.some x hx)
    | cons a l => simp
  have hok : okUp (m.del x.id) ((lst x.ns).map fun i : Nat => (i : Int)) ((lst x.ns).map fun i : Nat => (i : Int)).length = true := by
    rw [List.length_map]
    exact okUp_lst (m.del x.id) x.ns (fun i hi => hm.ns x hx i hi) _ (Nat.le_refl _)
  have hp : putOk (m.del x.id) x.id z ((lst x.ns).map fun i : Nat => (i : Int)) = rowB m z := by
    rw [putOk, List.length_map, decide_eq_true (show ((x.id : Nat) : Int) ≠ 0 by omega), decide_eq_true (show (((lst x.ns).length : Nat) : Int) > 0 by omega), Bool.true_and, Bool.and_true]
    rfl
  have hlk : look (m.del x.id).js x.id = none := by
    cases e : look (m.del x.id).js x.id with
    | none => rfl
    | some y => obtain ⟨q1, q2⟩ := look_some e; exact absurd q2 (mem_delJ.1 q1).2
  rw [putR, hp, hok, Bool.and_true, hlk, nats_lst, ofL_lst]
  by_cases e : rowB m z = false
  · rw [if_pos e, if_pos e]
  · rw [if_neg e, if_neg e, ← add_del hm hx]
    rfl
/-- A job moves, if it can. -/
def canMove (m : Mx) (x : Jb) (z : Int) : Bool := rowB m z && decide (tk (delJ x.id m.js) z.toNat &&& x.ns = 0#16)
def moveR (m : Mx) (j : Nat) (z : Int) : Option (Nat × Int × Int) × Mx := match look m.js j with
  | none => (none, m)
  | some x => if canMove m x z then (some (j, (x.row : Int), z), { m with js := reRow m.js j z.toNat }) else (none, m)
theorem MxOk.ofReRow {m : Mx} (hm : MxOk m) {x : Jb} (hx : x ∈ m.js) {t : Nat} (ht : t < m.R) (hd : tk (delJ x.id m.js) t &&& x.ns = 0#16) : MxOk { m with js := reRow m.js x.id t } := by
  rw [← add_del hm hx]
  exact (hm.del x.id).add (fun y hy => (mem_delJ.1 hy).2) (hm.id1 x hx) (hm.id2 x hx) ht (hm.some x hx) (hm.ns x hx) hd
theorem moveR_ok {m : Mx} (hm : MxOk m) (j : Nat) (z : Int) : MxOk (moveR m j z).2 := by
  unfold moveR
  cases h : look m.js j with
  | none => exact hm
  | some x =>
    obtain ⟨h1, h2⟩ := look_some h
    simp only
    by_cases hc : canMove m x z = true
    · rw [if_pos hc]
      rw [canMove, Bool.and_eq_true, decide_eq_true_eq] at hc
      have hr := rowB_iff.1 hc.1
      rw [← h2]
      exact hm.ofReRow h1 (by omega) hc.2
    · rw [if_neg hc]; exact hm
end Go.Proofs.YtegjmmocnffpiaaDoor
/- The document's matrix: nodes by their bits; nodes that are down. -/
namespace Go.Proofs.YtegjmmocnffpiaaDoor
open Go.RowKit
set_option maxRecDepth 20000
/-- The nodes below k of a set. -/
def bitU (s : Bs) : Nat → List Nat
  | 0 => []
  | k + 1 => if s.getLsbD k then bitU s k ++ [k] else bitU s k
theorem mem_bitU {s : Bs} {i : Nat} : ∀ {k : Nat}, i ∈ bitU s k ↔ i < k ∧ s.getLsbD i = true
  | 0 => by simp [bitU]
  | k + 1 => by
    rw [bitU]
    split
    · rename_i h
      rw [List.mem_append, mem_bitU, List.mem_singleton]
      constructor
      · rintro (⟨h1, h2⟩ | rfl)
        · exact ⟨by omega, h2⟩
        · exact ⟨by omega, h⟩
      · rintro ⟨h1, h2⟩
        by_cases e : i = k
        · exact .inr e
        · exact .inl ⟨by omega, h2⟩
    · rename_i h
      rw [mem_bitU]
      constructor
      · rintro ⟨h1, h2⟩; exact ⟨by omega, h2⟩
      · rintro ⟨h1, h2⟩
        by_cases e : i = k
        · subst e; exact absurd h2 h
        · exact ⟨by omega, h2⟩
theorem bitU_rise (s : Bs) : ∀ k, (bitU s k).Pairwise (· < ·)
  | 0 => List.Pairwise.nil
  | k + 1 => by
    rw [bitU]
    split
    · refine List.pairwise_append.2 ⟨bitU_rise s k, List.pairwise_singleton _ _, fun a ha b hb => ?_⟩
      rw [List.mem_singleton] at hb
      have := (mem_bitU.1 ha).1
      omega
    · exact bitU_rise s k
theorem bitU_len (s : Bs) : ∀ k, (bitU s k).length ≤ k
  | 0 => Nat.le_refl _
  | k + 1 => by
    have := bitU_len s k
    rw [bitU]
    split
    · rw [List.length_append, List.length_singleton]; omega
    · omega
theorem bitU_lst (s : Bs) {k : Nat} (hk : k ≤ 16) : bitU s k = lst (s &&& mask k) := rise_ext (bitU_rise s k) (lst_rise _) fun i => by
  rw [mem_bitU, mem_lst, BitVec.getLsbD_and, Bool.and_eq_true, mask_bit hk, And.comm]
theorem bitU_ok {m : Mx} (hm : MxOk m) (s : Bs) : okUp m (casts (bitU s m.N)) (casts (bitU s m.N)).length = true := by
  rw [bitU_lst s hm.N16, List.length_map]
  refine okUp_lst m _ (fun i hi => ?_) _ (Nat.le_refl _)
  rw [BitVec.getLsbD_and, Bool.and_eq_true, mask_bit hm.N16] at hi
  exact hi.2
theorem putR_N (m : Mx) (j : Nat) (z : Int) (l : List Int) : (putR m j z l).2.N = m.N ∧ (putR m j z l).2.up = m.up ∧ (putR m j z l).2.R = m.R := by
  unfold putR
  split
  · exact ⟨rfl, rfl, rfl⟩
  · split
    · exact ⟨rfl, rfl, rfl⟩
    · split <;> exact ⟨rfl, rfl, rfl⟩
theorem upC_set {m : Mx} {k : Nat} (hN : m.N ≤ 16) (hk : k < m.N) : (upC m).set k (.bool false) = upC (m.setUp k false) := by
  refine List.ext_getElem? fun i => ?_
  show _ = ((List.range m.N).map fun i => Value.bool ((m.setUp k false).up.getLsbD i))[i]?
  by_cases hi : i < m.N
  · rw [List.getElem?_map, List.getElem?_range hi, Option.map_some]
    have e : (m.setUp k false).up.getLsbD i = (m.up.getLsbD i && !decide (k = i)) := by
      simp only [Mx.setUp, Bool.false_eq_true, if_false, BitVec.getLsbD_and, BitVec.getLsbD_not, BitVec.getLsbD_twoPow]
      have h1 : i < 16 := by omega
      have h2 : k < 16 := by omega
      simp [h1, h2]
    rw [e]
    by_cases ek : k = i
    · subst ek
      rw [List.getElem?_set_self (by simp; exact hk)]
      simp
    · rw [List.getElem?_set_ne ek, List.getElem?_map, List.getElem?_range hi, Option.map_some, decide_eq_false ek]
      simp
  · rw [List.getElem?_eq_none (by simp; omega), List.getElem?_eq_none (by simp; omega)]
theorem RiOk.setUp {m : Mx} {cs us : SV} {rs : List Rr} (h : RiOk m cs us rs) {k : Nat} (hk : k < m.N) : RiOk (m.setUp k false) cs us rs := ⟨h.ok.setUp hk false, h.cn, h.un, h.dat, h.len⟩
theorem upR_ok {m : Mx} (hm : MxOk m) (z : Int) (on : Bool) : MxOk (upR m z on).2 := by
  unfold upR
  split
  · rename_i h
    have := nodeB_iff.1 h
    exact hm.setUp (by omega) on
  · exact hm
theorem upR_N (m : Mx) (z : Int) (on : Bool) : (upR m z on).2.N = m.N ∧ (upR m z on).2.R = m.R := by
  unfold upR
  split <;> exact ⟨rfl, rfl⟩
end Go.Proofs.YtegjmmocnffpiaaDoor
/- The document's matrix: what its functions answer, and how a row is when a job goes. Of no program. -/
namespace Go.Proofs.YtegjmmocnffpiaaDoor
open Go.RowKit
set_option maxRecDepth 20000
theorem rowN_del {m : Mx} (hm : MxOk m) {x : Jb} (hx : x ∈ m.js) (o : Nat) : rowN (m.del x.id) o = if o = x.row then setAll (rowN m o) (lst x.ns) 0 else rowN m o := by
  have hm' := hm.del x.id
  have hat : ∀ i, atJ (m.del x.id).js o i = if o = x.row ∧ x.ns.getLsbD i = true then 0 else atJ m.js o i := fun i => by
    by_cases h : o = x.row ∧ x.ns.getLsbD i = true
    · rw [if_pos h]
      refine atJ_none fun y y1 y2 => ?_
      cases hb : y.ns.getLsbD i with
      | false => rfl
      | true =>
        obtain ⟨y3, y4⟩ := mem_delJ.1 y1
        exact (hm.dis y y3 x hx y4 (y2.trans h.1) i hb h.2).elim
    · rw [if_neg h]
      by_cases h2 : ∃ y ∈ m.js, y.row = o ∧ y.ns.getLsbD i = true
      · obtain ⟨y, y1, y2, y3⟩ := h2
        rw [atJ_some hm y1 y2 y3]
        refine atJ_some hm' (mem_delJ.2 ⟨y1, fun e => h ?_⟩) y2 y3
        have e2 := id_inj hm.srt y1 hx e
        rw [e2] at y2 y3
        exact ⟨y2.symm, y3⟩
      · have hno : ∀ y ∈ m.js, y.row = o → y.ns.getLsbD i = false := fun y y1 y2 => by cases hb : y.ns.getLsbD i with | false => rfl | true => exact absurd ⟨y, y1, y2, hb⟩ h2
        rw [atJ_none hno]
        exact atJ_none fun y y1 y2 => hno y (mem_delJ.1 y1).1 y2
  refine List.ext_getElem? fun i => ?_
  by_cases hi : i < m.N
  · have h1 : (rowN (m.del x.id) o)[i]? = some (atJ (m.del x.id).js o i) := rowN_get (m := m.del x.id) hi o
    rw [h1, hat]
    by_cases e : o = x.row
    · rw [if_pos e, setAll_get _ _ _ _ (by rw [rowN_len]; exact hi), rowN_get hi]
      by_cases e2 : x.ns.getLsbD i = true
      · rw [if_pos ⟨e, e2⟩, if_pos (mem_lst.2 e2)]
      · rw [if_neg (fun h => e2 h.2), if_neg (fun h => e2 (mem_lst.1 h))]
    · rw [if_neg e, if_neg (fun h => e h.1), rowN_get hi]
  · rw [List.getElem?_eq_none (by rw [rowN_len]; show m.N ≤ i; omega)]
    split
    · rw [List.getElem?_eq_none (by rw [setAll_len, rowN_len]; omega)]
    · rw [List.getElem?_eq_none (by rw [rowN_len]; omega)]
/-- A row's cells were changed. -/
theorem RiOk.set {m m' : Mx} {cs us : SV} {rs : List Rr} (h : RiOk m cs us rs) (hm' : MxOk m') (hR : m'.R = m.R) (hN : m'.N = m.N) {r : Nat} {p : Rr} {d : List Nat} (hp : rs[r]? = some p) (hd : d = rowN m' r) (ho : ∀ o, o ≠ r → rowN m' o = rowN m o) : RiOk m' cs us (rs.set r (p.1, d)) := by
  have hrl := h.rlen
  have hr : r < rs.length := (List.getElem?_eq_some_iff.1 hp).1
  refine ⟨hm', h.cn.trans hR.symm, h.un.trans hN.symm, ?_, fun p' hp' => ?_⟩
  · refine List.ext_getElem? fun k => ?_
    by_cases hk : k < m.R
    · rw [List.getElem?_map, List.getElem?_map, List.getElem?_range (show k < m'.R by omega), Option.map_some]
      by_cases e : r = k
      · subst e
        rw [List.getElem?_set_self (by omega), Option.map_some, hd]
      · rw [List.getElem?_set_ne e, ho k (fun h => e h.symm)]
        obtain ⟨p', hp', hpd', _⟩ := h.at_ hk
        rw [hp', Option.map_some, hpd']
    · rw [List.getElem?_eq_none (by rw [List.length_map, List.length_set]; omega), List.getElem?_eq_none (by rw [List.length_map, List.length_range]; omega)]
  · rw [hN]
    rcases List.mem_or_eq_of_mem_set hp' with h9 | h9
    · exact h.len p' h9
    · rw [h9]; exact h.len p (List.mem_of_getElem? hp)
theorem rrV_set {rs : List Rr} {r : Nat} {p : Rr} (hp : rs[r]? = some p) (d : List Nat) : (rs.set r (p.1, d)).map rrV = rs.map rrV := by
  have hr : r < rs.length := (List.getElem?_eq_some_iff.1 hp).1
  rw [List.map_set]
  refine List.ext_getElem? fun k => ?_
  by_cases e : r = k
  · subst e; rw [List.getElem?_set_self (by rw [List.length_map]; omega), List.getElem?_map, hp]; rfl
  · rw [List.getElem?_set_ne e]
theorem idsV_set (d : List Nat) (i j : Nat) : (idsV d).set i (.int .u32 (j : Int)) = idsV (d.set i j) := by
  show (d.map _).set _ _ = (d.set i j).map _
  rw [List.map_set]
/-! Free. -/
theorem free_atJ {m : Mx} (hm : MxOk m) {r i : Nat} (hi : i < 16) : (m.free r).getLsbD i = (decide (atJ m.js r i = 0) && m.up.getLsbD i) := by
  have h := busy_iff hm (r := r) (i := i)
  rw [Mx.free, BitVec.getLsbD_and, BitVec.getLsbD_not, decide_eq_true hi, Bool.true_and, Bool.and_comm]
  congr 1
  cases hb : (tk m.js r).getLsbD i with
  | false => rw [decide_eq_true (h.2 hb)]; rfl
  | true => rw [decide_eq_false (fun e => by rw [h.1 e] at hb; cases hb)]; rfl
theorem bitU_free {m : Mx} (hm : MxOk m) (r : Nat) : bitU (m.free r) m.N = lst (m.free r) := rise_ext (bitU_rise _ _) (lst_rise _) fun i => by
  rw [mem_bitU, mem_lst]
  exact ⟨fun h => h.2, fun h => ⟨hm.up i (free_bit h).1, h⟩⟩
def freeL (m : Mx) (z : Int) : List Nat := if rowB m z then lst (m.free z.toNat) else []
theorem freeL_len (m : Mx) (z : Int) : (freeL m z).length = freeR m z := by unfold freeL freeR; split <;> rfl
/-! Row. -/
def rowAt (m : Mx) (r i : Nat) : Option Jb := m.js.find? fun x => decide (x.row = r) && decide (tz x.ns = i)
def rowU (m : Mx) (r k : Nat) : List Nat := ((List.range k).filterMap (rowAt m r)).map (·.id)
theorem rowAt_none {m : Mx} {r i : Nat} (h : ∀ x ∈ m.js, x.row = r → tz x.ns ≠ i) : rowAt m r i = none := by
  refine List.find?_eq_none.2 fun x hx => ?_
  simp only [Bool.and_eq_true, decide_eq_true_eq, not_and]
  exact h x hx
theorem rowAt_some {m : Mx} (hm : MxOk m) {r i : Nat} {x : Jb} (hx : x ∈ m.js) (h1 : x.row = r) (h2 : tz x.ns = i) : rowAt m r i = some x := by
  cases h : rowAt m r i with
  | none =>
    have := List.find?_eq_none.1 h x hx
    simp [h1, h2] at this
  | some y =>
    have h3 := List.mem_of_find?_eq_some h
    have h4 := List.find?_some h
    simp only [Bool.and_eq_true, decide_eq_true_eq] at h4
    refine congrArg some (Classical.byContradiction fun hne => ?_)
    have hid : y.id ≠ x.id := fun e => hne (id_inj hm.srt h3 hx e)
    exact hm.dis y h3 x hx hid (h4.1.trans h1.symm) i (by rw [← h4.2]; exact mem_lst.1 (tz_mem (hm.some y h3))) (by rw [← h2]; exact mem_lst.1 (tz_mem (hm.some x hx)))
theorem rowU_succ (m : Mx) (r k : Nat) : rowU m r (k + 1) = rowU m r k ++ ((rowAt m r k).map (·.id)).toList := by
  unfold rowU
  rw [List.range_succ, List.filterMap_append, List.map_append]
  cases h : rowAt m r k with
  | none => simp [h]
  | some y => simp [h]
theorem rowU_len (m : Mx) (r : Nat) : ∀ k, (rowU m r k).length ≤ k
  | 0 => Nat.le_refl _
  | k + 1 => by
    have := rowU_len m r k
    rw [rowU_succ, List.length_append]
    cases rowAt m r k with
    | none => simp; omega
    | some y => simp; omega
theorem rowIds_eq0 {m : Mx} {r : Nat} (hr : r < m.R) : rowIds m r = (rowJ m r).map (·.id) := by rw [rowIds, if_pos (rowB_iff.2 ⟨by omega, by omega⟩), Int.toNat_natCast]
theorem rowU_all {m : Mx} (hm : MxOk m) {r : Nat} (hr : r < m.R) : rowU m r m.N = rowIds m r := by
  have key : ∀ d, m.N + d ≤ 16 → rowU m r (m.N + d) = rowU m r m.N := by
    intro d
    induction d with
    | zero => intro _; rfl
    | succ d ih =>
      intro hd
      rw [← Nat.add_assoc, rowU_succ, ih (by omega), rowAt_none fun x hx _ e => ?_]
      · simp
      · have := hm.ns x hx (tz x.ns) (mem_lst.1 (tz_mem (hm.some x hx)))
        omega
  have h16 := hm.N16
  have h := key (16 - m.N) (by omega)
  rw [show m.N + (16 - m.N) = 16 by omega] at h
  rw [← h, rowIds_eq0 hr]
  rfl
/-- What a cell tells: nobody, or a job whose least node it is or not. -/
theorem rowAt_cell {m : Mx} (hm : MxOk m) {r k : Nat} : (atJ m.js r k = 0 ∧ rowAt m r k = none) ∨ ∃ y, look m.js (atJ m.js r k) = some y ∧ y.id = atJ m.js r k ∧ y.row = r ∧ rowAt m r k = if tz y.ns = k then some y else none := by
  by_cases h : ∃ y ∈ m.js, y.row = r ∧ y.ns.getLsbD k = true
  · right
    obtain ⟨y, y1, y2, y3⟩ := h
    have ha := atJ_some hm y1 y2 y3
    refine ⟨y, by rw [ha]; exact look_mem hm.srt y1, ha.symm, y2, ?_⟩
    split
    · rename_i e; exact rowAt_some hm y1 y2 e
    · rename_i e
      refine rowAt_none fun x x1 x2 x3 => e ?_
      have hb : x.ns.getLsbD k = true := by rw [← x3]; exact mem_lst.1 (tz_mem (hm.some x x1))
      have hid : x.id = y.id := Classical.byContradiction fun hne => hm.dis x x1 y y1 hne (x2.trans y2.symm) k hb y3
      rw [← id_inj hm.srt x1 y1 hid]
      exact x3
  · left
    have hno : ∀ y ∈ m.js, y.row = r → y.ns.getLsbD k = false := fun y y1 y2 => by cases hb : y.ns.getLsbD k with | false => rfl | true => exact absurd ⟨y, y1, y2, hb⟩ h
    refine ⟨atJ_none hno, rowAt_none fun x x1 x2 x3 => ?_⟩
    have := hno x x1 x2
    rw [← x3, mem_lst.1 (tz_mem (hm.some x x1))] at this
    cases this
/-! Jobs: put in, one by one, in order. -/
def insU (j : Nat) (done : Bool) : List Nat → Nat → List Nat × Bool
  | _, 0 => ([], done)
  | l, k + 1 =>
    let r := insU j done l k
    let x := l.getD k 0
    if !r.2 && decide (j < x) then (r.1 ++ [j] ++ [x], true) else (r.1 ++ [x], r.2)
def insJ (j : Nat) (l : List Nat) : List Nat := if (insU j false l l.length).2 then (insU j false l l.length).1 else (insU j false l l.length).1 ++ [j]
theorem insU_t {j : Nat} {l : List Nat} {k : Nat} (h : (!(insU j false l k).2 && decide (j < l.getD k 0)) = true) : insU j false l (k + 1) = ((insU j false l k).1 ++ [j] ++ [l.getD k 0], true) := if_pos h
theorem insU_f {j : Nat} {l : List Nat} {k : Nat} (h : ¬ (!(insU j false l k).2 && decide (j < l.getD k 0)) = true) : insU j false l (k + 1) = ((insU j false l k).1 ++ [l.getD k 0], (insU j false l k).2) := if_neg h
theorem insU_len (j : Nat) (l : List Nat) : ∀ k, (insU j false l k).1.length = k + if (insU j false l k).2 then 1 else 0
  | 0 => rfl
  | k + 1 => by
    have ih := insU_len j l k
    by_cases h : (!(insU j false l k).2 && decide (j < l.getD k 0)) = true
    · rw [insU_t h]
      simp only [Bool.and_eq_true, Bool.not_eq_true'] at h
      rw [h.1] at ih
      simp [ih]
    · rw [insU_f h]
      simp only [List.length_append, ih, List.length_singleton]
      omega
theorem insU_perm (j : Nat) (l : List Nat) : ∀ k, k ≤ l.length → (insU j false l k).1.Perm (if (insU j false l k).2 then j :: l.take k else l.take k)
  | 0, _ => by simp [insU]
  | k + 1, hk => by
    have ih := insU_perm j l k (by omega)
    have hx := List.getElem?_eq_getElem (show k < l.length by omega)
    have ht : l.take (k + 1) = l.take k ++ [l.getD k 0] := by rw [List.take_add_one, hx]; simp [List.getD, hx]
    by_cases h : (!(insU j false l k).2 && decide (j < l.getD k 0)) = true
    · rw [insU_t h]
      simp only [Bool.and_eq_true, Bool.not_eq_true'] at h
      rw [h.1] at ih
      simp only [Bool.false_eq_true, if_false] at ih
      simp only [if_true, ht]
      refine ((ih.append_right _).append_right _).trans ?_
      exact (List.perm_append_comm.append_right _)
    · rw [insU_f h, ht]
      simp only
      by_cases h2 : (insU j false l k).2 = true
      · rw [if_pos h2] at ih ⊢
        exact ih.append_right _
      · rw [if_neg h2] at ih ⊢
        exact ih.append_right _
theorem insJ_perm (j : Nat) (l : List Nat) : (insJ j l).Perm (j :: l) := by
  have h := insU_perm j l l.length (Nat.le_refl _)
  rw [List.take_length] at h
  unfold insJ
  by_cases e : (insU j false l l.length).2 = true
  · rw [if_pos e] at h ⊢; exact h
  · rw [if_neg e] at h ⊢; exact (h.append_right _).trans List.perm_append_comm
theorem insU_rise {j : Nat} {l : List Nat} (hl : l.Pairwise (· < ·)) (hj : j ∉ l) : ∀ k, k ≤ l.length → (insU j false l k).1.Pairwise (· < ·) ∧ ((insU j false l k).2 = false → (insU j false l k).1 = l.take k ∧ ∀ x ∈ l.take k, x < j)
  | 0, _ => ⟨List.Pairwise.nil, fun _ => ⟨rfl, fun x hx => by cases hx⟩⟩
  | k + 1, hk => by
    obtain ⟨h1, h2⟩ := insU_rise hl hj k (by omega)
    have hk' : k < l.length := by omega
    have hx := List.getElem?_eq_getElem hk'
    have hg : l.getD k 0 = l[k] := by simp [List.getD, hx]
    have ht : l.take (k + 1) = l.take k ++ [l[k]] := by rw [List.take_add_one, hx]; rfl
    have hlt : ∀ x ∈ l.take k, x < l[k] := fun x hx' => by
      have h9 := hl
      rw [← List.take_append_drop k l, List.drop_eq_getElem_cons hk'] at h9
      exact (List.pairwise_append.1 h9).2.2 x hx' _ (List.mem_cons_self ..)
    have hperm := insU_perm j l k (by omega)
    by_cases h : (!(insU j false l k).2 && decide (j < l.getD k 0)) = true
    · rw [insU_t h]
      rw [hg] at h ⊢
      simp only [Bool.and_eq_true, Bool.not_eq_true', decide_eq_true_eq] at h
      obtain ⟨h3, h4⟩ := h2 h.1
      refine ⟨?_, fun e => by cases e⟩
      rw [h3]
      refine List.pairwise_append.2 ⟨List.pairwise_append.2 ⟨h3 ▸ h1, List.pairwise_singleton _ _, fun a ha b hb => ?_⟩, List.pairwise_singleton _ _, fun a ha b hb => ?_⟩
      · rw [List.mem_singleton] at hb
        rw [hb]
        exact h4 a ha
      · rw [List.mem_singleton] at hb
        rw [hb]
        rcases List.mem_append.1 ha with ha | ha
        · exact hlt a ha
        · rw [List.mem_singleton] at ha
          rw [ha]
          exact h.2
    · rw [insU_f h]
      rw [hg] at h ⊢
      simp only
      refine ⟨List.pairwise_append.2 ⟨h1, List.pairwise_singleton _ _, fun a ha b hb => ?_⟩, fun e => ?_⟩
      · rw [List.mem_singleton] at hb
        rw [hb]
        have ha' := hperm.mem_iff.1 ha
        by_cases h5 : (insU j false l k).2 = true
        · rw [if_pos h5] at ha'
          rcases List.mem_cons.1 ha' with rfl | ha'
          · have h6 := insU_less hl hj k (by omega) h5
            exact Nat.lt_trans h6.2 (hlt _ h6.1)
          · exact hlt a ha'
        · rw [if_neg h5] at ha'
          exact hlt a ha'
      · obtain ⟨h3, h4⟩ := h2 e
        rw [e] at h
        simp only [Bool.not_false, Bool.true_and, decide_eq_true_eq] at h
        refine ⟨by rw [h3, ht], fun x hx' => ?_⟩
        rw [ht, List.mem_append, List.mem_singleton] at hx'
        rcases hx' with hx' | rfl
        · exact h4 x hx'
        · have : j ≠ l[k] := fun e9 => hj (by rw [e9]; exact List.getElem_mem hk')
          omega
where
  insU_less {j : Nat} {l : List Nat} (hl : l.Pairwise (· < ·)) (hj : j ∉ l) : ∀ k, (hk : k ≤ l.length) → (insU j false l k).2 = true → (l.getD (k - 1) 0) ∈ l.take k ∧ j < l.getD (k - 1) 0
    | 0, _, h => by cases h
    | k + 1, hk, h => by
      have hk' : k < l.length := by omega
      have hx := List.getElem?_eq_getElem hk'
      have hg : l.getD k 0 = l[k] := by simp [List.getD, hx]
      have ht : l.take (k + 1) = l.take k ++ [l[k]] := by rw [List.take_add_one, hx]; rfl
      simp only [Nat.add_sub_cancel, hg]
      refine ⟨by rw [ht]; exact List.mem_append_right _ (List.mem_singleton.2 rfl), ?_⟩
      by_cases h2 : (!(insU j false l k).2 && decide (j < l.getD k 0)) = true
      · rw [hg] at h2
        simp only [Bool.and_eq_true, decide_eq_true_eq] at h2
        exact h2.2
      · rw [insU_f h2] at h
        obtain ⟨h3, h4⟩ := insU_less hl hj k (by omega) h
        have h9 := hl
        rw [← List.take_append_drop k l, List.drop_eq_getElem_cons hk'] at h9
        exact Nat.lt_trans h4 ((List.pairwise_append.1 h9).2.2 _ h3 _ (List.mem_cons_self ..))
theorem insJ_rise {j : Nat} {l : List Nat} (hl : l.Pairwise (· < ·)) (hj : j ∉ l) : (insJ j l).Pairwise (· < ·) := by
  obtain ⟨h1, h2⟩ := insU_rise hl hj l.length (Nat.le_refl _)
  unfold insJ
  by_cases e : (insU j false l l.length).2 = true
  · rw [if_pos e]; exact h1
  · rw [if_neg e]
    obtain ⟨h3, h4⟩ := h2 (by simpa using e)
    rw [List.take_length] at h3 h4
    rw [h3]
    refine List.pairwise_append.2 ⟨hl, List.pairwise_singleton _ _, fun a ha b hb => ?_⟩
    rw [List.mem_singleton] at hb
    rw [hb]
    exact h4 a ha
def insAll (l : List Nat) : List Nat → List Nat := fun js => js.foldl (fun a j => insJ j a) l
theorem insAll_ok : ∀ (js l : List Nat), l.Pairwise (· < ·) → (l ++ js).Nodup → (insAll l js).Perm (l ++ js) ∧ (insAll l js).Pairwise (· < ·)
  | [], l, hl, _ => ⟨by simp [insAll], hl⟩
  | j :: js, l, hl, hn => by
    have hj : j ∉ l := fun h => by
      have := (List.nodup_append.1 hn).2.2 j h j (List.mem_cons_self ..)
      exact this rfl
    have hp := insJ_perm j l
    have h1 := insJ_rise hl hj
    have hp2 : (insJ j l ++ js).Perm (l ++ j :: js) := (hp.append_right js).trans List.perm_middle.symm
    obtain ⟨h3, h4⟩ := insAll_ok js (insJ j l) h1 (hp2.nodup_iff.2 hn)
    exact ⟨h3.trans hp2, h4⟩
/-- All rows' jobs, one row behind the other. -/
def rowsIds (m : Mx) : Nat → List Nat
  | 0 => []
  | r + 1 => rowsIds m r ++ rowIds m r
theorem mem_rowsIds {m : Mx} (hm : MxOk m) {j : Nat} : ∀ {r : Nat}, r ≤ m.R → (j ∈ rowsIds m r ↔ ∃ x ∈ m.js, x.row < r ∧ x.id = j)
  | 0, _ => by simp [rowsIds]
  | r + 1, hr => by
    rw [rowsIds, List.mem_append, mem_rowsIds hm (by omega)]
    have h9 : j ∈ rowIds m r ↔ ∃ x ∈ m.js, x.row = r ∧ x.id = j := by
      rw [rowIds_eq0 (by omega), List.mem_map]
      constructor
      · rintro ⟨x, h1, h2⟩; exact ⟨x, ((mem_rowJ hm).1 h1).1, ((mem_rowJ hm).1 h1).2, h2⟩
      · rintro ⟨x, h1, h2, h3⟩; exact ⟨x, (mem_rowJ hm).2 ⟨h1, h2⟩, h3⟩
    rw [h9]
    constructor
    · rintro (⟨x, h1, h2, h3⟩ | ⟨x, h1, h2, h3⟩)
      · exact ⟨x, h1, by omega, h3⟩
      · exact ⟨x, h1, by omega, h3⟩
    · rintro ⟨x, h1, h2, h3⟩
      by_cases e : x.row = r
      · exact .inr ⟨x, h1, e, h3⟩
      · exact .inl ⟨x, h1, by omega, h3⟩
theorem rowsIds_nodup {m : Mx} (hm : MxOk m) : ∀ r, r ≤ m.R → (rowsIds m r).Nodup
  | 0, _ => List.nodup_nil
  | r + 1, hr => by
    rw [rowsIds]
    refine List.nodup_append.2 ⟨rowsIds_nodup hm r (by omega), ?_, fun a ha b hb e => ?_⟩
    · rw [rowIds_eq0 (by omega)]
      exact List.pairwise_map.2 (rowJ_srt.imp_of_mem fun {a b} ha hb h e => by rw [id_inj hm.srt ((mem_rowJ hm).1 ha).1 ((mem_rowJ hm).1 hb).1 e] at h; omega)
    · obtain ⟨x, x1, x2, x3⟩ := (mem_rowsIds hm (by omega)).1 ha
      rw [rowIds_eq0 (by omega)] at hb
      obtain ⟨y, y1, y2⟩ := List.mem_map.1 hb
      have h9 := (mem_rowJ hm).1 y1
      have h8 := id_inj hm.srt x1 h9.1 (by rw [x3, y2, e])
      rw [h8] at x2
      omega

theorem insAll_rows {m : Mx} (hm : MxOk m) : insAll [] (rowsIds m m.R) = m.js.map (·.id) := by
  obtain ⟨h1, h2⟩ := insAll_ok (rowsIds m m.R) [] List.Pairwise.nil (by simpa using rowsIds_nodup hm m.R (Nat.le_refl _))
  refine rise_ext h2 (List.pairwise_map.2 hm.srt) fun j => ?_
  rw [h1.mem_iff, List.nil_append, mem_rowsIds hm (Nat.le_refl _), List.mem_map]
  constructor
  · rintro ⟨x, x1, _, x3⟩; exact ⟨x, x1, x3⟩
  · rintro ⟨x, x1, x3⟩; exact ⟨x, x1, hm.row x x1, x3⟩
end Go.Proofs.YtegjmmocnffpiaaDoor
/- The document's matrix: Free, Row, Remove, Place, Next. -/
namespace Go.Proofs.YtegjmmocnffpiaaDoor
open Go.RowKit
set_option maxRecDepth 20000
theorem flat1 (l : List Nat) : l.flatMap (fun i : Nat => [nv i]) = nds l := by
  induction l with
  | nil => rfl
  | cons a l ih => rw [List.flatMap_cons, ih]; rfl
theorem ints_casts (l : List Nat) : ints (casts l) = nds l := by
  show (l.map _).map _ = l.map _
  rw [List.map_map]
  rfl
theorem rdTake {s : SV} {T : TypeId} {l : List Nat} {k : Nat} (hk : k ≤ s.n) : RdS (own s T 1 (nds l)) ⟨s.a, k, s.c⟩ k 1 (ints (casts (l.take k))) := by
  have h0 : RdS (own s T 1 (nds l)) s s.n 1 (l.flatMap fun i : Nat => [nv i]) := by rw [flat1]; exact RdS.own
  have h := RdS.take (enc := fun i : Nat => [nv i]) (sz := 1) (fun _ => rfl) (by omega) h0 hk
  rw [flat1] at h
  rw [ints_casts]
  exact h
theorem rowIds_zero {m : Mx} (hm : MxOk m) {f : Nat} (hf : f < m.R) : rowIds m f = [] ↔ tk m.js f = 0#16 := by
  have h9 : ∀ j, j ∈ rowIds m f ↔ ∃ x ∈ m.js, x.row = f ∧ x.id = j := fun j => by
    rw [rowIds_eq0 hf, List.mem_map]
    constructor
    · rintro ⟨x, h1, h2⟩; exact ⟨x, ((mem_rowJ hm).1 h1).1, ((mem_rowJ hm).1 h1).2, h2⟩
    · rintro ⟨x, h1, h2, h3⟩; exact ⟨x, (mem_rowJ hm).2 ⟨h1, h2⟩, h3⟩
  constructor
  · intro h
    refine BitVec.eq_of_getLsbD_eq fun i _ => ?_
    cases hb : (tk m.js f).getLsbD i with
    | false => simp
    | true =>
      obtain ⟨x, x1, x2, _⟩ := (tk_bit _ _ _).1 hb
      have := (h9 x.id).2 ⟨x, x1, x2, rfl⟩
      rw [h] at this
      cases this
  · intro h
    refine List.eq_nil_iff_forall_not_mem.2 fun j hj => ?_
    obtain ⟨x, x1, x2, _⟩ := (h9 j).1 hj
    have := (tk_bit m.js f (tz x.ns)).2 ⟨x, x1, x2, mem_lst.1 (tz_mem (hm.some x x1))⟩
    rw [h] at this
    simp at this
theorem rFree_S (b : Nat) (m : Mx) (z : Int) : Spec Tryd.prog 44 [.pointer (some ⟨b, 0, none⟩), .int .i64 z] [RI b m] fun Γ v Θ => ∃ sv : SV, v = sv.v ∧ sv.n = (freeL m z).length ∧ Θ = own sv 3 1 (nds (freeL m z)) :: RI b m :: Γ := by
  refine Spec.riOk fun hm => ?_
  refine Spec.of_body Tryd.func44 rfl Tryd.ntmps44 rfl ?_
  intro w0 Γ
  show S _ w0 [(0, .pointer (some ⟨b, 0, none⟩)), (1, .int .i64 z)] (RI b m :: Γ) _
  have hR8 := hm.R8
  have hN16 := hm.N16
  have hN1 := hm.N1
  refine S.riOpen b m fun cs us rs hri => ?_
  have hcn := hri.cn
  have hun := hri.un
  refine S.ownSome cs (by have := hm.R1; omega) fun cb co hca _ _ _ => ?_
  refine S.ownSome us (by omega) fun ub uo hua _ _ _ => ?_
  refine S.ent (Ent.ownNil 3 1) ?_
  show S _ w0 _ (own SV.nil 3 1 (nds []) :: riX b m cs us rs Γ) _
  refine S.seq fun K1 hK1 => ?_
  refine S.region rfl ?_
  refine S.op (S.q (q_assign rfl) rfl rfl ?_)
  first | with_reducible refine S.nilK ?_ | refine S.nil ?_
  refine hK1 _ _ ?_
  refine S.seq fun K2 hK2 => ?_
  refine S.region rfl ?_
  refine S.op (S.q (q_assign rfl) rfl rfl ?_)
  first | with_reducible refine S.nilK ?_ | refine S.nil ?_
  refine hK2 _ _ ?_
  refine S.seq fun K3 hK3 => ?_
  refine S.seq fun K4 hK4 => ?_
  refine S.cut (fun ρ' Γ' => ρ' = [(0, .pointer (some ⟨b, 0, none⟩)), (1, .int .i64 z), (5, SV.nil.v), (22, .bool (rowB m z))] ∧ Γ' = own SV.nil 3 1 (nds []) :: riX b m cs us rs Γ) ?_ ?_
  · refine S.regionG ?_
    refine S.g_op rfl (S.q (q_move rfl) rfl rfl ?_)
    refine S.g_op rfl (S.q (q_neN Tryd.underlying26 rfl rfl) rfl rfl ?_)
    refine S.g_op rfl (S.q (q_move rfl) rfl rfl ?_)
    refine S.g_yes rfl rfl rfl (rfl) (S.q (q_move rfl) rfl rfl ?_)
    refine S.g_yes rfl rfl rfl (rfl) (S.q (q_ge rfl rfl) rfl rfl ?_)
    refine S.g_op rfl (S.q (q_pickT rfl (rfl) rfl) rfl rfl ?_)
    refine S.g_op rfl (S.q (q_move rfl) rfl rfl ?_)
    by_cases hg2_6 : (0 : Int) ≤ z
    · refine S.g_yes rfl rfl rfl (decide_eq_true hg2_6) (S.q (q_move rfl) rfl rfl ?_)
      refine S.g_yes rfl rfl rfl (decide_eq_true hg2_6) (S.q (q_move rfl) rfl rfl ?_)
      refine S.g_yes rfl rfl rfl (decide_eq_true hg2_6) (S.q (q_nilCheck rfl) rfl rfl ?_)
      refine S.g_yes rfl rfl rfl (decide_eq_true hg2_6) (S.q (q_field Tryd.fo55_0 rfl) rfl rfl ?_)
      refine S.g_yes rfl rfl rfl (decide_eq_true hg2_6) (S.q (q_load Tryd.at52 rfl rfl) rfl rfl ?_)
      refine S.g_yes rfl rfl rfl (decide_eq_true hg2_6) (S.q (q_len Tryd.underlying52 rfl) rfl rfl ?_)
      refine S.g_yes rfl rfl rfl (decide_eq_true hg2_6) (S.q (q_lt rfl rfl) rfl rfl ?_)
      refine S.g_op rfl (S.q (q_pickT rfl (decide_eq_true hg2_6) rfl) rfl rfl ?_)
      first | with_reducible refine S.g_nilK ?_ | refine S.g_nil ?_
      with_reducible repeat (first | refine S.then_n ?_ | refine S.then_x ?_ | refine S.then_r ?_ | refine S.inBlock_n ?_ | refine S.inBlock_r ?_ | refine S.inBlock_x rfl ?_ | refine S.noGoto_r ?_ | refine S.noGoto_n ?_ | refine S.noGoto_x ?_)
      first | (rw [show rowB m z = false by rw [rowB, decide_eq_false hg2_6]; rfl]; exact S.meet ⟨rfl, rfl⟩ ⟨rfl, rfl, rfl, rfl, trivial⟩ Sub.ent) | (rw [show rowB m z = decide (z < (cs.n : Int)) by rw [rowB, decide_eq_true hg2_6, hcn]; rfl]; exact S.meet ⟨rfl, rfl⟩ ⟨rfl, rfl, rfl, rfl, trivial⟩ Sub.ent)
    · refine S.g_no rfl rfl rfl (decide_eq_false hg2_6) rfl rfl ?_
      refine S.g_no rfl rfl rfl (decide_eq_false hg2_6) rfl rfl ?_
      refine S.g_no rfl rfl rfl (decide_eq_false hg2_6) rfl rfl ?_
      refine S.g_no rfl rfl rfl (decide_eq_false hg2_6) rfl rfl ?_
      refine S.g_no rfl rfl rfl (decide_eq_false hg2_6) rfl rfl ?_
      refine S.g_no rfl rfl rfl (decide_eq_false hg2_6) rfl rfl ?_
      refine S.g_no rfl rfl rfl (decide_eq_false hg2_6) rfl rfl ?_
      refine S.g_op rfl (S.q (q_pickF rfl (decide_eq_false hg2_6) rfl) rfl rfl ?_)
      first | with_reducible refine S.g_nilK ?_ | refine S.g_nil ?_
      with_reducible repeat (first | refine S.then_n ?_ | refine S.then_x ?_ | refine S.then_r ?_ | refine S.inBlock_n ?_ | refine S.inBlock_r ?_ | refine S.inBlock_x rfl ?_ | refine S.noGoto_r ?_ | refine S.noGoto_n ?_ | refine S.noGoto_x ?_)
      first | (rw [show rowB m z = false by rw [rowB, decide_eq_false hg2_6]; rfl]; exact S.meet ⟨rfl, rfl⟩ ⟨rfl, rfl, rfl, rfl, trivial⟩ Sub.ent) | (rw [show rowB m z = decide (z < (cs.n : Int)) by rw [rowB, decide_eq_true hg2_6, hcn]; rfl]; exact S.meet ⟨rfl, rfl⟩ ⟨rfl, rfl, rfl, rfl, trivial⟩ Sub.ent)
  · rintro ρ' Γ' ⟨rfl, rfl⟩
    refine hK4 _ _ ?_
    refine S.cut (fun ρ' Γ' => ∃ sv : SV, sv.n = (freeL m z).length ∧ ρ' = [(5, sv.v)] ∧ Γ' = own sv 3 1 (nds (freeL m z)) :: riX b m cs us rs Γ) ?_ ?_
    · refine S.cond rfl (fun h1 => ?_) (fun h1 => ?_)
      · have hz := rowB_iff.1 h1
        obtain ⟨r, rfl⟩ : ∃ r : Nat, z = r := ⟨z.toNat, by omega⟩
        have hfl : freeL m r = lst (m.free r) := by rw [freeL, if_pos h1, Int.toNat_natCast]
        obtain ⟨p, hp, hpd, hpn⟩ := hri.at_ (show r < m.R by omega)
        have hRp : RdS (alls rs rrB) p.1 p.1.n 1 (idsV p.2) := RdS.alls hp RdS.own
        refine S.rSome hRp (by omega) fun pb po hpa => ?_
        refine S.seq fun K5 hK5 => ?_
        refine S.region rfl ?_
        refine S.op (S.q (q_move rfl) rfl rfl ?_)
        refine S.op (S.q (q_nilCheck rfl) rfl rfl ?_)
        refine S.op (S.q (q_field Tryd.fo55_0 rfl) rfl rfl ?_)
        refine S.op (S.q (q_load Tryd.at52 rfl rfl) rfl rfl ?_)
        refine S.op (S.q (q_move rfl) rfl rfl ?_)
        refine S.op (S.q (q_indexO (r) Tryd.el52 rfl hca rfl rfl (by omega)) rfl rfl ?_)
        refine S.op (S.q (q_loadOw (cs) (r) Tryd.at31 rfl hca (by first | rfl | exact Nat.add_assoc _ _ _ | omega) (by rw [List.getElem?_map, hp]; rfl)) rfl rfl ?_)
        refine S.op (S.q (q_len Tryd.underlying31 rfl) rfl rfl ?_)
        refine S.op (S.q (q_move rfl) rfl rfl ?_)
        first | with_reducible refine S.nilK ?_ | refine S.nil ?_
        refine hK5 _ _ ?_
        refine S.block ?_
        refine S.loop (fun q ρ' Γ' => ∃ (k : Nat) (sv : SV) (nl : List Nat), q = m.N - k ∧ k ≤ m.N ∧ nl = bitU (m.free r) k ∧ sv.n = nl.length ∧ ρ' = [(0, .pointer (some ⟨b, 0, none⟩)), (5, sv.v), (29, p.1.v), (30, .int .i64 p.1.n), (31, .int .i64 (k : Int))] ∧   Γ' = own sv 3 1 (nds nl) :: riX b m cs us rs Γ) (m := _) (ρ0 := _) (Γ0 := _) (⟨0, SV.nil, [], rfl, by omega, rfl, rfl, rfl, rfl⟩) (by repeat (first | exact trivial | refine ⟨rfl, ?_⟩)) Sub.ent ?_
        rintro q ρ' Γ' ⟨k, sv, nl, hq, hk, hnl, hsv, rfl, rfl⟩
        have hlen := bitU_len (m.free r) k
        rw [← hnl] at hlen
        refine S.seq fun K6 hK6 => ?_
        refine S.region rfl ?_
        refine S.op (S.q (q_lt rfl rfl) rfl rfl ?_)
        first | with_reducible refine S.nilK ?_ | refine S.nil ?_
        refine hK6 _ _ ?_
        refine S.seq fun K7 hK7 => ?_
        refine S.condD rfl (fun h2 => ?_) (fun h2 => ?_)
        · have hxa := rowN_get (m := m) (i := k) (by omega) r
          rw [← hpd] at hxa
          have hfr := free_atJ hm (r := r) (i := k) (by omega)
          have hup : (upC m)[k]? = some (.bool (m.up.getLsbD k)) := by rw [List.getElem?_map, List.getElem?_range (by omega)]; rfl
          refine S.skip ?_
          with_reducible repeat (first | refine S.then_n ?_ | refine S.then_x ?_ | refine S.then_r ?_ | refine S.inBlock_n ?_ | refine S.inBlock_r ?_ | refine S.inBlock_x rfl ?_ | refine S.noGoto_r ?_ | refine S.noGoto_n ?_ | refine S.noGoto_x ?_)
          refine hK7 _ _ ?_
          refine S.seq fun K8 hK8 => ?_
          refine S.block ?_
          refine S.seq fun K9 hK9 => ?_
          refine S.region rfl ?_
          refine S.op (S.q (q_move rfl) rfl rfl ?_)
          refine S.op (S.q (q_indexO (k) Tryd.el31 rfl hpa rfl rfl (by omega)) rfl rfl ?_)
          refine S.op (S.q (q_loadR hRp k Tryd.at68 rfl hpa (by omega) (by omega) (idsV_get hxa)) rfl rfl ?_)
          refine S.op (S.q (q_assign rfl) rfl rfl ?_)
          refine S.op (S.q (q_assign rfl) rfl rfl ?_)
          first | with_reducible refine S.nilK ?_ | refine S.nil ?_
          refine hK9 _ _ ?_
          refine S.seq fun K10 hK10 => ?_
          refine S.cut (fun ρ' Γ' => ρ' = [(0, .pointer (some ⟨b, 0, none⟩)), (5, sv.v), (6, .int .i64 (k : Int)), (29, p.1.v), (30, .int .i64 p.1.n), (31, .int .i64 (k : Int)), (46, .bool ((m.free r).getLsbD k))] ∧ Γ' = own sv 3 1 (nds nl) :: riX b m cs us rs Γ) ?_ ?_
          · refine S.regionG ?_
            refine S.g_op rfl (S.q (q_move rfl) rfl rfl ?_)
            refine S.g_op rfl (S.q (q_eq rfl rfl) rfl rfl ?_)
            refine S.g_op rfl (S.q (q_move rfl) rfl rfl ?_)
            by_cases hg6_2 : (atJ m.js r k : Int) = 0
            · refine S.g_yes rfl rfl rfl (decide_eq_true hg6_2) (S.q (q_move rfl) rfl rfl ?_)
              refine S.g_yes rfl rfl rfl (decide_eq_true hg6_2) (S.q (q_nilCheck rfl) rfl rfl ?_)
              refine S.g_yes rfl rfl rfl (decide_eq_true hg6_2) (S.q (q_field Tryd.fo55_1 rfl) rfl rfl ?_)
              refine S.g_yes rfl rfl rfl (decide_eq_true hg6_2) (S.q (q_load Tryd.at53 rfl rfl) rfl rfl ?_)
              refine S.g_yes rfl rfl rfl (decide_eq_true hg6_2) (S.q (q_move rfl) rfl rfl ?_)
              refine S.g_yes rfl rfl rfl (decide_eq_true hg6_2) (S.q (q_indexO (k) Tryd.el53 rfl hua rfl rfl (by omega)) rfl rfl ?_)
              refine S.g_yes rfl rfl rfl (decide_eq_true hg6_2) (S.q (q_loadOw (us) (k) Tryd.at4 rfl hua (by first | rfl | exact Nat.add_assoc _ _ _ | omega) (hup)) rfl rfl ?_)
              refine S.g_op rfl (S.q (q_pickT rfl (decide_eq_true hg6_2) rfl) rfl rfl ?_)
              first | with_reducible refine S.g_nilK ?_ | refine S.g_nil ?_
              with_reducible repeat (first | refine S.then_n ?_ | refine S.then_x ?_ | refine S.then_r ?_ | refine S.inBlock_n ?_ | refine S.inBlock_r ?_ | refine S.inBlock_x rfl ?_ | refine S.noGoto_r ?_ | refine S.noGoto_n ?_ | refine S.noGoto_x ?_)
              first | (rw [show (m.free r).getLsbD k = m.up.getLsbD k by rw [hfr, decide_eq_true (by omega)]; rfl]; exact S.meet ⟨rfl, rfl⟩ ⟨rfl, rfl, rfl, rfl, rfl, rfl, rfl, trivial⟩ Sub.ent) | (rw [show (m.free r).getLsbD k = false by rw [hfr, decide_eq_false (by omega)]; rfl]; exact S.meet ⟨rfl, rfl⟩ ⟨rfl, rfl, rfl, rfl, rfl, rfl, rfl, trivial⟩ Sub.ent)
            · refine S.g_no rfl rfl rfl (decide_eq_false hg6_2) rfl rfl ?_
              refine S.g_no rfl rfl rfl (decide_eq_false hg6_2) rfl rfl ?_
              refine S.g_no rfl rfl rfl (decide_eq_false hg6_2) rfl rfl ?_
              refine S.g_no rfl rfl rfl (decide_eq_false hg6_2) rfl rfl ?_
              refine S.g_no rfl rfl rfl (decide_eq_false hg6_2) rfl rfl ?_
              refine S.g_no rfl rfl rfl (decide_eq_false hg6_2) rfl rfl ?_
              refine S.g_no rfl rfl rfl (decide_eq_false hg6_2) rfl rfl ?_
              refine S.g_op rfl (S.q (q_pickF rfl (decide_eq_false hg6_2) rfl) rfl rfl ?_)
              first | with_reducible refine S.g_nilK ?_ | refine S.g_nil ?_
              with_reducible repeat (first | refine S.then_n ?_ | refine S.then_x ?_ | refine S.then_r ?_ | refine S.inBlock_n ?_ | refine S.inBlock_r ?_ | refine S.inBlock_x rfl ?_ | refine S.noGoto_r ?_ | refine S.noGoto_n ?_ | refine S.noGoto_x ?_)
              first | (rw [show (m.free r).getLsbD k = m.up.getLsbD k by rw [hfr, decide_eq_true (by omega)]; rfl]; exact S.meet ⟨rfl, rfl⟩ ⟨rfl, rfl, rfl, rfl, rfl, rfl, rfl, trivial⟩ Sub.ent) | (rw [show (m.free r).getLsbD k = false by rw [hfr, decide_eq_false (by omega)]; rfl]; exact S.meet ⟨rfl, rfl⟩ ⟨rfl, rfl, rfl, rfl, rfl, rfl, rfl, trivial⟩ Sub.ent)
          · rintro ρ' Γ' ⟨rfl, rfl⟩
            refine hK10 _ _ ?_
            refine S.cond rfl (fun h3 => ?_) (fun h3 => ?_)
            · have hs4 : nl ++ [k] = bitU (m.free r) (k + 1) := by rw [bitU, if_pos h3, hnl]
              have hl4 : (nl ++ [k]).length = nl.length + 1 := by simp
              have hd4 : nds nl ++ [.int .i64 (k : Int)] = nds (nl ++ [k]) := by simp
              refine S.region rfl ?_
              refine S.op (S.q (q_move rfl) rfl rfl ?_)
              refine S.op (S.q (q_move rfl) rfl rfl ?_)
              refine S.op (S.buildSlice (pvs := [(_, _)]) [_] Tryd.underlying69 Tryd.inf3 rfl rfl ⟨⟨rfl, rfl⟩, trivial⟩ rfl rfl ?_)
              intro b49
              refine S.op (S.appendOw (s := sv) (1) ([.int .i64 (k : Int)]) Tryd.underlying69 Tryd.inf3 rfl rfl rfl (blk_slAt (b := b49) rfl (by unfold maxLen; omega)) (by first | rfl | exact allOne_bcells _) (⟨by omega, by omega⟩) rfl ?_)
              intro sv2 hsv2
              refine S.op (S.q (q_assign rfl) rfl rfl ?_)
              first | with_reducible refine S.nilK ?_ | refine S.nil ?_
              with_reducible repeat (first | refine S.then_n ?_ | refine S.then_x ?_ | refine S.then_r ?_ | refine S.inBlock_n ?_ | refine S.inBlock_r ?_ | refine S.inBlock_x rfl ?_ | refine S.noGoto_r ?_ | refine S.noGoto_n ?_ | refine S.noGoto_x ?_)
              refine hK8 _ _ ?_
              refine S.region rfl ?_
              refine S.op (S.q (q_add rfl rfl (inI64 (by omega) (by omega))) rfl rfl ?_)
              refine S.op (S.q (q_move rfl) rfl rfl ?_)
              first | with_reducible refine S.nilK ?_ | refine S.nil ?_
              with_reducible repeat (first | refine S.then_n ?_ | refine S.then_x ?_ | refine S.then_r ?_ | refine S.inBlock_n ?_ | refine S.inBlock_r ?_ | refine S.inBlock_x rfl ?_ | refine S.noGoto_r ?_ | refine S.noGoto_n ?_ | refine S.noGoto_x ?_)
              first | (rw [hd4]; exact S.next (q - 1) ⟨k + 1, sv2, nl ++ [k], by omega, by omega, hs4, by omega, rfl, rfl⟩ (by omega) (by repeat (first | exact trivial | refine ⟨rfl, ?_⟩)) Sub.ent) | exact S.next (q - 1) ⟨k + 1, sv, nl, by omega, by omega, hs4, hsv, rfl, rfl⟩ (by omega) (by repeat (first | exact trivial | refine ⟨rfl, ?_⟩)) Sub.ent
            · have hs4 : nl = bitU (m.free r) (k + 1) := by rw [bitU, if_neg (by rw [h3]; decide), hnl]
              refine S.skip ?_
              with_reducible repeat (first | refine S.then_n ?_ | refine S.then_x ?_ | refine S.then_r ?_ | refine S.inBlock_n ?_ | refine S.inBlock_r ?_ | refine S.inBlock_x rfl ?_ | refine S.noGoto_r ?_ | refine S.noGoto_n ?_ | refine S.noGoto_x ?_)
              with_reducible repeat (first | refine S.then_n ?_ | refine S.then_x ?_ | refine S.then_r ?_ | refine S.inBlock_n ?_ | refine S.inBlock_r ?_ | refine S.inBlock_x rfl ?_ | refine S.noGoto_r ?_ | refine S.noGoto_n ?_ | refine S.noGoto_x ?_)
              refine hK8 _ _ ?_
              refine S.region rfl ?_
              refine S.op (S.q (q_add rfl rfl (inI64 (by omega) (by omega))) rfl rfl ?_)
              refine S.op (S.q (q_move rfl) rfl rfl ?_)
              first | with_reducible refine S.nilK ?_ | refine S.nil ?_
              with_reducible repeat (first | refine S.then_n ?_ | refine S.then_x ?_ | refine S.then_r ?_ | refine S.inBlock_n ?_ | refine S.inBlock_r ?_ | refine S.inBlock_x rfl ?_ | refine S.noGoto_r ?_ | refine S.noGoto_n ?_ | refine S.noGoto_x ?_)
              first | (rw [hd4]; exact S.next (q - 1) ⟨k + 1, sv2, nl ++ [k], by omega, by omega, hs4, by omega, rfl, rfl⟩ (by omega) (by repeat (first | exact trivial | refine ⟨rfl, ?_⟩)) Sub.ent) | exact S.next (q - 1) ⟨k + 1, sv, nl, by omega, by omega, hs4, hsv, rfl, rfl⟩ (by omega) (by repeat (first | exact trivial | refine ⟨rfl, ?_⟩)) Sub.ent
        · have hkN : k = m.N := by omega
          rw [hkN, bitU_free hm] at hnl
          refine S.exit ?_
          with_reducible repeat (first | refine S.then_n ?_ | refine S.then_x ?_ | refine S.then_r ?_ | refine S.inBlock_n ?_ | refine S.inBlock_r ?_ | refine S.inBlock_x rfl ?_ | refine S.noGoto_r ?_ | refine S.noGoto_n ?_ | refine S.noGoto_x ?_)
          with_reducible refine S.inBlock_s ?_
          with_reducible repeat (first | refine S.then_n ?_ | refine S.then_x ?_ | refine S.then_r ?_ | refine S.inBlock_n ?_ | refine S.inBlock_r ?_ | refine S.inBlock_x rfl ?_ | refine S.noGoto_r ?_ | refine S.noGoto_n ?_ | refine S.noGoto_x ?_)
          with_reducible repeat (first | refine S.then_n ?_ | refine S.then_x ?_ | refine S.then_r ?_ | refine S.inBlock_n ?_ | refine S.inBlock_r ?_ | refine S.inBlock_x rfl ?_ | refine S.noGoto_r ?_ | refine S.noGoto_n ?_ | refine S.noGoto_x ?_)
          first | (rw [hfl]; exact S.meet ⟨SV.nil, rfl, rfl, rfl⟩ ⟨rfl, trivial⟩ Sub.ent) | (rw [hfl, ← hnl]; exact S.meet ⟨sv, hsv, rfl, rfl⟩ ⟨rfl, trivial⟩ Sub.ent)
      · have hfl : freeL m z = [] := by rw [freeL, h1]; rfl
        refine S.skip ?_
        with_reducible repeat (first | refine S.then_n ?_ | refine S.then_x ?_ | refine S.then_r ?_ | refine S.inBlock_n ?_ | refine S.inBlock_r ?_ | refine S.inBlock_x rfl ?_ | refine S.noGoto_r ?_ | refine S.noGoto_n ?_ | refine S.noGoto_x ?_)
        with_reducible repeat (first | refine S.then_n ?_ | refine S.then_x ?_ | refine S.then_r ?_ | refine S.inBlock_n ?_ | refine S.inBlock_r ?_ | refine S.inBlock_x rfl ?_ | refine S.noGoto_r ?_ | refine S.noGoto_n ?_ | refine S.noGoto_x ?_)
        first | (rw [hfl]; exact S.meet ⟨SV.nil, rfl, rfl, rfl⟩ ⟨rfl, trivial⟩ Sub.ent) | (rw [hfl, ← hnl]; exact S.meet ⟨sv, hsv, rfl, rfl⟩ ⟨rfl, trivial⟩ Sub.ent)
    · rintro ρ' Γ' ⟨sv, hsv, rfl, rfl⟩
      refine hK3 _ _ ?_
      refine S.seq fun K11 hK11 => ?_
      refine S.region rfl ?_
      refine S.op (S.q (q_move rfl) rfl rfl ?_)
      refine S.op (S.q (q_assign rfl) rfl rfl ?_)
      first | with_reducible refine S.nilK ?_ | refine S.nil ?_
      refine hK11 _ _ ?_
      refine S.ret ?_
      with_reducible repeat (first | refine S.then_n ?_ | refine S.then_x ?_ | refine S.then_r ?_ | refine S.inBlock_n ?_ | refine S.inBlock_r ?_ | refine S.inBlock_x rfl ?_ | refine S.noGoto_r ?_ | refine S.noGoto_n ?_ | refine S.noGoto_x ?_)
      refine S.riClose b m cs us rs hri ?_
      exact S.fin (rs := [_]) (vs := [_]) Tryd.results44 (⟨rfl, trivial⟩)  (⟨sv, rfl, hsv, rfl⟩) Sub.ent
theorem rRow_S (b : Nat) (m : Mx) (z : Int) : Spec Tryd.prog 19 [.pointer (some ⟨b, 0, none⟩), .int .i64 z] [RI b m] fun Γ v Θ => ∃ sv : SV, v = sv.v ∧ sv.n = (rowIds m z).length ∧ Θ = own sv 68 1 (idsV (rowIds m z)) :: RI b m :: Γ := by
  refine Spec.riOk fun hm => ?_
  refine Spec.of_body Tryd.func19 rfl Tryd.ntmps19 rfl ?_
  intro w0 Γ
  show S _ w0 [(0, .pointer (some ⟨b, 0, none⟩)), (1, .int .i64 z)] (RI b m :: Γ) _
  have hR8 := hm.R8
  have hN16 := hm.N16
  have hN1 := hm.N1
  refine S.riOpen b m fun cs us rs hri => ?_
  have hcn := hri.cn
  refine S.ownSome cs (by have := hm.R1; omega) fun cb co hca _ _ _ => ?_
  refine S.ent (Ent.ownNil 68 1) ?_
  show S _ w0 _ (own SV.nil 68 1 (idsV []) :: riX b m cs us rs Γ) _
  refine S.seq fun K1 hK1 => ?_
  refine S.region rfl ?_
  refine S.op (S.q (q_assign rfl) rfl rfl ?_)
  first | with_reducible refine S.nilK ?_ | refine S.nil ?_
  refine hK1 _ _ ?_
  refine S.seq fun K2 hK2 => ?_
  refine S.region rfl ?_
  refine S.op (S.q (q_assign rfl) rfl rfl ?_)
  first | with_reducible refine S.nilK ?_ | refine S.nil ?_
  refine hK2 _ _ ?_
  refine S.seq fun K3 hK3 => ?_
  refine S.seq fun K4 hK4 => ?_
  refine S.cut (fun ρ' Γ' => ρ' = [(0, .pointer (some ⟨b, 0, none⟩)), (1, .int .i64 z), (5, SV.nil.v), (25, .bool (!rowB m z))] ∧ Γ' = own SV.nil 68 1 (idsV []) :: riX b m cs us rs Γ) ?_ ?_
  · refine S.regionG ?_
    refine S.g_op rfl (S.q (q_move rfl) rfl rfl ?_)
    refine S.g_op rfl (S.q (q_eqN Tryd.underlying26 rfl rfl) rfl rfl ?_)
    refine S.g_op rfl (S.q (q_move rfl) rfl rfl ?_)
    refine S.g_yes rfl rfl rfl (rfl) (S.q (q_move rfl) rfl rfl ?_)
    refine S.g_yes rfl rfl rfl (rfl) (S.q (q_lt rfl rfl) rfl rfl ?_)
    refine S.g_op rfl (S.q (q_pickF rfl (rfl) rfl) rfl rfl ?_)
    refine S.g_op rfl (S.q (q_move rfl) rfl rfl ?_)
    by_cases hg2_6 : z < (0 : Int)
    · refine S.g_no rfl rfl rfl (decide_eq_true hg2_6) rfl rfl ?_
      refine S.g_no rfl rfl rfl (decide_eq_true hg2_6) rfl rfl ?_
      refine S.g_no rfl rfl rfl (decide_eq_true hg2_6) rfl rfl ?_
      refine S.g_no rfl rfl rfl (decide_eq_true hg2_6) rfl rfl ?_
      refine S.g_no rfl rfl rfl (decide_eq_true hg2_6) rfl rfl ?_
      refine S.g_no rfl rfl rfl (decide_eq_true hg2_6) rfl rfl ?_
      refine S.g_no rfl rfl rfl (decide_eq_true hg2_6) rfl rfl ?_
      refine S.g_op rfl (S.q (q_pickT rfl (decide_eq_true hg2_6) rfl) rfl rfl ?_)
      first | with_reducible refine S.g_nilK ?_ | refine S.g_nil ?_
      with_reducible repeat (first | refine S.then_n ?_ | refine S.then_x ?_ | refine S.then_r ?_ | refine S.inBlock_n ?_ | refine S.inBlock_r ?_ | refine S.inBlock_x rfl ?_ | refine S.noGoto_r ?_ | refine S.noGoto_n ?_ | refine S.noGoto_x ?_)
      first | (rw [show rowB m z = false by rw [rowB, decide_eq_false (by omega)]; rfl]; exact S.meet ⟨rfl, rfl⟩ ⟨rfl, rfl, rfl, rfl, trivial⟩ Sub.ent) | (rw [show (!rowB m z) = decide ((cs.n : Int) ≤ z) by rw [rowB, decide_eq_true (by omega), hcn, Bool.true_and, ← decide_not]; exact decide_eq_decide.2 (by omega)]; exact S.meet ⟨rfl, rfl⟩ ⟨rfl, rfl, rfl, rfl, trivial⟩ Sub.ent)
    · refine S.g_yes rfl rfl rfl (decide_eq_false hg2_6) (S.q (q_move rfl) rfl rfl ?_)
      refine S.g_yes rfl rfl rfl (decide_eq_false hg2_6) (S.q (q_move rfl) rfl rfl ?_)
      refine S.g_yes rfl rfl rfl (decide_eq_false hg2_6) (S.q (q_nilCheck rfl) rfl rfl ?_)
      refine S.g_yes rfl rfl rfl (decide_eq_false hg2_6) (S.q (q_field Tryd.fo55_0 rfl) rfl rfl ?_)
      refine S.g_yes rfl rfl rfl (decide_eq_false hg2_6) (S.q (q_load Tryd.at52 rfl rfl) rfl rfl ?_)
      refine S.g_yes rfl rfl rfl (decide_eq_false hg2_6) (S.q (q_len Tryd.underlying52 rfl) rfl rfl ?_)
      refine S.g_yes rfl rfl rfl (decide_eq_false hg2_6) (S.q (q_ge rfl rfl) rfl rfl ?_)
      refine S.g_op rfl (S.q (q_pickF rfl (decide_eq_false hg2_6) rfl) rfl rfl ?_)
      first | with_reducible refine S.g_nilK ?_ | refine S.g_nil ?_
      with_reducible repeat (first | refine S.then_n ?_ | refine S.then_x ?_ | refine S.then_r ?_ | refine S.inBlock_n ?_ | refine S.inBlock_r ?_ | refine S.inBlock_x rfl ?_ | refine S.noGoto_r ?_ | refine S.noGoto_n ?_ | refine S.noGoto_x ?_)
      first | (rw [show rowB m z = false by rw [rowB, decide_eq_false (by omega)]; rfl]; exact S.meet ⟨rfl, rfl⟩ ⟨rfl, rfl, rfl, rfl, trivial⟩ Sub.ent) | (rw [show (!rowB m z) = decide ((cs.n : Int) ≤ z) by rw [rowB, decide_eq_true (by omega), hcn, Bool.true_and, ← decide_not]; exact decide_eq_decide.2 (by omega)]; exact S.meet ⟨rfl, rfl⟩ ⟨rfl, rfl, rfl, rfl, trivial⟩ Sub.ent)
  · rintro ρ' Γ' ⟨rfl, rfl⟩
    refine hK4 _ _ ?_
    refine S.cond rfl (fun h1 => ?_) (fun h1 => ?_)
    · have hfl : rowIds m z = [] := by rw [rowIds, show rowB m z = false by simpa using h1]; rfl
      refine S.seq fun K5 hK5 => ?_
      refine S.region rfl ?_
      refine S.op (S.q (q_assign rfl) rfl rfl ?_)
      first | with_reducible refine S.nilK ?_ | refine S.nil ?_
      refine hK5 _ _ ?_
      refine S.ret ?_
      with_reducible repeat (first | refine S.then_n ?_ | refine S.then_x ?_ | refine S.then_r ?_ | refine S.inBlock_n ?_ | refine S.inBlock_r ?_ | refine S.inBlock_x rfl ?_ | refine S.noGoto_r ?_ | refine S.noGoto_n ?_ | refine S.noGoto_x ?_)
      refine S.riClose b m cs us rs hri ?_
      exact S.fin (rs := [_]) (vs := [_]) Tryd.results19 (⟨rfl, trivial⟩)  (⟨SV.nil, rfl, by rw [hfl]; rfl, by rw [hfl]⟩) Sub.ent
    · have h1 : rowB m z = true := by simpa using h1
      have hz := rowB_iff.1 h1
      obtain ⟨r, rfl⟩ : ∃ r : Nat, z = r := ⟨z.toNat, by omega⟩
      obtain ⟨p, hp, hpd, hpn⟩ := hri.at_ (show r < m.R by omega)
      have hRp : RdS (alls rs rrB) p.1 p.1.n 1 (idsV p.2) := RdS.alls hp RdS.own
      refine S.rSome hRp (by omega) fun pb po hpa => ?_
      refine S.skip ?_
      with_reducible repeat (first | refine S.then_n ?_ | refine S.then_x ?_ | refine S.then_r ?_ | refine S.inBlock_n ?_ | refine S.inBlock_r ?_ | refine S.inBlock_x rfl ?_ | refine S.noGoto_r ?_ | refine S.noGoto_n ?_ | refine S.noGoto_x ?_)
      refine hK3 _ _ ?_
      refine S.seq fun K6 hK6 => ?_
      refine S.seq fun K7 hK7 => ?_
      refine S.region rfl ?_
      refine S.op (S.q (q_move rfl) rfl rfl ?_)
      refine S.op (S.q (q_nilCheck rfl) rfl rfl ?_)
      refine S.op (S.q (q_field Tryd.fo55_0 rfl) rfl rfl ?_)
      refine S.op (S.q (q_load Tryd.at52 rfl rfl) rfl rfl ?_)
      refine S.op (S.q (q_move rfl) rfl rfl ?_)
      refine S.op (S.q (q_indexO (r) Tryd.el52 rfl hca rfl rfl (by omega)) rfl rfl ?_)
      refine S.op (S.q (q_loadOw (cs) (r) Tryd.at31 rfl hca (by first | rfl | exact Nat.add_assoc _ _ _ | omega) (by rw [List.getElem?_map, hp]; rfl)) rfl rfl ?_)
      refine S.op (S.q (q_len Tryd.underlying31 rfl) rfl rfl ?_)
      refine S.op (S.q (q_move rfl) rfl rfl ?_)
      first | with_reducible refine S.nilK ?_ | refine S.nil ?_
      refine hK7 _ _ ?_
      refine S.block ?_
      refine S.loop (fun q ρ' Γ' => ∃ (k : Nat) (sv : SV) (nl : List Nat), q = m.N - k ∧ k ≤ m.N ∧ nl = rowU m r k ∧ sv.n = nl.length ∧ ρ' = [(0, .pointer (some ⟨b, 0, none⟩)), (5, sv.v), (32, p.1.v), (33, .int .i64 p.1.n), (34, .int .i64 (k : Int))] ∧   Γ' = own sv 68 1 (idsV nl) :: riX b m cs us rs Γ) (m := _) (ρ0 := _) (Γ0 := _) (⟨0, SV.nil, [], rfl, by omega, rfl, rfl, rfl, rfl⟩) (by repeat (first | exact trivial | refine ⟨rfl, ?_⟩)) Sub.ent ?_
      rintro q ρ' Γ' ⟨k, sv, nl, hq, hk, hnl, hsv, rfl, rfl⟩
      have hlen := rowU_len m r k
      rw [← hnl] at hlen
      refine S.seq fun K8 hK8 => ?_
      refine S.region rfl ?_
      refine S.op (S.q (q_lt rfl rfl) rfl rfl ?_)
      first | with_reducible refine S.nilK ?_ | refine S.nil ?_
      refine hK8 _ _ ?_
      refine S.seq fun K9 hK9 => ?_
      refine S.condD rfl (fun h2 => ?_) (fun h2 => ?_)
      · obtain ⟨x, hx⟩ : ∃ x, x = atJ m.js r k := ⟨_, rfl⟩
        have hxa := rowN_get (m := m) (i := k) (by omega) r
        have hcell := rowAt_cell hm (r := r) (k := k)
        rw [← hpd, ← hx] at hxa
        rw [← hx] at hcell
        have hsucc := rowU_succ m r k
        have hok : (ofR m x).2.2 = true → ∃ y, look m.js x = some y ∧ y.id = x ∧ rowAt m r k = (if tz y.ns = k then some y else none) ∧ lst y.ns ≠ [] := fun h => by
          rcases hcell with ⟨h0, _⟩ | ⟨y, h2, h3, _, h4⟩
          · rw [ofR_none (show look m.js x = none from (by
              cases e : look m.js x with
              | none => rfl
              | some y => have := look_some e; have := hm.id1 y this.1; omega))] at h
            cases h
          · exact ⟨y, h2, h3, h4, fun e => hm.some y (look_some h2).1 (lst_nil.1 e)⟩
        have hno : (ofR m x).2.2 = false → rowAt m r k = none := fun h => by
          rcases hcell with ⟨_, h0⟩ | ⟨y, h2, _, _, _⟩
          · exact h0
          · rw [ofR_some h2] at h; cases h
        refine S.skip ?_
        with_reducible repeat (first | refine S.then_n ?_ | refine S.then_x ?_ | refine S.then_r ?_ | refine S.inBlock_n ?_ | refine S.inBlock_r ?_ | refine S.inBlock_x rfl ?_ | refine S.noGoto_r ?_ | refine S.noGoto_n ?_ | refine S.noGoto_x ?_)
        refine hK9 _ _ ?_
        refine S.seq fun K10 hK10 => ?_
        refine S.block ?_
        refine S.seq fun K11 hK11 => ?_
        refine S.region rfl ?_
        refine S.op (S.q (q_move rfl) rfl rfl ?_)
        refine S.op (S.q (q_indexO (k) Tryd.el31 rfl hpa rfl rfl (by omega)) rfl rfl ?_)
        refine S.op (S.q (q_loadR hRp k Tryd.at68 rfl hpa (by omega) (by omega) (idsV_get hxa)) rfl rfl ?_)
        refine S.op (S.q (q_assign rfl) rfl rfl ?_)
        refine S.op (S.q (q_assign rfl) rfl rfl ?_)
        first | with_reducible refine S.nilK ?_ | refine S.nil ?_
        refine hK11 _ _ ?_
        refine S.seq fun K12 hK12 => ?_
        refine S.region rfl ?_
        refine S.op (S.q (q_move rfl) rfl rfl ?_)
        refine S.op (S.q (q_move rfl) rfl rfl ?_)
        refine S.op (S.call Tryd.en46 (vs := [_, _]) ⟨rfl, rfl, trivial⟩ (rOfX_S b m x cs us rs hri) rfl ?_)
        rintro v Θ ⟨nv1, rfl, hnv, rfl⟩
        refine S.op (S.q (q_move rfl) rfl rfl ?_)
        refine S.op (S.q (q_extract rfl rfl) rfl rfl ?_)
        refine S.op (S.q (q_extract rfl rfl) rfl rfl ?_)
        refine S.op (S.q (q_extract rfl rfl) rfl rfl ?_)
        refine S.op (S.q (q_assign rfl) rfl rfl ?_)
        refine S.op (S.q (q_assign rfl) rfl rfl ?_)
        refine S.op (S.q (q_assign rfl) rfl rfl ?_)
        first | with_reducible refine S.nilK ?_ | refine S.nil ?_
        refine hK12 _ _ ?_
        refine S.seq fun K13 hK13 => ?_
        refine S.cut (fun ρ' Γ' => ∃ bb : Bool, rowU m r (k + 1) = (if bb = true then nl ++ [x] else nl) ∧ ρ' = [(0, .pointer (some ⟨b, 0, none⟩)), (5, sv.v), (7, .int .u32 (x : Int)), (32, p.1.v), (33, .int .i64 p.1.n), (34, .int .i64 (k : Int)), (53, .bool bb)] ∧ Γ' = own sv 68 1 (idsV nl) :: riX b m cs us rs Γ) ?_ ?_
        · refine S.regionG ?_
          refine S.g_op rfl (S.q (q_move rfl) rfl rfl ?_)
          refine S.g_op rfl (S.q (q_move rfl) rfl rfl ?_)
          rcases Bool.eq_false_or_eq_true ((ofR m x).2.2) with hg8_1 | hg8_1
          · obtain ⟨y, hy1, hy2, hy3, hy4⟩ := hok hg8_1
            have hof := ofR_some hy1
            have hlp : 0 < (lst y.ns).length := List.length_pos_iff.2 hy4
            have hl0 : (lst y.ns)[0]? = some (tz y.ns) := by
              rw [tz]
              cases e : lst y.ns with
              | nil => exact absurd e hy4
              | cons t l => rfl
            rw [hof] at hnv hg8_1
            have hnv : nv1.n = (lst y.ns).length := hnv
            refine S.ownSome nv1 (by omega) fun nb no hna _ _ _ => ?_
            rw [hof]
            show S _ w0 _ (own nv1 3 1 (nds (lst y.ns)) :: _) _
            refine S.g_yes rfl rfl rfl (hg8_1) (S.q (q_move rfl) rfl rfl ?_)
            refine S.g_yes rfl rfl rfl (hg8_1) (S.q (q_indexO (0) Tryd.el69 rfl hna rfl rfl (by omega)) rfl rfl ?_)
            refine S.g_yes rfl rfl rfl (hg8_1) (S.q (q_loadOw (nv1) (0) Tryd.at3 rfl hna (by first | rfl | exact Nat.add_assoc _ _ _ | omega) (by rw [List.getElem?_map, hl0]; rfl)) rfl rfl ?_)
            refine S.g_yes rfl rfl rfl (hg8_1) (S.q (q_move rfl) rfl rfl ?_)
            refine S.g_yes rfl rfl rfl (hg8_1) (S.q (q_eq rfl rfl) rfl rfl ?_)
            refine S.g_op rfl (S.q (q_pickT rfl (hg8_1) rfl) rfl rfl ?_)
            first | with_reducible refine S.g_nilK ?_ | refine S.g_nil ?_
            with_reducible repeat (first | refine S.then_n ?_ | refine S.then_x ?_ | refine S.then_r ?_ | refine S.inBlock_n ?_ | refine S.inBlock_r ?_ | refine S.inBlock_x rfl ?_ | refine S.noGoto_r ?_ | refine S.noGoto_n ?_ | refine S.noGoto_x ?_)
            first | exact S.meet ⟨false, by rw [hsucc, hno hg8_1, hnl]; simp, rfl, rfl⟩ ⟨rfl, rfl, rfl, rfl, rfl, rfl, rfl, trivial⟩ Sub.ent | exact S.meet ⟨decide ((tz y.ns : Int) = (k : Int)), (by rw [hsucc, hy3, hnl]; by_cases e : tz y.ns = k <;> simp [e, hy2]; omega), rfl, rfl⟩ ⟨rfl, rfl, rfl, rfl, rfl, rfl, rfl, trivial⟩ Sub.ent
          · refine S.g_no rfl rfl rfl (hg8_1) rfl rfl ?_
            refine S.g_no rfl rfl rfl (hg8_1) rfl rfl ?_
            refine S.g_no rfl rfl rfl (hg8_1) rfl rfl ?_
            refine S.g_no rfl rfl rfl (hg8_1) rfl rfl ?_
            refine S.g_no rfl rfl rfl (hg8_1) rfl rfl ?_
            refine S.g_op rfl (S.q (q_pickF rfl (hg8_1) rfl) rfl rfl ?_)
            first | with_reducible refine S.g_nilK ?_ | refine S.g_nil ?_
            with_reducible repeat (first | refine S.then_n ?_ | refine S.then_x ?_ | refine S.then_r ?_ | refine S.inBlock_n ?_ | refine S.inBlock_r ?_ | refine S.inBlock_x rfl ?_ | refine S.noGoto_r ?_ | refine S.noGoto_n ?_ | refine S.noGoto_x ?_)
            first | exact S.meet ⟨false, by rw [hsucc, hno hg8_1, hnl]; simp, rfl, rfl⟩ ⟨rfl, rfl, rfl, rfl, rfl, rfl, rfl, trivial⟩ Sub.ent | exact S.meet ⟨decide ((tz y.ns : Int) = (k : Int)), (by rw [hsucc, hy3, hnl]; by_cases e : tz y.ns = k <;> simp [e, hy2]; omega), rfl, rfl⟩ ⟨rfl, rfl, rfl, rfl, rfl, rfl, rfl, trivial⟩ Sub.ent
        · rintro ρ' Γ' ⟨bb, hbb, rfl, rfl⟩
          clear hcell hok hno hsucc
          refine hK13 _ _ ?_
          refine S.cond rfl (fun h3 => ?_) (fun h3 => ?_)
          · rw [h3] at hbb
            have hs4 : nl ++ [x] = rowU m r (k + 1) := by rw [hbb]; rfl
            have hl4 : (nl ++ [x]).length = nl.length + 1 := by simp
            have hd4 : idsV nl ++ [.int .u32 (x : Int)] = idsV (nl ++ [x]) := by simp
            refine S.region rfl ?_
            refine S.op (S.q (q_move rfl) rfl rfl ?_)
            refine S.op (S.q (q_move rfl) rfl rfl ?_)
            refine S.op (S.buildSlice (pvs := [(_, _)]) [_] Tryd.underlying31 Tryd.inf68 rfl rfl ⟨⟨rfl, rfl⟩, trivial⟩ rfl rfl ?_)
            intro b56
            refine S.op (S.appendOw (s := sv) (1) ([.int .u32 (x : Int)]) Tryd.underlying31 Tryd.inf68 rfl rfl rfl (blk_slAt (b := b56) rfl (by unfold maxLen; omega)) (by first | rfl | exact allOne_bcells _) (⟨by omega, by omega⟩) rfl ?_)
            intro sv2 hsv2
            refine S.op (S.q (q_assign rfl) rfl rfl ?_)
            first | with_reducible refine S.nilK ?_ | refine S.nil ?_
            with_reducible repeat (first | refine S.then_n ?_ | refine S.then_x ?_ | refine S.then_r ?_ | refine S.inBlock_n ?_ | refine S.inBlock_r ?_ | refine S.inBlock_x rfl ?_ | refine S.noGoto_r ?_ | refine S.noGoto_n ?_ | refine S.noGoto_x ?_)
            refine hK10 _ _ ?_
            refine S.region rfl ?_
            refine S.op (S.q (q_add rfl rfl (inI64 (by omega) (by omega))) rfl rfl ?_)
            refine S.op (S.q (q_move rfl) rfl rfl ?_)
            first | with_reducible refine S.nilK ?_ | refine S.nil ?_
            with_reducible repeat (first | refine S.then_n ?_ | refine S.then_x ?_ | refine S.then_r ?_ | refine S.inBlock_n ?_ | refine S.inBlock_r ?_ | refine S.inBlock_x rfl ?_ | refine S.noGoto_r ?_ | refine S.noGoto_n ?_ | refine S.noGoto_x ?_)
            first | (rw [hd4]; exact S.next (q - 1) ⟨k + 1, sv2, nl ++ [x], by omega, by omega, hs4, by omega, rfl, rfl⟩ (by omega) (by repeat (first | exact trivial | refine ⟨rfl, ?_⟩)) Sub.ent) | exact S.next (q - 1) ⟨k + 1, sv, nl, by omega, by omega, hs4, hsv, rfl, rfl⟩ (by omega) (by repeat (first | exact trivial | refine ⟨rfl, ?_⟩)) Sub.ent
          · rw [h3] at hbb
            have hs4 : nl = rowU m r (k + 1) := by rw [hbb]; rfl
            refine S.skip ?_
            with_reducible repeat (first | refine S.then_n ?_ | refine S.then_x ?_ | refine S.then_r ?_ | refine S.inBlock_n ?_ | refine S.inBlock_r ?_ | refine S.inBlock_x rfl ?_ | refine S.noGoto_r ?_ | refine S.noGoto_n ?_ | refine S.noGoto_x ?_)
            with_reducible repeat (first | refine S.then_n ?_ | refine S.then_x ?_ | refine S.then_r ?_ | refine S.inBlock_n ?_ | refine S.inBlock_r ?_ | refine S.inBlock_x rfl ?_ | refine S.noGoto_r ?_ | refine S.noGoto_n ?_ | refine S.noGoto_x ?_)
            refine hK10 _ _ ?_
            refine S.region rfl ?_
            refine S.op (S.q (q_add rfl rfl (inI64 (by omega) (by omega))) rfl rfl ?_)
            refine S.op (S.q (q_move rfl) rfl rfl ?_)
            first | with_reducible refine S.nilK ?_ | refine S.nil ?_
            with_reducible repeat (first | refine S.then_n ?_ | refine S.then_x ?_ | refine S.then_r ?_ | refine S.inBlock_n ?_ | refine S.inBlock_r ?_ | refine S.inBlock_x rfl ?_ | refine S.noGoto_r ?_ | refine S.noGoto_n ?_ | refine S.noGoto_x ?_)
            first | (rw [hd4]; exact S.next (q - 1) ⟨k + 1, sv2, nl ++ [x], by omega, by omega, hs4, by omega, rfl, rfl⟩ (by omega) (by repeat (first | exact trivial | refine ⟨rfl, ?_⟩)) Sub.ent) | exact S.next (q - 1) ⟨k + 1, sv, nl, by omega, by omega, hs4, hsv, rfl, rfl⟩ (by omega) (by repeat (first | exact trivial | refine ⟨rfl, ?_⟩)) Sub.ent
      · have hkN : k = m.N := by omega
        rw [hkN, rowU_all hm (by omega)] at hnl
        subst hnl
        refine S.exit ?_
        with_reducible repeat (first | refine S.then_n ?_ | refine S.then_x ?_ | refine S.then_r ?_ | refine S.inBlock_n ?_ | refine S.inBlock_r ?_ | refine S.inBlock_x rfl ?_ | refine S.noGoto_r ?_ | refine S.noGoto_n ?_ | refine S.noGoto_x ?_)
        with_reducible refine S.inBlock_s ?_
        with_reducible repeat (first | refine S.then_n ?_ | refine S.then_x ?_ | refine S.then_r ?_ | refine S.inBlock_n ?_ | refine S.inBlock_r ?_ | refine S.inBlock_x rfl ?_ | refine S.noGoto_r ?_ | refine S.noGoto_n ?_ | refine S.noGoto_x ?_)
        refine hK6 _ _ ?_
        refine S.seq fun K14 hK14 => ?_
        refine S.region rfl ?_
        refine S.op (S.q (q_move rfl) rfl rfl ?_)
        refine S.op (S.q (q_assign rfl) rfl rfl ?_)
        first | with_reducible refine S.nilK ?_ | refine S.nil ?_
        refine hK14 _ _ ?_
        refine S.ret ?_
        with_reducible repeat (first | refine S.then_n ?_ | refine S.then_x ?_ | refine S.then_r ?_ | refine S.inBlock_n ?_ | refine S.inBlock_r ?_ | refine S.inBlock_x rfl ?_ | refine S.noGoto_r ?_ | refine S.noGoto_n ?_ | refine S.noGoto_x ?_)
        refine S.riClose b m cs us rs hri ?_
        exact S.fin (rs := [_]) (vs := [_]) Tryd.results19 (⟨rfl, trivial⟩)  (⟨sv, rfl, hsv, rfl⟩) Sub.ent
theorem rRemove_S (b : Nat) (m : Mx) (j : Nat) : Spec Tryd.prog 33 [.pointer (some ⟨b, 0, none⟩), .int .u32 (j : Int)] [RI b m] fun Γ v Θ => v = .int .i64 (removeR m j).1 ∧ Θ = RI b (removeR m j).2 :: Γ := by
  refine Spec.riOk fun hm => ?_
  refine Spec.of_body Tryd.func33 rfl Tryd.ntmps33 rfl ?_
  intro w0 Γ
  show S _ w0 [(0, .pointer (some ⟨b, 0, none⟩)), (1, .int .u32 (j : Int))] (RI b m :: Γ) _
  have hR8 := hm.R8
  have hN16 := hm.N16
  refine S.seq fun K1 hK1 => ?_
  refine S.region rfl ?_
  refine S.op (S.q (q_assign rfl) rfl rfl ?_)
  first | with_reducible refine S.nilK ?_ | refine S.nil ?_
  refine hK1 _ _ ?_
  refine S.seq fun K2 hK2 => ?_
  refine S.region rfl ?_
  refine S.op (S.q (q_move rfl) rfl rfl ?_)
  refine S.op (S.q (q_move rfl) rfl rfl ?_)
  refine S.op (S.call Tryd.en46 (vs := [_, _]) ⟨rfl, rfl, trivial⟩ (rOf_S b m j) rfl ?_)
  rintro v Θ ⟨sv, rfl, hsv, rfl⟩
  refine S.op (S.q (q_move rfl) rfl rfl ?_)
  refine S.op (S.q (q_extract rfl rfl) rfl rfl ?_)
  refine S.op (S.q (q_extract rfl rfl) rfl rfl ?_)
  refine S.op (S.q (q_extract rfl rfl) rfl rfl ?_)
  refine S.op (S.q (q_assign rfl) rfl rfl ?_)
  refine S.op (S.q (q_assign rfl) rfl rfl ?_)
  refine S.op (S.q (q_assign rfl) rfl rfl ?_)
  first | with_reducible refine S.nilK ?_ | refine S.nil ?_
  refine hK2 _ _ ?_
  refine S.seq fun K3 hK3 => ?_
  refine S.seq fun K4 hK4 => ?_
  refine S.region rfl ?_
  refine S.op (S.q (q_move rfl) rfl rfl ?_)
  refine S.op (S.q (q_not rfl) rfl rfl ?_)
  first | with_reducible refine S.nilK ?_ | refine S.nil ?_
  refine hK4 _ _ ?_
  refine S.cond rfl (fun h1 => ?_) (fun h1 => ?_)
  · have hlk : look m.js j = none := by
      cases h : look m.js j with
      | none => rfl
      | some x => rw [ofR_some h] at h1; cases h1
    have hrm := removeR_none hlk
    refine S.seq fun K5 hK5 => ?_
    refine S.region rfl ?_
    refine S.op (S.q (q_assign rfl) rfl rfl ?_)
    first | with_reducible refine S.nilK ?_ | refine S.nil ?_
    refine hK5 _ _ ?_
    refine S.ret ?_
    with_reducible repeat (first | refine S.then_n ?_ | refine S.then_x ?_ | refine S.then_r ?_ | refine S.inBlock_n ?_ | refine S.inBlock_r ?_ | refine S.inBlock_x rfl ?_ | refine S.noGoto_r ?_ | refine S.noGoto_n ?_ | refine S.noGoto_x ?_)
    exact S.fin (rs := [_]) (vs := [_]) Tryd.results33 (⟨rfl, trivial⟩)  (⟨by rw [hrm]; rfl, by rw [hrm]⟩) Sub.ent
  · obtain ⟨x, hlk⟩ : ∃ x, look m.js j = some x := by
      cases h : look m.js j with
      | none => rw [ofR_none h] at h1; cases h1
      | some x => exact ⟨x, rfl⟩
    obtain ⟨hx, hxj⟩ := look_some hlk
    have hrm := removeR_some hlk
    have hof := ofR_some hlk
    have hxr := hm.row x hx
    rw [hof] at hsv
    have hsv : sv.n = (lst x.ns).length := hsv
    rw [hof]
    show S _ w0 _ (own sv 3 1 (nds (lst x.ns)) :: RI b m :: Γ) _
    have hl16 := lst_len x.ns
    have hl1 : 0 < (lst x.ns).length := List.length_pos_iff.2 fun e => hm.some x hx (lst_nil.1 e)
    refine S.ownSome sv (by omega) fun sb so hsa _ _ _ => ?_
    refine S.riOpen b m fun cs us rs hri => ?_
    have hcn := hri.cn
    refine S.ownSome cs (by omega) fun cb co hca _ _ _ => ?_
    obtain ⟨p, hp, hpd, hpn⟩ := hri.at_ hxr
    refine S.rSome (RdS.alls (F := rrB) hp RdS.own) (by have := hm.N1; omega) fun pb po hpa => ?_
    refine S.conv (alls rs rrB) (Ent.allsAt rrB hp _) ?_
    show S _ w0 _ (own p.1 68 1 (idsV p.2) :: alls (rs.take x.row) rrB :: alls (rs.drop (x.row + 1)) rrB :: _) _
    refine S.skip ?_
    with_reducible repeat (first | refine S.then_n ?_ | refine S.then_x ?_ | refine S.then_r ?_ | refine S.inBlock_n ?_ | refine S.inBlock_r ?_ | refine S.inBlock_x rfl ?_ | refine S.noGoto_r ?_ | refine S.noGoto_n ?_ | refine S.noGoto_x ?_)
    refine hK3 _ _ ?_
    refine S.seq fun K6 hK6 => ?_
    refine S.seq fun K7 hK7 => ?_
    refine S.region rfl ?_
    refine S.op (S.q (q_move rfl) rfl rfl ?_)
    refine S.op (S.q (q_len Tryd.underlying69 rfl) rfl rfl ?_)
    refine S.op (S.q (q_move rfl) rfl rfl ?_)
    first | with_reducible refine S.nilK ?_ | refine S.nil ?_
    refine hK7 _ _ ?_
    refine S.block ?_
    refine S.loop (fun q ρ' Γ' => ∃ (i : Nat) (d : List Nat), q = (lst x.ns).length - i ∧ i ≤ (lst x.ns).length ∧ d = setAll p.2 ((lst x.ns).take i) 0 ∧ ρ' = [(0, .pointer (some ⟨b, 0, none⟩)), (5, .int .i64 (x.row : Int)), (19, sv.v), (20, .int .i64 sv.n), (21, .int .i64 (i : Int))] ∧   Γ' = own p.1 68 1 (idsV d) :: alls (rs.take x.row) rrB :: alls (rs.drop (x.row + 1)) rrB :: blk b 55 #[cs.v, us.v] :: own cs 31 1 (rs.map rrV) :: own us 4 1 (upC m) :: own sv 3 1 (nds (lst x.ns)) :: Γ) (m := _) (ρ0 := _) (Γ0 := _) (⟨0, p.2, rfl, by omega, rfl, rfl, rfl⟩) (by repeat (first | exact trivial | refine ⟨rfl, ?_⟩)) Sub.ent ?_
    rintro q ρ' Γ' ⟨i, d, hq, hi, hd, rfl, rfl⟩
    have hdl : d.length = m.N := by rw [hd, setAll_len, hpd, rowN_len]
    refine S.seq fun K8 hK8 => ?_
    refine S.region rfl ?_
    refine S.op (S.q (q_lt rfl rfl) rfl rfl ?_)
    first | with_reducible refine S.nilK ?_ | refine S.nil ?_
    refine hK8 _ _ ?_
    refine S.seq fun K9 hK9 => ?_
    refine S.condD rfl (fun h2 => ?_) (fun h2 => ?_)
    · have hg := List.getElem?_eq_getElem (show i < (lst x.ns).length by omega)
      obtain ⟨y, hy⟩ : ∃ y, (lst x.ns)[i]? = some y := ⟨_, hg⟩
      have hyN : y < m.N := hm.ns x hx y (mem_lst.1 (List.mem_of_getElem? hy))
      have hd2 : d.set y 0 = setAll p.2 ((lst x.ns).take (i + 1)) 0 := by rw [hd, ← setAll_snoc, List.take_add_one, hy]; rfl
      refine S.skip ?_
      with_reducible repeat (first | refine S.then_n ?_ | refine S.then_x ?_ | refine S.then_r ?_ | refine S.inBlock_n ?_ | refine S.inBlock_r ?_ | refine S.inBlock_x rfl ?_ | refine S.noGoto_r ?_ | refine S.noGoto_n ?_ | refine S.noGoto_x ?_)
      refine hK9 _ _ ?_
      refine S.seq fun K10 hK10 => ?_
      refine S.block ?_
      refine S.seq fun K11 hK11 => ?_
      refine S.region rfl ?_
      refine S.op (S.q (q_indexO (i) Tryd.el69 rfl hsa rfl rfl (by omega)) rfl rfl ?_)
      refine S.op (S.q (q_loadOw (sv) (i) Tryd.at3 rfl hsa (by first | rfl | exact Nat.add_assoc _ _ _ | omega) (by rw [List.getElem?_map, hy]; rfl)) rfl rfl ?_)
      refine S.op (S.q (q_assign rfl) rfl rfl ?_)
      first | with_reducible refine S.nilK ?_ | refine S.nil ?_
      refine hK11 _ _ ?_
      refine S.region rfl ?_
      refine S.op (S.q (q_move rfl) rfl rfl ?_)
      refine S.op (S.q (q_nilCheck rfl) rfl rfl ?_)
      refine S.op (S.q (q_field Tryd.fo55_0 rfl) rfl rfl ?_)
      refine S.op (S.q (q_load Tryd.at52 rfl rfl) rfl rfl ?_)
      refine S.op (S.q (q_move rfl) rfl rfl ?_)
      refine S.op (S.q (q_indexO (x.row) Tryd.el52 rfl hca rfl rfl (by omega)) rfl rfl ?_)
      refine S.op (S.q (q_loadOw (cs) (x.row) Tryd.at31 rfl hca (by first | rfl | exact Nat.add_assoc _ _ _ | omega) (by rw [List.getElem?_map, hp]; rfl)) rfl rfl ?_)
      refine S.op (S.q (q_move rfl) rfl rfl ?_)
      refine S.op (S.q (q_indexO (y) Tryd.el31 rfl hpa rfl rfl (by omega)) rfl rfl ?_)
      refine S.op (S.storeOw (p.1) (y) Tryd.at68 rfl rfl rfl hpa (by first | rfl | exact Nat.add_assoc _ _ _ | omega) (by rw [List.length_map]; omega) (idsV_set d y 0) ?_)
      first | with_reducible refine S.nilK ?_ | refine S.nil ?_
      with_reducible repeat (first | refine S.then_n ?_ | refine S.then_x ?_ | refine S.then_r ?_ | refine S.inBlock_n ?_ | refine S.inBlock_r ?_ | refine S.inBlock_x rfl ?_ | refine S.noGoto_r ?_ | refine S.noGoto_n ?_ | refine S.noGoto_x ?_)
      refine hK10 _ _ ?_
      refine S.region rfl ?_
      refine S.op (S.q (q_add rfl rfl (inI64 (by omega) (by omega))) rfl rfl ?_)
      refine S.op (S.q (q_move rfl) rfl rfl ?_)
      first | with_reducible refine S.nilK ?_ | refine S.nil ?_
      with_reducible repeat (first | refine S.then_n ?_ | refine S.then_x ?_ | refine S.then_r ?_ | refine S.inBlock_n ?_ | refine S.inBlock_r ?_ | refine S.inBlock_x rfl ?_ | refine S.noGoto_r ?_ | refine S.noGoto_n ?_ | refine S.noGoto_x ?_)
      exact S.next (q - 1) (⟨i + 1, d.set y 0, by omega, by omega, hd2, rfl, rfl⟩) (by omega) (by repeat (first | exact trivial | refine ⟨rfl, ?_⟩)) Sub.ent
    · have hie : i = (lst x.ns).length := by omega
      rw [hie, List.take_length] at hd
      have hok' := hm.del x.id
      have hri2 : RiOk (m.del x.id) cs us (rs.set x.row (p.1, d)) := hri.set hok' rfl rfl hp (by rw [hd, hpd, rowN_del hm hx, if_pos rfl]) (fun o ho => by rw [rowN_del hm hx, if_neg ho])
      refine S.conv3 (own p.1 68 1 (idsV d)) (alls (rs.take x.row) rrB) (alls (rs.drop (x.row + 1)) rrB) (Ent.allsBack rrB (x' := (p.1, d)) hp _) ?_
      rw [← rrV_set hp d, show upC m = upC (m.del x.id) from rfl]
      refine S.exit ?_
      with_reducible repeat (first | refine S.then_n ?_ | refine S.then_x ?_ | refine S.then_r ?_ | refine S.inBlock_n ?_ | refine S.inBlock_r ?_ | refine S.inBlock_x rfl ?_ | refine S.noGoto_r ?_ | refine S.noGoto_n ?_ | refine S.noGoto_x ?_)
      with_reducible refine S.inBlock_s ?_
      with_reducible repeat (first | refine S.then_n ?_ | refine S.then_x ?_ | refine S.then_r ?_ | refine S.inBlock_n ?_ | refine S.inBlock_r ?_ | refine S.inBlock_x rfl ?_ | refine S.noGoto_r ?_ | refine S.noGoto_n ?_ | refine S.noGoto_x ?_)
      refine hK6 _ _ ?_
      refine S.seq fun K12 hK12 => ?_
      refine S.region rfl ?_
      refine S.op (S.q (q_assign rfl) rfl rfl ?_)
      first | with_reducible refine S.nilK ?_ | refine S.nil ?_
      refine hK12 _ _ ?_
      refine S.ret ?_
      with_reducible repeat (first | refine S.then_n ?_ | refine S.then_x ?_ | refine S.then_r ?_ | refine S.inBlock_n ?_ | refine S.inBlock_r ?_ | refine S.inBlock_x rfl ?_ | refine S.noGoto_r ?_ | refine S.noGoto_n ?_ | refine S.noGoto_x ?_)
      refine S.riClose b (m.del x.id) cs us (rs.set x.row (p.1, d)) hri2 ?_
      exact S.fin (rs := [_]) (vs := [_]) Tryd.results33 (⟨rfl, trivial⟩)  (⟨by rw [hrm]; rfl, by rw [hrm, ← hxj]⟩) Sub.ent
theorem place_put {m : Mx} (hm : MxOk m) {j r k : Nat} (hlk : look m.js j = none) (hj : 1 ≤ j) (hr : r < m.R) (hk : 1 ≤ k) (hl : k ≤ (lst (m.free r)).length) : ((lst (m.free r)).take k).length = k ∧ okUp m (casts ((lst (m.free r)).take k)) (casts ((lst (m.free r)).take k)).length = true ∧ putR m j r (casts ((lst (m.free r)).take k)) = (0, m.add ⟨j, r, leastK (m.free r) k⟩) := by
  obtain ⟨g1, g2, g3⟩ := place_ok hm (r := r) (k := k) hk hl
  have hlk2 := lst_leastK (m.free r) k
  have hlen : ((lst (m.free r)).take k).length = k := by rw [List.length_take]; omega
  have hok2 : okUp m (casts ((lst (m.free r)).take k)) (casts ((lst (m.free r)).take k)).length = true := by
    rw [← hlk2, List.length_map]
    exact okUp_lst m _ g2 _ (Nat.le_refl _)
  have hnats : nats (casts ((lst (m.free r)).take k)) = (lst (m.free r)).take k := by rw [← hlk2]; exact nats_lst _
  have hof : ofL ((lst (m.free r)).take k) = leastK (m.free r) k := by rw [leastK]
  refine ⟨hlen, hok2, ?_⟩
  rw [putR, putOk, hok2, hlk, Int.toNat_natCast, hnats, hof, decide_eq_true (show ((j : Nat) : Int) ≠ 0 by omega), rowB_iff.2 ⟨by omega, by omega⟩, List.length_map, hlen, decide_eq_true (show ((k : Nat) : Int) > 0 by omega), if_neg (by decide), if_neg (by decide), if_neg (fun h => h g3)]
theorem place_yes {m : Mx} {j r : Nat} {k : Int} (h2 : ¬ ((j : Int) = 0 ∨ k < 1)) (hlk : look m.js j = none) (h4 : k ≤ m.N) (hr : r < m.R) (hn : placeRow m k.toNat r = none) (hl : k.toNat ≤ (lst (m.free r)).length) : placeR m j k = (((r : Int), (lst (m.free r)).take k.toNat, 0), m.add ⟨j, r, leastK (m.free r) k.toNat⟩) := by
  have hpr : placeRow m k.toNat (r + 1) = some r := by simp only [placeRow, hn]; rw [if_pos hl]
  have hpr2 := placeRow_mono hpr (show r + 1 ≤ m.R by omega)
  rw [placeR, if_neg (by omega), hlk, if_neg (by decide), if_neg (by omega), hpr2]
theorem place_no {m : Mx} {j : Nat} {k : Int} (h2 : ¬ ((j : Int) = 0 ∨ k < 1)) (hlk : look m.js j = none) (h4 : k ≤ m.N) (hn : placeRow m k.toNat m.R = none) : placeR m j k = ((0, [], 8), m) := by
  rw [placeR, if_neg (by omega), hlk, if_neg (by decide), if_neg (by omega), hn]
theorem placeRow_step {m : Mx} {k r : Nat} (hn : placeRow m k r = none) (h : ¬ k ≤ (lst (m.free r)).length) : placeRow m k (r + 1) = none := by
  simp only [placeRow, hn]
  rw [if_neg h]
theorem rPlace_S (b : Nat) (m : Mx) (j : Nat) (k : Int) (hj : j ≤ 4294967295) (hk : k ≤ 9223372036854775807) : Spec Tryd.prog 28 [.pointer (some ⟨b, 0, none⟩), .int .u32 (j : Int), .int .i64 k] [RI b m] fun Γ v Θ => ∃ sv : SV, v = .tuple #[.int .i64 (placeR m j k).1.1, sv.v, .int .i64 (placeR m j k).1.2.2] ∧ sv.n = (placeR m j k).1.2.1.length ∧
    Θ = own sv 3 1 (nds (placeR m j k).1.2.1) :: RI b (placeR m j k).2 :: Γ := by
  refine Spec.riOk fun hm => ?_
  refine Spec.of_body Tryd.func28 rfl Tryd.ntmps28 rfl ?_
  intro w0 Γ
  show S _ w0 [(0, .pointer (some ⟨b, 0, none⟩)), (1, .int .u32 (j : Int)), (2, .int .i64 k)] (RI b m :: Γ) _
  have hR8 := hm.R8
  have hN16 := hm.N16
  refine S.seq fun K1 hK1 => ?_
  refine S.region rfl ?_
  refine S.op (S.q (q_assign rfl) rfl rfl ?_)
  refine S.op (S.q (q_assign rfl) rfl rfl ?_)
  refine S.op (S.q (q_assign rfl) rfl rfl ?_)
  first | with_reducible refine S.nilK ?_ | refine S.nil ?_
  refine hK1 _ _ ?_
  refine S.seq fun K2 hK2 => ?_
  refine S.seq fun K3 hK3 => ?_
  refine S.region rfl ?_
  refine S.op (S.q (q_move rfl) rfl rfl ?_)
  refine S.op (S.q (q_eqN Tryd.underlying26 rfl rfl) rfl rfl ?_)
  first | with_reducible refine S.nilK ?_ | refine S.nil ?_
  refine hK3 _ _ ?_
  refine S.condF rfl ?_
  refine S.skip ?_
  with_reducible repeat (first | refine S.then_n ?_ | refine S.then_x ?_ | refine S.then_r ?_ | refine S.inBlock_n ?_ | refine S.inBlock_r ?_ | refine S.inBlock_x rfl ?_ | refine S.noGoto_r ?_ | refine S.noGoto_n ?_ | refine S.noGoto_x ?_)
  refine hK2 _ _ ?_
  refine S.seq fun K4 hK4 => ?_
  refine S.seq fun K5 hK5 => ?_
  refine S.cut (fun ρ' Γ' => ρ' = [(0, .pointer (some ⟨b, 0, none⟩)), (1, .int .u32 (j : Int)), (2, .int .i64 k), (21, .bool (decide ((j : Int) = 0 ∨ k < 1)))] ∧ Γ' = RI b m :: Γ) ?_ ?_
  · refine S.regionG ?_
    refine S.g_op rfl (S.q (q_move rfl) rfl rfl ?_)
    refine S.g_op rfl (S.q (q_eq rfl rfl) rfl rfl ?_)
    refine S.g_op rfl (S.q (q_move rfl) rfl rfl ?_)
    by_cases hg3_2 : (j : Int) = 0
    · refine S.g_no rfl rfl rfl (decide_eq_true hg3_2) rfl rfl ?_
      refine S.g_no rfl rfl rfl (decide_eq_true hg3_2) rfl rfl ?_
      refine S.g_op rfl (S.q (q_pickT rfl (decide_eq_true hg3_2) rfl) rfl rfl ?_)
      first | with_reducible refine S.g_nilK ?_ | refine S.g_nil ?_
      with_reducible repeat (first | refine S.then_n ?_ | refine S.then_x ?_ | refine S.then_r ?_ | refine S.inBlock_n ?_ | refine S.inBlock_r ?_ | refine S.inBlock_x rfl ?_ | refine S.noGoto_r ?_ | refine S.noGoto_n ?_ | refine S.noGoto_x ?_)
      first | (rw [show decide ((j : Int) = 0 ∨ k < 1) = true from decide_eq_true (.inl hg3_2)]; exact S.meet ⟨rfl, rfl⟩ ⟨rfl, rfl, rfl, rfl, trivial⟩ Sub.ent) | (rw [show decide ((j : Int) = 0 ∨ k < 1) = decide (k < 1) from decide_eq_decide.2 (by omega)]; exact S.meet ⟨rfl, rfl⟩ ⟨rfl, rfl, rfl, rfl, trivial⟩ Sub.ent)
    · refine S.g_yes rfl rfl rfl (decide_eq_false hg3_2) (S.q (q_move rfl) rfl rfl ?_)
      refine S.g_yes rfl rfl rfl (decide_eq_false hg3_2) (S.q (q_lt rfl rfl) rfl rfl ?_)
      refine S.g_op rfl (S.q (q_pickF rfl (decide_eq_false hg3_2) rfl) rfl rfl ?_)
      first | with_reducible refine S.g_nilK ?_ | refine S.g_nil ?_
      with_reducible repeat (first | refine S.then_n ?_ | refine S.then_x ?_ | refine S.then_r ?_ | refine S.inBlock_n ?_ | refine S.inBlock_r ?_ | refine S.inBlock_x rfl ?_ | refine S.noGoto_r ?_ | refine S.noGoto_n ?_ | refine S.noGoto_x ?_)
      first | (rw [show decide ((j : Int) = 0 ∨ k < 1) = true from decide_eq_true (.inl hg3_2)]; exact S.meet ⟨rfl, rfl⟩ ⟨rfl, rfl, rfl, rfl, trivial⟩ Sub.ent) | (rw [show decide ((j : Int) = 0 ∨ k < 1) = decide (k < 1) from decide_eq_decide.2 (by omega)]; exact S.meet ⟨rfl, rfl⟩ ⟨rfl, rfl, rfl, rfl, trivial⟩ Sub.ent)
  · rintro ρ' Γ' ⟨rfl, rfl⟩
    refine hK5 _ _ ?_
    refine S.condD rfl (fun h2 => ?_) (fun h2 => ?_)
    · have hpl : placeR m j k = ((0, [], 1), m) := by rw [placeR, if_pos (by omega)]
      refine S.seq fun K6 hK6 => ?_
      refine S.region rfl ?_
      refine S.op (S.q (q_assign rfl) rfl rfl ?_)
      refine S.op (S.q (q_assign rfl) rfl rfl ?_)
      refine S.op (S.q (q_assign rfl) rfl rfl ?_)
      first | with_reducible refine S.nilK ?_ | refine S.nil ?_
      refine hK6 _ _ ?_
      refine S.ret ?_
      with_reducible repeat (first | refine S.then_n ?_ | refine S.then_x ?_ | refine S.then_r ?_ | refine S.inBlock_n ?_ | refine S.inBlock_r ?_ | refine S.inBlock_x rfl ?_ | refine S.noGoto_r ?_ | refine S.noGoto_n ?_ | refine S.noGoto_x ?_)
      refine S.ent (Ent.ownNil 3 1) ?_
      show S _ w0 _ (own SV.nil 3 1 (nds []) :: RI b m :: Γ) _
      exact S.fin (rs := [_, _, _]) (vs := [_, _, _]) Tryd.results28 (⟨rfl, rfl, rfl, trivial⟩)  (⟨SV.nil, by rw [hpl]; rfl, by rw [hpl]; rfl, by rw [hpl]⟩) Sub.ent
    · refine S.skip ?_
      with_reducible repeat (first | refine S.then_n ?_ | refine S.then_x ?_ | refine S.then_r ?_ | refine S.inBlock_n ?_ | refine S.inBlock_r ?_ | refine S.inBlock_x rfl ?_ | refine S.noGoto_r ?_ | refine S.noGoto_n ?_ | refine S.noGoto_x ?_)
      refine hK4 _ _ ?_
      refine S.seq fun K7 hK7 => ?_
      refine S.seq fun K8 hK8 => ?_
      refine S.region rfl ?_
      refine S.op (S.q (q_move rfl) rfl rfl ?_)
      refine S.op (S.q (q_move rfl) rfl rfl ?_)
      refine S.op (S.call Tryd.en46 (vs := [_, _]) ⟨rfl, rfl, trivial⟩ (rOf_S b m j) rfl ?_)
      rintro v Θ ⟨sv0, rfl, _, rfl⟩
      refine S.op (S.q (q_move rfl) rfl rfl ?_)
      refine S.op (S.q (q_extract rfl rfl) rfl rfl ?_)
      refine S.op (S.q (q_extract rfl rfl) rfl rfl ?_)
      refine S.op (S.q (q_extract rfl rfl) rfl rfl ?_)
      refine S.op (S.q (q_assign rfl) rfl rfl ?_)
      refine S.op (S.q (q_assign rfl) rfl rfl ?_)
      refine S.op (S.q (q_assign rfl) rfl rfl ?_)
      first | with_reducible refine S.nilK ?_ | refine S.nil ?_
      refine hK8 _ _ ?_
      refine S.seq fun K9 hK9 => ?_
      refine S.region rfl ?_
      refine S.op (S.q (q_move rfl) rfl rfl ?_)
      first | with_reducible refine S.nilK ?_ | refine S.nil ?_
      refine hK9 _ _ ?_
      refine S.cond rfl (fun h3 => ?_) (fun h3 => ?_)
      · have hls : (look m.js j).isSome = true := by
          cases h : look m.js j with
          | none => rw [ofR_none h] at h3; cases h3
          | some x => rfl
        have hpl : placeR m j k = ((0, [], 7), m) := by rw [placeR, if_neg (by omega), if_pos hls]
        refine S.seq fun K10 hK10 => ?_
        refine S.region rfl ?_
        refine S.op (S.q (q_assign rfl) rfl rfl ?_)
        refine S.op (S.q (q_assign rfl) rfl rfl ?_)
        refine S.op (S.q (q_assign rfl) rfl rfl ?_)
        first | with_reducible refine S.nilK ?_ | refine S.nil ?_
        refine hK10 _ _ ?_
        refine S.ret ?_
        with_reducible repeat (first | refine S.then_n ?_ | refine S.then_x ?_ | refine S.then_r ?_ | refine S.inBlock_n ?_ | refine S.inBlock_r ?_ | refine S.inBlock_x rfl ?_ | refine S.noGoto_r ?_ | refine S.noGoto_n ?_ | refine S.noGoto_x ?_)
        refine S.ent (Ent.ownNil 3 1) ?_
        show S _ w0 _ (own SV.nil 3 1 (nds []) :: _) _
        exact S.fin (rs := [_, _, _]) (vs := [_, _, _]) Tryd.results28 (⟨rfl, rfl, rfl, trivial⟩)  (⟨SV.nil, by rw [hpl]; rfl, by rw [hpl]; rfl, by rw [hpl]⟩) Sub.ent
      · have hlk : look m.js j = none := by
          cases h : look m.js j with
          | none => rfl
          | some x => rw [ofR_some h] at h3; cases h3
        refine S.riOpen b m fun cs us rs hri => ?_
        have hcn := hri.cn
        have hun := hri.un
        refine S.skip ?_
        with_reducible repeat (first | refine S.then_n ?_ | refine S.then_x ?_ | refine S.then_r ?_ | refine S.inBlock_n ?_ | refine S.inBlock_r ?_ | refine S.inBlock_x rfl ?_ | refine S.noGoto_r ?_ | refine S.noGoto_n ?_ | refine S.noGoto_x ?_)
        refine hK7 _ _ ?_
        refine S.seq fun K11 hK11 => ?_
        refine S.seq fun K12 hK12 => ?_
        refine S.region rfl ?_
        refine S.op (S.q (q_move rfl) rfl rfl ?_)
        refine S.op (S.q (q_move rfl) rfl rfl ?_)
        refine S.op (S.q (q_nilCheck rfl) rfl rfl ?_)
        refine S.op (S.q (q_field Tryd.fo55_1 rfl) rfl rfl ?_)
        refine S.op (S.q (q_load Tryd.at53 rfl rfl) rfl rfl ?_)
        refine S.op (S.q (q_len Tryd.underlying53 rfl) rfl rfl ?_)
        refine S.op (S.q (q_gt rfl rfl) rfl rfl ?_)
        first | with_reducible refine S.nilK ?_ | refine S.nil ?_
        refine hK12 _ _ ?_
        refine S.condD rfl (fun h4 => ?_) (fun h4 => ?_)
        · have hpl : placeR m j k = ((0, [], 9), m) := by rw [placeR, if_neg (by omega), hlk, if_neg (by decide), if_pos (by omega)]
          refine S.seq fun K13 hK13 => ?_
          refine S.region rfl ?_
          refine S.op (S.q (q_assign rfl) rfl rfl ?_)
          refine S.op (S.q (q_assign rfl) rfl rfl ?_)
          refine S.op (S.q (q_assign rfl) rfl rfl ?_)
          first | with_reducible refine S.nilK ?_ | refine S.nil ?_
          refine hK13 _ _ ?_
          refine S.ret ?_
          with_reducible repeat (first | refine S.then_n ?_ | refine S.then_x ?_ | refine S.then_r ?_ | refine S.inBlock_n ?_ | refine S.inBlock_r ?_ | refine S.inBlock_x rfl ?_ | refine S.noGoto_r ?_ | refine S.noGoto_n ?_ | refine S.noGoto_x ?_)
          refine S.riClose b m cs us rs hri ?_
          refine S.ent (Ent.ownNil 3 1) ?_
          show S _ w0 _ (own SV.nil 3 1 (nds []) :: RI b m :: _) _
          exact S.fin (rs := [_, _, _]) (vs := [_, _, _]) Tryd.results28 (⟨rfl, rfl, rfl, trivial⟩)  (⟨SV.nil, by rw [hpl]; rfl, by rw [hpl]; rfl, by rw [hpl]⟩) Sub.ent
        · obtain ⟨kn, hkn⟩ : ∃ kn : Nat, kn = k.toNat := ⟨_, rfl⟩
          refine S.skip ?_
          with_reducible repeat (first | refine S.then_n ?_ | refine S.then_x ?_ | refine S.then_r ?_ | refine S.inBlock_n ?_ | refine S.inBlock_r ?_ | refine S.inBlock_x rfl ?_ | refine S.noGoto_r ?_ | refine S.noGoto_n ?_ | refine S.noGoto_x ?_)
          refine hK11 _ _ ?_
          refine S.seq fun K14 hK14 => ?_
          refine S.seq fun K15 hK15 => ?_
          refine S.region rfl ?_
          refine S.op (S.q (q_move rfl) rfl rfl ?_)
          refine S.op (S.q (q_nilCheck rfl) rfl rfl ?_)
          refine S.op (S.q (q_field Tryd.fo55_0 rfl) rfl rfl ?_)
          refine S.op (S.q (q_load Tryd.at52 rfl rfl) rfl rfl ?_)
          refine S.op (S.q (q_len Tryd.underlying52 rfl) rfl rfl ?_)
          refine S.riClose b m cs us rs hri ?_
          refine S.op (S.q (q_move rfl) rfl rfl ?_)
          first | with_reducible refine S.nilK ?_ | refine S.nil ?_
          refine hK15 _ _ ?_
          refine S.block ?_
          refine S.loop (fun q ρ' Γ' => ∃ r : Nat, q = m.R - r ∧ r ≤ m.R ∧ placeRow m kn r = none ∧ ρ' = [(0, .pointer (some ⟨b, 0, none⟩)), (1, .int .u32 (j : Int)), (2, .int .i64 k), (41, .int .i64 (cs.n : Int)), (42, .int .i64 (r : Int))] ∧ Γ' = RI b m :: Γ) (m := _) (ρ0 := _) (Γ0 := _) (⟨0, rfl, by omega, rfl, rfl, rfl⟩) (by repeat (first | exact trivial | refine ⟨rfl, ?_⟩)) Sub.ent ?_
          rintro q ρ' Γ' ⟨r, hq, hr, hnone, rfl, rfl⟩
          refine S.seq fun K16 hK16 => ?_
          refine S.region rfl ?_
          refine S.op (S.q (q_lt rfl rfl) rfl rfl ?_)
          first | with_reducible refine S.nilK ?_ | refine S.nil ?_
          refine hK16 _ _ ?_
          refine S.seq fun K17 hK17 => ?_
          refine S.condD rfl (fun h5 => ?_) (fun h5 => ?_)
          · have hfl : freeL m r = lst (m.free r) := by rw [freeL, if_pos (rowB_iff.2 ⟨by omega, by omega⟩), Int.toNat_natCast]
            refine S.skip ?_
            with_reducible repeat (first | refine S.then_n ?_ | refine S.then_x ?_ | refine S.then_r ?_ | refine S.inBlock_n ?_ | refine S.inBlock_r ?_ | refine S.inBlock_x rfl ?_ | refine S.noGoto_r ?_ | refine S.noGoto_n ?_ | refine S.noGoto_x ?_)
            refine hK17 _ _ ?_
            refine S.seq fun K18 hK18 => ?_
            refine S.block ?_
            refine S.seq fun K19 hK19 => ?_
            refine S.region rfl ?_
            refine S.op (S.q (q_move rfl) rfl rfl ?_)
            refine S.op (S.q (q_assign rfl) rfl rfl ?_)
            first | with_reducible refine S.nilK ?_ | refine S.nil ?_
            refine hK19 _ _ ?_
            refine S.seq fun K20 hK20 => ?_
            refine S.region rfl ?_
            refine S.op (S.q (q_move rfl) rfl rfl ?_)
            refine S.op (S.q (q_move rfl) rfl rfl ?_)
            refine S.op (S.call Tryd.en44 (vs := [_, _]) ⟨rfl, rfl, trivial⟩ (rFree_S b m r) rfl ?_)
            rintro v Θ ⟨fv, rfl, hfv, rfl⟩
            rw [hfl] at hfv ⊢
            obtain ⟨fl, hfe⟩ : ∃ fl, fl = lst (m.free r) := ⟨_, rfl⟩
            rw [← hfe] at hfv ⊢
            refine S.op (S.q (q_assign rfl) rfl rfl ?_)
            first | with_reducible refine S.nilK ?_ | refine S.nil ?_
            refine hK20 _ _ ?_
            refine S.seq fun K21 hK21 => ?_
            refine S.region rfl ?_
            refine S.op (S.q (q_move rfl) rfl rfl ?_)
            refine S.op (S.q (q_len Tryd.underlying69 rfl) rfl rfl ?_)
            refine S.op (S.q (q_move rfl) rfl rfl ?_)
            refine S.op (S.q (q_ge rfl rfl) rfl rfl ?_)
            first | with_reducible refine S.nilK ?_ | refine S.nil ?_
            refine hK21 _ _ ?_
            refine S.condD rfl (fun h6 => ?_) (fun h6 => ?_)
            · have hpl2 : placeR m j k = (((r : Int), fl.take kn, 0), m.add ⟨j, r, leastK (m.free r) kn⟩) := by rw [hkn] at hnone ⊢; rw [hfe]; exact place_yes h2 hlk (by omega) (by omega) hnone (by rw [← hfe]; omega)
              obtain ⟨hlen, hok2, hput⟩ := place_put hm hlk (j := j) (r := r) (k := kn) (by omega) (by omega) (by omega) (by rw [← hfe]; omega)
              rw [← hfe] at hlen hok2 hput
              refine S.ownLen fv fun hfl1 hfl2 hfl3 => ?_
              refine S.seq fun K22 hK22 => ?_
              refine S.region rfl ?_
              with_reducible refine S.opH fun KH15_0 hKH15_0 => ?_
              refine  (S.q (q_move rfl) rfl rfl ?_)
              refine hKH15_0 _ _ ?_
              with_reducible refine S.opH fun KH15_1 hKH15_1 => ?_
              refine  (S.q (q_move rfl) rfl rfl ?_)
              refine hKH15_1 _ _ ?_
              with_reducible refine S.opH fun KH15_2 hKH15_2 => ?_
              refine  (S.q (q_move rfl) rfl rfl ?_)
              refine hKH15_2 _ _ ?_
              with_reducible refine S.opH fun KH15_3 hKH15_3 => ?_
              refine  (S.q (q_move rfl) rfl rfl ?_)
              refine hKH15_3 _ _ ?_
              with_reducible refine S.opH fun KH15_4 hKH15_4 => ?_
              refine  (S.q (q_move rfl) rfl rfl ?_)
              refine hKH15_4 _ _ ?_
              refine S.op (S.q (q_sliceTo (kn) Tryd.el69 rfl rfl (by omega) (by omega)) rfl rfl ?_)
              refine S.op (S.call Tryd.en31 (vs := [_, _, _, _]) ⟨rfl, rfl, rfl, rfl, trivial⟩ (rPut_S b m j r (own fv 3 1 (nds fl)) ⟨fv.a, kn, fv.c⟩ (casts (fl.take kn)) (by rw [List.length_map, hlen]) (rdTake (by omega)) hj (by omega) (by omega) hok2) rfl ?_)
              rintro v Θ ⟨rfl, rfl⟩
              rw [hput]
              first | with_reducible refine S.nilK ?_ | refine S.nil ?_
              refine hK22 _ _ ?_
              refine S.seq fun K23 hK23 => ?_
              refine S.draw ([]) [] Tryd.mixed ?_
              refine S.dr_take 0 [] rfl (by kernel_rfl) rfl rfl rfl (q_move rfl) Sub.ent ?_
              refine S.dr_take 1 [] rfl (by kernel_rfl) rfl rfl rfl (q_move rfl) Sub.ent ?_
              refine S.dr_take 2 [] rfl (by kernel_rfl) rfl rfl rfl (q_move rfl) Sub.ent ?_
              refine S.dr_take 3 [] rfl (by kernel_rfl) rfl rfl rfl (q_sliceTo (kn) Tryd.el69 rfl rfl (by omega) (by omega)) Sub.ent ?_
              refine S.dr_take 4 [] rfl (by kernel_rfl) rfl rfl rfl (q_assign rfl) Sub.ent ?_
              refine S.dr_take 5 [] rfl (by kernel_rfl) rfl rfl rfl (q_assign rfl) Sub.ent ?_
              refine S.dr_take 6 [] rfl (by kernel_rfl) rfl rfl rfl (q_assign rfl) Sub.ent ?_
              first | with_reducible refine S.dr_doneK (by kernel_rfl) ?_ | refine S.dr_done (by kernel_rfl) ?_
              refine hK23 _ _ ?_
              refine S.ret ?_
              with_reducible repeat (first | refine S.then_n ?_ | refine S.then_x ?_ | refine S.then_r ?_ | refine S.inBlock_n ?_ | refine S.inBlock_r ?_ | refine S.inBlock_x rfl ?_ | refine S.noGoto_r ?_ | refine S.noGoto_n ?_ | refine S.noGoto_x ?_)
              refine S.conv (own fv 3 1 (nds fl)) (Ent.ownTake fv 3 1 (nds fl) (k := kn) (by omega) _) ?_
              rw [show (nds fl).take (kn * 1) = nds (fl.take kn) by rw [Nat.mul_one]; show (fl.map nv).take kn = (fl.take kn).map nv; rw [List.map_take]]
              exact S.fin (rs := [_, _, _]) (vs := [_, _, _]) Tryd.results28 (⟨rfl, rfl, rfl, trivial⟩)  (⟨⟨fv.a, kn, fv.c⟩, by rw [hpl2]; rfl, by rw [hpl2]; exact hlen.symm, by rw [hpl2]⟩) Sub.ent
            · have hn2 : placeRow m kn (r + 1) = none := placeRow_step hnone (by rw [← hfe]; omega)
              refine S.skip ?_
              with_reducible repeat (first | refine S.then_n ?_ | refine S.then_x ?_ | refine S.then_r ?_ | refine S.inBlock_n ?_ | refine S.inBlock_r ?_ | refine S.inBlock_x rfl ?_ | refine S.noGoto_r ?_ | refine S.noGoto_n ?_ | refine S.noGoto_x ?_)
              with_reducible repeat (first | refine S.then_n ?_ | refine S.then_x ?_ | refine S.then_r ?_ | refine S.inBlock_n ?_ | refine S.inBlock_r ?_ | refine S.inBlock_x rfl ?_ | refine S.noGoto_r ?_ | refine S.noGoto_n ?_ | refine S.noGoto_x ?_)
              refine hK18 _ _ ?_
              refine S.region rfl ?_
              refine S.op (S.q (q_add rfl rfl (inI64 (by omega) (by omega))) rfl rfl ?_)
              refine S.op (S.q (q_move rfl) rfl rfl ?_)
              first | with_reducible refine S.nilK ?_ | refine S.nil ?_
              with_reducible repeat (first | refine S.then_n ?_ | refine S.then_x ?_ | refine S.then_r ?_ | refine S.inBlock_n ?_ | refine S.inBlock_r ?_ | refine S.inBlock_x rfl ?_ | refine S.noGoto_r ?_ | refine S.noGoto_n ?_ | refine S.noGoto_x ?_)
              exact S.next (q - 1) (⟨r + 1, by omega, by omega, hn2, rfl, rfl⟩) (by omega) (by repeat (first | exact trivial | refine ⟨rfl, ?_⟩)) Sub.ent
          · have hpl2 : placeR m j k = ((0, [], 8), m) := by rw [show r = m.R by omega, hkn] at hnone; exact place_no h2 hlk (by omega) hnone
            refine S.exit ?_
            with_reducible repeat (first | refine S.then_n ?_ | refine S.then_x ?_ | refine S.then_r ?_ | refine S.inBlock_n ?_ | refine S.inBlock_r ?_ | refine S.inBlock_x rfl ?_ | refine S.noGoto_r ?_ | refine S.noGoto_n ?_ | refine S.noGoto_x ?_)
            with_reducible refine S.inBlock_s ?_
            with_reducible repeat (first | refine S.then_n ?_ | refine S.then_x ?_ | refine S.then_r ?_ | refine S.inBlock_n ?_ | refine S.inBlock_r ?_ | refine S.inBlock_x rfl ?_ | refine S.noGoto_r ?_ | refine S.noGoto_n ?_ | refine S.noGoto_x ?_)
            refine hK14 _ _ ?_
            refine S.seq fun K24 hK24 => ?_
            refine S.region rfl ?_
            refine S.op (S.q (q_assign rfl) rfl rfl ?_)
            refine S.op (S.q (q_assign rfl) rfl rfl ?_)
            refine S.op (S.q (q_assign rfl) rfl rfl ?_)
            first | with_reducible refine S.nilK ?_ | refine S.nil ?_
            refine hK24 _ _ ?_
            refine S.ret ?_
            with_reducible repeat (first | refine S.then_n ?_ | refine S.then_x ?_ | refine S.then_r ?_ | refine S.inBlock_n ?_ | refine S.inBlock_r ?_ | refine S.inBlock_x rfl ?_ | refine S.noGoto_r ?_ | refine S.noGoto_n ?_ | refine S.noGoto_x ?_)
            refine S.ent (Ent.ownNil 3 1) ?_
            show S _ w0 _ (own SV.nil 3 1 (nds []) :: RI b m :: _) _
            exact S.fin (rs := [_, _, _]) (vs := [_, _, _]) Tryd.results28 (⟨rfl, rfl, rfl, trivial⟩)  (⟨SV.nil, by rw [hpl2]; rfl, by rw [hpl2]; rfl, by rw [hpl2]⟩) Sub.ent
theorem rNext_S (b : Nat) (m : Mx) (z : Int) : Spec Tryd.prog 70 [.pointer (some ⟨b, 0, none⟩), .int .i64 z] [RI b m] fun Γ v Θ => v = .tuple #[.int .i64 (nextR m z).1, .bool (nextR m z).2] ∧ Θ = RI b m :: Γ := by
  refine Spec.riOk fun hm => ?_
  refine Spec.of_body Tryd.func70 rfl Tryd.ntmps70 rfl ?_
  intro w0 Γ
  show S _ w0 [(0, .pointer (some ⟨b, 0, none⟩)), (1, .int .i64 z)] (RI b m :: Γ) _
  have hR8 := hm.R8
  have hR1 := hm.R1
  obtain ⟨z', hz'⟩ : ∃ z', z' = if rowB m z then z else -1 := ⟨_, rfl⟩
  refine S.riOpen b m fun cs us rs hri => ?_
  have hcn := hri.cn
  refine S.seq fun K1 hK1 => ?_
  refine S.region rfl ?_
  refine S.op (S.q (q_assign rfl) rfl rfl ?_)
  refine S.op (S.q (q_assign rfl) rfl rfl ?_)
  first | with_reducible refine S.nilK ?_ | refine S.nil ?_
  refine hK1 _ _ ?_
  refine S.seq fun K2 hK2 => ?_
  refine S.seq fun K3 hK3 => ?_
  refine S.region rfl ?_
  refine S.op (S.q (q_move rfl) rfl rfl ?_)
  refine S.op (S.q (q_eqN Tryd.underlying26 rfl rfl) rfl rfl ?_)
  first | with_reducible refine S.nilK ?_ | refine S.nil ?_
  refine hK3 _ _ ?_
  refine S.condF rfl ?_
  refine S.skip ?_
  with_reducible repeat (first | refine S.then_n ?_ | refine S.then_x ?_ | refine S.then_r ?_ | refine S.inBlock_n ?_ | refine S.inBlock_r ?_ | refine S.inBlock_x rfl ?_ | refine S.noGoto_r ?_ | refine S.noGoto_n ?_ | refine S.noGoto_x ?_)
  refine hK2 _ _ ?_
  refine S.seq fun K4 hK4 => ?_
  refine S.region rfl ?_
  refine S.op (S.q (q_move rfl) rfl rfl ?_)
  refine S.op (S.q (q_nilCheck rfl) rfl rfl ?_)
  refine S.op (S.q (q_field Tryd.fo55_0 rfl) rfl rfl ?_)
  refine S.op (S.q (q_load Tryd.at52 rfl rfl) rfl rfl ?_)
  refine S.op (S.q (q_len Tryd.underlying52 rfl) rfl rfl ?_)
  refine S.op (S.q (q_assign rfl) rfl rfl ?_)
  first | with_reducible refine S.nilK ?_ | refine S.nil ?_
  refine hK4 _ _ ?_
  refine S.seq fun K5 hK5 => ?_
  refine S.seq fun K6 hK6 => ?_
  refine S.cut (fun ρ' Γ' => ρ' = [(0, .pointer (some ⟨b, 0, none⟩)), (1, .int .i64 z), (6, .int .i64 (cs.n : Int)), (22, .bool (!rowB m z))] ∧ Γ' = RI b m :: Γ) ?_ ?_
  · refine S.regionG ?_
    refine S.riClose b m cs us rs hri ?_
    refine S.g_op rfl (S.q (q_move rfl) rfl rfl ?_)
    refine S.g_op rfl (S.q (q_lt rfl rfl) rfl rfl ?_)
    refine S.g_op rfl (S.q (q_move rfl) rfl rfl ?_)
    by_cases hg4_2 : z < (0 : Int)
    · refine S.g_no rfl rfl rfl (decide_eq_true hg4_2) rfl rfl ?_
      refine S.g_no rfl rfl rfl (decide_eq_true hg4_2) rfl rfl ?_
      refine S.g_no rfl rfl rfl (decide_eq_true hg4_2) rfl rfl ?_
      refine S.g_op rfl (S.q (q_pickT rfl (decide_eq_true hg4_2) rfl) rfl rfl ?_)
      first | with_reducible refine S.g_nilK ?_ | refine S.g_nil ?_
      with_reducible repeat (first | refine S.then_n ?_ | refine S.then_x ?_ | refine S.then_r ?_ | refine S.inBlock_n ?_ | refine S.inBlock_r ?_ | refine S.inBlock_x rfl ?_ | refine S.noGoto_r ?_ | refine S.noGoto_n ?_ | refine S.noGoto_x ?_)
      first | (rw [show rowB m z = false by rw [rowB, decide_eq_false (by omega)]; rfl]; exact S.meet ⟨rfl, rfl⟩ ⟨rfl, rfl, rfl, rfl, trivial⟩ Sub.ent) | (rw [show (!rowB m z) = decide ((cs.n : Int) ≤ z) by rw [rowB, decide_eq_true (by omega), hcn, Bool.true_and, ← decide_not]; exact decide_eq_decide.2 (by omega)]; exact S.meet ⟨rfl, rfl⟩ ⟨rfl, rfl, rfl, rfl, trivial⟩ Sub.ent)
    · refine S.g_yes rfl rfl rfl (decide_eq_false hg4_2) (S.q (q_move rfl) rfl rfl ?_)
      refine S.g_yes rfl rfl rfl (decide_eq_false hg4_2) (S.q (q_move rfl) rfl rfl ?_)
      refine S.g_yes rfl rfl rfl (decide_eq_false hg4_2) (S.q (q_ge rfl rfl) rfl rfl ?_)
      refine S.g_op rfl (S.q (q_pickF rfl (decide_eq_false hg4_2) rfl) rfl rfl ?_)
      first | with_reducible refine S.g_nilK ?_ | refine S.g_nil ?_
      with_reducible repeat (first | refine S.then_n ?_ | refine S.then_x ?_ | refine S.then_r ?_ | refine S.inBlock_n ?_ | refine S.inBlock_r ?_ | refine S.inBlock_x rfl ?_ | refine S.noGoto_r ?_ | refine S.noGoto_n ?_ | refine S.noGoto_x ?_)
      first | (rw [show rowB m z = false by rw [rowB, decide_eq_false (by omega)]; rfl]; exact S.meet ⟨rfl, rfl⟩ ⟨rfl, rfl, rfl, rfl, trivial⟩ Sub.ent) | (rw [show (!rowB m z) = decide ((cs.n : Int) ≤ z) by rw [rowB, decide_eq_true (by omega), hcn, Bool.true_and, ← decide_not]; exact decide_eq_decide.2 (by omega)]; exact S.meet ⟨rfl, rfl⟩ ⟨rfl, rfl, rfl, rfl, trivial⟩ Sub.ent)
  · rintro ρ' Γ' ⟨rfl, rfl⟩
    refine hK6 _ _ ?_
    refine S.cut (fun ρ' Γ' => ∃ zz : Int, (0 ≤ zz ∧ zz < m.R) ∧ (zz = z' ∨ (zz = m.R - 1 ∧ z' = -1)) ∧ z' = (if rowB m z then z else -1) ∧ ρ' = [(0, .pointer (some ⟨b, 0, none⟩)), (1, .int .i64 zz), (6, .int .i64 (cs.n : Int))] ∧ Γ' = RI b m :: Γ) ?_ ?_
    · refine S.cond rfl (fun h2 => ?_) (fun h2 => ?_)
      · rw [show rowB m z = false by simpa using h2, if_neg (by decide)] at hz'
        refine S.region rfl ?_
        refine S.op (S.q (q_move rfl) rfl rfl ?_)
        refine S.op (S.q (q_sub rfl rfl (inI64 (by omega) (by omega))) rfl rfl ?_)
        refine S.op (S.q (q_assign rfl) rfl rfl ?_)
        first | with_reducible refine S.nilK ?_ | refine S.nil ?_
        with_reducible repeat (first | refine S.then_n ?_ | refine S.then_x ?_ | refine S.then_r ?_ | refine S.inBlock_n ?_ | refine S.inBlock_r ?_ | refine S.inBlock_x rfl ?_ | refine S.noGoto_r ?_ | refine S.noGoto_n ?_ | refine S.noGoto_x ?_)
        first | exact S.meet ⟨(cs.n : Int) - 1, by omega, .inr ⟨by omega, hz'⟩, by rw [hz', show rowB m z = false by simpa using h2]; rfl, rfl, rfl⟩ ⟨rfl, rfl, rfl, trivial⟩ Sub.ent | exact S.meet ⟨z, by omega, .inl hz'.symm, by rw [hz', show rowB m z = true by simpa using h2]; rfl, rfl, rfl⟩ ⟨rfl, rfl, rfl, trivial⟩ Sub.ent
      · rw [show rowB m z = true by simpa using h2, if_pos rfl] at hz'
        have hzb := rowB_iff.1 (show rowB m z = true by simpa using h2)
        refine S.skip ?_
        with_reducible repeat (first | refine S.then_n ?_ | refine S.then_x ?_ | refine S.then_r ?_ | refine S.inBlock_n ?_ | refine S.inBlock_r ?_ | refine S.inBlock_x rfl ?_ | refine S.noGoto_r ?_ | refine S.noGoto_n ?_ | refine S.noGoto_x ?_)
        with_reducible repeat (first | refine S.then_n ?_ | refine S.then_x ?_ | refine S.then_r ?_ | refine S.inBlock_n ?_ | refine S.inBlock_r ?_ | refine S.inBlock_x rfl ?_ | refine S.noGoto_r ?_ | refine S.noGoto_n ?_ | refine S.noGoto_x ?_)
        first | exact S.meet ⟨(cs.n : Int) - 1, by omega, .inr ⟨by omega, hz'⟩, by rw [hz', show rowB m z = false by simpa using h2]; rfl, rfl, rfl⟩ ⟨rfl, rfl, rfl, trivial⟩ Sub.ent | exact S.meet ⟨z, by omega, .inl hz'.symm, by rw [hz', show rowB m z = true by simpa using h2]; rfl, rfl, rfl⟩ ⟨rfl, rfl, rfl, trivial⟩ Sub.ent
    · rintro ρ' Γ' ⟨zz, hzz, hzz2, hz', rfl, rfl⟩
      refine hK5 _ _ ?_
      refine S.seq fun K7 hK7 => ?_
      refine S.seq fun K8 hK8 => ?_
      refine S.region rfl ?_
      refine S.op (S.q (q_assign rfl) rfl rfl ?_)
      first | with_reducible refine S.nilK ?_ | refine S.nil ?_
      refine hK8 _ _ ?_
      refine S.block ?_
      refine S.loop (fun k ρ' Γ' => ∃ i : Nat, k = m.R - i ∧ i ≤ m.R ∧ nextUp m z' i = none ∧ ρ' = [(0, .pointer (some ⟨b, 0, none⟩)), (1, .int .i64 zz), (6, .int .i64 (cs.n : Int)), (7, .int .i64 ((i : Int) + 1))] ∧ Γ' = RI b m :: Γ) (m := _) (ρ0 := _) (Γ0 := _) (⟨0, rfl, by omega, rfl, rfl, rfl⟩) (by repeat (first | exact trivial | refine ⟨rfl, ?_⟩)) Sub.ent ?_
      rintro k ρ' Γ' ⟨i, hik, hiR, hnu, rfl, rfl⟩
      refine S.seq fun K9 hK9 => ?_
      refine S.seq fun K10 hK10 => ?_
      refine S.region rfl ?_
      refine S.op (S.q (q_move rfl) rfl rfl ?_)
      refine S.op (S.q (q_move rfl) rfl rfl ?_)
      refine S.op (S.q (q_le rfl rfl) rfl rfl ?_)
      first | with_reducible refine S.nilK ?_ | refine S.nil ?_
      refine hK10 _ _ ?_
      refine S.condD rfl (fun h3 => ?_) (fun h3 => ?_)
      · have hmod : (((z' + 1 + i) % m.R).toNat : Int) = (z' + 1 + i) % m.R := Int.toNat_of_nonneg (Int.emod_nonneg _ (by omega))
        have hmlt : ((z' + 1 + i) % m.R) < m.R := Int.emod_lt_of_pos _ (by omega)
        have hsame : (zz + ((i : Int) + 1)) % (cs.n : Int) = (z' + 1 + i) % m.R := by
          rw [hcn]
          rcases hzz2 with e | ⟨e1, e2⟩
          · rw [e]; congr 1; omega
          · rw [e1, e2, show (m.R : Int) - 1 + ((i : Int) + 1) = i + m.R by omega, Int.add_emod_right]; congr 1; omega
        refine S.skip ?_
        with_reducible repeat (first | refine S.then_n ?_ | refine S.then_x ?_ | refine S.then_r ?_ | refine S.inBlock_n ?_ | refine S.inBlock_r ?_ | refine S.inBlock_x rfl ?_ | refine S.noGoto_r ?_ | refine S.noGoto_n ?_ | refine S.noGoto_x ?_)
        refine hK9 _ _ ?_
        refine S.seq fun K11 hK11 => ?_
        refine S.block ?_
        refine S.seq fun K12 hK12 => ?_
        refine S.region rfl ?_
        refine S.op (S.q (q_move rfl) rfl rfl ?_)
        refine S.op (S.q (q_move rfl) rfl rfl ?_)
        refine S.op (S.q (q_add rfl rfl (inI64 (by omega) (by omega))) rfl rfl ?_)
        refine S.op (S.q (q_move rfl) rfl rfl ?_)
        refine S.op (S.q (q_rem rfl rfl (⟨by omega, by omega⟩)) rfl rfl ?_)
        refine S.op (S.q (q_assign rfl) rfl rfl ?_)
        first | with_reducible refine S.nilK ?_ | refine S.nil ?_
        refine hK12 _ _ ?_
        refine S.seq fun K13 hK13 => ?_
        refine S.region rfl ?_
        rw [hsame]
        refine S.op (S.q (q_move rfl) rfl rfl ?_)
        refine S.op (S.q (q_move rfl) rfl rfl ?_)
        refine S.op (S.call Tryd.en19 (vs := [_, _]) ⟨rfl, rfl, trivial⟩ (rRow_S b m ((z' + 1 + i) % m.R)) rfl ?_)
        rintro v Θ ⟨rv, rfl, hrv, rfl⟩
        have hrn : rowIds m ((z' + 1 + i) % m.R) = rowIds m (((z' + 1 + i) % m.R).toNat : Nat) := by rw [hmod]
        have hrz := rowIds_zero hm (show ((z' + 1 + i) % m.R).toNat < m.R by omega)
        rw [← hrn] at hrz
        refine S.op (S.q (q_len Tryd.underlying31 rfl) rfl rfl ?_)
        refine S.op (S.q (q_gt rfl rfl) rfl rfl ?_)
        first | with_reducible refine S.nilK ?_ | refine S.nil ?_
        refine hK13 _ _ ?_
        refine S.condD rfl (fun h4 => ?_) (fun h4 => ?_)
        · have hu : nextUp m z' (i + 1) = some ((z' + 1 + i) % m.R).toNat := by
            rw [nextUp, hnu]
            exact if_neg fun e => by rw [hrz.2 e] at hrv; simp at hrv; omega
          have hfin : nextR m z = ((z' + 1 + i) % m.R, true) := by
            unfold nextR
            rw [← hz', nextUp_mono hu (show i + 1 ≤ m.R by omega)]
            exact congrArg (fun q : Int => (q, true)) hmod
          refine S.seq fun K14 hK14 => ?_
          refine S.region rfl ?_
          refine S.op (S.q (q_move rfl) rfl rfl ?_)
          refine S.op (S.q (q_assign rfl) rfl rfl ?_)
          refine S.op (S.q (q_assign rfl) rfl rfl ?_)
          first | with_reducible refine S.nilK ?_ | refine S.nil ?_
          refine hK14 _ _ ?_
          refine S.ret ?_
          with_reducible repeat (first | refine S.then_n ?_ | refine S.then_x ?_ | refine S.then_r ?_ | refine S.inBlock_n ?_ | refine S.inBlock_r ?_ | refine S.inBlock_x rfl ?_ | refine S.noGoto_r ?_ | refine S.noGoto_n ?_ | refine S.noGoto_x ?_)
          exact S.fin (rs := [_, _]) (vs := [_, _]) Tryd.results70 (⟨rfl, rfl, trivial⟩)  (⟨by rw [hfin]; rfl, rfl⟩) Sub.ent
        · have hu : nextUp m z' (i + 1) = none := by
            rw [nextUp, hnu]
            exact if_pos (hrz.1 (List.length_eq_zero_iff.1 (by omega)))
          refine S.skip ?_
          with_reducible repeat (first | refine S.then_n ?_ | refine S.then_x ?_ | refine S.then_r ?_ | refine S.inBlock_n ?_ | refine S.inBlock_r ?_ | refine S.inBlock_x rfl ?_ | refine S.noGoto_r ?_ | refine S.noGoto_n ?_ | refine S.noGoto_x ?_)
          with_reducible repeat (first | refine S.then_n ?_ | refine S.then_x ?_ | refine S.then_r ?_ | refine S.inBlock_n ?_ | refine S.inBlock_r ?_ | refine S.inBlock_x rfl ?_ | refine S.noGoto_r ?_ | refine S.noGoto_n ?_ | refine S.noGoto_x ?_)
          refine hK11 _ _ ?_
          refine S.region rfl ?_
          refine S.op (S.q (q_move rfl) rfl rfl ?_)
          refine S.op (S.q (q_add rfl rfl (inI64 (by omega) (by omega))) rfl rfl ?_)
          refine S.op (S.q (q_assign rfl) rfl rfl ?_)
          first | with_reducible refine S.nilK ?_ | refine S.nil ?_
          with_reducible repeat (first | refine S.then_n ?_ | refine S.then_x ?_ | refine S.then_r ?_ | refine S.inBlock_n ?_ | refine S.inBlock_r ?_ | refine S.inBlock_x rfl ?_ | refine S.noGoto_r ?_ | refine S.noGoto_n ?_ | refine S.noGoto_x ?_)
          exact S.next (k - 1) (⟨i + 1, by omega, by omega, hu, rfl, rfl⟩) (by omega) (by repeat (first | exact trivial | refine ⟨rfl, ?_⟩)) Sub.ent
      · have hfin : nextR m z = (0, false) := by
          rw [show i = m.R by omega] at hnu
          unfold nextR
          rw [← hz', hnu]
        refine S.exit ?_
        with_reducible repeat (first | refine S.then_n ?_ | refine S.then_x ?_ | refine S.then_r ?_ | refine S.inBlock_n ?_ | refine S.inBlock_r ?_ | refine S.inBlock_x rfl ?_ | refine S.noGoto_r ?_ | refine S.noGoto_n ?_ | refine S.noGoto_x ?_)
        with_reducible refine S.inBlock_s ?_
        with_reducible repeat (first | refine S.then_n ?_ | refine S.then_x ?_ | refine S.then_r ?_ | refine S.inBlock_n ?_ | refine S.inBlock_r ?_ | refine S.inBlock_x rfl ?_ | refine S.noGoto_r ?_ | refine S.noGoto_n ?_ | refine S.noGoto_x ?_)
        refine hK7 _ _ ?_
        refine S.seq fun K15 hK15 => ?_
        refine S.region rfl ?_
        refine S.op (S.q (q_assign rfl) rfl rfl ?_)
        refine S.op (S.q (q_assign rfl) rfl rfl ?_)
        first | with_reducible refine S.nilK ?_ | refine S.nil ?_
        refine hK15 _ _ ?_
        refine S.ret ?_
        with_reducible repeat (first | refine S.then_n ?_ | refine S.then_x ?_ | refine S.then_r ?_ | refine S.inBlock_n ?_ | refine S.inBlock_r ?_ | refine S.inBlock_x rfl ?_ | refine S.noGoto_r ?_ | refine S.noGoto_n ?_ | refine S.noGoto_x ?_)
        exact S.fin (rs := [_, _]) (vs := [_, _]) Tryd.results70 (⟨rfl, rfl, trivial⟩)  (⟨by rw [hfin]; rfl, rfl⟩) Sub.ent
end Go.Proofs.YtegjmmocnffpiaaDoor
