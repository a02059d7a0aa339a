/- The document's matrix: Put, where its row and its nodes are there; a node that is down. -/
import Derived.Test.YtbhnbnecaejjiaaDoorDocB
namespace Go.Proofs.YtbhnbnecaejjiaaDoor
open Go.RowKit
set_option maxRecDepth 20000
def setAll (d : List Nat) (ns : List Nat) (j : Nat) : List Nat := ns.foldl (fun d n => d.set n j) d
theorem setAll_len (j : Nat) : ∀ (ns : List Nat) (d : List Nat), (setAll d ns j).length = d.length
  | [], d => rfl
  | n :: ns, d => by rw [setAll, List.foldl_cons]; exact (setAll_len j ns (d.set n j)).trans (List.length_set ..)
theorem setAll_get (j : Nat) : ∀ (ns : List Nat) (d : List Nat) (i : Nat), i < d.length → (setAll d ns j)[i]? = if i ∈ ns then some j else d[i]?
  | [], d, i, h => rfl
  | n :: ns, d, i, h => by
    rw [setAll, List.foldl_cons]
    have ih := setAll_get j ns (d.set n j) i (by rw [List.length_set]; exact h)
    rw [setAll] at ih
    rw [ih]
    by_cases e : i ∈ ns
    · rw [if_pos e, if_pos (List.mem_cons_of_mem _ e)]
    · rw [if_neg e]
      by_cases e2 : i = n
      · subst e2
        rw [if_pos (List.mem_cons_self ..), List.getElem?_set_self h]
      · rw [if_neg (by simp [e, e2]), List.getElem?_set_ne (fun h => e2 h.symm)]
theorem setAll_snoc (d : List Nat) (ns : List Nat) (n j : Nat) : setAll d (ns ++ [n]) j = (setAll d ns j).set n j := by rw [setAll, List.foldl_append]; rfl
theorem rowN_add {m : Mx} (hm : MxOk m) {x : Jb} (hm' : MxOk (m.add x)) (o : Nat) : rowN (m.add x) o = if o = x.row then setAll (rowN m o) (lst x.ns) x.id else rowN m o := by
  have hat : ∀ i, atJ (m.add x).js o i = if o = x.row ∧ x.ns.getLsbD i = true then x.id else atJ m.js o i := fun i => by
    by_cases h : o = x.row ∧ x.ns.getLsbD i = true
    · rw [if_pos h]
      exact atJ_some hm' (mem_addJ.2 (.inl rfl)) h.1.symm h.2
    · rw [if_neg h]
      by_cases h2 : ∃ y ∈ m.js, y.row = o ∧ y.ns.getLsbD i = true
      · obtain ⟨y, y1, y2, y3⟩ := h2
        rw [atJ_some hm y1 y2 y3]
        exact atJ_some hm' (mem_addJ.2 (.inr y1)) y2 y3
      · have hz : atJ m.js o i = 0 := atJ_none fun y y1 y2 => by cases hb : y.ns.getLsbD i with | false => rfl | true => exact absurd ⟨y, y1, y2, hb⟩ h2
        rw [hz]
        refine atJ_none fun y y1 y2 => ?_
        cases hb : y.ns.getLsbD i with
        | false => rfl
        | true =>
          rcases mem_addJ.1 y1 with e | y1
          · rw [e] at y2 hb; exact absurd ⟨y2.symm, hb⟩ h
          · exact absurd ⟨y, y1, y2, hb⟩ h2
  refine List.ext_getElem? fun i => ?_
  by_cases hi : i < m.N
  · have h1 : (rowN (m.add x) o)[i]? = some (atJ (m.add x).js o i) := rowN_get (m := m.add x) hi o
    rw [h1, hat]
    by_cases e : o = x.row
    · rw [if_pos e, setAll_get _ _ _ _ (by rw [rowN_len]; exact hi), rowN_get hi]
      by_cases e2 : x.ns.getLsbD i = true
      · rw [if_pos ⟨e, e2⟩, if_pos (mem_lst.2 e2)]
      · rw [if_neg (fun h => e2 h.2), if_neg (fun h => e2 (mem_lst.1 h))]
    · rw [if_neg e, if_neg (fun h => e h.1), rowN_get hi]
  · rw [List.getElem?_eq_none (by rw [rowN_len]; show m.N ≤ i; omega)]
    split
    · rw [List.getElem?_eq_none (by rw [setAll_len, rowN_len]; omega)]
    · rw [List.getElem?_eq_none (by rw [rowN_len]; omega)]
/-- Is every one of the first i nodes of a row free? -/
theorem busy_iff {m : Mx} (hm : MxOk m) {r i : Nat} : atJ m.js r i = 0 ↔ (tk m.js r).getLsbD i = false := by
  constructor
  · intro h
    cases hb : (tk m.js r).getLsbD i with
    | false => rfl
    | true =>
      obtain ⟨x, h1, h2, h3⟩ := (tk_bit m.js r i).1 hb
      have := atJ_some hm h1 h2 h3
      have := hm.id1 x h1
      omega
  · intro h
    refine atJ_none fun x hx e => ?_
    cases hb : x.ns.getLsbD i with
    | false => rfl
    | true => rw [(tk_bit m.js r i).2 ⟨x, hx, e, hb⟩] at h; cases h
theorem rPut_S (b : Nat) (m : Mx) (j r : Nat) (R : Assn) (s : SV) (l : List Int) (hsn : s.n = l.length) (hR : RdS R s s.n 1 (ints l)) (hj : j ≤ 4294967295) (hj0 : j ≠ 0) (hr : r < m.R) (hup : okUp m l l.length = true) : Spec Tryd.prog 40 [.pointer (some ⟨b, 0, none⟩), .int .u32 (j : Int), .int .i64 (r : Int), s.v] [RI b m, R] fun Γ v Θ =>
    v = .int .i64 (putR m j r l).1 ∧ Θ = RI b (putR m j r l).2 :: R :: Γ := by
  refine Spec.riOk fun hok => ?_
  refine Spec.of_body Tryd.func40 rfl Tryd.ntmps40 rfl ?_
  intro w0 Γ
  show S _ w0 [(0, .pointer (some ⟨b, 0, none⟩)), (1, .int .u32 (j : Int)), (2, .int .i64 (r : Int)), (3, s.v)] (RI b m :: R :: Γ) _
  refine S.rCap hR fun _ hcap1 hcap2 => ?_
  have hN16 := hok.N16
  have hR8 := hok.R8
  refine S.riOpen b m fun cs us rs hri => ?_
  have hcn := hri.cn
  have hun := hri.un
  have hrl := hri.rlen
  have hpk : putOk m j r l = decide (0 < l.length) := by
    rw [putOk, decide_eq_true (show ((j : Nat) : Int) ≠ 0 by omega), rowB_iff.2 ⟨by omega, by omega⟩, Bool.true_and, Bool.true_and]
    exact decide_eq_decide.2 (by omega)
  refine S.ownSome cs (by omega) fun cb co hca _ _ _ => ?_
  refine S.seq fun K1 hK1 => ?_
  refine S.region rfl ?_
  refine S.op (S.q (q_assign rfl) rfl rfl ?_)
  first | with_reducible refine S.nilK ?_ | refine S.nil ?_
  refine hK1 _ _ ?_
  refine S.seq fun K2 hK2 => ?_
  refine S.seq fun K3 hK3 => ?_
  refine S.region rfl ?_
  refine S.op (S.q (q_move rfl) rfl rfl ?_)
  refine S.op (S.q (q_eqN Tryd.underlying25 rfl rfl) rfl rfl ?_)
  first | with_reducible refine S.nilK ?_ | refine S.nil ?_
  refine hK3 _ _ ?_
  refine S.condF rfl ?_
  refine S.skip ?_
  with_reducible repeat (first | refine S.then_n ?_ | refine S.then_x ?_ | refine S.then_r ?_ | refine S.inBlock_n ?_ | refine S.inBlock_r ?_ | refine S.inBlock_x rfl ?_ | refine S.noGoto_r ?_ | refine S.noGoto_n ?_ | refine S.noGoto_x ?_)
  refine hK2 _ _ ?_
  refine S.seq fun K4 hK4 => ?_
  refine S.seq fun K5 hK5 => ?_
  refine S.regionG ?_
  refine S.g_op rfl (S.q (q_move rfl) rfl rfl ?_)
  refine S.g_op rfl (S.q (q_eq rfl rfl) rfl rfl ?_)
  refine S.g_op rfl (S.q (q_move rfl) rfl rfl ?_)
  refine S.g_yes rfl rfl rfl ((decide_eq_false (by omega))) (S.q (q_move rfl) rfl rfl ?_)
  refine S.g_yes rfl rfl rfl ((decide_eq_false (by omega))) (S.q (q_lt rfl rfl) rfl rfl ?_)
  refine S.g_op rfl (S.q (q_pickF rfl ((decide_eq_false (by omega))) rfl) rfl rfl ?_)
  refine S.g_op rfl (S.q (q_move rfl) rfl rfl ?_)
  refine S.g_yes rfl rfl rfl ((decide_eq_false (by omega))) (S.q (q_move rfl) rfl rfl ?_)
  refine S.g_yes rfl rfl rfl ((decide_eq_false (by omega))) (S.q (q_move rfl) rfl rfl ?_)
  refine S.g_yes rfl rfl rfl ((decide_eq_false (by omega))) (S.q (q_nilCheck rfl) rfl rfl ?_)
  refine S.g_yes rfl rfl rfl ((decide_eq_false (by omega))) (S.q (q_field Tryd.fo45_0 rfl) rfl rfl ?_)
  refine S.g_yes rfl rfl rfl ((decide_eq_false (by omega))) (S.q (q_load Tryd.at42 rfl rfl) rfl rfl ?_)
  refine S.g_yes rfl rfl rfl ((decide_eq_false (by omega))) (S.q (q_len Tryd.underlying42 rfl) rfl rfl ?_)
  refine S.g_yes rfl rfl rfl ((decide_eq_false (by omega))) (S.q (q_ge rfl rfl) rfl rfl ?_)
  refine S.g_op rfl (S.q (q_pickF rfl ((decide_eq_false (by omega))) rfl) rfl rfl ?_)
  refine S.g_op rfl (S.q (q_move rfl) rfl rfl ?_)
  refine S.g_yes rfl rfl rfl ((decide_eq_false (by omega))) (S.q (q_move rfl) rfl rfl ?_)
  refine S.g_yes rfl rfl rfl ((decide_eq_false (by omega))) (S.q (q_len Tryd.underlying52 rfl) rfl rfl ?_)
  refine S.g_yes rfl rfl rfl ((decide_eq_false (by omega))) (S.q (q_eq rfl rfl) rfl rfl ?_)
  refine S.g_op rfl (S.q (q_pickF rfl ((decide_eq_false (by omega))) rfl) rfl rfl ?_)
  first | with_reducible refine S.g_nilK ?_ | refine S.g_nil ?_
  refine hK5 _ _ ?_
  refine S.condD rfl (fun h2 => ?_) (fun h2 => ?_)
  · have hp : putR m j r l = (1, m) := by rw [putR, hpk, decide_eq_false (by omega)]; rfl
    refine S.riClose b m cs us rs hri ?_
    refine S.seq fun K6 hK6 => ?_
    refine S.region rfl ?_
    refine S.op (S.q (q_assign rfl) rfl rfl ?_)
    first | with_reducible refine S.nilK ?_ | refine S.nil ?_
    refine hK6 _ _ ?_
    refine S.ret ?_
    with_reducible repeat (first | refine S.then_n ?_ | refine S.then_x ?_ | refine S.then_r ?_ | refine S.inBlock_n ?_ | refine S.inBlock_r ?_ | refine S.inBlock_x rfl ?_ | refine S.noGoto_r ?_ | refine S.noGoto_n ?_ | refine S.noGoto_x ?_)
    exact S.fin (rs := [_]) (vs := [_]) Tryd.results40 (⟨rfl, trivial⟩)  (⟨by rw [hp]; rfl, by rw [hp]⟩) Sub.ent
  · have hpos : 0 < l.length := by omega
    obtain ⟨p1, p2, p3⟩ := put_ok hok hpos hup
    have hpn : putR m j r l = if (look m.js j).isSome then (7, m) else if tk m.js r &&& ofL (nats l) ≠ 0#16 then (15, m) else (0, m.add ⟨j, r, ofL (nats l)⟩) := by
      rw [putR, hpk, hup, decide_eq_true hpos, if_neg (by decide), Int.toNat_natCast]
    refine S.skip ?_
    with_reducible repeat (first | refine S.then_n ?_ | refine S.then_x ?_ | refine S.then_r ?_ | refine S.inBlock_n ?_ | refine S.inBlock_r ?_ | refine S.inBlock_x rfl ?_ | refine S.noGoto_r ?_ | refine S.noGoto_n ?_ | refine S.noGoto_x ?_)
    refine hK4 _ _ ?_
    refine S.seq fun K7 hK7 => ?_
    refine S.seq fun K8 hK8 => ?_
    refine S.region rfl ?_
    refine S.op (S.q (q_move rfl) rfl rfl ?_)
    refine S.op (S.q (q_len Tryd.underlying52 rfl) rfl rfl ?_)
    refine S.op (S.q (q_move rfl) rfl rfl ?_)
    first | with_reducible refine S.nilK ?_ | refine S.nil ?_
    refine hK8 _ _ ?_
    refine S.block ?_
    refine S.loop (fun q ρ' Γ' => ∃ i : Nat, q = l.length - i ∧ i ≤ l.length ∧ ρ' = [(0, .pointer (some ⟨b, 0, none⟩)), (1, .int .u32 (j : Int)), (2, .int .i64 (r : Int)), (3, s.v), (40, s.v), (41, .int .i64 s.n), (42, .int .i64 (i : Int))] ∧   Γ' = blk b 45 #[cs.v, us.v] :: own cs 34 1 (rs.map rrV) :: own us 4 1 (upC m) :: alls rs rrB :: R :: Γ) (m := _) (ρ0 := _) (Γ0 := _) (⟨0, rfl, by omega, rfl, rfl⟩) (by repeat (first | exact trivial | refine ⟨rfl, ?_⟩)) Sub.ent ?_
    rintro q ρ' Γ' ⟨i, hq, hi, rfl, rfl⟩
    refine S.seq fun K9 hK9 => ?_
    refine S.region rfl ?_
    refine S.op (S.q (q_lt rfl rfl) rfl rfl ?_)
    first | with_reducible refine S.nilK ?_ | refine S.nil ?_
    refine hK9 _ _ ?_
    refine S.seq fun K10 hK10 => ?_
    refine S.condD rfl (fun h3 => ?_) (fun h3 => ?_)
    · refine S.rSome hR (by omega) fun sb so hsa => ?_
      obtain ⟨x, hx⟩ := getE (show i < l.length by omega)
      have hxd : l.getD i 0 = x := by simp [List.getD, hx]
      obtain ⟨u1, u2⟩ := okUp_at hup (show i < l.length by omega)
      rw [hxd] at u1 u2
      have u3 := nodeB_iff.1 u1
      refine S.skip ?_
      with_reducible repeat (first | refine S.then_n ?_ | refine S.then_x ?_ | refine S.then_r ?_ | refine S.inBlock_n ?_ | refine S.inBlock_r ?_ | refine S.inBlock_x rfl ?_ | refine S.noGoto_r ?_ | refine S.noGoto_n ?_ | refine S.noGoto_x ?_)
      refine hK10 _ _ ?_
      refine S.seq fun K11 hK11 => ?_
      refine S.block ?_
      refine S.seq fun K12 hK12 => ?_
      refine S.region rfl ?_
      refine S.op (S.q (q_move rfl) rfl rfl ?_)
      refine S.op (S.q (q_indexO (i) Tryd.el52 rfl hsa rfl rfl (by omega)) rfl rfl ?_)
      refine S.op (S.q (q_loadR hR i Tryd.at3 rfl hsa (by omega) (by omega) (ints_get hx)) rfl rfl ?_)
      refine S.op (S.q (q_assign rfl) rfl rfl ?_)
      refine S.op (S.q (q_assign rfl) rfl rfl ?_)
      first | with_reducible refine S.nilK ?_ | refine S.nil ?_
      refine hK12 _ _ ?_
      refine S.seq fun K13 hK13 => ?_
      refine S.cut (fun ρ' Γ' => ρ' = [(0, .pointer (some ⟨b, 0, none⟩)), (1, .int .u32 (j : Int)), (2, .int .i64 (r : Int)), (3, s.v), (40, s.v), (41, .int .i64 s.n), (42, .int .i64 (i : Int)), (70, .bool false)] ∧   Γ' = blk b 45 #[cs.v, us.v] :: own cs 34 1 (rs.map rrV) :: own us 4 1 (upC m) :: alls rs rrB :: R :: Γ) ?_ ?_
      · refine S.regionG ?_
        refine S.g_op rfl (S.q (q_move rfl) rfl rfl ?_)
        refine S.g_op rfl (S.q (q_lt rfl rfl) rfl rfl ?_)
        refine S.g_op rfl (S.q (q_move rfl) rfl rfl ?_)
        refine S.g_yes rfl rfl rfl ((decide_eq_false (by omega))) (S.q (q_move rfl) rfl rfl ?_)
        refine S.g_yes rfl rfl rfl ((decide_eq_false (by omega))) (S.q (q_move rfl) rfl rfl ?_)
        refine S.g_yes rfl rfl rfl ((decide_eq_false (by omega))) (S.q (q_nilCheck rfl) rfl rfl ?_)
        refine S.g_yes rfl rfl rfl ((decide_eq_false (by omega))) (S.q (q_field Tryd.fo45_1 rfl) rfl rfl ?_)
        refine S.g_yes rfl rfl rfl ((decide_eq_false (by omega))) (S.q (q_load Tryd.at43 rfl rfl) rfl rfl ?_)
        refine S.g_yes rfl rfl rfl ((decide_eq_false (by omega))) (S.q (q_len Tryd.underlying43 rfl) rfl rfl ?_)
        refine S.g_yes rfl rfl rfl ((decide_eq_false (by omega))) (S.q (q_ge rfl rfl) rfl rfl ?_)
        refine S.g_op rfl (S.q (q_pickF rfl ((decide_eq_false (by omega))) rfl) rfl rfl ?_)
        refine S.g_op rfl (S.q (q_move rfl) rfl rfl ?_)
        refine S.g_yes rfl rfl rfl ((decide_eq_false (by omega))) (S.q (q_move rfl) rfl rfl ?_)
        refine S.g_yes rfl rfl rfl ((decide_eq_false (by omega))) (S.q (q_gt rfl rfl) rfl rfl ?_)
        refine S.g_yes rfl rfl rfl ((decide_eq_false (by omega))) (S.q (q_move rfl) rfl rfl ?_)
        by_cases hg8_14 : 0 < (i : Int)
        · obtain ⟨y, hy⟩ := getE (show i - 1 < l.length by omega)
          have hyd : l.getD (i - 1) 0 = y := by simp [List.getD, hy]
          rw [hyd] at u2
          refine S.g_yes rfl rfl rfl (decide_eq_true hg8_14) (S.q (q_move rfl) rfl rfl ?_)
          refine S.g_yes rfl rfl rfl (decide_eq_true hg8_14) (S.q (q_move rfl) rfl rfl ?_)
          refine S.g_yes rfl rfl rfl (decide_eq_true hg8_14) (S.q (q_move rfl) rfl rfl ?_)
          refine S.g_yes rfl rfl rfl (decide_eq_true hg8_14) (S.q (q_sub rfl rfl (inI64 (by omega) (by omega))) rfl rfl ?_)
          refine S.g_yes rfl rfl rfl (decide_eq_true hg8_14) (S.q (q_indexO (i - 1) Tryd.el52 rfl hsa rfl (by omega) (by omega)) rfl rfl ?_)
          refine S.g_yes rfl rfl rfl (decide_eq_true hg8_14) (S.q (q_loadR hR (i - 1) Tryd.at3 rfl hsa (by omega) (by omega) (ints_get hy)) rfl rfl ?_)
          refine S.g_yes rfl rfl rfl (decide_eq_true hg8_14) (S.q (q_le rfl rfl) rfl rfl ?_)
          refine S.g_yes rfl rfl rfl ((decide_eq_false (by omega))) (S.q (q_pickT rfl (decide_eq_true hg8_14) rfl) rfl rfl ?_)
          refine S.g_op rfl (S.q (q_pickF rfl ((decide_eq_false (by omega))) rfl) rfl rfl ?_)
          first | with_reducible refine S.g_nilK ?_ | refine S.g_nil ?_
          with_reducible repeat (first | refine S.then_n ?_ | refine S.then_x ?_ | refine S.then_r ?_ | refine S.inBlock_n ?_ | refine S.inBlock_r ?_ | refine S.inBlock_x rfl ?_ | refine S.noGoto_r ?_ | refine S.noGoto_n ?_ | refine S.noGoto_x ?_)
          first | (have e : decide (x ≤ y) = false := decide_eq_false (by have := u2 (by omega); omega) ; rw [e] ; exact S.meet ⟨rfl, rfl⟩ ⟨rfl, rfl, rfl, rfl, rfl, rfl, rfl, rfl, trivial⟩ Sub.ent) | exact S.meet ⟨rfl, rfl⟩ ⟨rfl, rfl, rfl, rfl, rfl, rfl, rfl, rfl, trivial⟩ Sub.ent
        · refine S.g_no rfl rfl rfl (decide_eq_false hg8_14) rfl rfl ?_
          refine S.g_no rfl rfl rfl (decide_eq_false hg8_14) rfl rfl ?_
          refine S.g_no rfl rfl rfl (decide_eq_false hg8_14) rfl rfl ?_
          refine S.g_no rfl rfl rfl (decide_eq_false hg8_14) rfl rfl ?_
          refine S.g_no rfl rfl rfl (decide_eq_false hg8_14) rfl rfl ?_
          refine S.g_no rfl rfl rfl (decide_eq_false hg8_14) rfl rfl ?_
          refine S.g_no rfl rfl rfl (decide_eq_false hg8_14) rfl rfl ?_
          refine S.g_yes rfl rfl rfl ((decide_eq_false (by omega))) (S.q (q_pickF rfl (decide_eq_false hg8_14) rfl) rfl rfl ?_)
          refine S.g_op rfl (S.q (q_pickF rfl ((decide_eq_false (by omega))) rfl) rfl rfl ?_)
          first | with_reducible refine S.g_nilK ?_ | refine S.g_nil ?_
          with_reducible repeat (first | refine S.then_n ?_ | refine S.then_x ?_ | refine S.then_r ?_ | refine S.inBlock_n ?_ | refine S.inBlock_r ?_ | refine S.inBlock_x rfl ?_ | refine S.noGoto_r ?_ | refine S.noGoto_n ?_ | refine S.noGoto_x ?_)
          first | (have e : decide (x ≤ y) = false := decide_eq_false (by have := u2 (by omega); omega) ; rw [e] ; exact S.meet ⟨rfl, rfl⟩ ⟨rfl, rfl, rfl, rfl, rfl, rfl, rfl, rfl, trivial⟩ Sub.ent) | exact S.meet ⟨rfl, rfl⟩ ⟨rfl, rfl, rfl, rfl, rfl, rfl, rfl, rfl, trivial⟩ Sub.ent
      · rintro ρ' Γ' ⟨rfl, rfl⟩
        refine hK13 _ _ ?_
        refine S.condF rfl ?_
        refine S.skip ?_
        with_reducible repeat (first | refine S.then_n ?_ | refine S.then_x ?_ | refine S.then_r ?_ | refine S.inBlock_n ?_ | refine S.inBlock_r ?_ | refine S.inBlock_x rfl ?_ | refine S.noGoto_r ?_ | refine S.noGoto_n ?_ | refine S.noGoto_x ?_)
        with_reducible repeat (first | refine S.then_n ?_ | refine S.then_x ?_ | refine S.then_r ?_ | refine S.inBlock_n ?_ | refine S.inBlock_r ?_ | refine S.inBlock_x rfl ?_ | refine S.noGoto_r ?_ | refine S.noGoto_n ?_ | refine S.noGoto_x ?_)
        refine hK11 _ _ ?_
        refine S.region rfl ?_
        refine S.op (S.q (q_add rfl rfl (inI64 (by omega) (by omega))) rfl rfl ?_)
        refine S.op (S.q (q_move rfl) rfl rfl ?_)
        first | with_reducible refine S.nilK ?_ | refine S.nil ?_
        with_reducible repeat (first | refine S.then_n ?_ | refine S.then_x ?_ | refine S.then_r ?_ | refine S.inBlock_n ?_ | refine S.inBlock_r ?_ | refine S.inBlock_x rfl ?_ | refine S.noGoto_r ?_ | refine S.noGoto_n ?_ | refine S.noGoto_x ?_)
        exact S.next (q - 1) (⟨i + 1, by omega, by omega, rfl, rfl⟩) (by omega) (by repeat (first | exact trivial | refine ⟨rfl, ?_⟩)) Sub.ent
    · refine S.exit ?_
      with_reducible repeat (first | refine S.then_n ?_ | refine S.then_x ?_ | refine S.then_r ?_ | refine S.inBlock_n ?_ | refine S.inBlock_r ?_ | refine S.inBlock_x rfl ?_ | refine S.noGoto_r ?_ | refine S.noGoto_n ?_ | refine S.noGoto_x ?_)
      with_reducible refine S.inBlock_s ?_
      with_reducible repeat (first | refine S.then_n ?_ | refine S.then_x ?_ | refine S.then_r ?_ | refine S.inBlock_n ?_ | refine S.inBlock_r ?_ | refine S.inBlock_x rfl ?_ | refine S.noGoto_r ?_ | refine S.noGoto_n ?_ | refine S.noGoto_x ?_)
      refine hK7 _ _ ?_
      refine S.seq fun K14 hK14 => ?_
      refine S.seq fun K15 hK15 => ?_
      refine S.region rfl ?_
      refine S.riClose b m cs us rs hri ?_
      refine S.op (S.q (q_move rfl) rfl rfl ?_)
      refine S.op (S.q (q_move rfl) rfl rfl ?_)
      refine S.op (S.call Tryd.en55 (vs := [_, _]) ⟨rfl, rfl, trivial⟩ (rOf_S b m j) rfl ?_)
      rintro v Θ ⟨s5, rfl, _, rfl⟩
      refine S.op (S.q (q_move rfl) rfl rfl ?_)
      refine S.op (S.q (q_extract rfl rfl) rfl rfl ?_)
      refine S.op (S.q (q_extract rfl rfl) rfl rfl ?_)
      refine S.op (S.q (q_extract rfl rfl) rfl rfl ?_)
      refine S.op (S.q (q_assign rfl) rfl rfl ?_)
      refine S.op (S.q (q_assign rfl) rfl rfl ?_)
      refine S.op (S.q (q_assign rfl) rfl rfl ?_)
      first | with_reducible refine S.nilK ?_ | refine S.nil ?_
      refine hK15 _ _ ?_
      refine S.seq fun K16 hK16 => ?_
      refine S.region rfl ?_
      refine S.op (S.q (q_move rfl) rfl rfl ?_)
      first | with_reducible refine S.nilK ?_ | refine S.nil ?_
      refine hK16 _ _ ?_
      refine S.cond rfl (fun h5 => ?_) (fun h5 => ?_)
      · have hls : (look m.js j).isSome = true := by
          cases h : look m.js j with
          | none => rw [ofR_none h] at h5; cases h5
          | some x => rfl
        rw [if_pos hls] at hpn
        refine S.seq fun K17 hK17 => ?_
        refine S.region rfl ?_
        refine S.op (S.q (q_assign rfl) rfl rfl ?_)
        first | with_reducible refine S.nilK ?_ | refine S.nil ?_
        refine hK17 _ _ ?_
        refine S.ret ?_
        with_reducible repeat (first | refine S.then_n ?_ | refine S.then_x ?_ | refine S.then_r ?_ | refine S.inBlock_n ?_ | refine S.inBlock_r ?_ | refine S.inBlock_x rfl ?_ | refine S.noGoto_r ?_ | refine S.noGoto_n ?_ | refine S.noGoto_x ?_)
        exact S.fin (rs := [_]) (vs := [_]) Tryd.results40 (⟨rfl, trivial⟩)  (⟨by rw [hpn]; rfl, by rw [hpn]⟩) Sub.ent
      · have hlk : look m.js j = none := by
          cases h : look m.js j with
          | none => rfl
          | some x => rw [ofR_some h] at h5; cases h5
        rw [hlk, if_neg (by decide)] at hpn
        clear hri
        refine S.riOpen b m fun cs us rs hri => ?_
        have hcn := hri.cn
        have hun := hri.un
        have hrl := hri.rlen
        refine S.ownSome cs (by omega) fun cb co hca _ _ _ => ?_
        obtain ⟨p, hp, hpd, hpl⟩ := hri.at_ hr
        have hRp : RdS (alls rs rrB) p.1 p.1.n 1 (idsV p.2) := RdS.alls hp RdS.own
        have hN1 := hok.N1
        refine S.rSome hRp (by omega) fun pb po hpa => ?_
        refine S.skip ?_
        with_reducible repeat (first | refine S.then_n ?_ | refine S.then_x ?_ | refine S.then_r ?_ | refine S.inBlock_n ?_ | refine S.inBlock_r ?_ | refine S.inBlock_x rfl ?_ | refine S.noGoto_r ?_ | refine S.noGoto_n ?_ | refine S.noGoto_x ?_)
        refine hK14 _ _ ?_
        refine S.seq fun K18 hK18 => ?_
        refine S.seq fun K19 hK19 => ?_
        refine S.region rfl ?_
        refine S.op (S.q (q_move rfl) rfl rfl ?_)
        refine S.op (S.q (q_len Tryd.underlying52 rfl) rfl rfl ?_)
        refine S.op (S.q (q_move rfl) rfl rfl ?_)
        first | with_reducible refine S.nilK ?_ | refine S.nil ?_
        refine hK19 _ _ ?_
        refine S.block ?_
        refine S.loop (fun q ρ' Γ' => ∃ i : Nat, q = l.length - i ∧ i ≤ l.length ∧ (∀ k, k ∈ nats (l.take i) → (tk m.js r).getLsbD k = false) ∧ ρ' = [(0, .pointer (some ⟨b, 0, none⟩)), (1, .int .u32 (j : Int)), (2, .int .i64 (r : Int)), (3, s.v), (80, s.v), (81, .int .i64 s.n), (82, .int .i64 (i : Int))] ∧   Γ' = blk b 45 #[cs.v, us.v] :: own cs 34 1 (rs.map rrV) :: own us 4 1 (upC m) :: alls rs rrB :: R :: Γ) (m := _) (ρ0 := _) (Γ0 := _) (⟨0, rfl, by omega, fun _ h => (by cases h), rfl, rfl⟩) (by repeat (first | exact trivial | refine ⟨rfl, ?_⟩)) Sub.ent ?_
        rintro q ρ' Γ' ⟨i, hq, hi, hfree, rfl, rfl⟩
        refine S.seq fun K20 hK20 => ?_
        refine S.region rfl ?_
        refine S.op (S.q (q_lt rfl rfl) rfl rfl ?_)
        first | with_reducible refine S.nilK ?_ | refine S.nil ?_
        refine hK20 _ _ ?_
        refine S.seq fun K21 hK21 => ?_
        refine S.condD rfl (fun h6 => ?_) (fun h6 => ?_)
        · refine S.rSome hR (by omega) fun sb so hsa => ?_
          obtain ⟨x, hx⟩ := getE (show i < l.length by omega)
          have hxd : l.getD i 0 = x := by simp [List.getD, hx]
          have u1 := (okUp_at hup (show i < l.length by omega)).1
          rw [hxd] at u1
          have u3 := nodeB_iff.1 u1
          obtain ⟨xn, rfl⟩ : ∃ xn : Nat, x = xn := ⟨x.toNat, by omega⟩
          have hxa := rowN_get (m := m) (i := xn) (by omega) r
          rw [← hpd] at hxa
          have htn : nats (l.take (i + 1)) = nats (l.take i) ++ [xn] := by rw [List.take_add_one, hx]; simp
          refine S.skip ?_
          with_reducible repeat (first | refine S.then_n ?_ | refine S.then_x ?_ | refine S.then_r ?_ | refine S.inBlock_n ?_ | refine S.inBlock_r ?_ | refine S.inBlock_x rfl ?_ | refine S.noGoto_r ?_ | refine S.noGoto_n ?_ | refine S.noGoto_x ?_)
          refine hK21 _ _ ?_
          refine S.seq fun K22 hK22 => ?_
          refine S.block ?_
          refine S.seq fun K23 hK23 => ?_
          refine S.region rfl ?_
          refine S.op (S.q (q_indexO (i) Tryd.el52 rfl hsa rfl rfl (by omega)) rfl rfl ?_)
          refine S.op (S.q (q_loadR hR i Tryd.at3 rfl hsa (by omega) (by omega) (ints_get hx)) rfl rfl ?_)
          refine S.op (S.q (q_assign rfl) rfl rfl ?_)
          first | with_reducible refine S.nilK ?_ | refine S.nil ?_
          refine hK23 _ _ ?_
          refine S.seq fun K24 hK24 => ?_
          refine S.region rfl ?_
          refine S.op (S.q (q_move rfl) rfl rfl ?_)
          refine S.op (S.q (q_nilCheck rfl) rfl rfl ?_)
          refine S.op (S.q (q_field Tryd.fo45_0 rfl) rfl rfl ?_)
          refine S.op (S.q (q_load Tryd.at42 rfl rfl) rfl rfl ?_)
          refine S.op (S.q (q_move rfl) rfl rfl ?_)
          refine S.op (S.q (q_indexO (r) Tryd.el42 rfl hca rfl rfl (by omega)) rfl rfl ?_)
          refine S.op (S.q (q_loadOw (cs) (r) Tryd.at34 rfl hca (by first | rfl | exact Nat.add_assoc _ _ _ | omega) (by rw [List.getElem?_map, hp]; rfl)) rfl rfl ?_)
          refine S.op (S.q (q_move rfl) rfl rfl ?_)
          refine S.op (S.q (q_indexO (xn) Tryd.el34 rfl hpa rfl rfl (by omega)) rfl rfl ?_)
          refine S.op (S.q (q_loadR hRp xn Tryd.at36 rfl hpa (by omega) (by omega) (idsV_get hxa)) rfl rfl ?_)
          refine S.op (S.q (q_ne rfl rfl) rfl rfl ?_)
          first | with_reducible refine S.nilK ?_ | refine S.nil ?_
          refine hK24 _ _ ?_
          refine S.condD rfl (fun h7 => ?_) (fun h7 => ?_)
          · have hbz : tk m.js r &&& ofL (nats l) ≠ 0#16 := fun e => by
              have h8 : (tk m.js r).getLsbD xn = true := by
                cases hb : (tk m.js r).getLsbD xn with
                | true => rfl
                | false => exact absurd (by rw [(busy_iff hok).2 hb]; rfl) h7
              have h9 := congrArg (fun s => s.getLsbD xn) e
              have h10 : (ofL (nats l)).getLsbD xn = true := (ofL_bit _ _).2 ⟨by omega, List.mem_map.2 ⟨(xn : Int), List.mem_of_getElem? hx, by simp⟩⟩
              simp only [BitVec.getLsbD_and, h8, h10] at h9
              simp at h9
            rw [if_pos hbz] at hpn
            refine S.riClose b m cs us rs hri ?_
            refine S.seq fun K25 hK25 => ?_
            refine S.region rfl ?_
            refine S.op (S.q (q_assign rfl) rfl rfl ?_)
            first | with_reducible refine S.nilK ?_ | refine S.nil ?_
            refine hK25 _ _ ?_
            refine S.ret ?_
            with_reducible repeat (first | refine S.then_n ?_ | refine S.then_x ?_ | refine S.then_r ?_ | refine S.inBlock_n ?_ | refine S.inBlock_r ?_ | refine S.inBlock_x rfl ?_ | refine S.noGoto_r ?_ | refine S.noGoto_n ?_ | refine S.noGoto_x ?_)
            exact S.fin (rs := [_]) (vs := [_]) Tryd.results40 (⟨rfl, trivial⟩)  (⟨by rw [hpn]; rfl, by rw [hpn]⟩) Sub.ent
          · have hfree2 : ∀ k, k ∈ nats (l.take (i + 1)) → (tk m.js r).getLsbD k = false := fun k hk => by
              rw [htn, List.mem_append, List.mem_singleton] at hk
              rcases hk with hk | rfl
              · exact hfree k hk
              · exact (busy_iff hok).1 (by omega)
            refine S.skip ?_
            with_reducible repeat (first | refine S.then_n ?_ | refine S.then_x ?_ | refine S.then_r ?_ | refine S.inBlock_n ?_ | refine S.inBlock_r ?_ | refine S.inBlock_x rfl ?_ | refine S.noGoto_r ?_ | refine S.noGoto_n ?_ | refine S.noGoto_x ?_)
            with_reducible repeat (first | refine S.then_n ?_ | refine S.then_x ?_ | refine S.then_r ?_ | refine S.inBlock_n ?_ | refine S.inBlock_r ?_ | refine S.inBlock_x rfl ?_ | refine S.noGoto_r ?_ | refine S.noGoto_n ?_ | refine S.noGoto_x ?_)
            refine hK22 _ _ ?_
            refine S.region rfl ?_
            refine S.op (S.q (q_add rfl rfl (inI64 (by omega) (by omega))) rfl rfl ?_)
            refine S.op (S.q (q_move rfl) rfl rfl ?_)
            first | with_reducible refine S.nilK ?_ | refine S.nil ?_
            with_reducible repeat (first | refine S.then_n ?_ | refine S.then_x ?_ | refine S.then_r ?_ | refine S.inBlock_n ?_ | refine S.inBlock_r ?_ | refine S.inBlock_x rfl ?_ | refine S.noGoto_r ?_ | refine S.noGoto_n ?_ | refine S.noGoto_x ?_)
            exact S.next (q - 1) (⟨i + 1, by omega, by omega, hfree2, rfl, rfl⟩) (by omega) (by repeat (first | exact trivial | refine ⟨rfl, ?_⟩)) Sub.ent
        · have hie : i = l.length := by omega
          rw [hie, List.take_length] at hfree
          have hbz : tk m.js r &&& ofL (nats l) = 0#16 := by
            refine BitVec.eq_of_getLsbD_eq fun k _ => ?_
            rw [BitVec.getLsbD_and]
            cases hb : (ofL (nats l)).getLsbD k with
            | false => simp
            | true => rw [hfree k ((ofL_bit _ _).1 hb).2]; simp
          rw [if_neg (fun e => e hbz)] at hpn
          have hok' : MxOk (m.add ⟨j, r, ofL (nats l)⟩) := hok.add (look_none hlk) (by show 1 ≤ j; omega) hj hr p2 p3 hbz
          refine S.conv (alls rs rrB) (Ent.allsAt rrB hp _) ?_
          show S _ w0 _ (own p.1 36 1 (idsV p.2) :: alls (rs.take r) rrB :: alls (rs.drop (r + 1)) rrB :: _) _
          refine S.exit ?_
          with_reducible repeat (first | refine S.then_n ?_ | refine S.then_x ?_ | refine S.then_r ?_ | refine S.inBlock_n ?_ | refine S.inBlock_r ?_ | refine S.inBlock_x rfl ?_ | refine S.noGoto_r ?_ | refine S.noGoto_n ?_ | refine S.noGoto_x ?_)
          with_reducible refine S.inBlock_s ?_
          with_reducible repeat (first | refine S.then_n ?_ | refine S.then_x ?_ | refine S.then_r ?_ | refine S.inBlock_n ?_ | refine S.inBlock_r ?_ | refine S.inBlock_x rfl ?_ | refine S.noGoto_r ?_ | refine S.noGoto_n ?_ | refine S.noGoto_x ?_)
          refine hK18 _ _ ?_
          refine S.seq fun K26 hK26 => ?_
          refine S.seq fun K27 hK27 => ?_
          refine S.region rfl ?_
          refine S.op (S.q (q_move rfl) rfl rfl ?_)
          refine S.op (S.q (q_len Tryd.underlying52 rfl) rfl rfl ?_)
          refine S.op (S.q (q_move rfl) rfl rfl ?_)
          first | with_reducible refine S.nilK ?_ | refine S.nil ?_
          refine hK27 _ _ ?_
          refine S.block ?_
          refine S.loop (fun q ρ' Γ' => ∃ (i : Nat) (d : List Nat), q = l.length - i ∧ i ≤ l.length ∧ d = setAll p.2 (nats (l.take i)) j ∧ ρ' = [(0, .pointer (some ⟨b, 0, none⟩)), (1, .int .u32 (j : Int)), (2, .int .i64 (r : Int)), (98, s.v), (99, .int .i64 s.n), (100, .int .i64 (i : Int))] ∧   Γ' = own p.1 36 1 (idsV d) :: alls (rs.take r) rrB :: alls (rs.drop (r + 1)) rrB :: blk b 45 #[cs.v, us.v] :: own cs 34 1 (rs.map rrV) :: own us 4 1 (upC m) :: R :: Γ) (m := _) (ρ0 := _) (Γ0 := _) (⟨0, p.2, rfl, by omega, rfl, rfl, rfl⟩) (by repeat (first | exact trivial | refine ⟨rfl, ?_⟩)) Sub.ent ?_
          rintro q ρ' Γ' ⟨i, d, hq, hi, hd, rfl, rfl⟩
          have hdl : d.length = m.N := by rw [hd, setAll_len, hpd, rowN_len]
          refine S.seq fun K28 hK28 => ?_
          refine S.region rfl ?_
          refine S.op (S.q (q_lt rfl rfl) rfl rfl ?_)
          first | with_reducible refine S.nilK ?_ | refine S.nil ?_
          refine hK28 _ _ ?_
          refine S.seq fun K29 hK29 => ?_
          refine S.condD rfl (fun h8 => ?_) (fun h8 => ?_)
          · refine S.rSome hR (by omega) fun sb so hsa => ?_
            obtain ⟨x, hx⟩ := getE (show i < l.length by omega)
            have hxd : l.getD i 0 = x := by simp [List.getD, hx]
            have u1 := (okUp_at hup (show i < l.length by omega)).1
            rw [hxd] at u1
            have u3 := nodeB_iff.1 u1
            obtain ⟨xn, rfl⟩ : ∃ xn : Nat, x = xn := ⟨x.toNat, by omega⟩
            have hd2 : d.set xn j = setAll p.2 (nats (l.take (i + 1))) j := by
              rw [hd, ← setAll_snoc, List.take_add_one, hx]
              simp
            have hset : (idsV d).set xn (.int .u32 (j : Int)) = idsV (d.set xn j) := by
              show (d.map _).set _ _ = (d.set xn j).map _
              rw [List.map_set]
            refine S.skip ?_
            with_reducible repeat (first | refine S.then_n ?_ | refine S.then_x ?_ | refine S.then_r ?_ | refine S.inBlock_n ?_ | refine S.inBlock_r ?_ | refine S.inBlock_x rfl ?_ | refine S.noGoto_r ?_ | refine S.noGoto_n ?_ | refine S.noGoto_x ?_)
            refine hK29 _ _ ?_
            refine S.seq fun K30 hK30 => ?_
            refine S.block ?_
            refine S.seq fun K31 hK31 => ?_
            refine S.region rfl ?_
            refine S.op (S.q (q_indexO (i) Tryd.el52 rfl hsa rfl rfl (by omega)) rfl rfl ?_)
            refine S.op (S.q (q_loadR hR i Tryd.at3 rfl hsa (by omega) (by omega) (ints_get hx)) rfl rfl ?_)
            refine S.op (S.q (q_assign rfl) rfl rfl ?_)
            first | with_reducible refine S.nilK ?_ | refine S.nil ?_
            refine hK31 _ _ ?_
            refine S.region rfl ?_
            refine S.op (S.q (q_move rfl) rfl rfl ?_)
            refine S.op (S.q (q_nilCheck rfl) rfl rfl ?_)
            refine S.op (S.q (q_field Tryd.fo45_0 rfl) rfl rfl ?_)
            refine S.op (S.q (q_load Tryd.at42 rfl rfl) rfl rfl ?_)
            refine S.op (S.q (q_move rfl) rfl rfl ?_)
            refine S.op (S.q (q_indexO (r) Tryd.el42 rfl hca rfl rfl (by omega)) rfl rfl ?_)
            refine S.op (S.q (q_loadOw (cs) (r) Tryd.at34 rfl hca (by first | rfl | exact Nat.add_assoc _ _ _ | omega) (by rw [List.getElem?_map, hp]; rfl)) rfl rfl ?_)
            refine S.op (S.q (q_move rfl) rfl rfl ?_)
            refine S.op (S.q (q_move rfl) rfl rfl ?_)
            refine S.op (S.q (q_indexO (xn) Tryd.el34 rfl hpa rfl rfl (by omega)) rfl rfl ?_)
            refine S.op (S.storeOw (p.1) (xn) Tryd.at36 rfl rfl rfl hpa (by first | rfl | exact Nat.add_assoc _ _ _ | omega) (by rw [List.length_map]; omega) (hset) ?_)
            first | with_reducible refine S.nilK ?_ | refine S.nil ?_
            with_reducible repeat (first | refine S.then_n ?_ | refine S.then_x ?_ | refine S.then_r ?_ | refine S.inBlock_n ?_ | refine S.inBlock_r ?_ | refine S.inBlock_x rfl ?_ | refine S.noGoto_r ?_ | refine S.noGoto_n ?_ | refine S.noGoto_x ?_)
            refine hK30 _ _ ?_
            refine S.region rfl ?_
            refine S.op (S.q (q_add rfl rfl (inI64 (by omega) (by omega))) rfl rfl ?_)
            refine S.op (S.q (q_move rfl) rfl rfl ?_)
            first | with_reducible refine S.nilK ?_ | refine S.nil ?_
            with_reducible repeat (first | refine S.then_n ?_ | refine S.then_x ?_ | refine S.then_r ?_ | refine S.inBlock_n ?_ | refine S.inBlock_r ?_ | refine S.inBlock_x rfl ?_ | refine S.noGoto_r ?_ | refine S.noGoto_n ?_ | refine S.noGoto_x ?_)
            exact S.next (q - 1) (⟨i + 1, d.set xn j, by omega, by omega, hd2, rfl, rfl⟩) (by omega) (by repeat (first | exact trivial | refine ⟨rfl, ?_⟩)) Sub.ent
          · have hie2 : i = l.length := by omega
            rw [hie2, List.take_length] at hd
            refine S.conv3 (own p.1 36 1 (idsV d)) (alls (rs.take r) rrB) (alls (rs.drop (r + 1)) rrB) (Ent.allsBack rrB (x' := (p.1, d)) hp _) ?_
            have hrow := rowN_add hok hok'
            have hrv : (rs.set r (p.1, d)).map rrV = rs.map rrV := by
              rw [List.map_set]
              refine List.ext_getElem? fun k => ?_
              by_cases e : r = k
              · subst e; rw [List.getElem?_set_self (by rw [List.length_map]; omega), List.getElem?_map, hp]; rfl
              · rw [List.getElem?_set_ne e]
            have hri2 : RiOk (m.add ⟨j, r, ofL (nats l)⟩) cs us (rs.set r (p.1, d)) := ⟨hok', hcn, hun, by
              refine List.ext_getElem? fun k => ?_
              by_cases hk : k < m.R
              · rw [List.getElem?_map, List.getElem?_map, List.getElem?_range (show k < (m.add ⟨j, r, ofL (nats l)⟩).R from hk), Option.map_some, hrow]
                by_cases e : r = k
                · subst e
                  rw [List.getElem?_set_self (by omega), Option.map_some, if_pos rfl, hd, hpd]
                  simp only [p1]
                · rw [List.getElem?_set_ne e, if_neg (fun h => e h.symm)]
                  obtain ⟨p', hp', hpd', _⟩ := hri.at_ hk
                  rw [hp', Option.map_some, hpd']
              · rw [List.getElem?_eq_none (by rw [List.length_map, List.length_set]; omega), List.getElem?_eq_none (by rw [List.length_map, List.length_range]; show m.R ≤ k; omega)], fun p' hp' => by
              rcases List.mem_or_eq_of_mem_set hp' with h9 | h9
              · exact hri.len p' h9
              · rw [h9]; exact hpl⟩
            rw [← hrv, show upC m = upC (m.add ⟨j, r, ofL (nats l)⟩) from rfl]
            refine S.exit ?_
            with_reducible repeat (first | refine S.then_n ?_ | refine S.then_x ?_ | refine S.then_r ?_ | refine S.inBlock_n ?_ | refine S.inBlock_r ?_ | refine S.inBlock_x rfl ?_ | refine S.noGoto_r ?_ | refine S.noGoto_n ?_ | refine S.noGoto_x ?_)
            with_reducible refine S.inBlock_s ?_
            with_reducible repeat (first | refine S.then_n ?_ | refine S.then_x ?_ | refine S.then_r ?_ | refine S.inBlock_n ?_ | refine S.inBlock_r ?_ | refine S.inBlock_x rfl ?_ | refine S.noGoto_r ?_ | refine S.noGoto_n ?_ | refine S.noGoto_x ?_)
            refine hK26 _ _ ?_
            refine S.seq fun K32 hK32 => ?_
            refine S.region rfl ?_
            refine S.op (S.q (q_assign rfl) rfl rfl ?_)
            first | with_reducible refine S.nilK ?_ | refine S.nil ?_
            refine hK32 _ _ ?_
            refine S.ret ?_
            with_reducible repeat (first | refine S.then_n ?_ | refine S.then_x ?_ | refine S.then_r ?_ | refine S.inBlock_n ?_ | refine S.inBlock_r ?_ | refine S.inBlock_x rfl ?_ | refine S.noGoto_r ?_ | refine S.noGoto_n ?_ | refine S.noGoto_x ?_)
            refine S.riClose b (m.add ⟨j, r, ofL (nats l)⟩) cs us (rs.set r (p.1, d)) hri2 ?_
            exact S.fin (rs := [_]) (vs := [_]) Tryd.results40 (⟨rfl, trivial⟩)  (⟨by rw [hpn]; rfl, by rw [hpn]⟩) Sub.ent
end Go.Proofs.YtbhnbnecaejjiaaDoor
