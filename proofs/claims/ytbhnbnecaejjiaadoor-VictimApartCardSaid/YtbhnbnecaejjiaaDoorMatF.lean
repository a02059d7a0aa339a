/- The matrix: At, Copy. -/
import Derived.Test.YtbhnbnecaejjiaaDoorMatE
namespace Go.Proofs.YtbhnbnecaejjiaaDoor
open Go.RowKit
set_option maxRecDepth 20000
/-- Who stands there; 0: nobody. -/
def atJ (js : List Jb) (r i : Nat) : Nat := ((js.find? fun x => decide (x.row = r) && x.ns.getLsbD i).map (·.id)).getD 0
def atR (m : Mx) (z y : Int) : Nat := if rowB m z && nodeB m y then atJ m.js z.toNat y.toNat else 0
theorem atJ_some {m : Mx} (hm : MxOk m) {r i : Nat} {x : Jb} (hx : x ∈ m.js) (h1 : x.row = r) (h2 : x.ns.getLsbD i = true) : atJ m.js r i = x.id := by
  unfold atJ
  cases hf : m.js.find? fun x => decide (x.row = r) && x.ns.getLsbD i with
  | none =>
    have := List.find?_eq_none.1 hf x hx
    simp [h1, h2] at this
  | some y =>
    have h3 := List.mem_of_find?_eq_some hf
    have h4 := List.find?_some hf
    rw [Bool.and_eq_true, decide_eq_true_eq] at h4
    refine Classical.byContradiction fun hne => ?_
    exact hm.dis y h3 x hx hne (h4.1.trans h1.symm) i h4.2 h2
theorem atJ_none {js : List Jb} {r i : Nat} (h : ∀ x ∈ js, x.row = r → x.ns.getLsbD i = false) : atJ js r i = 0 := by
  unfold atJ
  rw [List.find?_eq_none.2 fun x hx => ?_]
  · rfl
  · by_cases e : x.row = r
    · simp [h x hx e]
    · simp [e]
theorem At_S (b : Nat) (m : Mx) (z y : Int) : Spec Tryd.prog 18 [.pointer (some ⟨b, 0, none⟩), .int .i64 z, .int .i64 y] [MI b m] fun Γ v Θ => v = .int .u32 (atR m z y : Nat) ∧ Θ = MI b m :: Γ := by
  refine Spec.of_body Tryd.func18 rfl Tryd.ntmps18 rfl ?_
  intro w0 Γ
  show S _ w0 [(0, .pointer (some ⟨b, 0, none⟩)), (1, .int .i64 z), (2, .int .i64 y)] (MI b m :: Γ) _
  refine S.seq fun K1 hK1 => ?_
  refine S.region rfl ?_
  refine S.op (S.q (q_assign rfl) rfl rfl ?_)
  first | with_reducible refine S.nilK ?_ | refine S.nil ?_
  refine hK1 _ _ ?_
  refine S.seq fun K2 hK2 => ?_
  refine S.seq fun K3 hK3 => ?_
  refine S.regionG ?_
  refine S.g_op rfl (S.q (q_move rfl) rfl rfl ?_)
  refine S.g_op rfl (S.q (q_move rfl) rfl rfl ?_)
  refine S.g_op rfl (S.call Tryd.en45 (vs := [_, _]) ⟨rfl, rfl, trivial⟩ (row_S b m z) rfl ?_)
  rintro v Θ ⟨rfl, rfl⟩
  refine S.g_op rfl (S.q (q_move rfl) rfl rfl ?_)
  rcases Bool.eq_false_or_eq_true (rowB m z) with hg1_3 | hg1_3
  · refine S.g_yes rfl rfl rfl (hg1_3) (S.q (q_move rfl) rfl rfl ?_)
    refine S.g_yes rfl rfl rfl (hg1_3) (S.q (q_move rfl) rfl rfl ?_)
    refine S.g_yes rfl rfl rfl (hg1_3) (S.call Tryd.en49 (vs := [_, _]) ⟨rfl, rfl, trivial⟩ (node_S b m y) rfl ?_)
    rintro v Θ ⟨rfl, rfl⟩
    refine S.g_op rfl (S.q (q_pickT rfl (hg1_3) rfl) rfl rfl ?_)
    first | with_reducible refine S.g_nilK ?_ | refine S.g_nil ?_
    refine hK3 _ _ ?_
    refine S.cond rfl (fun h1 => ?_) (fun h1 => ?_)
    · have hrr := rowB_iff.1 hg1_3
      have hnn := nodeB_iff.1 h1
      obtain ⟨r, rfl⟩ : ∃ r : Nat, z = r := ⟨z.toNat, by omega⟩
      obtain ⟨i, rfl⟩ : ∃ i : Nat, y = i := ⟨y.toNat, by omega⟩
      have hat : atR m r i = atJ m.js r i := by rw [atR, hg1_3, h1]; rfl
      refine S.miOpen b m fun mb tv l hok hp htn => ?_
      have hN16 := hok.N16
      obtain ⟨jl0, hj0, hl0⟩ := perm_unmap hp rfl
      refine S.seq fun K4 hK4 => ?_
      refine S.region rfl ?_
      refine S.op (S.q (q_move rfl) rfl rfl ?_)
      refine S.op (S.q (q_nilCheck rfl) rfl rfl ?_)
      refine S.op (S.q (q_field Tryd.fo99_3 rfl) rfl rfl ?_)
      refine S.op (S.q (q_load Tryd.at96 rfl rfl) rfl rfl ?_)
      refine S.op (S.range Tryd.underlying96 rfl rfl ?_)
      intro r21
      first | with_reducible refine S.nilK ?_ | refine S.nil ?_
      refine hK4 _ _ ?_
      refine S.block ?_
      refine S.loop (fun k ρ' Γ' => ∃ (left : List (Int × Value)) (cur : Option (Int × Value)) (jl : List Jb), k = left.length ∧ left = jl.map jbE ∧ (∀ x ∈ jl, x ∈ m.js) ∧ (∀ x ∈ m.js, x ∈ jl ∨ (x.row = r → x.ns.getLsbD i = false)) ∧   ρ' = [(1, .int .i64 (r : Int)), (2, .int .i64 (i : Int)), (21, .pointer (some ⟨r21, 0, none⟩))] ∧ Γ' = rngM r21 mb .u32 l left cur :: blk b 99 (mxC m mb tv).toArray :: own tv 95 1 (tks m) :: Γ) (m := _) (ρ0 := _) (Γ0 := _) (⟨l, none, jl0, rfl, hl0, fun x hx => hj0.mem_iff.1 hx, fun x hx => .inl (hj0.mem_iff.2 hx), rfl, rfl⟩) (by repeat (first | exact trivial | refine ⟨rfl, ?_⟩)) Sub.ent ?_
      rintro k ρ' Γ' ⟨left, cur, jl, hk, hleft, hsub, hall, rfl, rfl⟩
      refine S.seq fun K5 hK5 => ?_
      refine S.region rfl ?_
      refine S.op (S.nextR rfl rfl (fun hl22 => ?_) (fun i22 z22 v22 hi22 => ?_))
      · have hj : jl = [] := List.map_eq_nil_iff.1 (hleft.symm.trans hl22)
        subst hj
        have hfin : atR m r i = 0 := by rw [hat]; exact atJ_none fun x hx => (hall x hx).resolve_left (by simp)
        refine S.conv (rngM r21 mb .u32 l left cur) (Ent.rngM _) ?_
        refine S.miClose (b := b) (m := m) (mb := mb) (tv := tv) rfl rfl rfl hok hp htn ?_
        refine S.op (S.q (q_extract rfl rfl) rfl rfl ?_)
        first | with_reducible refine S.nilK ?_ | refine S.nil ?_
        refine hK5 _ _ ?_
        refine S.seq fun K6 hK6 => ?_
        refine S.condF rfl ?_
        refine S.exit ?_
        with_reducible repeat (first | refine S.then_n ?_ | refine S.then_x ?_ | refine S.then_r ?_ | refine S.inBlock_n ?_ | refine S.inBlock_r ?_ | refine S.inBlock_x rfl ?_ | refine S.noGoto_r ?_ | refine S.noGoto_n ?_ | refine S.noGoto_x ?_)
        with_reducible refine S.inBlock_s ?_
        with_reducible repeat (first | refine S.then_n ?_ | refine S.then_x ?_ | refine S.then_r ?_ | refine S.inBlock_n ?_ | refine S.inBlock_r ?_ | refine S.inBlock_x rfl ?_ | refine S.noGoto_r ?_ | refine S.noGoto_n ?_ | refine S.noGoto_x ?_)
        refine hK2 _ _ ?_
        refine S.seq fun K7 hK7 => ?_
        refine S.region rfl ?_
        refine S.op (S.q (q_assign rfl) rfl rfl ?_)
        first | with_reducible refine S.nilK ?_ | refine S.nil ?_
        refine hK7 _ _ ?_
        refine S.ret ?_
        with_reducible repeat (first | refine S.then_n ?_ | refine S.then_x ?_ | refine S.then_r ?_ | refine S.inBlock_n ?_ | refine S.inBlock_r ?_ | refine S.inBlock_x rfl ?_ | refine S.noGoto_r ?_ | refine S.noGoto_n ?_ | refine S.noGoto_x ?_)
        exact S.fin (rs := [_]) (vs := [_]) Tryd.results18 (⟨rfl, trivial⟩)  (⟨by rw [hfin]; rfl, rfl⟩) Sub.ent
      · obtain ⟨x, hx, hxe⟩ : ∃ x, jl[i22]? = some x ∧ jbE x = (z22, v22) := by
          rw [hleft, List.getElem?_map] at hi22
          exact Option.map_eq_some_iff.1 hi22
        simp only [jbE, Prod.mk.injEq] at hxe
        obtain ⟨rfl, rfl⟩ := hxe
        have hpe := erase_perm hx
        have hel := hpe.length_eq
        rw [List.length_cons] at hel
        have hle : (left.eraseIdx i22) = (jl.eraseIdx i22).map jbE := by rw [hleft, map_eraseIdx']
        have hlt : (left.eraseIdx i22).length < k := by rw [hle, hk, hleft, List.length_map, List.length_map]; omega
        have hxm := hsub x (List.mem_of_getElem? hx)
        refine S.op (S.q (q_extract rfl rfl) rfl rfl ?_)
        first | with_reducible refine S.nilK ?_ | refine S.nil ?_
        refine hK5 _ _ ?_
        refine S.seq fun K8 hK8 => ?_
        refine S.condT rfl ?_
        refine S.skip ?_
        with_reducible repeat (first | refine S.then_n ?_ | refine S.then_x ?_ | refine S.then_r ?_ | refine S.inBlock_n ?_ | refine S.inBlock_r ?_ | refine S.inBlock_x rfl ?_ | refine S.noGoto_r ?_ | refine S.noGoto_n ?_ | refine S.noGoto_x ?_)
        refine hK8 _ _ ?_
        refine S.block ?_
        refine S.seq fun K9 hK9 => ?_
        refine S.region rfl ?_
        refine S.op (S.q (q_entryR rfl) rfl rfl ?_)
        refine S.op (S.q (q_extract rfl rfl) rfl rfl ?_)
        refine S.op (S.q (q_extract rfl rfl) rfl rfl ?_)
        refine S.op (S.alloc Tryd.z102 rfl ?_)
        intro b8
        refine S.op (S.q (q_assign rfl) rfl rfl ?_)
        refine S.op (S.storeS (cs' := [_, _]) Tryd.ag102 rfl rfl rfl rfl rfl rfl ?_)
        first | with_reducible refine S.nilK ?_ | refine S.nil ?_
        refine hK9 _ _ ?_
        refine S.seq fun K10 hK10 => ?_
        refine S.regionG ?_
        refine S.g_op rfl (S.q (q_field Tryd.fo102_0 rfl) rfl rfl ?_)
        refine S.g_op rfl (S.q (q_load Tryd.at3 rfl rfl) rfl rfl ?_)
        refine S.g_op rfl (S.q (q_move rfl) rfl rfl ?_)
        refine S.g_op rfl (S.q (q_eq rfl rfl) rfl rfl ?_)
        refine S.g_op rfl (S.q (q_move rfl) rfl rfl ?_)
        by_cases hg5_4 : (x.row : Int) = r
        · refine S.g_yes rfl rfl rfl (decide_eq_true hg5_4) (S.q (q_field Tryd.fo102_1 rfl) rfl rfl ?_)
          refine S.g_yes rfl rfl rfl (decide_eq_true hg5_4) (S.q (q_load Tryd.at95 rfl rfl) rfl rfl ?_)
          refine S.g_yes rfl rfl rfl (decide_eq_true hg5_4) (S.q (q_move rfl) rfl rfl ?_)
          refine S.g_yes rfl rfl rfl (decide_eq_true hg5_4) (S.call Tryd.en50 (vs := [_, _]) ⟨rfl, rfl, trivial⟩ (has_S x.ns i i rfl (by omega)) rfl ?_)
          rintro v Θ ⟨rfl, rfl⟩
          refine S.g_op rfl (S.q (q_pickT rfl (decide_eq_true hg5_4) rfl) rfl rfl ?_)
          first | with_reducible refine S.g_nilK ?_ | refine S.g_nil ?_
          refine hK10 _ _ ?_
          refine S.cond rfl (fun h3 => ?_) (fun h3 => ?_)
          · have hfin : atR m r i = x.id := by rw [hat]; exact atJ_some hok hxm (by omega) h3
            refine S.conv (rngM r21 mb .u32 l (left.eraseIdx i22) (some ((x.id : Int), jbV x))) (Ent.rngM _) ?_
            refine S.miClose (b := b) (m := m) (mb := mb) (tv := tv) rfl rfl rfl hok hp htn ?_
            refine S.seq fun K11 hK11 => ?_
            refine S.region rfl ?_
            refine S.op (S.q (q_move rfl) rfl rfl ?_)
            refine S.op (S.q (q_assign rfl) rfl rfl ?_)
            first | with_reducible refine S.nilK ?_ | refine S.nil ?_
            refine hK11 _ _ ?_
            refine S.ret ?_
            with_reducible repeat (first | refine S.then_n ?_ | refine S.then_x ?_ | refine S.then_r ?_ | refine S.inBlock_n ?_ | refine S.inBlock_r ?_ | refine S.inBlock_x rfl ?_ | refine S.noGoto_r ?_ | refine S.noGoto_n ?_ | refine S.noGoto_x ?_)
            exact S.fin (rs := [_]) (vs := [_]) Tryd.results18 (⟨rfl, trivial⟩)  (⟨by rw [hfin]; rfl, rfl⟩) Sub.ent
          · refine S.skip ?_
            with_reducible repeat (first | refine S.then_n ?_ | refine S.then_x ?_ | refine S.then_r ?_ | refine S.inBlock_n ?_ | refine S.inBlock_r ?_ | refine S.inBlock_x rfl ?_ | refine S.noGoto_r ?_ | refine S.noGoto_n ?_ | refine S.noGoto_x ?_)
            with_reducible repeat (first | refine S.then_n ?_ | refine S.then_x ?_ | refine S.then_r ?_ | refine S.inBlock_n ?_ | refine S.inBlock_r ?_ | refine S.inBlock_x rfl ?_ | refine S.noGoto_r ?_ | refine S.noGoto_n ?_ | refine S.noGoto_x ?_)
            with_reducible repeat (first | refine S.then_n ?_ | refine S.then_x ?_ | refine S.then_r ?_ | refine S.inBlock_n ?_ | refine S.inBlock_r ?_ | refine S.inBlock_x rfl ?_ | refine S.noGoto_r ?_ | refine S.noGoto_n ?_ | refine S.noGoto_x ?_)
            have hall2 : ∀ y ∈ m.js, y ∈ jl.eraseIdx i22 ∨ (y.row = r → y.ns.getLsbD i = false) := fun y hy => by
              rcases hall y hy with h9 | h9
              · rcases List.mem_cons.1 (hpe.mem_iff.1 h9) with e9 | h9
                · exact .inr fun e8 => by rw [e9] at e8 ⊢; first | exact h3 | exact absurd e8 (by omega)
                · exact .inl h9
              · exact .inr h9
            exact S.next ((left.eraseIdx i22).length) (⟨left.eraseIdx i22, some ((x.id : Int), jbV x), jl.eraseIdx i22, rfl, hle, fun y hy => hsub y (hpe.mem_iff.2 (List.mem_cons_of_mem _ hy)), hall2, rfl, rfl⟩) (hlt) (by repeat (first | exact trivial | refine ⟨rfl, ?_⟩)) Sub.ent
        · refine S.g_no rfl rfl rfl (decide_eq_false hg5_4) rfl rfl ?_
          refine S.g_no rfl rfl rfl (decide_eq_false hg5_4) rfl rfl ?_
          refine S.g_no rfl rfl rfl (decide_eq_false hg5_4) rfl rfl ?_
          refine S.g_no rfl rfl rfl (decide_eq_false hg5_4) rfl rfl ?_
          refine S.g_op rfl (S.q (q_pickF rfl (decide_eq_false hg5_4) rfl) rfl rfl ?_)
          first | with_reducible refine S.g_nilK ?_ | refine S.g_nil ?_
          refine hK10 _ _ ?_
          refine S.condF rfl ?_
          refine S.skip ?_
          with_reducible repeat (first | refine S.then_n ?_ | refine S.then_x ?_ | refine S.then_r ?_ | refine S.inBlock_n ?_ | refine S.inBlock_r ?_ | refine S.inBlock_x rfl ?_ | refine S.noGoto_r ?_ | refine S.noGoto_n ?_ | refine S.noGoto_x ?_)
          with_reducible repeat (first | refine S.then_n ?_ | refine S.then_x ?_ | refine S.then_r ?_ | refine S.inBlock_n ?_ | refine S.inBlock_r ?_ | refine S.inBlock_x rfl ?_ | refine S.noGoto_r ?_ | refine S.noGoto_n ?_ | refine S.noGoto_x ?_)
          with_reducible repeat (first | refine S.then_n ?_ | refine S.then_x ?_ | refine S.then_r ?_ | refine S.inBlock_n ?_ | refine S.inBlock_r ?_ | refine S.inBlock_x rfl ?_ | refine S.noGoto_r ?_ | refine S.noGoto_n ?_ | refine S.noGoto_x ?_)
          have hall2 : ∀ y ∈ m.js, y ∈ jl.eraseIdx i22 ∨ (y.row = r → y.ns.getLsbD i = false) := fun y hy => by
            rcases hall y hy with h9 | h9
            · rcases List.mem_cons.1 (hpe.mem_iff.1 h9) with e9 | h9
              · exact .inr fun e8 => by rw [e9] at e8 ⊢; first | exact h3 | exact absurd e8 (by omega)
              · exact .inl h9
            · exact .inr h9
          exact S.next ((left.eraseIdx i22).length) (⟨left.eraseIdx i22, some ((x.id : Int), jbV x), jl.eraseIdx i22, rfl, hle, fun y hy => hsub y (hpe.mem_iff.2 (List.mem_cons_of_mem _ hy)), hall2, rfl, rfl⟩) (hlt) (by repeat (first | exact trivial | refine ⟨rfl, ?_⟩)) Sub.ent
    · have hfin : atR m z y = 0 := by rw [atR, h1, Bool.and_false]; rfl
      refine S.skip ?_
      with_reducible repeat (first | refine S.then_n ?_ | refine S.then_x ?_ | refine S.then_r ?_ | refine S.inBlock_n ?_ | refine S.inBlock_r ?_ | refine S.inBlock_x rfl ?_ | refine S.noGoto_r ?_ | refine S.noGoto_n ?_ | refine S.noGoto_x ?_)
      refine hK2 _ _ ?_
      refine S.seq fun K12 hK12 => ?_
      refine S.region rfl ?_
      refine S.op (S.q (q_assign rfl) rfl rfl ?_)
      first | with_reducible refine S.nilK ?_ | refine S.nil ?_
      refine hK12 _ _ ?_
      refine S.ret ?_
      with_reducible repeat (first | refine S.then_n ?_ | refine S.then_x ?_ | refine S.then_r ?_ | refine S.inBlock_n ?_ | refine S.inBlock_r ?_ | refine S.inBlock_x rfl ?_ | refine S.noGoto_r ?_ | refine S.noGoto_n ?_ | refine S.noGoto_x ?_)
      exact S.fin (rs := [_]) (vs := [_]) Tryd.results18 (⟨rfl, trivial⟩)  (⟨by rw [hfin]; rfl, rfl⟩) Sub.ent
  · have hfin : atR m z y = 0 := by rw [atR, hg1_3]; rfl
    refine S.g_no rfl rfl rfl (hg1_3) rfl rfl ?_
    refine S.g_no rfl rfl rfl (hg1_3) rfl rfl ?_
    refine S.g_no rfl rfl rfl (hg1_3) rfl rfl ?_
    refine S.g_op rfl (S.q (q_pickF rfl (hg1_3) rfl) rfl rfl ?_)
    first | with_reducible refine S.g_nilK ?_ | refine S.g_nil ?_
    refine hK3 _ _ ?_
    refine S.condF rfl ?_
    refine S.skip ?_
    with_reducible repeat (first | refine S.then_n ?_ | refine S.then_x ?_ | refine S.then_r ?_ | refine S.inBlock_n ?_ | refine S.inBlock_r ?_ | refine S.inBlock_x rfl ?_ | refine S.noGoto_r ?_ | refine S.noGoto_n ?_ | refine S.noGoto_x ?_)
    refine hK2 _ _ ?_
    refine S.seq fun K13 hK13 => ?_
    refine S.region rfl ?_
    refine S.op (S.q (q_assign rfl) rfl rfl ?_)
    first | with_reducible refine S.nilK ?_ | refine S.nil ?_
    refine hK13 _ _ ?_
    refine S.ret ?_
    with_reducible repeat (first | refine S.then_n ?_ | refine S.then_x ?_ | refine S.then_r ?_ | refine S.inBlock_n ?_ | refine S.inBlock_r ?_ | refine S.inBlock_x rfl ?_ | refine S.noGoto_r ?_ | refine S.noGoto_n ?_ | refine S.noGoto_x ?_)
    exact S.fin (rs := [_]) (vs := [_]) Tryd.results18 (⟨rfl, trivial⟩)  (⟨by rw [hfin]; rfl, rfl⟩) Sub.ent
set_option maxHeartbeats 1000000 in
theorem mapsClone_S (mb : Nat) (l : List (Int × Value)) : Spec Tryd.prog 71 [.map (some mb)] [mapL mb .u32 l] fun Γ v Θ => ∃ c, v = .map (some c) ∧ Θ = mapL c .u32 l :: mapL mb .u32 l :: Γ := by
  refine Spec.of_body Tryd.func71 rfl Tryd.ntmps71 rfl ?_
  intro w0 Γ
  show S _ w0 [(0, .map (some mb))] (mapL mb .u32 l :: Γ) _
  refine S.seq fun K1 hK1 => ?_
  refine S.region rfl ?_
  refine S.op (S.q (q_assign rfl) rfl rfl ?_)
  first | with_reducible refine S.nilK ?_ | refine S.nil ?_
  refine hK1 _ _ ?_
  refine S.seq fun K2 hK2 => ?_
  refine S.seq fun K3 hK3 => ?_
  refine S.region rfl ?_
  refine S.op (S.q (q_move rfl) rfl rfl ?_)
  refine S.op (S.q (q_eqMN Tryd.underlying96 rfl rfl) rfl rfl ?_)
  first | with_reducible refine S.nilK ?_ | refine S.nil ?_
  refine hK3 _ _ ?_
  refine S.condF rfl ?_
  refine S.skip ?_
  with_reducible repeat (first | refine S.then_n ?_ | refine S.then_x ?_ | refine S.then_r ?_ | refine S.inBlock_n ?_ | refine S.inBlock_r ?_ | refine S.inBlock_x rfl ?_ | refine S.noGoto_r ?_ | refine S.noGoto_n ?_ | refine S.noGoto_x ?_)
  refine hK2 _ _ ?_
  refine S.seq fun K4 hK4 => ?_
  refine S.region rfl ?_
  refine S.op (S.q (q_move rfl) rfl rfl ?_)
  refine S.op (S.q (q_makeInterface (by rw [Tryd.underlying96]) rfl) rfl rfl ?_)
  refine S.op (S.clone Tryd.func83 (by kernel_rfl) (by kernel_rfl) (by kernel_rfl) (by kernel_rfl) rfl rfl ?_)
  intro c
  refine S.op (S.q (q_assert Tryd.underlying96 rfl) rfl rfl ?_)
  refine S.op (S.q (q_assign rfl) rfl rfl ?_)
  first | with_reducible refine S.nilK ?_ | refine S.nil ?_
  refine hK4 _ _ ?_
  refine S.ret ?_
  with_reducible repeat (first | refine S.then_n ?_ | refine S.then_x ?_ | refine S.then_r ?_ | refine S.inBlock_n ?_ | refine S.inBlock_r ?_ | refine S.inBlock_x rfl ?_ | refine S.noGoto_r ?_ | refine S.noGoto_n ?_ | refine S.noGoto_x ?_)
  exact S.fin (rs := [_]) (vs := [_]) Tryd.results71 (⟨rfl, trivial⟩)  (⟨c, rfl, rfl⟩) Sub.ent
theorem setsClone_S (s : SV) (xs : List Value) (hone : allOne xs = true) (hs : s.n ≤ 1000 ∧ 0 < s.n) : Spec Tryd.prog 72 [s.v] [own s 95 1 xs] fun Γ v Θ => ∃ s2 : SV, v = s2.v ∧ s2.n = s.n ∧ Θ = own s2 95 1 xs :: own s 95 1 xs :: Γ := by
  refine Spec.of_body Tryd.func72 rfl Tryd.ntmps72 rfl ?_
  intro w0 Γ
  show S _ w0 [(0, s.v)] (own s 95 1 xs :: Γ) _
  refine S.ownSome s hs.2 fun sb so hsa hl1 hl2 hl3 => ?_
  refine S.seq fun K1 hK1 => ?_
  refine S.region rfl ?_
  refine S.op (S.q (q_assign rfl) rfl rfl ?_)
  first | with_reducible refine S.nilK ?_ | refine S.nil ?_
  refine hK1 _ _ ?_
  refine S.seq fun K2 hK2 => ?_
  refine S.seq fun K3 hK3 => ?_
  refine S.region rfl ?_
  refine S.op (S.q (q_move rfl) rfl rfl ?_)
  refine S.op (S.q (q_eqSN Tryd.underlying97 rfl rfl) rfl rfl ?_)
  first | with_reducible refine S.nilK ?_ | refine S.nil ?_
  refine hK3 _ _ ?_
  refine S.cond rfl (fun h1 => ?_) (fun h1 => ?_)
  · rw [hsa] at h1; cases h1
  · refine S.skip ?_
    with_reducible repeat (first | refine S.then_n ?_ | refine S.then_x ?_ | refine S.then_r ?_ | refine S.inBlock_n ?_ | refine S.inBlock_r ?_ | refine S.inBlock_x rfl ?_ | refine S.noGoto_r ?_ | refine S.noGoto_n ?_ | refine S.noGoto_x ?_)
    refine hK2 _ _ ?_
    refine S.seq fun K4 hK4 => ?_
    refine S.region rfl ?_
    refine S.op (S.buildSlice0 Tryd.underlying97 Tryd.inf95 rfl ?_)
    intro s5 hs5
    refine S.op (S.q (q_move rfl) rfl rfl ?_)
    refine S.op (S.appendOw (s := s5) (s.n) (xs) Tryd.underlying97 Tryd.inf95 rfl rfl rfl (fun w hs => (HasOw.head).slAt (hs.ent (Ent.drop _ _))) (hone) (⟨by omega, by omega⟩) rfl ?_)
    intro s2 hs2
    rw [List.nil_append]
    refine S.op (S.q (q_assign rfl) rfl rfl ?_)
    first | with_reducible refine S.nilK ?_ | refine S.nil ?_
    refine hK4 _ _ ?_
    refine S.ret ?_
    with_reducible repeat (first | refine S.then_n ?_ | refine S.then_x ?_ | refine S.then_r ?_ | refine S.inBlock_n ?_ | refine S.inBlock_r ?_ | refine S.inBlock_x rfl ?_ | refine S.noGoto_r ?_ | refine S.noGoto_n ?_ | refine S.noGoto_x ?_)
    exact S.fin (rs := [_]) (vs := [_]) Tryd.results72 (⟨rfl, trivial⟩)  (⟨s2, rfl, by omega, rfl⟩) Sub.ent
theorem tks_one (m : Mx) : allOne (tks m) = true := List.all_eq_true.2 fun v hv => by
  obtain ⟨r, _, rfl⟩ := List.mem_map.1 hv
  rfl
theorem Copy_S (b : Nat) (m : Mx) : Spec Tryd.prog 42 [.pointer (some ⟨b, 0, none⟩)] [MI b m] fun Γ v Θ => ∃ c, v = .pointer (some ⟨c, 0, none⟩) ∧ Θ = MI c m :: MI b m :: Γ := by
  refine Spec.of_body Tryd.func42 rfl Tryd.ntmps42 rfl ?_
  intro w0 Γ
  show S _ w0 [(0, .pointer (some ⟨b, 0, none⟩))] (MI b m :: Γ) _
  refine S.miOpen b m fun mb tv l hok hp htn => ?_
  have hR8 := hok.R8
  have hR1 := hok.R1
  refine S.seq fun K1 hK1 => ?_
  refine S.region rfl ?_
  refine S.op (S.q (q_assign rfl) rfl rfl ?_)
  first | with_reducible refine S.nilK ?_ | refine S.nil ?_
  refine hK1 _ _ ?_
  refine S.seq fun K2 hK2 => ?_
  refine S.seq fun K3 hK3 => ?_
  refine S.region rfl ?_
  refine S.op (S.q (q_move rfl) rfl rfl ?_)
  refine S.op (S.q (q_eqN Tryd.underlying24 rfl rfl) rfl rfl ?_)
  first | with_reducible refine S.nilK ?_ | refine S.nil ?_
  refine hK3 _ _ ?_
  refine S.condF rfl ?_
  refine S.skip ?_
  with_reducible repeat (first | refine S.then_n ?_ | refine S.then_x ?_ | refine S.then_r ?_ | refine S.inBlock_n ?_ | refine S.inBlock_r ?_ | refine S.inBlock_x rfl ?_ | refine S.noGoto_r ?_ | refine S.noGoto_n ?_ | refine S.noGoto_x ?_)
  refine hK2 _ _ ?_
  refine S.seq fun K4 hK4 => ?_
  refine S.region rfl ?_
  refine S.op (S.q (q_move rfl) rfl rfl ?_)
  refine S.op (S.q (q_nilCheck rfl) rfl rfl ?_)
  refine S.op (S.q (q_loadS [_, _, _, _, _] Tryd.ag99 rfl rfl ⟨rfl, rfl, rfl, rfl, rfl, trivial⟩) rfl rfl ?_)
  refine S.op (S.alloc Tryd.z99 rfl ?_)
  intro b3
  refine S.op (S.storeS (cs' := [_, _, _, _, _]) Tryd.ag99 rfl rfl rfl rfl rfl rfl ?_)
  first | with_reducible refine S.nilK ?_ | refine S.nil ?_
  refine hK4 _ _ ?_
  refine S.seq fun K5 hK5 => ?_
  refine S.draw ([blk b 99 (mxC m mb tv).toArray]) [11, 13] Tryd.mixed ?_
  refine S.dr_take 0 [1, 2, 3, 4, 9, 10, 11, 12, 13] rfl (by kernel_rfl) rfl rfl rfl (q_move rfl) Sub.ent ?_
  refine S.dr_take 1 [2, 3, 4, 9, 10, 11, 12, 13] rfl (by kernel_rfl) rfl rfl rfl (q_nilCheck rfl) Sub.ent ?_
  refine S.dr_take 2 [3, 4, 9, 10, 11, 12, 13] rfl (by kernel_rfl) rfl rfl rfl (q_field Tryd.fo99_3 rfl) Sub.ent ?_
  refine S.dr_take 3 [4, 9, 10, 11, 12, 13] rfl (by kernel_rfl) rfl rfl rfl (q_load Tryd.at96 rfl rfl) Sub.ent ?_
  refine S.dr_take 5 [6, 7, 8, 9, 10, 11, 12, 13] rfl (by kernel_rfl) rfl rfl rfl (q_move rfl) Sub.ent ?_
  refine S.dr_take 6 [7, 8, 9, 10, 11, 12, 13] rfl (by kernel_rfl) rfl rfl rfl (q_nilCheck rfl) Sub.ent ?_
  refine S.dr_take 7 [8, 9, 10, 11, 12, 13] rfl (by kernel_rfl) rfl rfl rfl (q_field Tryd.fo99_4 rfl) Sub.ent ?_
  refine S.dr_take 8 [9, 10, 11, 12, 13] rfl (by kernel_rfl) rfl rfl rfl (q_load Tryd.at97 rfl rfl) Sub.ent ?_
  refine S.dr_1 (i := 4) (by kernel_rfl) rfl rfl ?_
  refine  (S.call Tryd.en71 (vs := [_]) ⟨rfl, trivial⟩ (mapsClone_S mb l) rfl ?_)
  rintro v Θ ⟨mc, rfl, rfl⟩
  refine S.dr_k rfl Sub.ent ?_
  refine S.dr_1 (i := 9) (by kernel_rfl) rfl rfl ?_
  refine  (S.call Tryd.en72 (vs := [_]) ⟨rfl, trivial⟩ (setsClone_S tv (tks m) (tks_one m) ⟨by omega, by omega⟩) rfl ?_)
  rintro v Θ ⟨s2, rfl, hs2, rfl⟩
  refine S.dr_k rfl Sub.ent ?_
  refine S.dr_take 10 [11, 12, 13] rfl (by kernel_rfl) rfl rfl rfl (q_field Tryd.fo99_3 rfl) Sub.ent ?_
  refine S.dr_1 (i := 11) (by kernel_rfl) rfl rfl ?_
  refine  (S.store (cs' := [_, _, _, _, _]) Tryd.at96 rfl rfl rfl rfl rfl ?_)
  refine S.dr_late ([blk b 99 (mxC m mb tv).toArray]) [] rfl ?_
  refine S.dr_take 12 [] rfl (by kernel_rfl) rfl rfl rfl (q_field Tryd.fo99_4 rfl) Sub.ent ?_
  refine S.dr_1 (i := 13) (by kernel_rfl) rfl rfl ?_
  refine  (S.store (cs' := [_, _, _, _, _]) Tryd.at97 rfl rfl rfl rfl rfl ?_)
  refine S.dr_k rfl Sub.ent ?_
  first | with_reducible refine S.dr_doneK (by kernel_rfl) ?_ | refine S.dr_done (by kernel_rfl) ?_
  refine hK5 _ _ ?_
  refine S.seq fun K6 hK6 => ?_
  refine S.region rfl ?_
  refine S.op (S.q (q_assign rfl) rfl rfl ?_)
  first | with_reducible refine S.nilK ?_ | refine S.nil ?_
  refine hK6 _ _ ?_
  refine S.ret ?_
  with_reducible repeat (first | refine S.then_n ?_ | refine S.then_x ?_ | refine S.then_r ?_ | refine S.inBlock_n ?_ | refine S.inBlock_r ?_ | refine S.inBlock_x rfl ?_ | refine S.noGoto_r ?_ | refine S.noGoto_n ?_ | refine S.noGoto_x ?_)
  refine S.miClose (b := b) (m := m) (mb := mb) (tv := tv) rfl rfl rfl hok hp htn ?_
  refine S.miClose (b := b3) (m := m) (mb := mc) (tv := s2) rfl rfl rfl hok hp (by omega) ?_
  exact S.fin (rs := [_]) (vs := [_]) Tryd.results42 (⟨rfl, trivial⟩)  (⟨b3, rfl, rfl⟩) Sub.ent
end Go.Proofs.YtbhnbnecaejjiaaDoor
