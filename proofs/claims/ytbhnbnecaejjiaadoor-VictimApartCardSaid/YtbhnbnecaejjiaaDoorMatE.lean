/- The matrix: Row, by least nodes. -/
import Derived.Test.YtbhnbnecaejjiaaDoorMatD
import Derived.Test.YtbhnbnecaejjiaaDoorSort1
import Derived.Test.YtbhnbnecaejjiaaDoorSortLay
namespace Go.Proofs.YtbhnbnecaejjiaaDoor
open Go.RowKit
set_option maxRecDepth 20000
def nsOf (js : List Jb) (j : Nat) : Bs := ((look js j).map (·.ns)).getD 0#16
/-- Who stands in a row, by least nodes. -/
def rowJ (m : Mx) (r : Nat) : List Jb := (List.range 16).filterMap fun i => m.js.find? fun x => decide (x.row = r) && decide (tz x.ns = i)
theorem mem_rowJ {m : Mx} (hm : MxOk m) {r : Nat} {x : Jb} : x ∈ rowJ m r ↔ x ∈ m.js ∧ x.row = r := by
  simp only [rowJ, List.mem_filterMap, List.mem_range]
  constructor
  · rintro ⟨i, _, hf⟩
    have h1 := List.mem_of_find?_eq_some hf
    have h2 := List.find?_some hf
    rw [Bool.and_eq_true, decide_eq_true_eq] at h2
    exact ⟨h1, h2.1⟩
  · rintro ⟨h1, h2⟩
    have ht := tz_mem (hm.some x h1)
    refine ⟨tz x.ns, lst_lt ht, ?_⟩
    cases hf : m.js.find? fun y => decide (y.row = r) && decide (tz y.ns = tz x.ns) with
    | none =>
      have := List.find?_eq_none.1 hf x h1
      simp [h2] at this
    | some y =>
      have h3 := List.mem_of_find?_eq_some hf
      have h4 := List.find?_some hf
      rw [Bool.and_eq_true, decide_eq_true_eq, decide_eq_true_eq] at h4
      refine congrArg some (Classical.byContradiction fun hne => ?_)
      exact hm.dis y h3 x h1 (fun e => hne (id_inj hm.srt h3 h1 e)) (h4.1.trans h2.symm) (tz x.ns) (by rw [← h4.2]; exact mem_lst.1 (tz_mem (hm.some y h3))) (mem_lst.1 ht)
theorem rowJ_srt {m : Mx} {r : Nat} : (rowJ m r).Pairwise fun a b => tz a.ns < tz b.ns := by
  rw [rowJ, List.pairwise_filterMap]
  refine List.pairwise_lt_range.imp fun h x hx y hy => ?_
  have h1 := List.find?_some hx
  have h2 := List.find?_some hy
  rw [Bool.and_eq_true, decide_eq_true_eq, decide_eq_true_eq] at h1 h2
  rw [h1.2, h2.2]
  exact h
theorem rowJ_nodup {m : Mx} {r : Nat} : (rowJ m r).Nodup := rowJ_srt.imp fun h e => by rw [e] at h; omega
def rowIds (m : Mx) (z : Int) : List Nat := if rowB m z then (rowJ m z.toNat).map (·.id) else []
abbrev idsV (l : List Nat) : List Value := l.map fun j : Nat => Value.int .u32 (j : Int)
def cmpR (js : List Jb) (a b : Nat) : Int := (tz (nsOf js a) : Int) - tz (nsOf js b)
theorem ltR (js : List Jb) (a b : Nat) : Go.Proofs.ltOf (cmpR js) a b = decide (tz (nsOf js a) < tz (nsOf js b)) := by
  rw [Go.Proofs.ltOf]
  exact decide_eq_decide.2 (by unfold cmpR; omega)
theorem cmpR_swo (js : List Jb) : Go.Sort.SWO (Go.Proofs.ltOf (cmpR js)) where
  irrefl := fun x => by rw [ltR]; exact decide_eq_false (by omega)
  trans := fun x y z h1 h2 => by rw [ltR] at *; have h1 := of_decide_eq_true h1; have h2 := of_decide_eq_true h2; exact decide_eq_true (by omega)
  ntrans := fun x y z h1 h2 => by rw [ltR] at *; have h1 := of_decide_eq_false h1; have h2 := of_decide_eq_false h2; exact decide_eq_false (by omega)
theorem cmpR_P (t2 b mb : Nat) (m : Mx) (tv : SV) (l : List (Int × Value)) (hok : MxOk m) (hp : l.Perm (m.js.map jbE)) (x y : Nat) {W0 : World} (hW0 : TabW W0) (W : World) (Γ : List Assn) (hs : Sat W ([blk t2 24 #[.pointer (some ⟨b, 0, none⟩)], blk b 99 (mxC m mb tv).toArray, mapL mb .u32 l, old W0] ++ Γ)) :
    PureS Tryd.prog 47 ([.int .u32 (x : Int), .int .u32 (y : Int)] ++ [.pointer (some ⟨t2, 0, none⟩)]) W (.int .i64 (cmpR m.js x y)) := by
  have h2 : W.cell? ⟨t2, 0, none⟩ = some (.pointer (some ⟨b, 0, none⟩)) := by rw [(hs.isBlk).cell]; rfl
  have hs1 := hs.ent (Ent.drop _ _)
  have h3 : W.cell? ⟨b, 0 + 3, none⟩ = some (.map (some mb)) := by rw [(hs1.isBlk).cell]; rfl
  have hs2 := hs1.ent (Ent.drop _ _)
  obtain ⟨es, clock, h4, h5⟩ := hs2.isMap
  have hs3 := hs2.ent (Ent.drop _ _)
  have hW : TabW W := fun i hi => (HasOld.head (Γ := [] ++ Γ) (W := W0)).cell hs3 (hW0 i hi)
  have hg := fun j => get_look hok.srt hp j
  have hns : ∀ j : Nat, ∃ r : Int, (alGet (j : Int) l).getD (.agg #[.int .i64 0, .int .u16 0]) = .agg #[.int .i64 r, bsv (nsOf m.js j)] := fun j => by
    rw [hg j, nsOf]
    cases look m.js j with
    | none => exact ⟨0, rfl⟩
    | some x => exact ⟨_, rfl⟩
  obtain ⟨rx, hrx⟩ := hns x
  obtain ⟨ry, hry⟩ := hns y
  have t1 := tz_le (nsOf m.js x)
  have t2' := tz_le (nsOf m.js y)
  refine Spec.of_body Tryd.func47 rfl Tryd.ntmps47 rfl ?_
  intro w0 Γ'
  show S _ w0 [(0, .int .u32 (x : Int)), (1, .int .u32 (y : Int)), (2, .pointer (some ⟨t2, 0, none⟩))] (old W :: Γ') _
  refine S.seq fun K1 hK1 => ?_
  refine S.region rfl ?_
  refine S.op (S.q (q_assign rfl) rfl rfl ?_)
  first | with_reducible refine S.nilK ?_ | refine S.nil ?_
  refine hK1 _ _ ?_
  refine S.seq fun K2 hK2 => ?_
  refine S.draw ([old W]) [] Tryd.mixed ?_
  refine S.dr_take 0 [] rfl (by kernel_rfl) rfl rfl rfl (q_loadW Tryd.at24 rfl h2) Sub.ent ?_
  refine S.dr_take 1 [] rfl (by kernel_rfl) rfl rfl rfl (q_nilCheck rfl) Sub.ent ?_
  refine S.dr_take 2 [] rfl (by kernel_rfl) rfl rfl rfl (q_field Tryd.fo99_3 rfl) Sub.ent ?_
  refine S.dr_take 3 [] rfl (by kernel_rfl) rfl rfl rfl (q_loadW Tryd.at96 rfl h3) Sub.ent ?_
  refine S.dr_take 4 [] rfl (by kernel_rfl) rfl rfl rfl (q_move rfl) Sub.ent ?_
  refine S.dr_take 5 [] rfl (by kernel_rfl) rfl rfl rfl (q_lookup1W l (.agg #[.int .i64 rx, bsv (nsOf m.js x)]) Tryd.underlying96 Tryd.underlying36 Tryd.zv102 rfl rfl rfl h4 h5 hrx.symm) Sub.ent ?_
  refine S.dr_take 6 [] rfl (by kernel_rfl) rfl rfl rfl (q_fieldV Tryd.underlying102 rfl Tryd.at95 rfl rfl) Sub.ent ?_
  refine S.dr_take 8 [] rfl (by kernel_rfl) rfl rfl rfl (q_loadW Tryd.at24 rfl h2) Sub.ent ?_
  refine S.dr_take 9 [] rfl (by kernel_rfl) rfl rfl rfl (q_nilCheck rfl) Sub.ent ?_
  refine S.dr_take 10 [] rfl (by kernel_rfl) rfl rfl rfl (q_field Tryd.fo99_3 rfl) Sub.ent ?_
  refine S.dr_take 11 [] rfl (by kernel_rfl) rfl rfl rfl (q_loadW Tryd.at96 rfl h3) Sub.ent ?_
  refine S.dr_take 12 [] rfl (by kernel_rfl) rfl rfl rfl (q_move rfl) Sub.ent ?_
  refine S.dr_take 13 [] rfl (by kernel_rfl) rfl rfl rfl (q_lookup1W l (.agg #[.int .i64 ry, bsv (nsOf m.js y)]) Tryd.underlying96 Tryd.underlying36 Tryd.zv102 rfl rfl rfl h4 h5 hry.symm) Sub.ent ?_
  refine S.dr_take 14 [] rfl (by kernel_rfl) rfl rfl rfl (q_fieldV Tryd.underlying102 rfl Tryd.at95 rfl rfl) Sub.ent ?_
  refine S.dr_1 (i := 7) (by kernel_rfl) rfl rfl ?_
  refine  (S.call Tryd.en48 (vs := [_]) ⟨rfl, trivial⟩ (tz16_S (nsOf m.js x) hW) rfl ?_)
  rintro v Θ ⟨rfl, rfl⟩
  refine S.dr_k rfl Sub.ent ?_
  refine S.dr_1 (i := 15) (by kernel_rfl) rfl rfl ?_
  refine  (S.call Tryd.en48 (vs := [_]) ⟨rfl, trivial⟩ (tz16_S (nsOf m.js y) hW) rfl ?_)
  rintro v Θ ⟨rfl, rfl⟩
  refine S.dr_k rfl Sub.ent ?_
  refine S.dr_take 16 [] rfl (by kernel_rfl) rfl rfl rfl (q_sub rfl rfl (inI64 (by omega) (by omega))) Sub.ent ?_
  refine S.dr_take 17 [] rfl (by kernel_rfl) rfl rfl rfl (q_assign rfl) Sub.ent ?_
  first | with_reducible refine S.dr_doneK (by kernel_rfl) ?_ | refine S.dr_done (by kernel_rfl) ?_
  refine hK2 _ _ ?_
  refine S.ret ?_
  with_reducible repeat (first | refine S.then_n ?_ | refine S.then_x ?_ | refine S.then_r ?_ | refine S.inBlock_n ?_ | refine S.inBlock_r ?_ | refine S.inBlock_x rfl ?_ | refine S.noGoto_r ?_ | refine S.noGoto_n ?_ | refine S.noGoto_x ?_)
  exact S.fin (rs := [_]) (vs := [_]) Tryd.results47 (⟨rfl, trivial⟩)  (⟨rfl, rfl⟩) Sub.ent
theorem nsOf_mem {m : Mx} (hm : MxOk m) {x : Jb} (hx : x ∈ m.js) : nsOf m.js x.id = x.ns := by rw [nsOf, look_mem hm.srt hx]; rfl
/-- What is sorted by least nodes is the row. -/
theorem sorted_rowJ {m : Mx} (hm : MxOk m) {r : Nat} {ks l' : List Nat} (hp : l'.Perm ks) (hk : ks.Perm ((rowJ m r).map (·.id))) (hs : l'.Pairwise fun a b => Go.Proofs.ltOf (cmpR m.js) b a = false) : l' = (rowJ m r).map (·.id) := by
  have hp2 := hp.trans hk
  have hmem : ∀ j ∈ l', ∃ x ∈ rowJ m r, x.id = j := fun j hj => List.mem_map.1 (hp2.mem_iff.1 hj)
  have hnd : ((rowJ m r).map (·.id)).Nodup := List.pairwise_map.2 (rowJ_srt.imp_of_mem fun {a b} ha hb h e => by
    rw [id_inj hm.srt ((mem_rowJ hm).1 ha).1 ((mem_rowJ hm).1 hb).1 e] at h; omega)
  have hnd' : l'.Nodup := hp2.nodup_iff.2 hnd
  refine List.Perm.eq_of_pairwise (le := fun a b => tz (nsOf m.js a) < tz (nsOf m.js b)) (fun a b _ _ h1 h2 => by omega) ?_ ?_ hp2
  · refine (hs.and hnd').imp_of_mem fun {a b} ha hb h => ?_
    obtain ⟨h1, h2⟩ := h
    rw [ltR] at h1
    have h1 := of_decide_eq_false h1
    obtain ⟨x, hx, rfl⟩ := hmem a ha
    obtain ⟨y, hy, rfl⟩ := hmem b hb
    obtain ⟨x1, x2⟩ := (mem_rowJ hm).1 hx
    obtain ⟨y1, y2⟩ := (mem_rowJ hm).1 hy
    rw [nsOf_mem hm x1, nsOf_mem hm y1] at h1 ⊢
    refine Classical.byContradiction fun h3 => ?_
    have e : tz x.ns = tz y.ns := by omega
    exact hm.dis x x1 y y1 h2 (x2.trans y2.symm) (tz x.ns) (mem_lst.1 (tz_mem (hm.some x x1))) (by rw [e]; exact mem_lst.1 (tz_mem (hm.some y y1)))
  · refine List.pairwise_map.2 (rowJ_srt.imp_of_mem fun {a b} ha hb h => ?_)
    rw [nsOf_mem hm ((mem_rowJ hm).1 ha).1, nsOf_mem hm ((mem_rowJ hm).1 hb).1]
    exact h
theorem filter_rowJ {m : Mx} (hm : MxOk m) (r : Nat) : (m.js.filter fun x => decide (x.row = r)).Perm (rowJ m r) :=
  (List.perm_ext_iff_of_nodup ((hm.srt.imp fun h e => by rw [e] at h; omega : m.js.Nodup).filter _) rowJ_nodup).2 fun x => by rw [mem_rowJ hm, List.mem_filter, decide_eq_true_eq]
theorem perm_unmap {α β : Type} {f : α → β} {l m : List β} (h : l.Perm m) : ∀ {js : List α}, js.map f = m → ∃ jl : List α, jl.Perm js ∧ l = jl.map f := by
  induction h with
  | nil => intro js hm; exact ⟨[], by rw [List.map_eq_nil_iff.1 hm], rfl⟩
  | cons x _ ih =>
    intro js hm
    cases js with
    | nil => cases hm
    | cons j js =>
      simp only [List.map_cons, List.cons.injEq] at hm
      obtain ⟨jl, h1, h2⟩ := ih hm.2
      exact ⟨j :: jl, h1.cons _, by rw [List.map_cons, hm.1, h2]⟩
  | swap x y l =>
    intro js hm
    match js, hm with
    | a :: b :: js, hm =>
      simp only [List.map_cons, List.cons.injEq] at hm
      exact ⟨b :: a :: js, .swap _ _ _, by rw [List.map_cons, List.map_cons, hm.1, hm.2.1, hm.2.2]⟩
  | trans _ _ ih1 ih2 =>
    intro js hm
    obtain ⟨jl, h1, h2⟩ := ih2 hm
    obtain ⟨jl', h3, h4⟩ := ih1 h2.symm
    exact ⟨jl', h3.trans h1, h4⟩
theorem erase_perm {α : Type} {l : List α} {i : Nat} {x : α} (h : l[i]? = some x) : l.Perm (x :: l.eraseIdx i) := by
  induction l generalizing i with
  | nil => simp at h
  | cons y l ih =>
    cases i with
    | zero => simp only [List.getElem?_cons_zero, Option.some.injEq] at h; subst h; exact .refl _
    | succ i => exact ((ih (by simpa using h)).cons y).trans (.swap _ _ _)
abbrev rowPre (b2 b mb : Nat) (m : Mx) (tv : SV) (l : List (Int × Value)) (W : World) : List Assn := [blk b2 24 #[.pointer (some ⟨b, 0, none⟩)], blk b 99 (mxC m mb tv).toArray, mapL mb .u32 l, old W]
theorem RowSort_S (b2 b mb : Nat) (m : Mx) (tv : SV) (l : List (Int × Value)) (hok : MxOk m) (hp : l.Perm (m.js.map jbE)) {W : World} (hW : TabW W) (s : SV) (ks : List Nat) (hl : ks.length < 4611686018427387904) :
    Spec Tryd.prog 46 [s.v, .func (.func 47) #[] #[.pointer (some ⟨b2, 0, none⟩)]] (own s 36 1 (idsV ks) :: rowPre b2 b mb m tv l W) fun Γ _ Θ => ∃ l' : List Nat, l'.Perm ks ∧ l'.Pairwise (fun a b => Go.Proofs.ltOf (cmpR m.js) b a = false) ∧ Θ = own s 36 1 (idsV l') :: blk b2 24 #[.pointer (some ⟨b, 0, none⟩)] :: blk b 99 (mxC m mb tv).toArray :: mapL mb .u32 l :: old W :: Γ :=
  SortFunc1_S Tryd.sort46 { Tryd.sort46 with } (fun j : Nat => Value.int .u32 (j : Int)) (fun _ => rfl) (cmpR m.js) (cmpR_swo m.js) 47 [.pointer (some ⟨b2, 0, none⟩)]
    (enters_of Tryd.func47 (by kernel_rfl) rfl) (rowPre b2 b mb m tv l W) (fun x y W1 Γ hs => cmpR_P b2 b mb m tv l hok hp x y hW W1 Γ hs) 36 s ks hl
theorem Row_S (b : Nat) (m : Mx) (z : Int) {W : World} (hW : TabW W) : Spec Tryd.prog 17 [.pointer (some ⟨b, 0, none⟩), .int .i64 z] [MI b m, old W] fun Γ v Θ => ∃ sv : SV, v = sv.v ∧ sv.n = (rowIds m z).length ∧ Θ = own sv 36 1 (idsV (rowIds m z)) :: MI b m :: old W :: Γ := by
  refine Spec.of_body Tryd.func17 rfl Tryd.ntmps17 rfl ?_
  intro w0 Γ
  show S _ w0 [(0, .pointer (some ⟨b, 0, none⟩)), (1, .int .i64 z)] (MI b m :: old W :: Γ) _
  refine S.seq fun K1 hK1 => ?_
  refine S.region rfl ?_
  refine S.op (S.box (cs := [_]) rfl rfl rfl ?_)
  intro b2
  refine S.op (S.q (q_assign rfl) rfl rfl ?_)
  first | with_reducible refine S.nilK ?_ | refine S.nil ?_
  refine hK1 _ _ ?_
  refine S.seq fun K2 hK2 => ?_
  refine S.seq fun K3 hK3 => ?_
  refine S.region rfl ?_
  refine S.op (S.q (q_load Tryd.at24 rfl rfl) rfl rfl ?_)
  refine S.op (S.q (q_move rfl) rfl rfl ?_)
  refine S.op (S.call Tryd.en45 (vs := [_, _]) ⟨rfl, rfl, trivial⟩ (row_S b m z) rfl ?_)
  rintro v Θ ⟨rfl, rfl⟩
  refine S.op (S.q (q_not rfl) rfl rfl ?_)
  first | with_reducible refine S.nilK ?_ | refine S.nil ?_
  refine hK3 _ _ ?_
  refine S.cond rfl (fun h1 => ?_) (fun h1 => ?_)
  · have hn : rowIds m z = [] := by rw [rowIds, show rowB m z = false by simpa using h1]; rfl
    refine S.seq fun K4 hK4 => ?_
    refine S.region rfl ?_
    refine S.op (S.q (q_assign rfl) rfl rfl ?_)
    first | with_reducible refine S.nilK ?_ | refine S.nil ?_
    refine hK4 _ _ ?_
    refine S.ret ?_
    with_reducible repeat (first | refine S.then_n ?_ | refine S.then_x ?_ | refine S.then_r ?_ | refine S.inBlock_n ?_ | refine S.inBlock_r ?_ | refine S.inBlock_x rfl ?_ | refine S.noGoto_r ?_ | refine S.noGoto_n ?_ | refine S.noGoto_x ?_)
    refine S.ent (Δ := own SV.nil 36 1 (idsV (rowIds m z)) :: MI b m :: old W :: Γ) (by rw [hn]; exact Sub.ent.trans (Ent.ownNil _ _)) ?_
    exact S.fin (rs := [_]) (vs := [_]) Tryd.results17 (⟨rfl, trivial⟩)  (⟨SV.nil, rfl, by rw [hn]; rfl, rfl⟩) Sub.ent
  · have hrb : rowB m z = true := by simpa using h1
    obtain ⟨r, rfl⟩ : ∃ r : Nat, z = r := ⟨z.toNat, by have := rowB_iff.1 hrb; omega⟩
    have hn : rowIds m r = (rowJ m r).map (·.id) := by rw [rowIds, if_pos hrb, Int.toNat_natCast]
    refine S.miOpen b m fun mb tv l hok hp htn => ?_
    have h128 := sum_lens m hok
    obtain ⟨jl0, hj0, hl0⟩ := perm_unmap hp rfl
    have hll : l.length = m.js.length := by rw [hp.length_eq, List.length_map]
    refine S.skip ?_
    with_reducible repeat (first | refine S.then_n ?_ | refine S.then_x ?_ | refine S.then_r ?_ | refine S.inBlock_n ?_ | refine S.inBlock_r ?_ | refine S.inBlock_x rfl ?_ | refine S.noGoto_r ?_ | refine S.noGoto_n ?_ | refine S.noGoto_x ?_)
    refine hK2 _ _ ?_
    refine S.seq fun K5 hK5 => ?_
    refine S.region rfl ?_
    refine S.ent (Ent.ownNil 36 1) ?_
    refine S.op (S.q (q_assign rfl) rfl rfl ?_)
    first | with_reducible refine S.nilK ?_ | refine S.nil ?_
    refine hK5 _ _ ?_
    refine S.seq fun K6 hK6 => ?_
    refine S.seq fun K7 hK7 => ?_
    refine S.region rfl ?_
    refine S.op (S.q (q_load Tryd.at24 rfl rfl) rfl rfl ?_)
    refine S.op (S.q (q_nilCheck rfl) rfl rfl ?_)
    refine S.op (S.q (q_field Tryd.fo99_3 rfl) rfl rfl ?_)
    refine S.op (S.q (q_load Tryd.at96 rfl rfl) rfl rfl ?_)
    refine S.op (S.range Tryd.underlying96 rfl rfl ?_)
    intro r16
    first | with_reducible refine S.nilK ?_ | refine S.nil ?_
    refine hK7 _ _ ?_
    refine S.block ?_
    refine S.loop (fun k ρ' Γ' => ∃ (left : List (Int × Value)) (cur : Option (Int × Value)) (jl dn : List Jb) (sv : SV) (dv : List Value), k = left.length ∧ left = jl.map jbE ∧ (dn ++ jl.filter fun x => decide (x.row = r)).Perm (m.js.filter fun x => decide (x.row = r)) ∧ jl.length + dn.length ≤ m.js.length ∧ sv.n = dn.length ∧ dv = idsV (dn.map (·.id)) ∧   ρ' = [(1, .int .i64 (r : Int)), (2, .pointer (some ⟨b2, 0, none⟩)), (5, sv.v), (16, .pointer (some ⟨r16, 0, none⟩))] ∧ Γ' = rngM r16 mb .u32 l left cur :: own sv 36 1 dv :: blk b2 24 #[.pointer (some ⟨b, 0, none⟩)] :: blk b 99 (mxC m mb tv).toArray :: own tv 95 1 (tks m) :: old W :: Γ) (m := _) (ρ0 := _) (Γ0 := _) (⟨l, none, jl0, [], SV.nil, [], rfl, hl0, by simpa using hj0.filter _, by rw [hj0.length_eq]; simp, rfl, rfl, rfl, rfl⟩) (by repeat (first | exact trivial | refine ⟨rfl, ?_⟩)) Sub.ent ?_
    rintro k ρ' Γ' ⟨left, cur, jl, dn, sv, dv, hk, hleft, hdn, hlen, hsv, hdv, rfl, rfl⟩
    refine S.seq fun K8 hK8 => ?_
    refine S.region rfl ?_
    refine S.op (S.nextR rfl rfl (fun hl17 => ?_) (fun i17 z17 v17 hi17 => ?_))
    · have hj : jl = [] := List.map_eq_nil_iff.1 (hleft.symm.trans hl17)
      subst hj
      rw [List.filter_nil, List.append_nil] at hdn
      subst hdv
      refine S.conv (rngM r16 mb .u32 l left cur) (Ent.rngM _) ?_
      refine S.op (S.q (q_extract rfl rfl) rfl rfl ?_)
      first | with_reducible refine S.nilK ?_ | refine S.nil ?_
      refine hK8 _ _ ?_
      refine S.seq fun K9 hK9 => ?_
      refine S.condF rfl ?_
      refine S.exit ?_
      with_reducible repeat (first | refine S.then_n ?_ | refine S.then_x ?_ | refine S.then_r ?_ | refine S.inBlock_n ?_ | refine S.inBlock_r ?_ | refine S.inBlock_x rfl ?_ | refine S.noGoto_r ?_ | refine S.noGoto_n ?_ | refine S.noGoto_x ?_)
      with_reducible refine S.inBlock_s ?_
      with_reducible repeat (first | refine S.then_n ?_ | refine S.then_x ?_ | refine S.then_r ?_ | refine S.inBlock_n ?_ | refine S.inBlock_r ?_ | refine S.inBlock_x rfl ?_ | refine S.noGoto_r ?_ | refine S.noGoto_n ?_ | refine S.noGoto_x ?_)
      refine hK6 _ _ ?_
      refine S.seq fun K10 hK10 => ?_
      refine S.region rfl ?_
      refine S.op (S.q (q_move rfl) rfl rfl ?_)
      refine S.op (S.q (q_makeFunc (vs := []) (us := [_]) trivial ⟨rfl, trivial⟩) rfl rfl ?_)
      refine S.op (S.call Tryd.en46 (vs := [_, _]) ⟨rfl, rfl, trivial⟩ (RowSort_S b2 b mb m tv l hok hp hW sv (dn.map (·.id)) (by simp; omega)) rfl ?_)
      rintro v Θ ⟨l', hl1, hl2, rfl⟩
      have hfin := sorted_rowJ hok (r := r) hl1 ((hdn.trans (filter_rowJ hok r)).map _) hl2
      have hlen2 : sv.n = (rowIds m r).length := by rw [hn, ← hfin, hl1.length_eq, List.length_map, hsv]
      rw [hfin, ← hn]
      first | with_reducible refine S.nilK ?_ | refine S.nil ?_
      refine hK10 _ _ ?_
      refine S.seq fun K11 hK11 => ?_
      refine S.region rfl ?_
      refine S.op (S.q (q_move rfl) rfl rfl ?_)
      refine S.op (S.q (q_assign rfl) rfl rfl ?_)
      first | with_reducible refine S.nilK ?_ | refine S.nil ?_
      refine hK11 _ _ ?_
      refine S.ret ?_
      with_reducible repeat (first | refine S.then_n ?_ | refine S.then_x ?_ | refine S.then_r ?_ | refine S.inBlock_n ?_ | refine S.inBlock_r ?_ | refine S.inBlock_x rfl ?_ | refine S.noGoto_r ?_ | refine S.noGoto_n ?_ | refine S.noGoto_x ?_)
      refine S.miClose (b := b) (m := m) (mb := mb) (tv := tv) rfl rfl rfl hok hp htn ?_
      exact S.fin (rs := [_]) (vs := [_]) Tryd.results17 (⟨rfl, trivial⟩)  (⟨sv, rfl, hlen2, rfl⟩) Sub.ent
    · obtain ⟨x, hx, hxe⟩ : ∃ x, jl[i17]? = some x ∧ jbE x = (z17, v17) := by
        rw [hleft, List.getElem?_map] at hi17
        exact Option.map_eq_some_iff.1 hi17
      simp only [jbE, Prod.mk.injEq] at hxe
      obtain ⟨rfl, rfl⟩ := hxe
      have hpe := erase_perm hx
      have hel := hpe.length_eq
      rw [List.length_cons] at hel
      have hle : (left.eraseIdx i17) = (jl.eraseIdx i17).map jbE := by rw [hleft, map_eraseIdx']
      have hlt : (left.eraseIdx i17).length < k := by rw [hle, hk, hleft, List.length_map, List.length_map]; omega
      refine S.op (S.q (q_extract rfl rfl) rfl rfl ?_)
      first | with_reducible refine S.nilK ?_ | refine S.nil ?_
      refine hK8 _ _ ?_
      refine S.seq fun K12 hK12 => ?_
      refine S.condT rfl ?_
      refine S.skip ?_
      with_reducible repeat (first | refine S.then_n ?_ | refine S.then_x ?_ | refine S.then_r ?_ | refine S.inBlock_n ?_ | refine S.inBlock_r ?_ | refine S.inBlock_x rfl ?_ | refine S.noGoto_r ?_ | refine S.noGoto_n ?_ | refine S.noGoto_x ?_)
      refine hK12 _ _ ?_
      refine S.block ?_
      refine S.seq fun K13 hK13 => ?_
      refine S.region rfl ?_
      refine S.op (S.q (q_entryR rfl) rfl rfl ?_)
      refine S.op (S.q (q_extract rfl rfl) rfl rfl ?_)
      refine S.op (S.q (q_extract rfl rfl) rfl rfl ?_)
      refine S.op (S.alloc Tryd.z102 rfl ?_)
      intro b7
      refine S.op (S.q (q_assign rfl) rfl rfl ?_)
      refine S.op (S.storeS (cs' := [_, _]) Tryd.ag102 rfl rfl rfl rfl rfl rfl ?_)
      first | with_reducible refine S.nilK ?_ | refine S.nil ?_
      refine hK13 _ _ ?_
      refine S.seq fun K14 hK14 => ?_
      refine S.region rfl ?_
      refine S.op (S.q (q_field Tryd.fo102_0 rfl) rfl rfl ?_)
      refine S.op (S.q (q_load Tryd.at3 rfl rfl) rfl rfl ?_)
      refine S.op (S.q (q_move rfl) rfl rfl ?_)
      refine S.op (S.q (q_eq rfl rfl) rfl rfl ?_)
      first | with_reducible refine S.nilK ?_ | refine S.nil ?_
      refine hK14 _ _ ?_
      refine S.condD rfl (fun h3 => ?_) (fun h3 => ?_)
      · have hxr : x.row = r := by omega
        have h9 := hpe.filter (fun x => decide (x.row = r))
        rw [List.filter_cons_of_pos (by simpa using hxr)] at h9
        have hdn2 : ((dn ++ [x]) ++ (jl.eraseIdx i17).filter fun x => decide (x.row = r)).Perm (m.js.filter fun x => decide (x.row = r)) := by
          rw [List.append_assoc]
          exact (List.Perm.append_left dn h9.symm).trans hdn
        have hdl : (dn ++ [x]).length = dn.length + 1 := by simp
        have hdv2 : dv ++ [.int .u32 (x.id : Int)] = idsV ((dn ++ [x]).map (·.id)) := by rw [hdv]; simp
        refine S.region rfl ?_
        refine S.op (S.q (q_move rfl) rfl rfl ?_)
        refine S.op (S.q (q_move rfl) rfl rfl ?_)
        refine S.op (S.buildSlice (pvs := [(_, _)]) [_] Tryd.underlying34 Tryd.inf36 rfl rfl ⟨⟨rfl, rfl⟩, trivial⟩ rfl rfl ?_)
        intro b28
        refine S.op (S.appendOw (s := sv) (1) ([.int .u32 (x.id : Int)]) Tryd.underlying34 Tryd.inf36 rfl rfl rfl (blk_slAt (b := b28) rfl (by unfold maxLen; omega)) (by first | rfl | exact allOne_bcells _) (⟨by omega, by omega⟩) rfl ?_)
        intro s2 hs2
        refine S.op (S.q (q_assign rfl) rfl rfl ?_)
        first | with_reducible refine S.nilK ?_ | refine S.nil ?_
        with_reducible repeat (first | refine S.then_n ?_ | refine S.then_x ?_ | refine S.then_r ?_ | refine S.inBlock_n ?_ | refine S.inBlock_r ?_ | refine S.inBlock_x rfl ?_ | refine S.noGoto_r ?_ | refine S.noGoto_n ?_ | refine S.noGoto_x ?_)
        with_reducible repeat (first | refine S.then_n ?_ | refine S.then_x ?_ | refine S.then_r ?_ | refine S.inBlock_n ?_ | refine S.inBlock_r ?_ | refine S.inBlock_x rfl ?_ | refine S.noGoto_r ?_ | refine S.noGoto_n ?_ | refine S.noGoto_x ?_)
        first | exact S.next (left.eraseIdx i17).length ⟨left.eraseIdx i17, some ((x.id : Int), jbV x), jl.eraseIdx i17, dn ++ [x], s2, _, rfl, hle, hdn2, by omega, by omega, hdv2, rfl, rfl⟩ hlt (by repeat (first | exact trivial | refine ⟨rfl, ?_⟩)) Sub.ent | exact S.next (left.eraseIdx i17).length ⟨left.eraseIdx i17, some ((x.id : Int), jbV x), jl.eraseIdx i17, dn, sv, dv, rfl, hle, hdn2, by omega, hsv, hdv, rfl, rfl⟩ hlt (by repeat (first | exact trivial | refine ⟨rfl, ?_⟩)) Sub.ent
      · have hxr : ¬ x.row = r := by omega
        have h9 := hpe.filter (fun x => decide (x.row = r))
        rw [List.filter_cons_of_neg (by simpa using hxr)] at h9
        have hdn2 := (List.Perm.append_left dn h9.symm).trans hdn
        refine S.skip ?_
        with_reducible repeat (first | refine S.then_n ?_ | refine S.then_x ?_ | refine S.then_r ?_ | refine S.inBlock_n ?_ | refine S.inBlock_r ?_ | refine S.inBlock_x rfl ?_ | refine S.noGoto_r ?_ | refine S.noGoto_n ?_ | refine S.noGoto_x ?_)
        with_reducible repeat (first | refine S.then_n ?_ | refine S.then_x ?_ | refine S.then_r ?_ | refine S.inBlock_n ?_ | refine S.inBlock_r ?_ | refine S.inBlock_x rfl ?_ | refine S.noGoto_r ?_ | refine S.noGoto_n ?_ | refine S.noGoto_x ?_)
        with_reducible repeat (first | refine S.then_n ?_ | refine S.then_x ?_ | refine S.then_r ?_ | refine S.inBlock_n ?_ | refine S.inBlock_r ?_ | refine S.inBlock_x rfl ?_ | refine S.noGoto_r ?_ | refine S.noGoto_n ?_ | refine S.noGoto_x ?_)
        first | exact S.next (left.eraseIdx i17).length ⟨left.eraseIdx i17, some ((x.id : Int), jbV x), jl.eraseIdx i17, dn ++ [x], s2, _, rfl, hle, hdn2, by omega, by omega, hdv2, rfl, rfl⟩ hlt (by repeat (first | exact trivial | refine ⟨rfl, ?_⟩)) Sub.ent | exact S.next (left.eraseIdx i17).length ⟨left.eraseIdx i17, some ((x.id : Int), jbV x), jl.eraseIdx i17, dn, sv, dv, rfl, hle, hdn2, by omega, hsv, hdv, rfl, rfl⟩ hlt (by repeat (first | exact trivial | refine ⟨rfl, ?_⟩)) Sub.ent
end Go.Proofs.YtbhnbnecaejjiaaDoor
