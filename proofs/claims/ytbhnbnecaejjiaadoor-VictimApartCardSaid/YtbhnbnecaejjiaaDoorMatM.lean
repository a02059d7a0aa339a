/- The matrix in memory; what is asked of one place. -/
import Derived.Test.YtbhnbnecaejjiaaDoorMatP
import Derived.Test.YtbhnbnecaejjiaaDoorSetL
namespace Go.Proofs.YtbhnbnecaejjiaaDoor
open Go.RowKit
set_option maxRecDepth 20000
theorem alGet_iff {z : Int} {v : Value} : ∀ {l : List (Int × Value)}, (l.map (·.1)).Nodup → (alGet z l = some v ↔ (z, v) ∈ l)
  | [], _ => by simp [alGet]
  | x :: l, h => by
    rw [List.map_cons, List.nodup_cons] at h
    unfold alGet
    by_cases e : z = x.1
    · rw [if_pos e, List.mem_cons]
      constructor
      · intro e2
        cases e2
        exact .inl (by rw [e])
      · rintro (e2 | h2)
        · rw [← e2]
        · exact absurd (List.mem_map.2 ⟨_, h2, e⟩) h.1
    · rw [if_neg e, alGet_iff h.2, List.mem_cons]
      constructor
      · exact .inr
      · rintro (e2 | h2)
        · rw [← e2] at e; exact absurd rfl e
        · exact h2
theorem alPut_perm {z : Int} {v : Value} {l : List (Int × Value)} (h : z ∉ l.map (·.1)) : (alPut z v l).Perm ((z, v) :: l) := by
  cases e : alFind z l 0 with
  | none => rw [(alFind_none e).1]; exact List.perm_append_singleton _ _
  | some p =>
    obtain ⟨j, w⟩ := p
    obtain ⟨k, _, h2, _⟩ := alFind_some e
    exact absurd (List.mem_map.2 ⟨_, List.mem_of_getElem? h2, rfl⟩) h
theorem alDel_filter {z : Int} : ∀ {l : List (Int × Value)}, (l.map (·.1)).Nodup → alDel z l = l.filter fun x => decide (x.1 ≠ z)
  | [], _ => rfl
  | x :: l, h => by
    rw [List.map_cons, List.nodup_cons] at h
    unfold alDel
    by_cases e : z = x.1
    · rw [if_pos e, List.filter_cons_of_neg (by simp [e])]
      refine (List.filter_eq_self.2 fun y hy => ?_).symm
      have : y.1 ≠ z := fun e2 => h.1 (List.mem_map.2 ⟨y, hy, e2.trans e⟩)
      simpa using this
    · rw [if_neg e, List.filter_cons_of_pos (by simpa using fun e2 => e (Eq.symm e2)), alDel_filter h.2]
abbrev jbV (x : Jb) : Value := .agg #[.int .i64 (x.row : Int), bsv x.ns]
abbrev jbE (x : Jb) : Int × Value := ((x.id : Int), jbV x)
theorem keys_nodup {js : List Jb} (hs : js.Pairwise (fun a b => a.id < b.id)) : ((js.map jbE).map (·.1)).Nodup := by
  rw [List.map_map]
  exact List.pairwise_map.2 (hs.imp fun h e => by simp only [Function.comp] at e; omega)
theorem get_look {js : List Jb} {l : List (Int × Value)} (hs : js.Pairwise (fun a b => a.id < b.id)) (hl : l.Perm (js.map jbE)) (j : Nat) : alGet (j : Int) l = (look js j).map jbV := by
  have hn : (l.map (·.1)).Nodup := (hl.map (·.1)).nodup_iff.2 (keys_nodup hs)
  cases h : look js j with
  | none =>
    refine alGet_notin fun hm => ?_
    obtain ⟨p, hp, e⟩ := List.mem_map.1 hm
    obtain ⟨x, hx, rfl⟩ := List.mem_map.1 (hl.mem_iff.1 hp)
    exact look_none h x hx (by have e : (x.id : Int) = j := e; omega)
  | some x =>
    obtain ⟨h1, h2⟩ := look_some h
    exact (alGet_iff hn).2 (hl.mem_iff.2 (List.mem_map.2 ⟨x, h1, by rw [← h2]⟩))
theorem put_perm {js : List Jb} {l : List (Int × Value)} (hl : l.Perm (js.map jbE)) {x : Jb} (hn : ∀ y ∈ js, y.id ≠ x.id) : (alPut (x.id : Int) (jbV x) l).Perm ((addJ x js).map jbE) := by
  refine (alPut_perm fun hm => ?_).trans (((hl.cons _).trans (.refl _)).trans ((addJ_perm x js).map jbE).symm)
  obtain ⟨p, hp, e⟩ := List.mem_map.1 hm
  obtain ⟨y, hy, rfl⟩ := List.mem_map.1 (hl.mem_iff.1 hp)
  exact hn y hy (by have e : (y.id : Int) = x.id := e; omega)
theorem del_perm {js : List Jb} {l : List (Int × Value)} (hs : js.Pairwise (fun a b => a.id < b.id)) (hl : l.Perm (js.map jbE)) (j : Nat) : (alDel (j : Int) l).Perm ((delJ j js).map jbE) := by
  have hn : (l.map (·.1)).Nodup := (hl.map (·.1)).nodup_iff.2 (keys_nodup hs)
  have e : (delJ j js).map jbE = (js.map jbE).filter fun x => decide (x.1 ≠ (j : Int)) := by
    rw [delJ, List.filter_map]
    refine congrArg (List.map jbE) (List.filter_congr fun x _ => ?_)
    simp only [Function.comp, ne_eq, decide_not, Bool.not_eq_eq_eq_not, Bool.not_not, decide_eq_decide]
    omega
  rw [alDel_filter hn, e]
  exact hl.filter _
/-- What a matrix' block holds. -/
abbrev mxC (m : Mx) (mb : Nat) (tv : SV) : List Value := [.int .i64 (m.R : Int), .int .i64 (m.N : Int), bsv m.up, .map (some mb), tv.v]
def tks (m : Mx) : List Value := (List.range m.R).map fun r => bsv (tk m.js r)
theorem tks_len (m : Mx) : (tks m).length = m.R := by simp [tks]
theorem tks_get {m : Mx} {r : Nat} (h : r < m.R) : (tks m)[r]? = some (bsv (tk m.js r)) := by simp [tks, h]
theorem tks_set {m m' : Mx} {r : Nat} (hR : m'.R = m.R) (h : ∀ q, q < m.R → tk m'.js q = if r = q then tk m'.js r else tk m.js q) : (tks m).set r (bsv (tk m'.js r)) = tks m' := by
  refine List.ext_getElem? fun q => ?_
  rw [List.getElem?_set]
  by_cases hq : q < m.R
  · rw [tks_get (m := m') (by omega), tks_get hq, h q hq, tks_len]
    by_cases e : r = q
    · subst e
      simp [hq]
    · rw [if_neg e, if_neg e]
  · have h1 : (tks m)[q]? = none := List.getElem?_eq_none (by rw [tks_len]; omega)
    have h2 : (tks m')[q]? = none := List.getElem?_eq_none (by rw [tks_len]; omega)
    rw [h1, h2, tks_len]
    by_cases e : r = q
    · subst e; simp [hq]
    · rw [if_neg e]
/-- A matrix at block b. -/
def MI (b : Nat) (m : Mx) : Assn := fun h => ∃ (mb : Nat) (tv : SV) (l : List (Int × Value)), MxOk m ∧ l.Perm (m.js.map jbE) ∧ tv.n = m.R ∧ stars [blk b 99 (mxC m mb tv).toArray, mapL mb .u32 l, own tv 95 1 (tks m)] h
section
variable {n : Nat} {md : Bool} {w0 : WM md} {ρ : Env} {Γ Δ : List Assn} {φ : Act → World → Prop}
theorem S.miOpen (b : Nat) (m : Mx) [p : Pick (MI b m) Γ Δ] (k : ∀ mb tv l, MxOk m → l.Perm (m.js.map jbE) → tv.n = m.R → S n w0 ρ (blk b 99 (mxC m mb tv).toArray :: mapL mb .u32 l :: own tv 95 1 (tks m) :: Δ) φ) : S n w0 ρ Γ φ := by
  intro a w ha hs hx
  obtain ⟨h0, l0, h1, h2, d, l1, l2, ⟨mb, tv, l, q1, q2, q3, q4⟩, s⟩ := hs.ent p.ent
  exact k mb tv l q1 q2 q3 a w ha ⟨h0, l0, (Ent.unpack [blk b 99 (mxC m mb tv).toArray, mapL mb .u32 l, own tv 95 1 (tks m)] Δ) _ ⟨h1, h2, d, l1, l2, q4, s⟩⟩ hx
theorem S.miClose {b mb : Nat} {m : Mx} {tv : SV} {l : List (Int × Value)} {T e : TypeId} {cs : Array Value} {kk : IntKind} {sz : Nat} {xs : List Value} {Δ' Θ : List Assn} [p : HasB Γ b T cs Δ] [q : HasM Δ mb kk l Δ'] [r : HasOw Δ' tv e sz xs Θ]
    (e1 : blk b T cs = blk b 99 (mxC m mb tv).toArray) (e2 : mapL mb kk l = mapL mb .u32 l) (e3 : own tv e sz xs = own tv 95 1 (tks m)) (h1 : MxOk m) (h2 : l.Perm (m.js.map jbE)) (h3 : tv.n = m.R)
    (k : S n w0 ρ (MI b m :: Θ) φ) : S n w0 ρ Γ φ := by
  have q1 : Ent Γ (blk b 99 (mxC m mb tv).toArray :: mapL mb .u32 l :: own tv 95 1 (tks m) :: Θ) := by
    rw [← e1, ← e2, ← e3]
    exact p.ent.trans (Ent.cons _ (q.ent.trans (Ent.cons _ r.ent)))
  exact S.ent (q1.trans ((Ent.pack [blk b 99 (mxC m mb tv).toArray, mapL mb .u32 l, own tv 95 1 (tks m)] Θ).trans (Ent.mono1 Θ fun _ s => ⟨mb, tv, l, h1, h2, h3, s⟩))) k
/-- What may be said of any matrix that lies there. -/
theorem S.miOk (b : Nat) (m : Mx) [p : Pick (MI b m) Γ Δ] (k : MxOk m → S n w0 ρ Γ φ) : S n w0 ρ Γ φ := by
  intro a w ha hs hx
  obtain ⟨h0, _, _, _, _, q1, _⟩ := (hs.ent p.ent).head
  obtain ⟨_, _, _, q1, _⟩ := (hs.ent p.ent).head.choose_spec.2
  exact k q1 a w ha hs hx
end
theorem Spec.miOk {b : Nat} {m : Mx} {P : Program} {f : FuncId} {args : List Value} {pre : List Assn} {post : List Assn → Value → List Assn → Prop} {md : Bool} (h : MxOk m → Spec P f args (MI b m :: pre) post md) : Spec P f args (MI b m :: pre) post md := by
  intro Γ w hs
  obtain ⟨_, _, _, _, _, q1, _⟩ := hs.head
  exact h q1 Γ w hs
def nodeB (m : Mx) (z : Int) : Bool := decide (0 ≤ z) && decide (z < m.N)
def rowB (m : Mx) (z : Int) : Bool := decide (0 ≤ z) && decide (z < m.R)
theorem node_S (b : Nat) (m : Mx) (z : Int) : Spec Tryd.prog 49 [.pointer (some ⟨b, 0, none⟩), .int .i64 z] [MI b m] fun Γ v Θ => v = .bool (nodeB m z) ∧ Θ = MI b m :: Γ := by
  refine Spec.of_body Tryd.func49 rfl Tryd.ntmps49 rfl ?_
  intro w0 Γ
  show S _ w0 [(0, .pointer (some ⟨b, 0, none⟩)), (1, .int .i64 z)] (MI b m :: Γ) _
  refine S.miOpen b m fun mb tv l hok hp htn => ?_
  refine S.seq fun K1 hK1 => ?_
  refine S.region rfl ?_
  refine S.op (S.q (q_assign rfl) rfl rfl ?_)
  first | with_reducible refine S.nilK ?_ | refine S.nil ?_
  refine hK1 _ _ ?_
  refine S.seq fun K2 hK2 => ?_
  refine S.regionG ?_
  refine S.g_op rfl (S.q (q_move rfl) rfl rfl ?_)
  refine S.g_op rfl (S.q (q_neN Tryd.underlying24 rfl rfl) rfl rfl ?_)
  refine S.g_op rfl (S.q (q_move rfl) rfl rfl ?_)
  refine S.g_yes rfl rfl rfl (rfl) (S.q (q_move rfl) rfl rfl ?_)
  refine S.g_yes rfl rfl rfl (rfl) (S.q (q_ge rfl rfl) rfl rfl ?_)
  refine S.g_op rfl (S.q (q_pickT rfl (rfl) rfl) rfl rfl ?_)
  refine S.g_op rfl (S.q (q_move rfl) rfl rfl ?_)
  by_cases hg1_6 : (0 : Int) ≤ z
  · refine S.g_yes rfl rfl rfl (decide_eq_true hg1_6) (S.q (q_move rfl) rfl rfl ?_)
    refine S.g_yes rfl rfl rfl (decide_eq_true hg1_6) (S.q (q_move rfl) rfl rfl ?_)
    refine S.g_yes rfl rfl rfl (decide_eq_true hg1_6) (S.q (q_nilCheck rfl) rfl rfl ?_)
    refine S.g_yes rfl rfl rfl (decide_eq_true hg1_6) (S.q (q_field Tryd.fo99_1 rfl) rfl rfl ?_)
    refine S.g_yes rfl rfl rfl (decide_eq_true hg1_6) (S.q (q_load Tryd.at3 rfl rfl) rfl rfl ?_)
    refine S.g_yes rfl rfl rfl (decide_eq_true hg1_6) (S.q (q_lt rfl rfl) rfl rfl ?_)
    refine S.g_op rfl (S.q (q_pickT rfl (decide_eq_true hg1_6) rfl) rfl rfl ?_)
    refine S.g_op rfl (S.q (q_assign rfl) rfl rfl ?_)
    first | with_reducible refine S.g_nilK ?_ | refine S.g_nil ?_
    refine hK2 _ _ ?_
    refine S.ret ?_
    with_reducible repeat (first | refine S.then_n ?_ | refine S.then_x ?_ | refine S.then_r ?_ | refine S.inBlock_n ?_ | refine S.inBlock_r ?_ | refine S.inBlock_x rfl ?_ | refine S.noGoto_r ?_ | refine S.noGoto_n ?_ | refine S.noGoto_x ?_)
    refine S.miClose (b := b) (m := m) (mb := mb) (tv := tv) rfl rfl rfl hok hp htn ?_
    exact S.fin (rs := [_]) (vs := [_]) Tryd.results49 (⟨rfl, trivial⟩)  (⟨by simp only [resV, nodeB]; simp [*], rfl⟩) Sub.ent
  · refine S.g_no rfl rfl rfl (decide_eq_false hg1_6) rfl rfl ?_
    refine S.g_no rfl rfl rfl (decide_eq_false hg1_6) rfl rfl ?_
    refine S.g_no rfl rfl rfl (decide_eq_false hg1_6) rfl rfl ?_
    refine S.g_no rfl rfl rfl (decide_eq_false hg1_6) rfl rfl ?_
    refine S.g_no rfl rfl rfl (decide_eq_false hg1_6) rfl rfl ?_
    refine S.g_no rfl rfl rfl (decide_eq_false hg1_6) rfl rfl ?_
    refine S.g_op rfl (S.q (q_pickF rfl (decide_eq_false hg1_6) rfl) rfl rfl ?_)
    refine S.g_op rfl (S.q (q_assign rfl) rfl rfl ?_)
    first | with_reducible refine S.g_nilK ?_ | refine S.g_nil ?_
    refine hK2 _ _ ?_
    refine S.ret ?_
    with_reducible repeat (first | refine S.then_n ?_ | refine S.then_x ?_ | refine S.then_r ?_ | refine S.inBlock_n ?_ | refine S.inBlock_r ?_ | refine S.inBlock_x rfl ?_ | refine S.noGoto_r ?_ | refine S.noGoto_n ?_ | refine S.noGoto_x ?_)
    refine S.miClose (b := b) (m := m) (mb := mb) (tv := tv) rfl rfl rfl hok hp htn ?_
    exact S.fin (rs := [_]) (vs := [_]) Tryd.results49 (⟨rfl, trivial⟩)  (⟨by simp only [resV, nodeB]; simp [*], rfl⟩) Sub.ent
theorem row_S (b : Nat) (m : Mx) (z : Int) : Spec Tryd.prog 45 [.pointer (some ⟨b, 0, none⟩), .int .i64 z] [MI b m] fun Γ v Θ => v = .bool (rowB m z) ∧ Θ = MI b m :: Γ := by
  refine Spec.of_body Tryd.func45 rfl Tryd.ntmps45 rfl ?_
  intro w0 Γ
  show S _ w0 [(0, .pointer (some ⟨b, 0, none⟩)), (1, .int .i64 z)] (MI b m :: Γ) _
  refine S.miOpen b m fun mb tv l hok hp htn => ?_
  refine S.seq fun K1 hK1 => ?_
  refine S.region rfl ?_
  refine S.op (S.q (q_assign rfl) rfl rfl ?_)
  first | with_reducible refine S.nilK ?_ | refine S.nil ?_
  refine hK1 _ _ ?_
  refine S.seq fun K2 hK2 => ?_
  refine S.regionG ?_
  refine S.g_op rfl (S.q (q_move rfl) rfl rfl ?_)
  refine S.g_op rfl (S.q (q_neN Tryd.underlying24 rfl rfl) rfl rfl ?_)
  refine S.g_op rfl (S.q (q_move rfl) rfl rfl ?_)
  refine S.g_yes rfl rfl rfl (rfl) (S.q (q_move rfl) rfl rfl ?_)
  refine S.g_yes rfl rfl rfl (rfl) (S.q (q_ge rfl rfl) rfl rfl ?_)
  refine S.g_op rfl (S.q (q_pickT rfl (rfl) rfl) rfl rfl ?_)
  refine S.g_op rfl (S.q (q_move rfl) rfl rfl ?_)
  by_cases hg1_6 : (0 : Int) ≤ z
  · refine S.g_yes rfl rfl rfl (decide_eq_true hg1_6) (S.q (q_move rfl) rfl rfl ?_)
    refine S.g_yes rfl rfl rfl (decide_eq_true hg1_6) (S.q (q_move rfl) rfl rfl ?_)
    refine S.g_yes rfl rfl rfl (decide_eq_true hg1_6) (S.q (q_nilCheck rfl) rfl rfl ?_)
    refine S.g_yes rfl rfl rfl (decide_eq_true hg1_6) (S.q (q_field Tryd.fo99_0 rfl) rfl rfl ?_)
    refine S.g_yes rfl rfl rfl (decide_eq_true hg1_6) (S.q (q_load Tryd.at3 rfl rfl) rfl rfl ?_)
    refine S.g_yes rfl rfl rfl (decide_eq_true hg1_6) (S.q (q_lt rfl rfl) rfl rfl ?_)
    refine S.g_op rfl (S.q (q_pickT rfl (decide_eq_true hg1_6) rfl) rfl rfl ?_)
    refine S.g_op rfl (S.q (q_assign rfl) rfl rfl ?_)
    first | with_reducible refine S.g_nilK ?_ | refine S.g_nil ?_
    refine hK2 _ _ ?_
    refine S.ret ?_
    with_reducible repeat (first | refine S.then_n ?_ | refine S.then_x ?_ | refine S.then_r ?_ | refine S.inBlock_n ?_ | refine S.inBlock_r ?_ | refine S.inBlock_x rfl ?_ | refine S.noGoto_r ?_ | refine S.noGoto_n ?_ | refine S.noGoto_x ?_)
    refine S.miClose (b := b) (m := m) (mb := mb) (tv := tv) rfl rfl rfl hok hp htn ?_
    exact S.fin (rs := [_]) (vs := [_]) Tryd.results45 (⟨rfl, trivial⟩)  (⟨by simp only [resV, rowB]; simp [*], rfl⟩) Sub.ent
  · refine S.g_no rfl rfl rfl (decide_eq_false hg1_6) rfl rfl ?_
    refine S.g_no rfl rfl rfl (decide_eq_false hg1_6) rfl rfl ?_
    refine S.g_no rfl rfl rfl (decide_eq_false hg1_6) rfl rfl ?_
    refine S.g_no rfl rfl rfl (decide_eq_false hg1_6) rfl rfl ?_
    refine S.g_no rfl rfl rfl (decide_eq_false hg1_6) rfl rfl ?_
    refine S.g_no rfl rfl rfl (decide_eq_false hg1_6) rfl rfl ?_
    refine S.g_op rfl (S.q (q_pickF rfl (decide_eq_false hg1_6) rfl) rfl rfl ?_)
    refine S.g_op rfl (S.q (q_assign rfl) rfl rfl ?_)
    first | with_reducible refine S.g_nilK ?_ | refine S.g_nil ?_
    refine hK2 _ _ ?_
    refine S.ret ?_
    with_reducible repeat (first | refine S.then_n ?_ | refine S.then_x ?_ | refine S.then_r ?_ | refine S.inBlock_n ?_ | refine S.inBlock_r ?_ | refine S.inBlock_x rfl ?_ | refine S.noGoto_r ?_ | refine S.noGoto_n ?_ | refine S.noGoto_x ?_)
    refine S.miClose (b := b) (m := m) (mb := mb) (tv := tv) rfl rfl rfl hok hp htn ?_
    exact S.fin (rs := [_]) (vs := [_]) Tryd.results45 (⟨rfl, trivial⟩)  (⟨by simp only [resV, rowB]; simp [*], rfl⟩) Sub.ent
theorem stands_S (b : Nat) (m : Mx) (j : Nat) : Spec Tryd.prog 59 [.pointer (some ⟨b, 0, none⟩), .int .u32 (j : Int)] [MI b m] fun Γ v Θ => v = .bool (look m.js j).isSome ∧ Θ = MI b m :: Γ := by
  refine Spec.of_body Tryd.func59 rfl Tryd.ntmps59 rfl ?_
  intro w0 Γ
  show S _ w0 [(0, .pointer (some ⟨b, 0, none⟩)), (1, .int .u32 (j : Int))] (MI b m :: Γ) _
  refine S.miOpen b m fun mb tv l hok hp htn => ?_
  have hg := get_look hok.srt hp j
  have hj : ∃ r s, ((look m.js j).map jbV).getD (.agg #[.int .i64 0, .int .u16 0]) = .agg #[.int .i64 r, .int .u16 s] := by
    cases look m.js j with
    | none => exact ⟨0, 0, rfl⟩
    | some x => exact ⟨_, _, rfl⟩
  obtain ⟨jr, jn, hj⟩ := hj
  refine S.seq fun K1 hK1 => ?_
  refine S.region rfl ?_
  refine S.op (S.q (q_assign rfl) rfl rfl ?_)
  first | with_reducible refine S.nilK ?_ | refine S.nil ?_
  refine hK1 _ _ ?_
  refine S.seq fun K2 hK2 => ?_
  refine S.region rfl ?_
  refine S.op (S.q (q_move rfl) rfl rfl ?_)
  refine S.op (S.q (q_nilCheck rfl) rfl rfl ?_)
  refine S.op (S.q (q_field Tryd.fo99_3 rfl) rfl rfl ?_)
  refine S.op (S.q (q_load Tryd.at96 rfl rfl) rfl rfl ?_)
  refine S.op (S.q (q_move rfl) rfl rfl ?_)
  refine S.op (S.q (q_lookupOk (.agg #[.int .i64 jr, .int .u16 jn]) ((look m.js j).isSome) Tryd.underlying96 Tryd.underlying36 Tryd.zv102 rfl rfl rfl (by rw [hg]; cases h : look m.js j with | none => rw [h] at hj; exact Prod.ext hj.symm rfl | some x => rw [h] at hj; exact Prod.ext hj.symm rfl)) rfl rfl ?_)
  refine S.op (S.q (q_move rfl) rfl rfl ?_)
  refine S.op (S.q (q_extract rfl rfl) rfl rfl ?_)
  refine S.op (S.q (q_extract rfl rfl) rfl rfl ?_)
  refine S.op (S.alloc Tryd.z102 rfl ?_)
  intro b5
  refine S.op (S.storeS (cs' := [_, _]) Tryd.ag102 rfl rfl rfl rfl rfl rfl ?_)
  refine S.op (S.q (q_assign rfl) rfl rfl ?_)
  first | with_reducible refine S.nilK ?_ | refine S.nil ?_
  refine hK2 _ _ ?_
  refine S.seq fun K3 hK3 => ?_
  refine S.region rfl ?_
  refine S.op (S.q (q_move rfl) rfl rfl ?_)
  refine S.op (S.q (q_assign rfl) rfl rfl ?_)
  first | with_reducible refine S.nilK ?_ | refine S.nil ?_
  refine hK3 _ _ ?_
  refine S.ret ?_
  with_reducible repeat (first | refine S.then_n ?_ | refine S.then_x ?_ | refine S.then_r ?_ | refine S.inBlock_n ?_ | refine S.inBlock_r ?_ | refine S.inBlock_x rfl ?_ | refine S.noGoto_r ?_ | refine S.noGoto_n ?_ | refine S.noGoto_x ?_)
  refine S.miClose (b := b) (m := m) (mb := mb) (tv := tv) rfl rfl rfl hok hp htn ?_
  exact S.fin (rs := [_]) (vs := [_]) Tryd.results59 (⟨rfl, trivial⟩)  (⟨rfl, rfl⟩) Sub.ent
end Go.Proofs.YtbhnbnecaejjiaaDoor
