/- Air: bytes, the closure, cmp.Compare, slices.BinarySearchFunc, slices.Delete, New. -/
import Derived.Test.YthbckdjncmipeaaDel
import Derived.Test.YthbckdjncmipeaaFacts
namespace Go.Proofs.Ythbckdjncmipeaa
open Go.RowKit
/-- Bytes that are owned. -/
abbrev obytes (s : SV) (l : List Int) : Assn := own s 5 1 (bcells l)
theorem obytes_len {u : SV} {l : List Int} {h : HL} (p : obytes u l h) : u.n = l.length := by have := p.1; simp [bcells] at this; exact this.symm
theorem obytes_at {u : SV} {l : List Int} {Γ : List Assn} {w : World} (h : Sat w (obytes u l :: Γ)) : BytesAt w u.v l := by
  obtain ⟨x, lx, p⟩ := h.head
  have := (own.toOwn (own.mono p lx)).sl
  unfold BytesAt
  rw [← obytes_len p]
  exact this
theorem bytes_in {Γ Δ : List Assn} {g : SV} {l : List Int} [h : HasOw Γ g 5 1 (bcells l) Δ] {w : World} (hs : Sat w Γ) : BytesAt w g.v l := obytes_at (hs.ent h.ent)
theorem Clone_S (p : Value) (l : List Int) (R : Assn) (hR : ∀ Γ w, Sat w (R :: Γ) → BytesAt w p l) (hl : l.length ≤ 140737488355328) : Spec Try.prog 23 [p] [R] fun Γ v Θ => ∃ s, v = s.v ∧ s.n = l.length ∧ Θ = obytes s l :: R :: Γ := by
  intro Γ w hs
  refine (Clone_any p l w (hR _ _ hs) hl).mono ?_
  rintro e w' ⟨d, rfl, g, own, hb, hg⟩
  obtain ⟨_, ao, c, rfl, _⟩ := own.sl
  refine ⟨_, _, rfl, ⟨⟨ao, l.length, c⟩, rfl, rfl, rfl⟩, ?_, ⟨hb.os, hb.tape, hb.output, hb.size⟩⟩
  exact hs.addOwn own hb.block hg
/-- A datagram that flies. -/
structure Flt where
  id : Int
  dst : Int
  v : SV
  data : List Int
abbrev fltC (x : Flt) : List Value := [.int .u64 x.id, .int .i64 x.dst, x.v.v]
theorem fltC_len : ∀ x, (fltC x).length = 3 := fun _ => rfl
def fltB (x : Flt) : Assn := obytes x.v x.data
theorem flt_one (os : List Flt) : ∀ u ∈ os.flatMap fltC, u.oneCell' = true := by
  intro u hu
  obtain ⟨x, _, h⟩ := List.mem_flatMap.1 hu
  simp only [fltC, List.mem_cons, List.not_mem_nil, or_false] at h
  rcases h with rfl | rfl | rfl <;> rfl
abbrev airC (most next : Int) (lv : SV) : List Value := [.int .i64 most, .int .u64 next, lv.v]
theorem New_S (k : Int) (h : 1 ≤ k ∧ k ≤ 2048) : Spec Try.prog 8 [.int .i64 k] [] fun Γ v Θ => ∃ t, v = .tuple #[.pointer (some ⟨t, 0, none⟩), .int .i64 0] ∧ Θ = blk t 67 (airC k 1 SV.nil).toArray :: Γ := by
  refine Spec.of_body Try.func8 rfl Try.ntmps8 rfl ?_
  intro w0 Γ
  show S _ w0 [(0, .int .i64 k)] Γ _
  refine S.seq fun K1 hK1 => ?_
  refine S.region rfl ?_
  refine S.op (S.q (q_assign rfl) rfl rfl ?_)
  refine S.op (S.q (q_assign rfl) rfl rfl ?_)
  first | with_reducible refine S.nilK ?_ | refine S.nil ?_
  refine hK1 _ _ ?_
  refine S.seq fun K2 hK2 => ?_
  refine S.seq fun K3 hK3 => ?_
  refine S.regionG ?_
  refine S.g_op rfl (S.q (q_move rfl) rfl rfl ?_)
  refine S.g_op rfl (S.q (q_lt rfl rfl) rfl rfl ?_)
  refine S.g_op rfl (S.q (q_move rfl) rfl rfl ?_)
  by_cases hg1_2 : k < 1
  · exact absurd hg1_2 (by omega)
  · refine S.g_yes rfl rfl rfl (decide_eq_false hg1_2) (S.q (q_move rfl) rfl rfl ?_)
    refine S.g_yes rfl rfl rfl (decide_eq_false hg1_2) (S.q (q_gt rfl rfl) rfl rfl ?_)
    refine S.g_op rfl (S.q (q_pickF rfl (decide_eq_false hg1_2) rfl) rfl rfl ?_)
    first | with_reducible refine S.g_nilK ?_ | refine S.g_nil ?_
    refine hK3 _ _ ?_
    refine S.condD rfl (fun h1 => ?_) (fun h1 => ?_)
    · exact absurd h1 (by omega)
    · refine S.skip ?_
      with_reducible repeat (first | refine S.then_n ?_ | refine S.then_x ?_ | refine S.then_r ?_ | refine S.inBlock_n ?_ | refine S.inBlock_r ?_ | refine S.inBlock_x rfl ?_ | refine S.noGoto_r ?_ | refine S.noGoto_n ?_ | refine S.noGoto_x ?_)
      refine hK2 _ _ ?_
      refine S.seq fun K4 hK4 => ?_
      refine S.region rfl ?_
      refine S.op (S.q (q_move rfl) rfl rfl ?_)
      refine S.op (S.q (q_build (pvs := [(_, _), (_, _)]) [_, _, _] Try.z67 Try.p67 ⟨⟨rfl, rfl⟩, ⟨rfl, rfl⟩, trivial⟩ rfl) rfl rfl ?_)
      refine S.op (S.box (cs := [_, _, _]) rfl rfl rfl ?_)
      intro b12
      refine S.op (S.q (q_assign rfl) rfl rfl ?_)
      refine S.op (S.q (q_assign rfl) rfl rfl ?_)
      first | with_reducible refine S.nilK ?_ | refine S.nil ?_
      refine hK4 _ _ ?_
      refine S.ret ?_
      with_reducible repeat (first | refine S.then_n ?_ | refine S.then_x ?_ | refine S.then_r ?_ | refine S.inBlock_n ?_ | refine S.inBlock_r ?_ | refine S.inBlock_x rfl ?_ | refine S.noGoto_r ?_ | refine S.noGoto_n ?_ | refine S.noGoto_x ?_)
      exact S.fin (rs := [_, _]) (vs := [_, _]) Try.results8 (⟨rfl, rfl, trivial⟩)  (⟨b12, rfl, rfl⟩) Sub.ent
theorem NewNo_S (k : Int) (h : ¬ (1 ≤ k ∧ k ≤ 2048)) : Spec Try.prog 8 [.int .i64 k] [] fun Γ v Θ => v = .tuple #[.pointer none, .int .i64 1] ∧ Θ = Γ := by
  refine Spec.of_body Try.func8 rfl Try.ntmps8 rfl ?_
  intro w0 Γ
  show S _ w0 [(0, .int .i64 k)] Γ _
  refine S.seq fun K1 hK1 => ?_
  refine S.region rfl ?_
  refine S.op (S.q (q_assign rfl) rfl rfl ?_)
  refine S.op (S.q (q_assign rfl) rfl rfl ?_)
  first | with_reducible refine S.nilK ?_ | refine S.nil ?_
  refine hK1 _ _ ?_
  refine S.seq fun K2 hK2 => ?_
  refine S.seq fun K3 hK3 => ?_
  refine S.regionG ?_
  refine S.g_op rfl (S.q (q_move rfl) rfl rfl ?_)
  refine S.g_op rfl (S.q (q_lt rfl rfl) rfl rfl ?_)
  refine S.g_op rfl (S.q (q_move rfl) rfl rfl ?_)
  by_cases hg1_2 : k < 1
  · refine S.g_no rfl rfl rfl (decide_eq_true hg1_2) rfl rfl ?_
    refine S.g_no rfl rfl rfl (decide_eq_true hg1_2) rfl rfl ?_
    refine S.g_op rfl (S.q (q_pickT rfl (decide_eq_true hg1_2) rfl) rfl rfl ?_)
    first | with_reducible refine S.g_nilK ?_ | refine S.g_nil ?_
    refine hK3 _ _ ?_
    refine S.condT rfl ?_
    refine S.seq fun K4 hK4 => ?_
    refine S.region rfl ?_
    refine S.op (S.q (q_assign rfl) rfl rfl ?_)
    refine S.op (S.q (q_assign rfl) rfl rfl ?_)
    first | with_reducible refine S.nilK ?_ | refine S.nil ?_
    refine hK4 _ _ ?_
    refine S.ret ?_
    with_reducible repeat (first | refine S.then_n ?_ | refine S.then_x ?_ | refine S.then_r ?_ | refine S.inBlock_n ?_ | refine S.inBlock_r ?_ | refine S.inBlock_x rfl ?_ | refine S.noGoto_r ?_ | refine S.noGoto_n ?_ | refine S.noGoto_x ?_)
    exact S.fin (rs := [_, _]) (vs := [_, _]) Try.results8 (⟨rfl, rfl, trivial⟩)  (⟨rfl, rfl⟩) Sub.ent
  · refine S.g_yes rfl rfl rfl (decide_eq_false hg1_2) (S.q (q_move rfl) rfl rfl ?_)
    refine S.g_yes rfl rfl rfl (decide_eq_false hg1_2) (S.q (q_gt rfl rfl) rfl rfl ?_)
    refine S.g_op rfl (S.q (q_pickF rfl (decide_eq_false hg1_2) rfl) rfl rfl ?_)
    first | with_reducible refine S.g_nilK ?_ | refine S.g_nil ?_
    refine hK3 _ _ ?_
    refine S.condD rfl (fun h1 => ?_) (fun h1 => ?_)
    · refine S.seq fun K5 hK5 => ?_
      refine S.region rfl ?_
      refine S.op (S.q (q_assign rfl) rfl rfl ?_)
      refine S.op (S.q (q_assign rfl) rfl rfl ?_)
      first | with_reducible refine S.nilK ?_ | refine S.nil ?_
      refine hK5 _ _ ?_
      refine S.ret ?_
      with_reducible repeat (first | refine S.then_n ?_ | refine S.then_x ?_ | refine S.then_r ?_ | refine S.inBlock_n ?_ | refine S.inBlock_r ?_ | refine S.inBlock_x rfl ?_ | refine S.noGoto_r ?_ | refine S.noGoto_n ?_ | refine S.noGoto_x ?_)
      exact S.fin (rs := [_, _]) (vs := [_, _]) Try.results8 (⟨rfl, rfl, trivial⟩)  (⟨rfl, rfl⟩) Sub.ent
    · exact absurd h1 (by omega)
theorem isNaN_P (x : Int) (W : World) : PureS Try.prog 29 [.int .u64 x] W (.bool false) := by
  refine Spec.of_body Try.func29 rfl Try.ntmps29 rfl ?_
  intro w0 Γ
  show S _ w0 [(0, .int .u64 x)] (old W :: Γ) _
  refine S.seq fun K1 hK1 => ?_
  refine S.region rfl ?_
  refine S.op (S.q (q_assign rfl) rfl rfl ?_)
  first | with_reducible refine S.nilK ?_ | refine S.nil ?_
  refine hK1 _ _ ?_
  refine S.seq fun K2 hK2 => ?_
  refine S.region rfl ?_
  refine S.op (S.q (q_move rfl) rfl rfl ?_)
  refine S.op (S.q (q_move rfl) rfl rfl ?_)
  refine S.op (S.q (q_ne rfl rfl) rfl rfl ?_)
  refine S.op (S.q (q_assign rfl) rfl rfl ?_)
  first | with_reducible refine S.nilK ?_ | refine S.nil ?_
  refine hK2 _ _ ?_
  refine S.ret ?_
  with_reducible repeat (first | refine S.then_n ?_ | refine S.then_x ?_ | refine S.then_r ?_ | refine S.inBlock_n ?_ | refine S.inBlock_r ?_ | refine S.inBlock_x rfl ?_ | refine S.noGoto_r ?_ | refine S.noGoto_n ?_ | refine S.noGoto_x ?_)
  exact S.fin (rs := [_]) (vs := [_]) Try.results29 (⟨rfl, trivial⟩)  (⟨by simp [resV], rfl⟩) Sub.ent
abbrev cmpI (a b : Int) : Int := if a < b then -1 else if b < a then 1 else 0
theorem Compare_P (x y : Int) (W : World) : PureS Try.prog 28 [.int .u64 x, .int .u64 y] W (.int .i64 (cmpI x y)) := by
  refine Spec.of_body Try.func28 rfl Try.ntmps28 rfl ?_
  intro w0 Γ
  show S _ w0 [(0, .int .u64 x), (1, .int .u64 y)] (old W :: Γ) _
  refine S.seq fun K1 hK1 => ?_
  refine S.region rfl ?_
  refine S.op (S.q (q_assign rfl) rfl rfl ?_)
  first | with_reducible refine S.nilK ?_ | refine S.nil ?_
  refine hK1 _ _ ?_
  refine S.seq fun K2 hK2 => ?_
  refine S.region rfl ?_
  refine S.op (S.q (q_move rfl) rfl rfl ?_)
  refine S.op (S.callP Try.en29 (vs := [_]) ⟨rfl, trivial⟩ (fun w hs => isNaN_P x w) rfl ?_)
  refine S.op (S.q (q_assign rfl) rfl rfl ?_)
  first | with_reducible refine S.nilK ?_ | refine S.nil ?_
  refine hK2 _ _ ?_
  refine S.seq fun K3 hK3 => ?_
  refine S.region rfl ?_
  refine S.op (S.q (q_move rfl) rfl rfl ?_)
  refine S.op (S.callP Try.en29 (vs := [_]) ⟨rfl, trivial⟩ (fun w hs => isNaN_P y w) rfl ?_)
  refine S.op (S.q (q_assign rfl) rfl rfl ?_)
  first | with_reducible refine S.nilK ?_ | refine S.nil ?_
  refine hK3 _ _ ?_
  refine S.seq fun K4 hK4 => ?_
  refine S.seq fun K5 hK5 => ?_
  refine S.region rfl ?_
  refine S.op (S.q (q_move rfl) rfl rfl ?_)
  first | with_reducible refine S.nilK ?_ | refine S.nil ?_
  refine hK5 _ _ ?_
  refine S.condF rfl ?_
  refine S.skip ?_
  with_reducible repeat (first | refine S.then_n ?_ | refine S.then_x ?_ | refine S.then_r ?_ | refine S.inBlock_n ?_ | refine S.inBlock_r ?_ | refine S.inBlock_x rfl ?_ | refine S.noGoto_r ?_ | refine S.noGoto_n ?_ | refine S.noGoto_x ?_)
  refine hK4 _ _ ?_
  refine S.seq fun K6 hK6 => ?_
  refine S.seq fun K7 hK7 => ?_
  refine S.region rfl ?_
  refine S.op (S.q (q_move rfl) rfl rfl ?_)
  first | with_reducible refine S.nilK ?_ | refine S.nil ?_
  refine hK7 _ _ ?_
  refine S.condF rfl ?_
  refine S.skip ?_
  with_reducible repeat (first | refine S.then_n ?_ | refine S.then_x ?_ | refine S.then_r ?_ | refine S.inBlock_n ?_ | refine S.inBlock_r ?_ | refine S.inBlock_x rfl ?_ | refine S.noGoto_r ?_ | refine S.noGoto_n ?_ | refine S.noGoto_x ?_)
  refine hK6 _ _ ?_
  refine S.seq fun K8 hK8 => ?_
  refine S.seq fun K9 hK9 => ?_
  refine S.region rfl ?_
  refine S.op (S.q (q_move rfl) rfl rfl ?_)
  refine S.op (S.q (q_move rfl) rfl rfl ?_)
  refine S.op (S.q (q_lt rfl rfl) rfl rfl ?_)
  first | with_reducible refine S.nilK ?_ | refine S.nil ?_
  refine hK9 _ _ ?_
  refine S.condD rfl (fun h4 => ?_) (fun h4 => ?_)
  · refine S.seq fun K10 hK10 => ?_
    refine S.region rfl ?_
    refine S.op (S.q (q_assign rfl) rfl rfl ?_)
    first | with_reducible refine S.nilK ?_ | refine S.nil ?_
    refine hK10 _ _ ?_
    refine S.ret ?_
    with_reducible repeat (first | refine S.then_n ?_ | refine S.then_x ?_ | refine S.then_r ?_ | refine S.inBlock_n ?_ | refine S.inBlock_r ?_ | refine S.inBlock_x rfl ?_ | refine S.noGoto_r ?_ | refine S.noGoto_n ?_ | refine S.noGoto_x ?_)
    exact S.fin (rs := [_]) (vs := [_]) Try.results28 (⟨rfl, trivial⟩)  (⟨by simp only [resV, cmpI]; simp [*], rfl⟩) Sub.ent
  · refine S.skip ?_
    with_reducible repeat (first | refine S.then_n ?_ | refine S.then_x ?_ | refine S.then_r ?_ | refine S.inBlock_n ?_ | refine S.inBlock_r ?_ | refine S.inBlock_x rfl ?_ | refine S.noGoto_r ?_ | refine S.noGoto_n ?_ | refine S.noGoto_x ?_)
    refine hK8 _ _ ?_
    refine S.seq fun K11 hK11 => ?_
    refine S.seq fun K12 hK12 => ?_
    refine S.region rfl ?_
    refine S.op (S.q (q_move rfl) rfl rfl ?_)
    refine S.op (S.q (q_move rfl) rfl rfl ?_)
    refine S.op (S.q (q_gt rfl rfl) rfl rfl ?_)
    first | with_reducible refine S.nilK ?_ | refine S.nil ?_
    refine hK12 _ _ ?_
    refine S.condD rfl (fun h5 => ?_) (fun h5 => ?_)
    · refine S.seq fun K13 hK13 => ?_
      refine S.region rfl ?_
      refine S.op (S.q (q_assign rfl) rfl rfl ?_)
      first | with_reducible refine S.nilK ?_ | refine S.nil ?_
      refine hK13 _ _ ?_
      refine S.ret ?_
      with_reducible repeat (first | refine S.then_n ?_ | refine S.then_x ?_ | refine S.then_r ?_ | refine S.inBlock_n ?_ | refine S.inBlock_r ?_ | refine S.inBlock_x rfl ?_ | refine S.noGoto_r ?_ | refine S.noGoto_n ?_ | refine S.noGoto_x ?_)
      exact S.fin (rs := [_]) (vs := [_]) Try.results28 (⟨rfl, trivial⟩)  (⟨by simp only [resV, cmpI]; simp [*], rfl⟩) Sub.ent
    · refine S.skip ?_
      with_reducible repeat (first | refine S.then_n ?_ | refine S.then_x ?_ | refine S.then_r ?_ | refine S.inBlock_n ?_ | refine S.inBlock_r ?_ | refine S.inBlock_x rfl ?_ | refine S.noGoto_r ?_ | refine S.noGoto_n ?_ | refine S.noGoto_x ?_)
      refine hK11 _ _ ?_
      refine S.seq fun K14 hK14 => ?_
      refine S.region rfl ?_
      refine S.op (S.q (q_assign rfl) rfl rfl ?_)
      first | with_reducible refine S.nilK ?_ | refine S.nil ?_
      refine hK14 _ _ ?_
      refine S.ret ?_
      with_reducible repeat (first | refine S.then_n ?_ | refine S.then_x ?_ | refine S.then_r ?_ | refine S.inBlock_n ?_ | refine S.inBlock_r ?_ | refine S.inBlock_x rfl ?_ | refine S.noGoto_r ?_ | refine S.noGoto_n ?_ | refine S.noGoto_x ?_)
      exact S.fin (rs := [_]) (vs := [_]) Try.results28 (⟨rfl, trivial⟩)  (⟨by simp only [resV, cmpI]; rw [if_neg h4, if_neg (by omega)], rfl⟩) Sub.ent
theorem cmp_P (i dst : Int) (v : SV) (y : Int) (W : World) : PureS Try.prog 27 [.agg #[.int .u64 i, .int .i64 dst, v.v], .int .u64 y] W (.int .i64 (cmpI i y)) := by
  refine Spec.of_body Try.func27 rfl Try.ntmps27 rfl ?_
  intro w0 Γ
  show S _ w0 [(0, .agg #[.int .u64 i, .int .i64 dst, v.v]), (1, .int .u64 y)] (old W :: Γ) _
  refine S.seq fun K1 hK1 => ?_
  refine S.region rfl ?_
  refine S.op (S.box (cs := [_, _, _]) rfl rfl rfl ?_)
  intro b2
  refine S.op (S.q (q_assign rfl) rfl rfl ?_)
  first | with_reducible refine S.nilK ?_ | refine S.nil ?_
  refine hK1 _ _ ?_
  refine S.seq fun K2 hK2 => ?_
  refine S.region rfl ?_
  refine S.op (S.q (q_field Try.fo70_0 rfl) rfl rfl ?_)
  refine S.op (S.q (q_load Try.at30 rfl rfl) rfl rfl ?_)
  refine S.op (S.q (q_move rfl) rfl rfl ?_)
  refine S.op (S.callP Try.en28 (vs := [_, _]) ⟨rfl, rfl, trivial⟩ (fun w hs => Compare_P i y w) rfl ?_)
  refine S.op (S.q (q_assign rfl) rfl rfl ?_)
  first | with_reducible refine S.nilK ?_ | refine S.nil ?_
  refine hK2 _ _ ?_
  refine S.ret ?_
  with_reducible repeat (first | refine S.then_n ?_ | refine S.then_x ?_ | refine S.then_r ?_ | refine S.inBlock_n ?_ | refine S.inBlock_r ?_ | refine S.inBlock_x rfl ?_ | refine S.noGoto_r ?_ | refine S.noGoto_n ?_ | refine S.noGoto_x ?_)
  exact S.fin (rs := [_]) (vs := [_]) Try.results27 (⟨rfl, trivial⟩)  (⟨rfl, rfl⟩) Sub.ent
/-- Where y stands, or would stand. -/
def Stands (os : List Flt) (y : Int) (i : Nat) : Prop := i ≤ os.length ∧ ∀ (k : Nat) (x : Flt), os[k]? = some x → (k < i → x.id < y) ∧ (i ≤ k → y ≤ x.id)
theorem BSF_S (lv : SV) (os : List Flt) (hn : lv.n = os.length) (hl : os.length ≤ 140737488355328) (ha : os.Pairwise fun a b => a.id < b.id) (y : Int) :
    Spec Try.prog 26 [lv.v, .int .u64 y, .func (.func 27) #[] #[]] [own lv 70 3 (os.flatMap fltC)] fun Γ v Θ =>
      ∃ (i : Nat) (b : Bool), v = .tuple #[.int .i64 i, .bool b] ∧ Stands os y i ∧ (b = true ↔ ∃ x, os[i]? = some x ∧ x.id = y) ∧ Θ = own lv 70 3 (os.flatMap fltC) :: Γ := by
  refine Spec.of_body Try.func26 rfl Try.ntmps26 rfl ?_
  intro w0 Γ
  show S _ w0 [(0, lv.v), (1, .int .u64 y), (2, .func (.func 27) #[] #[])] (own lv 70 3 (os.flatMap fltC) :: Γ) _
  have asc : ∀ (i j : Nat) (a b : Flt), i < j → os[i]? = some a → os[j]? = some b → a.id < b.id := fun i j a b hij hi hj => by
    obtain ⟨h1, rfl⟩ := List.getElem?_eq_some_iff.1 hi
    obtain ⟨h2, rfl⟩ := List.getElem?_eq_some_iff.1 hj
    exact List.pairwise_iff_getElem.1 ha i j h1 h2 hij
  have ascle : ∀ (i j : Nat) (a b : Flt), i ≤ j → os[i]? = some a → os[j]? = some b → a.id ≤ b.id := fun i j a b hij hi hj => by
    rcases Nat.lt_or_eq_of_le hij with h | h
    · have := asc i j a b h hi hj; omega
    · subst h; rw [hi] at hj; cases hj; omega
  refine S.seq fun K1 hK1 => ?_
  refine S.region rfl ?_
  refine S.op (S.q (q_assign rfl) rfl rfl ?_)
  refine S.op (S.q (q_assign rfl) rfl rfl ?_)
  first | with_reducible refine S.nilK ?_ | refine S.nil ?_
  refine hK1 _ _ ?_
  refine S.seq fun K2 hK2 => ?_
  refine S.region rfl ?_
  refine S.op (S.q (q_move rfl) rfl rfl ?_)
  refine S.op (S.q (q_len Try.underlying65 rfl) rfl rfl ?_)
  refine S.op (S.q (q_assign rfl) rfl rfl ?_)
  first | with_reducible refine S.nilK ?_ | refine S.nil ?_
  refine hK2 _ _ ?_
  refine S.seq fun K3 hK3 => ?_
  refine S.region rfl ?_
  refine S.op (S.q (q_move rfl) rfl rfl ?_)
  refine S.op (S.q (q_assign rfl) rfl rfl ?_)
  refine S.op (S.q (q_assign rfl) rfl rfl ?_)
  first | with_reducible refine S.nilK ?_ | refine S.nil ?_
  refine hK3 _ _ ?_
  refine S.seq fun K4 hK4 => ?_
  refine S.block ?_
  refine S.loop (fun m ρ' Γ' => ∃ (i j : Nat), m + i = j ∧ j ≤ os.length ∧ (∀ (k : Nat) (x : Flt), os[k]? = some x → (k < i → x.id < y) ∧ (j ≤ k → y ≤ x.id)) ∧ ρ' = [(0, lv.v), (1, .int .u64 y), (2, .func (.func 27) #[] #[]), (8, .int .i64 lv.n), (9, .int .i64 i), (10, .int .i64 j)] ∧ Γ' = own lv 70 3 (os.flatMap fltC) :: Γ) (m := _) (ρ0 := _) (Γ0 := _) (⟨0, lv.n, rfl, by omega, fun k x hx => ⟨fun h => absurd h (by omega), fun h => absurd (List.getElem?_eq_some_iff.1 hx).1 (by omega)⟩, rfl, rfl⟩) (by repeat (first | exact trivial | refine ⟨rfl, ?_⟩)) Sub.ent ?_
  rintro m ρ' Γ' ⟨i, j, hij, hj, hs, rfl, rfl⟩
  refine S.seq fun K5 hK5 => ?_
  refine S.seq fun K6 hK6 => ?_
  refine S.region rfl ?_
  refine S.op (S.q (q_move rfl) rfl rfl ?_)
  refine S.op (S.q (q_move rfl) rfl rfl ?_)
  refine S.op (S.q (q_lt rfl rfl) rfl rfl ?_)
  first | with_reducible refine S.nilK ?_ | refine S.nil ?_
  refine hK6 _ _ ?_
  refine S.condD rfl (fun h1 => ?_) (fun h1 => ?_)
  · obtain ⟨x, hx⟩ := getE (l := os) (i := (i + j) / 2) (by omega)
    refine S.ownSome lv (by omega) fun b off hb _ _ _ => ?_
    refine S.skip ?_
    with_reducible repeat (first | refine S.then_n ?_ | refine S.then_x ?_ | refine S.then_r ?_ | refine S.inBlock_n ?_ | refine S.inBlock_r ?_ | refine S.inBlock_x rfl ?_ | refine S.noGoto_r ?_ | refine S.noGoto_n ?_ | refine S.noGoto_x ?_)
    refine hK5 _ _ ?_
    refine S.block ?_
    refine S.seq fun K7 hK7 => ?_
    refine S.region rfl ?_
    refine S.op (S.q (q_move rfl) rfl rfl ?_)
    refine S.op (S.q (q_move rfl) rfl rfl ?_)
    refine S.op (S.q (q_add rfl rfl (inI64 (by omega) (by omega))) rfl rfl ?_)
    refine S.op (S.q (q_conv Try.it77 (by rw [Try.underlying3]; rfl) rfl (inU64 (by omega) (by omega))) rfl rfl ?_)
    refine S.op (S.q (q_shrTo 1 (((i + j) / 2 : Nat) : Int) rfl rfl rfl rfl (by omega)) rfl rfl ?_)
    refine S.op (S.q (q_conv Try.it3 (by rw [Try.underlying77]; rfl) rfl (inI64 (by omega) (by omega))) rfl rfl ?_)
    refine S.op (S.q (q_assign rfl) rfl rfl ?_)
    first | with_reducible refine S.nilK ?_ | refine S.nil ?_
    refine hK7 _ _ ?_
    refine S.seq fun K8 hK8 => ?_
    refine S.region rfl ?_
    refine S.op (S.q (q_move rfl) rfl rfl ?_)
    refine S.op (S.q (q_move rfl) rfl rfl ?_)
    refine S.op (S.q (q_move rfl) rfl rfl ?_)
    refine S.op (S.q (q_indexO ((i + j) / 2) Try.el65 rfl hb rfl rfl (by omega)) rfl rfl ?_)
    refine S.op (S.q (q_loadOwS (lv) ((i + j) / 2 * 3) [_, _, _] Try.ag70 rfl hb (by first | rfl | exact Nat.add_assoc _ _ _ | omega) rfl (flat_seg fltC_len hx)) rfl rfl ?_)
    refine S.op (S.q (q_move rfl) rfl rfl ?_)
    refine S.op (S.callCP (fs := []) (cs := []) (vs := [_, _]) Try.en27 rfl ⟨rfl, rfl, trivial⟩ (fun w hs => cmp_P x.id x.dst x.v y w) rfl ?_)
    refine S.op (S.q (q_lt rfl rfl) rfl rfl ?_)
    first | with_reducible refine S.nilK ?_ | refine S.nil ?_
    refine hK8 _ _ ?_
    refine S.condD rfl (fun h2 => ?_) (fun h2 => ?_)
    · have hlt : x.id < y := by simp only [cmpI] at h2; split at h2 <;> omega
      refine S.region rfl ?_
      refine S.op (S.q (q_move rfl) rfl rfl ?_)
      refine S.op (S.q (q_add rfl rfl (inI64 (by omega) (by omega))) rfl rfl ?_)
      refine S.op (S.q (q_assign rfl) rfl rfl ?_)
      first | with_reducible refine S.nilK ?_ | refine S.nil ?_
      with_reducible repeat (first | refine S.then_n ?_ | refine S.then_x ?_ | refine S.then_r ?_ | refine S.inBlock_n ?_ | refine S.inBlock_r ?_ | refine S.inBlock_x rfl ?_ | refine S.noGoto_r ?_ | refine S.noGoto_n ?_ | refine S.noGoto_x ?_)
      with_reducible repeat (first | refine S.then_n ?_ | refine S.then_x ?_ | refine S.then_r ?_ | refine S.inBlock_n ?_ | refine S.inBlock_r ?_ | refine S.inBlock_x rfl ?_ | refine S.noGoto_r ?_ | refine S.noGoto_n ?_ | refine S.noGoto_x ?_)
      first | exact S.next (j - ((i + j) / 2 + 1)) ⟨(i + j) / 2 + 1, j, by omega, hj, fun k z hz => ⟨fun hk => Int.lt_of_le_of_lt (ascle k _ z x (by omega) hz hx) hlt, (hs k z hz).2⟩, rfl, rfl⟩ (by omega) ⟨rfl, rfl, rfl, rfl, rfl, rfl, trivial⟩ Sub.ent | exact S.next ((i + j) / 2 - i) ⟨i, (i + j) / 2, by omega, by omega, fun k z hz => ⟨(hs k z hz).1, fun hk => Int.le_trans hge (ascle _ k x z hk hx hz)⟩, rfl, rfl⟩ (by omega) ⟨rfl, rfl, rfl, rfl, rfl, rfl, trivial⟩ Sub.ent
    · have hge : y ≤ x.id := by simp only [cmpI] at h2; split at h2 <;> omega
      refine S.region rfl ?_
      refine S.op (S.q (q_move rfl) rfl rfl ?_)
      refine S.op (S.q (q_assign rfl) rfl rfl ?_)
      first | with_reducible refine S.nilK ?_ | refine S.nil ?_
      with_reducible repeat (first | refine S.then_n ?_ | refine S.then_x ?_ | refine S.then_r ?_ | refine S.inBlock_n ?_ | refine S.inBlock_r ?_ | refine S.inBlock_x rfl ?_ | refine S.noGoto_r ?_ | refine S.noGoto_n ?_ | refine S.noGoto_x ?_)
      with_reducible repeat (first | refine S.then_n ?_ | refine S.then_x ?_ | refine S.then_r ?_ | refine S.inBlock_n ?_ | refine S.inBlock_r ?_ | refine S.inBlock_x rfl ?_ | refine S.noGoto_r ?_ | refine S.noGoto_n ?_ | refine S.noGoto_x ?_)
      first | exact S.next (j - ((i + j) / 2 + 1)) ⟨(i + j) / 2 + 1, j, by omega, hj, fun k z hz => ⟨fun hk => Int.lt_of_le_of_lt (ascle k _ z x (by omega) hz hx) hlt, (hs k z hz).2⟩, rfl, rfl⟩ (by omega) ⟨rfl, rfl, rfl, rfl, rfl, rfl, trivial⟩ Sub.ent | exact S.next ((i + j) / 2 - i) ⟨i, (i + j) / 2, by omega, by omega, fun k z hz => ⟨(hs k z hz).1, fun hk => Int.le_trans hge (ascle _ k x z hk hx hz)⟩, rfl, rfl⟩ (by omega) ⟨rfl, rfl, rfl, rfl, rfl, rfl, trivial⟩ Sub.ent
  · have hij' : i = j := by omega
    refine S.exit ?_
    with_reducible repeat (first | refine S.then_n ?_ | refine S.then_x ?_ | refine S.then_r ?_ | refine S.inBlock_n ?_ | refine S.inBlock_r ?_ | refine S.inBlock_x rfl ?_ | refine S.noGoto_r ?_ | refine S.noGoto_n ?_ | refine S.noGoto_x ?_)
    with_reducible refine S.inBlock_s ?_
    with_reducible repeat (first | refine S.then_n ?_ | refine S.then_x ?_ | refine S.then_r ?_ | refine S.inBlock_n ?_ | refine S.inBlock_r ?_ | refine S.inBlock_x rfl ?_ | refine S.noGoto_r ?_ | refine S.noGoto_n ?_ | refine S.noGoto_x ?_)
    refine hK4 _ _ ?_
    refine S.seq fun K9 hK9 => ?_
    refine S.regionG ?_
    refine S.g_op rfl (S.q (q_move rfl) rfl rfl ?_)
    refine S.g_op rfl (S.q (q_move rfl) rfl rfl ?_)
    refine S.g_op rfl (S.q (q_move rfl) rfl rfl ?_)
    refine S.g_op rfl (S.q (q_lt rfl rfl) rfl rfl ?_)
    refine S.g_op rfl (S.q (q_move rfl) rfl rfl ?_)
    by_cases hg8_4 : (i : Int) < lv.n
    · obtain ⟨x, hx⟩ := getE (l := os) (i := i) (by omega)
      refine S.ownSome lv (by omega) fun b off hb _ _ _ => ?_
      refine S.g_yes rfl rfl rfl (decide_eq_true hg8_4) (S.q (q_move rfl) rfl rfl ?_)
      refine S.g_yes rfl rfl rfl (decide_eq_true hg8_4) (S.q (q_move rfl) rfl rfl ?_)
      refine S.g_yes rfl rfl rfl (decide_eq_true hg8_4) (S.q (q_move rfl) rfl rfl ?_)
      refine S.g_yes rfl rfl rfl (decide_eq_true hg8_4) (S.q (q_indexO (i) Try.el65 rfl hb rfl rfl (by omega)) rfl rfl ?_)
      refine S.g_yes rfl rfl rfl (decide_eq_true hg8_4) (S.q (q_loadOwS (lv) (i * 3) [_, _, _] Try.ag70 rfl hb (by first | rfl | exact Nat.add_assoc _ _ _ | omega) rfl (flat_seg fltC_len hx)) rfl rfl ?_)
      refine S.g_yes rfl rfl rfl (decide_eq_true hg8_4) (S.q (q_move rfl) rfl rfl ?_)
      refine S.g_yes rfl rfl rfl (decide_eq_true hg8_4) (S.callCP (fs := []) (cs := []) (vs := [_, _]) Try.en27 rfl ⟨rfl, rfl, trivial⟩ (fun w hs => cmp_P x.id x.dst x.v y w) rfl ?_)
      refine S.g_yes rfl rfl rfl (decide_eq_true hg8_4) (S.q (q_eq rfl rfl) rfl rfl ?_)
      refine S.g_op rfl (S.q (q_pickT rfl (decide_eq_true hg8_4) rfl) rfl rfl ?_)
      refine S.g_op rfl (S.q (q_assign rfl) rfl rfl ?_)
      refine S.g_op rfl (S.q (q_assign rfl) rfl rfl ?_)
      first | with_reducible refine S.g_nilK ?_ | refine S.g_nil ?_
      refine hK9 _ _ ?_
      refine S.ret ?_
      with_reducible repeat (first | refine S.then_n ?_ | refine S.then_x ?_ | refine S.then_r ?_ | refine S.inBlock_n ?_ | refine S.inBlock_r ?_ | refine S.inBlock_x rfl ?_ | refine S.noGoto_r ?_ | refine S.noGoto_n ?_ | refine S.noGoto_x ?_)
      exact S.fin (rs := [_, _]) (vs := [_, _]) Try.results26 (⟨rfl, rfl, trivial⟩)  (⟨i, _, rfl, ⟨by omega, fun k z hz => by subst hij'; exact hs k z hz⟩, by first | (rw [hx]; simp only [cmpI, decide_eq_true_eq, Option.some.injEq, exists_eq_left']; split <;> (try split) <;> omega) | (rw [List.getElem?_eq_none (by omega)]; simp), rfl⟩) Sub.ent
    · refine S.g_no rfl rfl rfl (decide_eq_false hg8_4) rfl rfl ?_
      refine S.g_no rfl rfl rfl (decide_eq_false hg8_4) rfl rfl ?_
      refine S.g_no rfl rfl rfl (decide_eq_false hg8_4) rfl rfl ?_
      refine S.g_no rfl rfl rfl (decide_eq_false hg8_4) rfl rfl ?_
      refine S.g_no rfl rfl rfl (decide_eq_false hg8_4) rfl rfl ?_
      refine S.g_no rfl rfl rfl (decide_eq_false hg8_4) rfl rfl ?_
      refine S.g_no rfl rfl rfl (decide_eq_false hg8_4) rfl rfl ?_
      refine S.g_no rfl rfl rfl (decide_eq_false hg8_4) rfl rfl ?_
      refine S.g_op rfl (S.q (q_pickF rfl (decide_eq_false hg8_4) rfl) rfl rfl ?_)
      refine S.g_op rfl (S.q (q_assign rfl) rfl rfl ?_)
      refine S.g_op rfl (S.q (q_assign rfl) rfl rfl ?_)
      first | with_reducible refine S.g_nilK ?_ | refine S.g_nil ?_
      refine hK9 _ _ ?_
      refine S.ret ?_
      with_reducible repeat (first | refine S.then_n ?_ | refine S.then_x ?_ | refine S.then_r ?_ | refine S.inBlock_n ?_ | refine S.inBlock_r ?_ | refine S.inBlock_x rfl ?_ | refine S.noGoto_r ?_ | refine S.noGoto_n ?_ | refine S.noGoto_x ?_)
      exact S.fin (rs := [_, _]) (vs := [_, _]) Try.results26 (⟨rfl, rfl, trivial⟩)  (⟨i, _, rfl, ⟨by omega, fun k z hz => by subst hij'; exact hs k z hz⟩, by first | (rw [hx]; simp only [cmpI, decide_eq_true_eq, Option.some.injEq, exists_eq_left']; split <;> (try split) <;> omega) | (rw [List.getElem?_eq_none (by omega)]; simp), rfl⟩) Sub.ent
theorem Delete_S (s : SV) (xs : List Value) (i : Nat) (hi : i < s.n) (hl : s.n ≤ 140737488355328) (hone : ∀ u ∈ xs, u.oneCell' = true) :
    Spec Try.prog 25 [s.v, .int .i64 i, .int .i64 (i + 1)] [own s 70 3 xs] fun Γ v Θ => ∃ s' : SV, v = s'.v ∧ s'.n = s.n - 1 ∧ Θ = own s' 70 3 (xs.take (i * 3) ++ xs.drop ((i + 1) * 3)) :: Γ := by
  refine Spec.of_body Try.func25 rfl Try.ntmps25 rfl ?_
  intro w0 Γ
  show S _ w0 [(0, s.v), (1, .int .i64 i), (2, .int .i64 (i + 1))] (own s 70 3 xs :: Γ) _
  refine S.ownSome s (by omega) fun b off hb hlen hnc hcm => ?_
  refine S.seq fun K1 hK1 => ?_
  refine S.region rfl ?_
  refine S.op (S.q (q_assign rfl) rfl rfl ?_)
  first | with_reducible refine S.nilK ?_ | refine S.nil ?_
  refine hK1 _ _ ?_
  refine S.seq fun K2 hK2 => ?_
  refine S.region rfl ?_
  refine S.op (S.q (q_move rfl) rfl rfl ?_)
  refine S.op (S.q (q_move rfl) rfl rfl ?_)
  refine S.op (S.q (q_move rfl) rfl rfl ?_)
  refine S.op (S.q (q_move rfl) rfl rfl ?_)
  refine S.op (S.q (q_len Try.underlying65 rfl) rfl rfl ?_)
  refine S.op (S.q (q_slice3 i (i + 1) s.n Try.el65 rfl rfl rfl rfl rfl rfl rfl ⟨by omega, by omega, by omega⟩) rfl rfl ?_)
  first | with_reducible refine S.nilK ?_ | refine S.nil ?_
  refine hK2 _ _ ?_
  refine S.seq fun K3 hK3 => ?_
  refine S.seq fun K4 hK4 => ?_
  refine S.region rfl ?_
  refine S.op (S.q (q_move rfl) rfl rfl ?_)
  refine S.op (S.q (q_move rfl) rfl rfl ?_)
  refine S.op (S.q (q_eq rfl rfl) rfl rfl ?_)
  first | with_reducible refine S.nilK ?_ | refine S.nil ?_
  refine hK4 _ _ ?_
  refine S.condD rfl (fun h1 => ?_) (fun h1 => ?_)
  · exact absurd h1 (by omega)
  · refine S.skip ?_
    with_reducible repeat (first | refine S.then_n ?_ | refine S.then_x ?_ | refine S.then_r ?_ | refine S.inBlock_n ?_ | refine S.inBlock_r ?_ | refine S.inBlock_x rfl ?_ | refine S.noGoto_r ?_ | refine S.noGoto_n ?_ | refine S.noGoto_x ?_)
    refine hK3 _ _ ?_
    refine S.seq fun K5 hK5 => ?_
    refine S.region rfl ?_
    refine S.op (S.q (q_move rfl) rfl rfl ?_)
    refine S.op (S.q (q_len Try.underlying65 rfl) rfl rfl ?_)
    refine S.op (S.q (q_assign rfl) rfl rfl ?_)
    first | with_reducible refine S.nilK ?_ | refine S.nil ?_
    refine hK5 _ _ ?_
    refine S.seq fun K6 hK6 => ?_
    refine S.draw ([]) [] Try.mixed ?_
    refine S.dr_take 0 [] rfl (by kernel_rfl) rfl rfl rfl (q_move rfl) Sub.ent ?_
    refine S.dr_take 1 [] rfl (by kernel_rfl) rfl rfl rfl (q_move rfl) Sub.ent ?_
    refine S.dr_take 2 [] rfl (by kernel_rfl) rfl rfl rfl (q_sliceTo (i) Try.el65 rfl rfl rfl (by omega)) Sub.ent ?_
    refine S.dr_take 3 [] rfl (by kernel_rfl) rfl rfl rfl (q_move rfl) Sub.ent ?_
    refine S.dr_take 4 [] rfl (by kernel_rfl) rfl rfl rfl (q_move rfl) Sub.ent ?_
    refine S.dr_take 5 [] rfl (by kernel_rfl) rfl rfl rfl (q_sliceFrom (i + 1) Try.el65 rfl rfl rfl (by omega)) Sub.ent ?_
    refine S.dr_1 (i := 6) (by kernel_rfl) rfl rfl ?_
    refine  (S.appendDel (s := s) i (i + 1) Try.el65 rfl hb rfl rfl (by rw [hb]; split; exact ⟨_, rfl, fun h => absurd h (by omega)⟩; exact ⟨_, rfl, fun _ => by simp [Addr.add_lit]⟩) (by omega) (by omega) hone rfl ?_)
    refine S.dr_k rfl Sub.ent ?_
    refine S.dr_take 7 [] rfl (by kernel_rfl) rfl rfl rfl (q_assign rfl) Sub.ent ?_
    first | with_reducible refine S.dr_doneK (by kernel_rfl) ?_ | refine S.dr_done (by kernel_rfl) ?_
    refine hK6 _ _ ?_
    refine S.seq fun K7 hK7 => ?_
    refine S.region rfl ?_
    refine S.op (S.q (q_move rfl) rfl rfl ?_)
    refine S.op (S.q (q_move rfl) rfl rfl ?_)
    refine S.op (S.q (q_len Try.underlying65 rfl) rfl rfl ?_)
    refine S.op (S.q (q_move rfl) rfl rfl ?_)
    refine S.op (S.q (q_sliceLH (i + (s.n - (i + 1))) s.n Try.el65 rfl rfl rfl rfl rfl ⟨by omega, by omega⟩) rfl rfl ?_)
    refine S.op (S.clearOne ⟨s.a, i + (s.n - (i + 1)), s.c⟩ Try.underlying65 Try.inf70 rfl rfl rfl hb (by omega) (by rw [if_neg (by omega), hb]; simp [Addr.add_lit]) (by simp only; omega) ?_)
    first | with_reducible refine S.nilK ?_ | refine S.nil ?_
    refine hK7 _ _ ?_
    refine S.seq fun K8 hK8 => ?_
    refine S.region rfl ?_
    refine S.op (S.q (q_move rfl) rfl rfl ?_)
    refine S.op (S.q (q_assign rfl) rfl rfl ?_)
    first | with_reducible refine S.nilK ?_ | refine S.nil ?_
    refine hK8 _ _ ?_
    refine S.ret ?_
    with_reducible repeat (first | refine S.then_n ?_ | refine S.then_x ?_ | refine S.then_r ?_ | refine S.inBlock_n ?_ | refine S.inBlock_r ?_ | refine S.inBlock_x rfl ?_ | refine S.noGoto_r ?_ | refine S.noGoto_n ?_ | refine S.noGoto_x ?_)
    exact S.fin (rs := [_]) (vs := [_]) Try.results25 (⟨rfl, trivial⟩)  (⟨⟨s.a, i + (s.n - (i + 1)), s.c⟩, rfl, by simp only; omega, rfl⟩) Sub.ent
end Go.Proofs.Ythbckdjncmipeaa
