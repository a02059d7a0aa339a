/- Type Heap: each method at any state. -/
import Derived.Test.YthpfljiabhjodaaPrioE
namespace Go.Proofs.Ythpfljiabhjodaa
open Go.RowKit
set_option maxRecDepth 20000
abbrev HSt := Option (List It)
def hasL (id : Int) (l : List It) : Bool := l.any fun x => decide (x.id = id)
def hasR (id : Int) : HSt → Bool
  | none => false
  | some l => hasL id l
def pushR (x : It) : HSt → Int × HSt
  | none => (6, none)
  | some l => if hasL x.id l then (7, some l) else (0, some (ins x l))
abbrev it0 : It := ⟨0, 0, 0⟩
def peekR : HSt → It × Bool
  | some (a :: _) => (a, true)
  | _ => (it0, false)
def popR : HSt → It × Bool × HSt
  | some (a :: l) => (a, true, some l)
  | s => (it0, false, s)
def lenR : HSt → Nat
  | none => 0
  | some l => l.length
theorem hasL_perm {id : Int} {L l : List It} (h : L.Perm l) : hasL id L = hasL id l := by
  unfold hasL
  rw [Bool.eq_iff_iff, List.any_eq_true, List.any_eq_true]
  exact ⟨fun ⟨x, h1, h2⟩ => ⟨x, h.mem_iff.1 h1, h2⟩, fun ⟨x, h1, h2⟩ => ⟨x, h.mem_iff.2 h1, h2⟩⟩
theorem AtOk.has {L : List It} {M : List (Int × Value)} (h : AtOk L M) (id : Int) : (alGet id M).isSome = hasL id L := by
  unfold hasL
  rw [Bool.eq_iff_iff, List.any_eq_true]
  constructor
  · intro h1
    obtain ⟨v, hv⟩ := Option.isSome_iff_exists.1 h1
    obtain ⟨i, x, h2, h3⟩ := h.2 id v hv
    exact ⟨x, List.mem_of_getElem? h2, decide_eq_true h3⟩
  · rintro ⟨x, h1, h2⟩
    obtain ⟨i, hi⟩ := List.getElem?_of_mem h1
    rw [← of_decide_eq_true h2, h.1 i x hi]
    rfl
theorem where0_S (id : Int) : Spec Try.prog 28 [.pointer none, .int .u32 id] [] fun Γ v Θ => v = .tuple #[.int .i64 0, .bool false] ∧ Θ = Γ := by
  refine Spec.of_body Try.func28 rfl Try.ntmps28 rfl ?_
  intro w0 Γ
  show S _ w0 [(0, .pointer none), (1, .int .u32 id)] Γ _
  refine S.seq fun K1 hK1 => ?_
  refine S.region rfl ?_
  refine S.op (S.q (q_assign rfl) rfl rfl ?_)
  refine S.op (S.q (q_assign rfl) rfl rfl ?_)
  first | with_reducible refine S.nilK ?_ | refine S.nil ?_
  refine hK1 _ _ ?_
  refine S.seq fun K2 hK2 => ?_
  refine S.seq fun K3 hK3 => ?_
  refine S.region rfl ?_
  refine S.op (S.q (q_move rfl) rfl rfl ?_)
  refine S.op (S.q (q_eqN Try.underlying31 rfl rfl) rfl rfl ?_)
  first | with_reducible refine S.nilK ?_ | refine S.nil ?_
  refine hK3 _ _ ?_
  refine S.condT rfl ?_
  refine S.seq fun K4 hK4 => ?_
  refine S.region rfl ?_
  refine S.op (S.q (q_assign rfl) rfl rfl ?_)
  refine S.op (S.q (q_assign rfl) rfl rfl ?_)
  first | with_reducible refine S.nilK ?_ | refine S.nil ?_
  refine hK4 _ _ ?_
  refine S.ret ?_
  with_reducible repeat (first | refine S.then_n ?_ | refine S.then_x ?_ | refine S.then_r ?_ | refine S.inBlock_n ?_ | refine S.inBlock_r ?_ | refine S.inBlock_x rfl ?_ | refine S.noGoto_r ?_ | refine S.noGoto_n ?_ | refine S.noGoto_x ?_)
  exact S.fin (rs := [_, _]) (vs := [_, _]) Try.results28 (⟨rfl, rfl, trivial⟩)  (⟨rfl, rfl⟩) Sub.ent
theorem where_S (t m : Nat) (lv : SV) (M : List (Int × Value)) (id : Int) : Spec Try.prog 28 [.pointer (some ⟨t, 0, none⟩), .int .u32 id] [blk t 60 (hpC lv m), mapL m .u32 M] fun Γ v Θ =>
    v = .tuple #[(alGet id M).getD (.int .i64 0), .bool (alGet id M).isSome] ∧ Θ = blk t 60 (hpC lv m) :: mapL m .u32 M :: Γ := by
  refine Spec.of_body Try.func28 rfl Try.ntmps28 rfl ?_
  intro w0 Γ
  show S _ w0 [(0, .pointer (some ⟨t, 0, none⟩)), (1, .int .u32 id)] (blk t 60 (hpC lv m) :: mapL m .u32 M :: Γ) _
  refine S.seq fun K1 hK1 => ?_
  refine S.region rfl ?_
  refine S.op (S.q (q_assign rfl) rfl rfl ?_)
  refine S.op (S.q (q_assign rfl) rfl rfl ?_)
  first | with_reducible refine S.nilK ?_ | refine S.nil ?_
  refine hK1 _ _ ?_
  refine S.seq fun K2 hK2 => ?_
  refine S.seq fun K3 hK3 => ?_
  refine S.region rfl ?_
  refine S.op (S.q (q_move rfl) rfl rfl ?_)
  refine S.op (S.q (q_eqN Try.underlying31 rfl rfl) rfl rfl ?_)
  first | with_reducible refine S.nilK ?_ | refine S.nil ?_
  refine hK3 _ _ ?_
  refine S.condF rfl ?_
  refine S.skip ?_
  with_reducible repeat (first | refine S.then_n ?_ | refine S.then_x ?_ | refine S.then_r ?_ | refine S.inBlock_n ?_ | refine S.inBlock_r ?_ | refine S.inBlock_x rfl ?_ | refine S.noGoto_r ?_ | refine S.noGoto_n ?_ | refine S.noGoto_x ?_)
  refine hK2 _ _ ?_
  refine S.seq fun K4 hK4 => ?_
  refine S.region rfl ?_
  refine S.op (S.q (q_move rfl) rfl rfl ?_)
  refine S.op (S.q (q_nilCheck rfl) rfl rfl ?_)
  refine S.op (S.q (q_field Try.fo60_0 rfl) rfl rfl ?_)
  refine S.op (S.q (q_field Try.fo58_1 rfl) rfl rfl ?_)
  refine S.op (S.q (q_load Try.at56 rfl rfl) rfl rfl ?_)
  refine S.op (S.q (q_move rfl) rfl rfl ?_)
  refine S.op (S.q (q_lookupOk ((alGet id M).getD (.int .i64 0)) ((alGet id M).isSome) Try.underlying56 Try.underlying22 Try.zv3 rfl rfl rfl (by cases alGet id M <;> rfl)) rfl rfl ?_)
  refine S.op (S.q (q_move rfl) rfl rfl ?_)
  refine S.op (S.q (q_extract rfl rfl) rfl rfl ?_)
  refine S.op (S.q (q_extract rfl rfl) rfl rfl ?_)
  refine S.op (S.q (q_assign rfl) rfl rfl ?_)
  refine S.op (S.q (q_assign rfl) rfl rfl ?_)
  first | with_reducible refine S.nilK ?_ | refine S.nil ?_
  refine hK4 _ _ ?_
  refine S.seq fun K5 hK5 => ?_
  refine S.region rfl ?_
  refine S.op (S.q (q_move rfl) rfl rfl ?_)
  refine S.op (S.q (q_move rfl) rfl rfl ?_)
  refine S.op (S.q (q_assign rfl) rfl rfl ?_)
  refine S.op (S.q (q_assign rfl) rfl rfl ?_)
  first | with_reducible refine S.nilK ?_ | refine S.nil ?_
  refine hK5 _ _ ?_
  refine S.ret ?_
  with_reducible repeat (first | refine S.then_n ?_ | refine S.then_x ?_ | refine S.then_r ?_ | refine S.inBlock_n ?_ | refine S.inBlock_r ?_ | refine S.inBlock_x rfl ?_ | refine S.noGoto_r ?_ | refine S.noGoto_n ?_ | refine S.noGoto_x ?_)
  exact S.fin (rs := [_, _]) (vs := [_, _]) Try.results28 (⟨rfl, rfl, trivial⟩)  (⟨rfl, rfl⟩) Sub.ent
theorem Has_S (pa : Option Addr) (st : HSt) (id : Int) : Spec Try.prog 15 [.pointer pa, .int .u32 id] [HI pa st] fun Γ v Θ => v = .bool (hasR id st) ∧ Θ = HI pa st :: Γ := by
  cases st with
  | none =>
    refine Spec.noHI fun e => ?_
    subst e
    have h0 : Spec Try.prog 15 [.pointer none, .int .u32 id] [] fun Γ v Θ => v = .bool false ∧ Θ = Γ := by
      refine Spec.of_body Try.func15 rfl Try.ntmps15 rfl ?_
      intro w0 Γ
      show S _ w0 [(0, .pointer none), (1, .int .u32 id)] Γ _
      refine S.seq fun K1 hK1 => ?_
      refine S.region rfl ?_
      refine S.op (S.q (q_assign rfl) rfl rfl ?_)
      first | with_reducible refine S.nilK ?_ | refine S.nil ?_
      refine hK1 _ _ ?_
      refine S.seq fun K2 hK2 => ?_
      refine S.region rfl ?_
      refine S.op (S.q (q_move rfl) rfl rfl ?_)
      refine S.op (S.q (q_move rfl) rfl rfl ?_)
      refine S.op (S.call Try.en28 (vs := [_, _]) ⟨rfl, rfl, trivial⟩ (where0_S id) rfl ?_)
      rintro v Θ ⟨rfl, rfl⟩
      refine S.op (S.q (q_move rfl) rfl rfl ?_)
      refine S.op (S.q (q_extract rfl rfl) rfl rfl ?_)
      refine S.op (S.q (q_extract rfl rfl) rfl rfl ?_)
      refine S.op (S.q (q_assign rfl) rfl rfl ?_)
      refine S.op (S.q (q_assign rfl) rfl rfl ?_)
      first | with_reducible refine S.nilK ?_ | refine S.nil ?_
      refine hK2 _ _ ?_
      refine S.seq fun K3 hK3 => ?_
      refine S.region rfl ?_
      refine S.op (S.q (q_move rfl) rfl rfl ?_)
      refine S.op (S.q (q_assign rfl) rfl rfl ?_)
      first | with_reducible refine S.nilK ?_ | refine S.nil ?_
      refine hK3 _ _ ?_
      refine S.ret ?_
      with_reducible repeat (first | refine S.then_n ?_ | refine S.then_x ?_ | refine S.then_r ?_ | refine S.inBlock_n ?_ | refine S.inBlock_r ?_ | refine S.inBlock_x rfl ?_ | refine S.noGoto_r ?_ | refine S.noGoto_n ?_ | refine S.noGoto_x ?_)
      exact S.fin (rs := [_]) (vs := [_]) Try.results15 (⟨rfl, trivial⟩)  (⟨rfl, rfl⟩) Sub.ent
    refine h0.weaken fun Γ => ⟨Γ, Ent.refl _, ?_⟩
    rintro v Θ ⟨rfl, rfl⟩
    exact ⟨_, ⟨rfl, rfl⟩, Ent.noHI _⟩
  | some l =>
    refine Spec.openHI fun t m lv L M e1 e2 e3 e4 e5 e6 => ?_
    subst e1
    have h0 : Spec Try.prog 15 [.pointer (some ⟨t, 0, none⟩), .int .u32 id] [blk t 60 (hpC lv m), mapL m .u32 M] fun Γ v Θ => v = .bool (alGet id M).isSome ∧ Θ = blk t 60 (hpC lv m) :: mapL m .u32 M :: Γ := by
      refine Spec.of_body Try.func15 rfl Try.ntmps15 rfl ?_
      intro w0 Γ
      show S _ w0 [(0, .pointer (some ⟨t, 0, none⟩)), (1, .int .u32 id)] (blk t 60 (hpC lv m) :: mapL m .u32 M :: Γ) _
      refine S.seq fun K1 hK1 => ?_
      refine S.region rfl ?_
      refine S.op (S.q (q_assign rfl) rfl rfl ?_)
      first | with_reducible refine S.nilK ?_ | refine S.nil ?_
      refine hK1 _ _ ?_
      refine S.seq fun K2 hK2 => ?_
      refine S.region rfl ?_
      refine S.op (S.q (q_move rfl) rfl rfl ?_)
      refine S.op (S.q (q_move rfl) rfl rfl ?_)
      refine S.op (S.call Try.en28 (vs := [_, _]) ⟨rfl, rfl, trivial⟩ (where_S t m lv M id) rfl ?_)
      rintro v Θ ⟨rfl, rfl⟩
      refine S.op (S.q (q_move rfl) rfl rfl ?_)
      refine S.op (S.q (q_extract rfl rfl) rfl rfl ?_)
      refine S.op (S.q (q_extract rfl rfl) rfl rfl ?_)
      refine S.op (S.q (q_assign rfl) rfl rfl ?_)
      refine S.op (S.q (q_assign rfl) rfl rfl ?_)
      first | with_reducible refine S.nilK ?_ | refine S.nil ?_
      refine hK2 _ _ ?_
      refine S.seq fun K3 hK3 => ?_
      refine S.region rfl ?_
      refine S.op (S.q (q_move rfl) rfl rfl ?_)
      refine S.op (S.q (q_assign rfl) rfl rfl ?_)
      first | with_reducible refine S.nilK ?_ | refine S.nil ?_
      refine hK3 _ _ ?_
      refine S.ret ?_
      with_reducible repeat (first | refine S.then_n ?_ | refine S.then_x ?_ | refine S.then_r ?_ | refine S.inBlock_n ?_ | refine S.inBlock_r ?_ | refine S.inBlock_x rfl ?_ | refine S.noGoto_r ?_ | refine S.noGoto_n ?_ | refine S.noGoto_x ?_)
      exact S.fin (rs := [_]) (vs := [_]) Try.results15 (⟨rfl, trivial⟩)  (⟨rfl, rfl⟩) Sub.ent
    refine h0.weaken fun Γ => ⟨own lv 25 3 (L.flatMap itC) :: Γ, by simp only [List.cons_append, List.nil_append]; exact Sub.ent, ?_⟩
    rintro v Θ ⟨rfl, rfl⟩
    refine ⟨_, ⟨by rw [e5.has, hasL_perm e2]; rfl, rfl⟩, ?_⟩
    exact (Sub.ent : Ent _ (HB t m lv L M Γ)).trans (Ent.closeHI e2 e3 e4 e5 Γ)
theorem Len_S (pa : Option Addr) (st : HSt) : Spec Try.prog 14 [.pointer pa] [HI pa st] fun Γ v Θ => v = .int .i64 (lenR st) ∧ Θ = HI pa st :: Γ := by
  cases st with
  | none =>
    refine Spec.noHI fun e => ?_
    subst e
    have h0 : Spec Try.prog 14 [.pointer none] [] fun Γ v Θ => v = .int .i64 0 ∧ Θ = Γ := by
      refine Spec.of_body Try.func14 rfl Try.ntmps14 rfl ?_
      intro w0 Γ
      show S _ w0 [(0, .pointer none)] Γ _
      refine S.seq fun K1 hK1 => ?_
      refine S.region rfl ?_
      refine S.op (S.q (q_assign rfl) rfl rfl ?_)
      first | with_reducible refine S.nilK ?_ | refine S.nil ?_
      refine hK1 _ _ ?_
      refine S.seq fun K2 hK2 => ?_
      refine S.seq fun K3 hK3 => ?_
      refine S.region rfl ?_
      refine S.op (S.q (q_move rfl) rfl rfl ?_)
      refine S.op (S.q (q_eqN Try.underlying31 rfl rfl) rfl rfl ?_)
      first | with_reducible refine S.nilK ?_ | refine S.nil ?_
      refine hK3 _ _ ?_
      refine S.condT rfl ?_
      refine S.seq fun K4 hK4 => ?_
      refine S.region rfl ?_
      refine S.op (S.q (q_assign rfl) rfl rfl ?_)
      first | with_reducible refine S.nilK ?_ | refine S.nil ?_
      refine hK4 _ _ ?_
      refine S.ret ?_
      with_reducible repeat (first | refine S.then_n ?_ | refine S.then_x ?_ | refine S.then_r ?_ | refine S.inBlock_n ?_ | refine S.inBlock_r ?_ | refine S.inBlock_x rfl ?_ | refine S.noGoto_r ?_ | refine S.noGoto_n ?_ | refine S.noGoto_x ?_)
      exact S.fin (rs := [_]) (vs := [_]) Try.results14 (⟨rfl, trivial⟩)  (⟨rfl, rfl⟩) Sub.ent
    refine h0.weaken fun Γ => ⟨Γ, Ent.refl _, ?_⟩
    rintro v Θ ⟨rfl, rfl⟩
    exact ⟨_, ⟨rfl, rfl⟩, Ent.noHI _⟩
  | some l =>
    refine Spec.openHI fun t m lv L M e1 e2 e3 e4 e5 e6 => ?_
    subst e1
    have h0 : Spec Try.prog 14 [.pointer (some ⟨t, 0, none⟩)] [blk t 60 (hpC lv m)] fun Γ v Θ => v = .int .i64 lv.n ∧ Θ = blk t 60 (hpC lv m) :: Γ := by
      refine Spec.of_body Try.func14 rfl Try.ntmps14 rfl ?_
      intro w0 Γ
      show S _ w0 [(0, .pointer (some ⟨t, 0, none⟩))] (blk t 60 (hpC lv m) :: Γ) _
      refine S.seq fun K1 hK1 => ?_
      refine S.region rfl ?_
      refine S.op (S.q (q_assign rfl) rfl rfl ?_)
      first | with_reducible refine S.nilK ?_ | refine S.nil ?_
      refine hK1 _ _ ?_
      refine S.seq fun K2 hK2 => ?_
      refine S.seq fun K3 hK3 => ?_
      refine S.region rfl ?_
      refine S.op (S.q (q_move rfl) rfl rfl ?_)
      refine S.op (S.q (q_eqN Try.underlying31 rfl rfl) rfl rfl ?_)
      first | with_reducible refine S.nilK ?_ | refine S.nil ?_
      refine hK3 _ _ ?_
      refine S.condF rfl ?_
      refine S.skip ?_
      with_reducible repeat (first | refine S.then_n ?_ | refine S.then_x ?_ | refine S.then_r ?_ | refine S.inBlock_n ?_ | refine S.inBlock_r ?_ | refine S.inBlock_x rfl ?_ | refine S.noGoto_r ?_ | refine S.noGoto_n ?_ | refine S.noGoto_x ?_)
      refine hK2 _ _ ?_
      refine S.seq fun K4 hK4 => ?_
      refine S.region rfl ?_
      refine S.op (S.q (q_move rfl) rfl rfl ?_)
      refine S.op (S.q (q_nilCheck rfl) rfl rfl ?_)
      refine S.op (S.q (q_field Try.fo60_0 rfl) rfl rfl ?_)
      refine S.op (S.call Try.en27 (vs := [_]) ⟨rfl, trivial⟩ (iLen_S t m lv) rfl ?_)
      rintro v Θ ⟨rfl, rfl⟩
      refine S.op (S.q (q_assign rfl) rfl rfl ?_)
      first | with_reducible refine S.nilK ?_ | refine S.nil ?_
      refine hK4 _ _ ?_
      refine S.ret ?_
      with_reducible repeat (first | refine S.then_n ?_ | refine S.then_x ?_ | refine S.then_r ?_ | refine S.inBlock_n ?_ | refine S.inBlock_r ?_ | refine S.inBlock_x rfl ?_ | refine S.noGoto_r ?_ | refine S.noGoto_n ?_ | refine S.noGoto_x ?_)
      exact S.fin (rs := [_]) (vs := [_]) Try.results14 (⟨rfl, trivial⟩)  (⟨rfl, rfl⟩) Sub.ent
    refine h0.weaken fun Γ => ⟨own lv 25 3 (L.flatMap itC) :: mapL m .u32 M :: Γ, Ent.refl _, ?_⟩
    rintro v Θ ⟨rfl, rfl⟩
    exact ⟨_, ⟨by simp only [lenR]; rw [e6, e2.length_eq], rfl⟩, Ent.closeHI e2 e3 e4 e5 Γ⟩
end Go.Proofs.Ythpfljiabhjodaa
