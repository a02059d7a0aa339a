/- List: all that are in the heap, in order. -/
import Derived.Test.YthpfljiabhjodaaPrioI
import Derived.Test.YthpfljiabhjodaaSort
import Derived.Test.YthpfljiabhjodaaSortLay
namespace Go.Proofs.Ythpfljiabhjodaa
open Go.RowKit
set_option maxRecDepth 20000
theorem itC_one (l : List It) : allOne (l.flatMap itC) = true := List.all_eq_true.2 fun u hu => by
  obtain ⟨x, _, h⟩ := List.mem_flatMap.1 hu
  simp only [itC, List.mem_cons, List.not_mem_nil, or_false] at h
  rcases h with rfl | rfl | rfl <;> rfl
theorem ltOrd (x y : It) : Go.Proofs.ltOf ordI x y = bf x y := ordI_bf x y
theorem swoOrd : Go.Sort.SWO (Go.Proofs.ltOf ordI) where
  irrefl x := by rw [ltOrd]; exact bf_irr x
  trans x y z h1 h2 := by rw [ltOrd] at *; exact bf_tr h1 h2
  ntrans x y z h1 h2 := by rw [ltOrd] at *; exact bf_nt h1 h2
theorem Sort_S (s : SV) (l : List It) (hl : l.length ≤ 1000000) : Spec Try.prog 32 [s.v, .func (.func 24) #[] #[]] [own s 25 3 (l.flatMap itC)] fun Γ _ Θ =>
    ∃ l' : List It, l'.Perm l ∧ l'.Pairwise (fun a b => bf b a = false) ∧ Θ = own s 25 3 (l'.flatMap itC) :: Γ := by
  have h := SortFunc_S Try.sort32 3 Try.isAgg25 Try.sizeOf25 itC itC_len (by omega) (fun x v hv => by simp only [itC, List.mem_cons, List.not_mem_nil, or_false] at hv; rcases hv with rfl | rfl | rfl <;> rfl) ordI swoOrd 24 (enters_of Try.func24 (by kernel_rfl) rfl) order_P 25 s l (by omega)
  simp only [ltOrd] at h
  exact h
theorem S.ownNone {n : Nat} {w0 : World} {ρ : Env} {Γ : List Assn} {φ : Act → World → Prop} (s : SV) {e : TypeId} {sz : Nat} {xs : List Value} {Δ : List Assn} [h : HasOw Γ s e sz xs Δ] (k : (s.a.isNone = true → s.n = 0) → S n w0 ρ Γ φ) : S n w0 ρ Γ φ := by
  intro a w ha hs hx
  obtain ⟨x, _, p⟩ := (hs.ent h.ent).head
  refine k (fun hn => ?_) a w ha hs hx
  rcases p.2 with ⟨_, h2, _⟩ | ⟨_, _, _, h1, _⟩
  · exact h2
  · rw [h1] at hn; cases hn
theorem CloneIt_S (s : SV) (l : List It) (hl : l.length ≤ 1000000) : Spec Try.prog 31 [s.v] [own s 25 3 (l.flatMap itC)] fun Γ v Θ =>
    ∃ u : SV, v = u.v ∧ Θ = own u 25 3 (l.flatMap itC) :: own s 25 3 (l.flatMap itC) :: Γ := by
  refine Spec.of_body Try.func31 rfl Try.ntmps31 rfl ?_
  intro w0 Γ
  show S _ w0 [(0, s.v)] (own s 25 3 (l.flatMap itC) :: Γ) _
  refine S.ownLen s fun hlen _ _ => ?_
  rw [flat_length itC_len] at hlen
  refine S.ownNone s fun hnone => ?_
  refine S.seq fun K1 hK1 => ?_
  refine S.region rfl ?_
  refine S.op (S.q (q_assign rfl) rfl rfl ?_)
  first | with_reducible refine S.nilK ?_ | refine S.nil ?_
  refine hK1 _ _ ?_
  refine S.seq fun K2 hK2 => ?_
  refine S.seq fun K3 hK3 => ?_
  refine S.region rfl ?_
  refine S.op (S.q (q_move rfl) rfl rfl ?_)
  refine S.op (S.q (q_eqSN Try.underlying52 rfl rfl) rfl rfl ?_)
  first | with_reducible refine S.nilK ?_ | refine S.nil ?_
  refine hK3 _ _ ?_
  refine S.cond rfl (fun h1 => ?_) (fun h1 => ?_)
  · refine S.seq fun K4 hK4 => ?_
    refine S.region rfl ?_
    refine S.op (S.q (q_assign rfl) rfl rfl ?_)
    first | with_reducible refine S.nilK ?_ | refine S.nil ?_
    refine hK4 _ _ ?_
    refine S.ret ?_
    with_reducible repeat (first | refine S.then_n ?_ | refine S.then_x ?_ | refine S.then_r ?_ | refine S.inBlock_n ?_ | refine S.inBlock_r ?_ | refine S.inBlock_x rfl ?_ | refine S.noGoto_r ?_ | refine S.noGoto_n ?_ | refine S.noGoto_x ?_)
    obtain rfl : l = [] := List.eq_nil_of_length_eq_zero (by have := hnone (by simpa using h1); omega)
    refine S.ent (show Ent _ (own SV.nil 25 3 (([] : List It).flatMap itC) :: _) from Ent.ownNil 25 3) ?_
    exact S.fin (rs := [_]) (vs := [_]) Try.results31 (⟨rfl, trivial⟩)  (⟨SV.nil, rfl, rfl⟩) Sub.ent
  · refine S.skip ?_
    with_reducible repeat (first | refine S.then_n ?_ | refine S.then_x ?_ | refine S.then_r ?_ | refine S.inBlock_n ?_ | refine S.inBlock_r ?_ | refine S.inBlock_x rfl ?_ | refine S.noGoto_r ?_ | refine S.noGoto_n ?_ | refine S.noGoto_x ?_)
    refine hK2 _ _ ?_
    refine S.seq fun K5 hK5 => ?_
    refine S.region rfl ?_
    refine S.op (S.buildSlice0 Try.underlying52 Try.inf25 rfl ?_)
    intro b5 hb5
    refine S.op (S.q (q_move rfl) rfl rfl ?_)
    refine S.op (S.appendOw (s := b5) (s.n) (l.flatMap itC) Try.underlying52 Try.inf25 rfl rfl rfl (fun w hs => HasOw.slAt inferInstance hs) (itC_one l) (⟨by omega, by omega⟩) rfl ?_)
    intro u hu
    rw [List.nil_append]
    refine S.op (S.q (q_assign rfl) rfl rfl ?_)
    first | with_reducible refine S.nilK ?_ | refine S.nil ?_
    refine hK5 _ _ ?_
    refine S.ret ?_
    with_reducible repeat (first | refine S.then_n ?_ | refine S.then_x ?_ | refine S.then_r ?_ | refine S.inBlock_n ?_ | refine S.inBlock_r ?_ | refine S.inBlock_x rfl ?_ | refine S.noGoto_r ?_ | refine S.noGoto_n ?_ | refine S.noGoto_x ?_)
    exact S.fin (rs := [_]) (vs := [_]) Try.results31 (⟨rfl, trivial⟩)  (⟨u, rfl, rfl⟩) Sub.ent
def stL : HSt → List It
  | none => []
  | some l => l
theorem srt_of {L : List It} (hnd : L.Pairwise (fun a b => a.id ≠ b.id)) (h : L.Pairwise (fun a b => bf b a = false)) : Srt L := by
  have := hnd.and h
  exact this.imp fun ⟨h1, h2⟩ => (bf_tot h1).resolve_right (by rw [h2]; simp)
theorem AtOk.nodup {L : List It} {M : List (Int × Value)} (h : AtOk L M) : (L.map (·.id)).Nodup := by
  rw [List.nodup_iff_pairwise_ne, List.pairwise_map, List.pairwise_iff_getElem]
  intro i j hi hj hij e
  have := h.inj (List.getElem?_eq_getElem hi) (List.getElem?_eq_getElem hj) e
  omega
theorem List_S (pa : Option Addr) (st : HSt) (hl : lenR st ≤ 1000) : Spec Try.prog 23 [.pointer pa] [HI pa st] fun Γ v Θ => ∃ u : SV, v = u.v ∧ Θ = own u 25 3 ((stL st).flatMap itC) :: HI pa st :: Γ := by
  cases st with
  | none =>
    refine Spec.noHI fun e => ?_
    subst e
    have h0 : Spec Try.prog 23 [.pointer none] [] fun Γ v Θ => v = .slice none 0 0 ∧ Θ = Γ := by
      refine Spec.of_body Try.func23 rfl Try.ntmps23 rfl ?_
      intro w0 Γ
      show S _ w0 [(0, .pointer none)] Γ _
      refine S.seq fun K1 hK1 => ?_
      refine S.region rfl ?_
      refine S.op (S.q (q_assign rfl) rfl rfl ?_)
      first | with_reducible refine S.nilK ?_ | refine S.nil ?_
      refine hK1 _ _ ?_
      refine S.seq fun K2 hK2 => ?_
      refine S.seq fun K3 hK3 => ?_
      refine S.region rfl ?_
      refine S.op (S.q (q_move rfl) rfl rfl ?_)
      refine S.op (S.q (q_eqN Try.underlying31 rfl rfl) rfl rfl ?_)
      first | with_reducible refine S.nilK ?_ | refine S.nil ?_
      refine hK3 _ _ ?_
      refine S.condT rfl ?_
      refine S.seq fun K4 hK4 => ?_
      refine S.region rfl ?_
      refine S.op (S.q (q_assign rfl) rfl rfl ?_)
      first | with_reducible refine S.nilK ?_ | refine S.nil ?_
      refine hK4 _ _ ?_
      refine S.ret ?_
      with_reducible repeat (first | refine S.then_n ?_ | refine S.then_x ?_ | refine S.then_r ?_ | refine S.inBlock_n ?_ | refine S.inBlock_r ?_ | refine S.inBlock_x rfl ?_ | refine S.noGoto_r ?_ | refine S.noGoto_n ?_ | refine S.noGoto_x ?_)
      exact S.fin (rs := [_]) (vs := [_]) Try.results23 (⟨rfl, trivial⟩)  (⟨rfl, rfl⟩) Sub.ent
    refine h0.weaken fun Γ => ⟨Γ, Ent.refl _, ?_⟩
    rintro v Θ ⟨rfl, rfl⟩
    exact ⟨_, ⟨SV.nil, rfl, rfl⟩, (Ent.noHI _).trans (Ent.ownNil _ _)⟩
  | some l =>
    refine Spec.hiSome fun t e => ?_
    subst e
    simp only [lenR] at hl
    refine Spec.of_body Try.func23 rfl Try.ntmps23 rfl ?_
    intro w0 Γ
    show S _ w0 [(0, .pointer (some ⟨t, 0, none⟩))] (HI (some ⟨t, 0, none⟩) (some l) :: Γ) _
    refine S.hiOpen t l fun m lv L M hp hs hh hat hn => ?_
    have hll := hp.length_eq
    refine S.seq fun K1 hK1 => ?_
    refine S.region rfl ?_
    refine S.op (S.q (q_assign rfl) rfl rfl ?_)
    first | with_reducible refine S.nilK ?_ | refine S.nil ?_
    refine hK1 _ _ ?_
    refine S.seq fun K2 hK2 => ?_
    refine S.seq fun K3 hK3 => ?_
    refine S.region rfl ?_
    refine S.op (S.q (q_move rfl) rfl rfl ?_)
    refine S.op (S.q (q_eqN Try.underlying31 rfl rfl) rfl rfl ?_)
    first | with_reducible refine S.nilK ?_ | refine S.nil ?_
    refine hK3 _ _ ?_
    refine S.condF rfl ?_
    refine S.skip ?_
    with_reducible repeat (first | refine S.then_n ?_ | refine S.then_x ?_ | refine S.then_r ?_ | refine S.inBlock_n ?_ | refine S.inBlock_r ?_ | refine S.inBlock_x rfl ?_ | refine S.noGoto_r ?_ | refine S.noGoto_n ?_ | refine S.noGoto_x ?_)
    refine hK2 _ _ ?_
    refine S.seq fun K4 hK4 => ?_
    refine S.region rfl ?_
    refine S.op (S.q (q_move rfl) rfl rfl ?_)
    refine S.op (S.q (q_nilCheck rfl) rfl rfl ?_)
    refine S.op (S.q (q_field Try.fo60_0 rfl) rfl rfl ?_)
    refine S.op (S.q (q_field Try.fo58_0 rfl) rfl rfl ?_)
    refine S.op (S.q (q_load Try.at52 rfl rfl) rfl rfl ?_)
    refine S.op (S.call Try.en31 (vs := [_]) ⟨rfl, trivial⟩ (CloneIt_S lv L (by omega)) rfl ?_)
    rintro v Θ ⟨u, rfl, rfl⟩
    refine S.op (S.q (q_assign rfl) rfl rfl ?_)
    first | with_reducible refine S.nilK ?_ | refine S.nil ?_
    refine hK4 _ _ ?_
    refine S.seq fun K5 hK5 => ?_
    refine S.region rfl ?_
    refine S.op (S.q (q_move rfl) rfl rfl ?_)
    refine S.op (S.call Try.en32 (vs := [_, _]) ⟨rfl, rfl, trivial⟩ (Sort_S u L (by omega)) rfl ?_)
    rintro v Θ ⟨L', hp', hs', rfl⟩
    have hnd : L'.Pairwise (fun a b => a.id ≠ b.id) := by
      have := (hp'.symm.map (fun x : It => x.id)).nodup hat.nodup
      rwa [List.nodup_iff_pairwise_ne, List.pairwise_map] at this
    obtain rfl : L' = l := srt_unique (srt_of hnd hs') hs (hp'.trans hp)
    refine S.ent ((Sub.ent : Ent _ (HB t m lv L M (own u 25 3 (L'.flatMap itC) :: Γ))).trans (Ent.closeHI (t := t) hp hs hh hat _)) ?_
    first | with_reducible refine S.nilK ?_ | refine S.nil ?_
    refine hK5 _ _ ?_
    refine S.seq fun K6 hK6 => ?_
    refine S.region rfl ?_
    refine S.op (S.q (q_move rfl) rfl rfl ?_)
    refine S.op (S.q (q_assign rfl) rfl rfl ?_)
    first | with_reducible refine S.nilK ?_ | refine S.nil ?_
    refine hK6 _ _ ?_
    refine S.ret ?_
    with_reducible repeat (first | refine S.then_n ?_ | refine S.then_x ?_ | refine S.then_r ?_ | refine S.inBlock_n ?_ | refine S.inBlock_r ?_ | refine S.inBlock_x rfl ?_ | refine S.noGoto_r ?_ | refine S.noGoto_n ?_ | refine S.noGoto_x ?_)
    exact S.fin (rs := [_]) (vs := [_]) Try.results23 (⟨rfl, trivial⟩)  (⟨u, rfl, show _ = own u 25 3 (L'.flatMap itC) :: HI (some ⟨t, 0, none⟩) (some L') :: Γ from rfl⟩) Sub.ent
end Go.Proofs.Ythpfljiabhjodaa
