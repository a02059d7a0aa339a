/- Package heap's Push and Pop; the heap as a list in order. -/
import Derived.Test.YthpfljiabhjodaaPrioD
namespace Go.Proofs.Ythpfljiabhjodaa
open Go.RowKit
set_option maxRecDepth 20000
theorem heaped_mono {n : Nat} {L L' : List It} (h : Heaped n L) (hg : ∀ k, k < n → L'[k]? = L[k]?) : Heaped n L' := fun c c0 cn a p ha hp => h c c0 cn a p (by rw [← hg c cn]; exact ha) (by rw [← hg _ (by omega)]; exact hp)
theorem hPush_S (t m : Nat) (lv : SV) (L : List It) (M : List (Int × Value)) (x : It) (hl : L.length ≤ 999) (hat : AtOk L M) (hh : Heaped L.length L) (hx : alGet x.id M = none) :
    Spec Try.prog 25 [.iface 62 (.pointer (some ⟨t, 0, none⟩)), .iface 25 (.agg (itC x).toArray)] [blk t 60 (hpC lv m), own lv 25 3 (L.flatMap itC), mapL m .u32 M] fun Γ _ Θ =>
      ∃ lv' L' M', L'.Perm (x :: L) ∧ AtOk L' M' ∧ Heaped L'.length L' ∧ Θ = HB t m lv' L' M' Γ := by
  refine Spec.of_body Try.func25 rfl Try.ntmps25 rfl ?_
  intro w0 Γ
  show S _ w0 [(0, .iface 62 (.pointer (some ⟨t, 0, none⟩))), (1, .iface 25 (.agg (itC x).toArray))] (HB t m lv L M Γ) _
  refine S.seq fun K1 hK1 => ?_
  refine S.region rfl ?_
  refine S.op (S.q (q_move rfl) rfl rfl ?_)
  refine S.op (S.q (q_move rfl) rfl rfl ?_)
  refine S.op (S.callI (f := 76) (vs := [_]) (by kernel_rfl) Try.en76 rfl ⟨rfl, trivial⟩ (iPush_S t m lv L M x (by omega)) rfl ?_)
  rintro v Θ ⟨lv', rfl⟩
  refine S.ownLen lv' fun hlen _ _ => ?_
  rw [flat_length itC_len] at hlen
  simp only [List.length_append, List.length_cons, List.length_nil] at hlen
  first | with_reducible refine S.nilK ?_ | refine S.nil ?_
  refine hK1 _ _ ?_
  refine S.region rfl ?_
  refine S.op (S.q (q_move rfl) rfl rfl ?_)
  refine S.op (S.q (q_move rfl) rfl rfl ?_)
  refine S.op (S.callI (f := 27) (vs := []) (by kernel_rfl) Try.en27 rfl trivial (iLen_S t m lv') rfl ?_)
  rintro v Θ ⟨rfl, rfl⟩
  refine S.op (S.q (q_sub rfl rfl (inI64 (by omega) (by omega))) rfl rfl ?_)
  rw [show ((lv'.n : Int) - 1) = ((L.length : Nat) : Int) by omega]
  refine S.op (S.call Try.en36 (vs := [_, _]) ⟨rfl, rfl, trivial⟩ (up_S t m lv' (L.length + 1) (L ++ [x]) (alPut x.id (.int .i64 L.length) M) L.length (by omega) (by simp) (by simp; omega) (hat.push hx) ⟨fun c c0 cn ce => (by intro a p ha hp; rw [List.getElem?_append_left (by omega)] at ha hp; exact hh c c0 (by omega) a p ha hp), fun _ c cn c0 ce => by omega⟩) rfl ?_)
  rintro v Θ ⟨L', M', hp, hat', hh', _, rfl⟩
  first | with_reducible refine S.nilK ?_ | refine S.nil ?_
  with_reducible repeat (first | refine S.then_n ?_ | refine S.then_x ?_ | refine S.then_r ?_ | refine S.inBlock_n ?_ | refine S.inBlock_r ?_ | refine S.inBlock_x rfl ?_ | refine S.noGoto_r ?_ | refine S.noGoto_n ?_ | refine S.noGoto_x ?_)
  exact S.finN (rs := []) (vs := []) Try.results25 (trivial)  (⟨lv', L', M', hp.trans (List.perm_append_singleton x L), hat', by rw [hp.length_eq]; simpa using hh', rfl⟩) Sub.ent
theorem hPop_S (t m : Nat) (lv : SV) (L : List It) (M : List (Int × Value)) (r : It) (hl : L.length ≤ 1000) (hat : AtOk L M) (hh : Heaped L.length L) (hr : L[0]? = some r) :
    Spec Try.prog 26 [.iface 62 (.pointer (some ⟨t, 0, none⟩))] [blk t 60 (hpC lv m), own lv 25 3 (L.flatMap itC), mapL m .u32 M] fun Γ v Θ =>
      ∃ lv' L' M', v = .iface 25 (.agg (itC r).toArray) ∧ L.Perm (r :: L') ∧ AtOk L' M' ∧ Heaped L'.length L' ∧ Θ = HB t m lv' L' M' Γ := by
  refine Spec.of_body Try.func26 rfl Try.ntmps26 rfl ?_
  intro w0 Γ
  show S _ w0 [(0, .iface 62 (.pointer (some ⟨t, 0, none⟩)))] (HB t m lv L M Γ) _
  refine S.ownLen lv fun hlen _ _ => ?_
  rw [flat_length itC_len] at hlen
  have hL0 := (List.getElem?_eq_some_iff.1 hr).1
  obtain ⟨n, hn⟩ : ∃ n, L.length = n + 1 := ⟨L.length - 1, by omega⟩
  obtain ⟨z, hz⟩ := getE (l := L) (i := n) (by omega)
  have hsg := swp_get hr hz
  have hsp := swp_perm hr hz
  have hsl := swp_len L 0 n r z
  have hdo : DownOk n 0 (swp L 0 n r z) 0 := by
    refine ⟨fun c c0 cn ce => .inr fun a p ha hp => ?_, fun h => by omega⟩
    rw [hsg, if_neg (by omega), if_neg (by omega)] at ha
    rw [hsg, if_neg (by omega), if_neg (by omega)] at hp
    exact hh c c0 (by omega) a p ha hp
  refine S.seq fun K1 hK1 => ?_
  refine S.region rfl ?_
  refine S.op (S.q (q_assign rfl) rfl rfl ?_)
  first | with_reducible refine S.nilK ?_ | refine S.nil ?_
  refine hK1 _ _ ?_
  refine S.seq fun K2 hK2 => ?_
  refine S.region rfl ?_
  refine S.op (S.q (q_move rfl) rfl rfl ?_)
  refine S.op (S.callI (f := 27) (vs := []) (by kernel_rfl) Try.en27 rfl trivial (iLen_S t m lv) rfl ?_)
  rintro v Θ ⟨rfl, rfl⟩
  refine S.op (S.q (q_sub rfl rfl (inI64 (by omega) (by omega))) rfl rfl ?_)
  refine S.op (S.q (q_assign rfl) rfl rfl ?_)
  first | with_reducible refine S.nilK ?_ | refine S.nil ?_
  refine hK2 _ _ ?_
  refine S.seq fun K3 hK3 => ?_
  refine S.region rfl ?_
  rw [show ((lv.n : Int) - 1) = ((n : Nat) : Int) by omega]
  refine S.op (S.q (q_move rfl) rfl rfl ?_)
  refine S.op (S.q (q_move rfl) rfl rfl ?_)
  refine S.op (S.callI (f := 77) (vs := [_, _]) (by kernel_rfl) Try.en77 rfl ⟨rfl, rfl, trivial⟩ (Swap_S t m lv L M hat 0 n r z hr hz) rfl ?_)
  rintro v Θ rfl
  first | with_reducible refine S.nilK ?_ | refine S.nil ?_
  refine hK3 _ _ ?_
  refine S.seq fun K4 hK4 => ?_
  refine S.region rfl ?_
  refine S.op (S.q (q_move rfl) rfl rfl ?_)
  refine S.op (S.q (q_move rfl) rfl rfl ?_)
  refine S.op (S.call Try.en37 (vs := [_, _, _]) ⟨rfl, rfl, rfl, trivial⟩ (down_S t m lv n 0 (swp L 0 n r z) _ (by omega) (by omega) (by omega) (hat.swap hr hz) hdo) rfl ?_)
  rintro v Θ ⟨L2, M2, i, rfl, hp2, hat2, _, _, hok2, htail, rfl⟩
  have hl2 := hp2.length_eq
  have hr2 : L2[n]? = some r := by rw [htail n (Nat.le_refl _), hsg, if_pos rfl]
  obtain ⟨L3, rfl⟩ : ∃ L3, L2 = L3 ++ [r] := by
    refine ⟨L2.take n, ?_⟩
    have h1 := (List.getElem?_eq_some_iff.1 hr2)
    conv => lhs; rw [← List.take_append_drop n L2]
    rw [List.drop_eq_getElem_cons h1.1, h1.2, List.drop_eq_nil_of_le (by omega)]
  have hl3 : L3.length = n := by simp at hl2; omega
  have hh3 : Heaped L3.length L3 := by
    rw [hl3]
    refine heaped_mono (L := L3 ++ [r]) (fun c c0 cn => (hok2 c c0 cn).resolve_left (by omega)) fun k hk => ?_
    rw [List.getElem?_append_left (by omega)]
  have hperm : L.Perm (r :: L3) := (hsp.symm.trans hp2.symm).trans (List.perm_append_singleton r L3)
  first | with_reducible refine S.nilK ?_ | refine S.nil ?_
  refine hK4 _ _ ?_
  refine S.seq fun K5 hK5 => ?_
  refine S.region rfl ?_
  refine S.mapNodup m fun hnd => ?_
  refine S.op (S.q (q_move rfl) rfl rfl ?_)
  refine S.op (S.callI (f := 75) (vs := []) (by kernel_rfl) Try.en75 rfl trivial (iPop_S t m lv L3 M2 r (by omega)) rfl ?_)
  rintro v Θ ⟨lv', rfl, rfl⟩
  refine S.op (S.q (q_assign rfl) rfl rfl ?_)
  first | with_reducible refine S.nilK ?_ | refine S.nil ?_
  refine hK5 _ _ ?_
  refine S.ret ?_
  with_reducible repeat (first | refine S.then_n ?_ | refine S.then_x ?_ | refine S.then_r ?_ | refine S.inBlock_n ?_ | refine S.inBlock_r ?_ | refine S.inBlock_x rfl ?_ | refine S.noGoto_r ?_ | refine S.noGoto_n ?_ | refine S.noGoto_x ?_)
  exact S.fin (rs := [_]) (vs := [_]) Try.results26 (⟨rfl, trivial⟩)  (⟨lv', L3, _, rfl, hperm, hat2.pop hnd, hh3, rfl⟩) Sub.ent
/-- A heap, whoever is in it: nil, or a list in order. -/
def HI (pa : Option Addr) : Option (List It) → Assn
  | none => fun _ => pa = none
  | some l => fun h => ∃ t m lv L M, pa = some ⟨t, 0, none⟩ ∧ L.Perm l ∧ Srt l ∧ Heaped L.length L ∧ AtOk L M ∧ stars [blk t 60 (hpC lv m), own lv 25 3 (L.flatMap itC), mapL m .u32 M] h
section
variable {pa : Option Addr} {l : List It}
theorem Ent.closeHI {t m : Nat} {lv : SV} {L : List It} {M : List (Int × Value)} (hp : L.Perm l) (hs : Srt l) (hh : Heaped L.length L) (ha : AtOk L M) (Γ : List Assn) : Ent (HB t m lv L M Γ) (HI (some ⟨t, 0, none⟩) (some l) :: Γ) := fun h hh' => by
  have := (stars_append (Γ := [blk t 60 (hpC lv m), own lv 25 3 (L.flatMap itC), mapL m .u32 M]) (Δ := Γ)).1 hh'
  exact Ent.mono1 Γ (fun y hy => ⟨t, m, lv, L, M, rfl, hp, hs, hh, ha, hy⟩) h this
theorem Ent.noHI (Γ : List Assn) : Ent Γ (HI none none :: Γ) := fun h hs => ⟨HL.emp, h, HL.emp_disj _, HL.emp_le _, HL.le.refl _, rfl, hs⟩
theorem Sat.openHI {w : World} {Γ : List Assn} (hs : Sat w (HI pa (some l) :: Γ)) : ∃ t m lv L M, pa = some ⟨t, 0, none⟩ ∧ L.Perm l ∧ Srt l ∧ Heaped L.length L ∧ AtOk L M ∧ lv.n = L.length ∧ Sat w (HB t m lv L M Γ) := by
  obtain ⟨h, l0, h1, h2, d, l1, l2, ⟨t, m, lv, L, M, e1, e2, e3, e4, e5, e6⟩, s⟩ := hs
  refine ⟨t, m, lv, L, M, e1, e2, e3, e4, e5, ?_, h, l0, (stars_append (Γ := [blk t 60 (hpC lv m), own lv 25 3 (L.flatMap itC), mapL m .u32 M]) (Δ := Γ)).2 ⟨h1, h2, d, l1, l2, e6, s⟩⟩
  obtain ⟨_, k2, _, _, _, _, _, k3, _, _, _, p, _⟩ := e6
  have := p.1
  rw [flat_length itC_len] at this
  omega
theorem Spec.openHI {P : Program} {f : FuncId} {args : List Value} {pre : List Assn} {post : List Assn → Value → List Assn → Prop} (h : ∀ t m lv L M, pa = some ⟨t, 0, none⟩ → L.Perm l → Srt l → Heaped L.length L → AtOk L M → lv.n = L.length → Spec P f args (HB t m lv L M pre) post) : Spec P f args (HI pa (some l) :: pre) post := by
  intro Γ w hs
  obtain ⟨t, m, lv, L, M, e1, e2, e3, e4, e5, e6, hs'⟩ := Sat.openHI hs
  exact h t m lv L M e1 e2 e3 e4 e5 e6 Γ w hs'
theorem Spec.noHI {P : Program} {f : FuncId} {args : List Value} {pre : List Assn} {post : List Assn → Value → List Assn → Prop} (h : pa = none → Spec P f args pre post) : Spec P f args (HI pa none :: pre) post := by
  intro Γ w hs
  have e : pa = none := by obtain ⟨x, _, p⟩ := hs.head; exact p
  exact h e Γ w (hs.ent (Ent.drop _ _))
end
theorem HNew_S : Spec Try.prog 11 [] [] fun Γ v Θ => ∃ pa, v = .pointer pa ∧ Θ = HI pa (some []) :: Γ := by
  refine Spec.of_body Try.func11 rfl Try.ntmps11 rfl ?_
  intro w0 Γ
  show S _ w0 [] Γ _
  refine S.seq fun K1 hK1 => ?_
  refine S.region rfl ?_
  refine S.op (S.q (q_assign rfl) rfl rfl ?_)
  first | with_reducible refine S.nilK ?_ | refine S.nil ?_
  refine hK1 _ _ ?_
  refine S.seq fun K2 hK2 => ?_
  refine S.region rfl ?_
  refine S.op (S.makeMap .u32 rfl ?_)
  intro b1
  refine S.op (S.q (q_build (pvs := [(_, _)]) [_, _] Try.z58 Try.p58 ⟨⟨rfl, rfl⟩, trivial⟩ rfl) rfl rfl ?_)
  refine S.op (S.q (q_build (pvs := [(_, _)]) [_, _] Try.z60 Try.p60 ⟨⟨rfl, rfl⟩, trivial⟩ rfl) rfl rfl ?_)
  refine S.op (S.box (cs := [_, _]) rfl rfl rfl ?_)
  intro b4
  refine S.op (S.q (q_assign rfl) rfl rfl ?_)
  first | with_reducible refine S.nilK ?_ | refine S.nil ?_
  refine hK2 _ _ ?_
  refine S.ret ?_
  with_reducible repeat (first | refine S.then_n ?_ | refine S.then_x ?_ | refine S.then_r ?_ | refine S.inBlock_n ?_ | refine S.inBlock_r ?_ | refine S.inBlock_x rfl ?_ | refine S.noGoto_r ?_ | refine S.noGoto_n ?_ | refine S.noGoto_x ?_)
  refine S.ent (show Ent _ (own SV.nil 25 3 (([] : List It).flatMap itC) :: _) from Ent.ownNil 25 3) ?_
  refine S.ent ((Sub.ent : Ent _ (HB b4 b1 SV.nil [] [] Γ)).trans (Ent.closeHI (.refl _) List.Pairwise.nil (fun c c0 cn => by simp at cn) ⟨fun i x h => by simp at h, fun z v h => by simp [alGet] at h⟩ Γ)) ?_
  exact S.fin (rs := [_]) (vs := [_]) Try.results11 (⟨rfl, trivial⟩)  (⟨some ⟨b4, 0, none⟩, rfl, rfl⟩) Sub.ent
end Go.Proofs.Ythpfljiabhjodaa
