/- The heap: Remove and Fix of package heap; Remove and Change of type Heap. -/
import Derived.Test.YthpfljiabhjodaaPrioJ
namespace Go.Proofs.Ythpfljiabhjodaa
open Go.RowKit
set_option maxRecDepth 20000
theorem fixOk {n i : Nat} {L L' : List It} {x : It} (hh : Heaped n L) (hi : i < n) (hx : L[i]? = some x) (hg : ∀ k, k < n → k ≠ i → L'[k]? = L[k]?) : DownOk n i L' i := by
  refine ⟨fun c c0 cn ce => ?_, fun i0 c cn c0 ce a p ha hp => ?_⟩
  · by_cases e : c = i
    · exact .inl ⟨e, rfl⟩
    · refine .inr fun a p ha hp => ?_
      rw [hg c cn e] at ha
      rw [hg _ (by omega) ce] at hp
      exact hh c c0 cn a p ha hp
  · rw [hg c cn (by omega)] at ha
    rw [hg _ (by omega) (by omega)] at hp
    exact bf_nt (hh c c0 cn a x ha (by rw [ce]; exact hx)) (hh i i0 hi x p hx hp)
theorem hFix_S (t m : Nat) (lv : SV) (L : List It) (M : List (Int × Value)) (i : Nat) (hi : i < L.length) (hl : L.length ≤ 1000) (hat : AtOk L M) (hd : DownOk L.length i L i) :
    Spec Try.prog 30 [.iface 62 (.pointer (some ⟨t, 0, none⟩)), .int .i64 i] [blk t 60 (hpC lv m), own lv 25 3 (L.flatMap itC), mapL m .u32 M] fun Γ _ Θ =>
      ∃ L' M', L'.Perm L ∧ AtOk L' M' ∧ Heaped L'.length L' ∧ Θ = HB t m lv L' M' Γ := by
  refine Spec.of_body Try.func30 rfl Try.ntmps30 rfl ?_
  intro w0 Γ
  show S _ w0 [(0, .iface 62 (.pointer (some ⟨t, 0, none⟩))), (1, .int .i64 i)] (HB t m lv L M Γ) _
  refine S.ownLen lv fun hlen _ _ => ?_
  rw [flat_length itC_len] at hlen
  refine S.seq fun K1 hK1 => ?_
  refine S.region rfl ?_
  refine S.op (S.q (q_move rfl) rfl rfl ?_)
  refine S.op (S.q (q_move rfl) rfl rfl ?_)
  refine S.op (S.q (q_move rfl) rfl rfl ?_)
  refine S.op (S.callI (f := 27) (vs := []) (by kernel_rfl) Try.en27 rfl trivial (iLen_S t m lv) rfl ?_)
  rintro v Θ ⟨rfl, rfl⟩
  rw [show (lv.n : Int) = ((L.length : Nat) : Int) by omega]
  refine S.op (S.call Try.en37 (vs := [_, _, _]) ⟨rfl, rfl, rfl, trivial⟩ (down_S t m lv L.length i L M (by omega) (Nat.le_refl _) hl hat hd) rfl ?_)
  rintro v Θ ⟨L2, M2, i2, rfl, hp2, hat2, hi2, hsame, hok2, _, rfl⟩
  have hl2 := hp2.length_eq
  refine S.op (S.q (q_not rfl) rfl rfl ?_)
  first | with_reducible refine S.nilK ?_ | refine S.nil ?_
  refine hK1 _ _ ?_
  refine S.cond rfl (fun h1 => ?_) (fun h1 => ?_)
  · have e2 : i2 = i := by
      have := h1
      simp only [Bool.not_eq_true', decide_eq_false_iff_not] at this
      omega
    obtain rfl := hsame e2
    refine S.region rfl ?_
    refine S.op (S.q (q_move rfl) rfl rfl ?_)
    refine S.op (S.q (q_move rfl) rfl rfl ?_)
    refine S.op (S.call Try.en36 (vs := [_, _]) ⟨rfl, rfl, trivial⟩ (up_S t m lv L2.length L2 M2 i (by omega) (by omega) (by omega) hat2 ⟨fun c c0 cn ce => (hok2 c c0 cn).resolve_left (fun h => ce h.1), fun h0 => hd.2 h0⟩) rfl ?_)
    rintro v Θ ⟨L3, M3, hp3, hat3, hh3, _, rfl⟩
    first | with_reducible refine S.nilK ?_ | refine S.nil ?_
    with_reducible repeat (first | refine S.then_n ?_ | refine S.then_x ?_ | refine S.then_r ?_ | refine S.inBlock_n ?_ | refine S.inBlock_r ?_ | refine S.inBlock_x rfl ?_ | refine S.noGoto_r ?_ | refine S.noGoto_n ?_ | refine S.noGoto_x ?_)
    exact S.finN (rs := []) (vs := []) Try.results30 (trivial)  (by first | exact ⟨L3, M3, hp3, hat3, by rw [hp3.length_eq]; exact hh3, rfl⟩ | exact ⟨L2, M2, hp2, hat2, fun c c0 cn => (hok2 c c0 (by omega)).resolve_left (fun h => by have := h1; simp only [Bool.not_eq_false', decide_eq_true_eq] at this; omega), rfl⟩) Sub.ent
  · refine S.skip ?_
    with_reducible repeat (first | refine S.then_n ?_ | refine S.then_x ?_ | refine S.then_r ?_ | refine S.inBlock_n ?_ | refine S.inBlock_r ?_ | refine S.inBlock_x rfl ?_ | refine S.noGoto_r ?_ | refine S.noGoto_n ?_ | refine S.noGoto_x ?_)
    with_reducible repeat (first | refine S.then_n ?_ | refine S.then_x ?_ | refine S.then_r ?_ | refine S.inBlock_n ?_ | refine S.inBlock_r ?_ | refine S.inBlock_x rfl ?_ | refine S.noGoto_r ?_ | refine S.noGoto_n ?_ | refine S.noGoto_x ?_)
    exact S.finN (rs := []) (vs := []) Try.results30 (trivial)  (by first | exact ⟨L3, M3, hp3, hat3, by rw [hp3.length_eq]; exact hh3, rfl⟩ | exact ⟨L2, M2, hp2, hat2, fun c c0 cn => (hok2 c c0 (by omega)).resolve_left (fun h => by have := h1; simp only [Bool.not_eq_false', decide_eq_true_eq] at this; omega), rfl⟩) Sub.ent
theorem snoc_of {L : List It} {n : Nat} {x : It} (hl : L.length = n + 1) (hx : L[n]? = some x) : ∃ L3, L = L3 ++ [x] ∧ L3.length = n := by
  refine ⟨L.take n, ?_, by rw [List.length_take]; omega⟩
  have h1 := List.getElem?_eq_some_iff.1 hx
  conv => lhs; rw [← List.take_append_drop n L]
  rw [List.drop_eq_getElem_cons h1.1, h1.2, List.drop_eq_nil_of_le (by omega)]
theorem hRemove_S (t m : Nat) (lv : SV) (L : List It) (M : List (Int × Value)) (i : Nat) (x : It) (hl : L.length ≤ 1000) (hat : AtOk L M) (hh : Heaped L.length L) (hx : L[i]? = some x) :
    Spec Try.prog 29 [.iface 62 (.pointer (some ⟨t, 0, none⟩)), .int .i64 i] [blk t 60 (hpC lv m), own lv 25 3 (L.flatMap itC), mapL m .u32 M] fun Γ _ Θ =>
      ∃ lv' L' M', L.Perm (x :: L') ∧ AtOk L' M' ∧ Heaped L'.length L' ∧ Θ = HB t m lv' L' M' Γ := by
  refine Spec.of_body Try.func29 rfl Try.ntmps29 rfl ?_
  intro w0 Γ
  show S _ w0 [(0, .iface 62 (.pointer (some ⟨t, 0, none⟩))), (1, .int .i64 i)] (HB t m lv L M Γ) _
  refine S.ownLen lv fun hlen _ _ => ?_
  rw [flat_length itC_len] at hlen
  have hiL := (List.getElem?_eq_some_iff.1 hx).1
  obtain ⟨n, hn⟩ : ∃ n, L.length = n + 1 := ⟨L.length - 1, by omega⟩
  obtain ⟨z, hz⟩ := getE (l := L) (i := n) (by omega)
  have hsg := swp_get hx hz
  have hsp := swp_perm hx hz
  have hsl := swp_len L i n x z
  refine S.seq fun K1 hK1 => ?_
  refine S.region rfl ?_
  refine S.op (S.q (q_assign rfl) rfl rfl ?_)
  first | with_reducible refine S.nilK ?_ | refine S.nil ?_
  refine hK1 _ _ ?_
  refine S.seq fun K2 hK2 => ?_
  refine S.region rfl ?_
  refine S.op (S.q (q_move rfl) rfl rfl ?_)
  refine S.op (S.callI (f := 27) (vs := []) (by kernel_rfl) Try.en27 rfl trivial (iLen_S t m lv) rfl ?_)
  rintro v Θ ⟨rfl, rfl⟩
  refine S.op (S.q (q_sub rfl rfl (inI64 (by omega) (by omega))) rfl rfl ?_)
  refine S.op (S.q (q_assign rfl) rfl rfl ?_)
  first | with_reducible refine S.nilK ?_ | refine S.nil ?_
  refine hK2 _ _ ?_
  refine S.seq fun K3 hK3 => ?_
  refine S.seq fun K4 hK4 => ?_
  refine S.region rfl ?_
  rw [show ((lv.n : Int) - 1) = ((n : Nat) : Int) by omega]
  refine S.op (S.q (q_move rfl) rfl rfl ?_)
  refine S.op (S.q (q_move rfl) rfl rfl ?_)
  refine S.op (S.q (q_ne rfl rfl) rfl rfl ?_)
  first | with_reducible refine S.nilK ?_ | refine S.nil ?_
  refine hK4 _ _ ?_
  refine S.cut (fun ρ' Γ' => ∃ L3 M3, L.Perm (x :: L3) ∧ L3.length = n ∧ AtOk (L3 ++ [x]) M3 ∧ Heaped L3.length L3 ∧ ρ' = [(0, .iface 62 (.pointer (some ⟨t, 0, none⟩)))] ∧ Γ' = HB t m lv (L3 ++ [x]) M3 Γ) ?_ ?_
  · refine S.condD rfl (fun h1 => ?_) (fun h1 => ?_)
    · have hin : i < n := by omega
      have hdo : DownOk n i (swp L i n x z) i := fixOk (L := L) (fun c c0 cn => hh c c0 (by omega)) hin hx fun k hk ke => by rw [hsg, if_neg (by omega), if_neg ke]
      refine S.seq fun K5 hK5 => ?_
      refine S.region rfl ?_
      refine S.op (S.q (q_move rfl) rfl rfl ?_)
      refine S.op (S.q (q_move rfl) rfl rfl ?_)
      refine S.op (S.q (q_move rfl) rfl rfl ?_)
      refine S.op (S.callI (f := 77) (vs := [_, _]) (by kernel_rfl) Try.en77 rfl ⟨rfl, rfl, trivial⟩ (Swap_S t m lv L M hat i n x z hx hz) rfl ?_)
      rintro v Θ rfl
      first | with_reducible refine S.nilK ?_ | refine S.nil ?_
      refine hK5 _ _ ?_
      refine S.seq fun K6 hK6 => ?_
      refine S.region rfl ?_
      refine S.op (S.q (q_move rfl) rfl rfl ?_)
      refine S.op (S.q (q_move rfl) rfl rfl ?_)
      refine S.op (S.q (q_move rfl) rfl rfl ?_)
      refine S.op (S.call Try.en37 (vs := [_, _, _]) ⟨rfl, rfl, rfl, trivial⟩ (down_S t m lv n i (swp L i n x z) _ (by omega) (by omega) (by omega) (hat.swap hx hz) hdo) rfl ?_)
      rintro v Θ ⟨L2, M2, i2, rfl, hp2, hat2, hi2, hsame, hok2, htail, rfl⟩
      have hl2 := hp2.length_eq
      refine S.op (S.q (q_not rfl) rfl rfl ?_)
      first | with_reducible refine S.nilK ?_ | refine S.nil ?_
      refine hK6 _ _ ?_
      refine S.cond rfl (fun h2 => ?_) (fun h2 => ?_)
      · have e2 : i2 = i := by
          have := h2
          simp only [Bool.not_eq_true', decide_eq_false_iff_not] at this
          omega
        have e3 := hsame e2
        refine S.region rfl ?_
        refine S.op (S.q (q_move rfl) rfl rfl ?_)
        refine S.op (S.q (q_move rfl) rfl rfl ?_)
        refine S.op (S.call Try.en36 (vs := [_, _]) ⟨rfl, rfl, trivial⟩ (up_S t m lv n L2 M2 i hin (by omega) (by omega) hat2 ⟨fun c c0 cn ce => (hok2 c c0 cn).resolve_left (fun h => ce h.1), by rw [e3]; exact hdo.2⟩) rfl ?_)
        rintro v Θ ⟨L4, M4, hp4, hat4, hh4, htail4, rfl⟩
        first | with_reducible refine S.nilK ?_ | refine S.nil ?_
        with_reducible repeat (first | refine S.then_n ?_ | refine S.then_x ?_ | refine S.then_r ?_ | refine S.inBlock_n ?_ | refine S.inBlock_r ?_ | refine S.inBlock_x rfl ?_ | refine S.noGoto_r ?_ | refine S.noGoto_n ?_ | refine S.noGoto_x ?_)
        first
        | (obtain ⟨L3, rfl, hl3⟩ := snoc_of (L := L4) (n := n) (x := x) (by rw [hp4.length_eq]; omega) (by rw [htail4 n (Nat.le_refl _), htail n (Nat.le_refl _), hsg, if_pos rfl]); exact S.meet ⟨L3, M4, (hsp.symm.trans (hp2.symm.trans hp4.symm)).trans (List.perm_append_singleton x L3), hl3, hat4, by rw [hl3]; exact heaped_mono (L := L3 ++ [x]) hh4 (fun k hk => by rw [List.getElem?_append_left (by omega)]), rfl, rfl⟩ ⟨rfl, trivial⟩ Sub.ent)
        | (obtain ⟨L3, rfl, hl3⟩ := snoc_of (L := L2) (n := n) (x := x) (by omega) (by rw [htail n (Nat.le_refl _), hsg, if_pos rfl]); exact S.meet ⟨L3, M2, (hsp.symm.trans hp2.symm).trans (List.perm_append_singleton x L3), hl3, hat2, by rw [hl3]; exact heaped_mono (L := L3 ++ [x]) (fun c c0 cn => (hok2 c c0 cn).resolve_left (fun h => by have := h2; simp only [Bool.not_eq_false', decide_eq_true_eq] at this; omega)) (fun k hk => by rw [List.getElem?_append_left (by omega)]), rfl, rfl⟩ ⟨rfl, trivial⟩ Sub.ent)
        | (obtain rfl : n = i := (by omega); obtain ⟨L3, rfl, hl3⟩ := snoc_of (L := L) hn hx; exact S.meet ⟨L3, M, List.perm_append_singleton x L3, hl3, hat, heaped_mono (L := L3 ++ [x]) (fun c c0 cn => hh c c0 (by simp; omega)) (fun k hk => by rw [List.getElem?_append_left hk]), rfl, rfl⟩ ⟨rfl, trivial⟩ Sub.ent)
      · refine S.skip ?_
        with_reducible repeat (first | refine S.then_n ?_ | refine S.then_x ?_ | refine S.then_r ?_ | refine S.inBlock_n ?_ | refine S.inBlock_r ?_ | refine S.inBlock_x rfl ?_ | refine S.noGoto_r ?_ | refine S.noGoto_n ?_ | refine S.noGoto_x ?_)
        with_reducible repeat (first | refine S.then_n ?_ | refine S.then_x ?_ | refine S.then_r ?_ | refine S.inBlock_n ?_ | refine S.inBlock_r ?_ | refine S.inBlock_x rfl ?_ | refine S.noGoto_r ?_ | refine S.noGoto_n ?_ | refine S.noGoto_x ?_)
        first
        | (obtain ⟨L3, rfl, hl3⟩ := snoc_of (L := L4) (n := n) (x := x) (by rw [hp4.length_eq]; omega) (by rw [htail4 n (Nat.le_refl _), htail n (Nat.le_refl _), hsg, if_pos rfl]); exact S.meet ⟨L3, M4, (hsp.symm.trans (hp2.symm.trans hp4.symm)).trans (List.perm_append_singleton x L3), hl3, hat4, by rw [hl3]; exact heaped_mono (L := L3 ++ [x]) hh4 (fun k hk => by rw [List.getElem?_append_left (by omega)]), rfl, rfl⟩ ⟨rfl, trivial⟩ Sub.ent)
        | (obtain ⟨L3, rfl, hl3⟩ := snoc_of (L := L2) (n := n) (x := x) (by omega) (by rw [htail n (Nat.le_refl _), hsg, if_pos rfl]); exact S.meet ⟨L3, M2, (hsp.symm.trans hp2.symm).trans (List.perm_append_singleton x L3), hl3, hat2, by rw [hl3]; exact heaped_mono (L := L3 ++ [x]) (fun c c0 cn => (hok2 c c0 cn).resolve_left (fun h => by have := h2; simp only [Bool.not_eq_false', decide_eq_true_eq] at this; omega)) (fun k hk => by rw [List.getElem?_append_left (by omega)]), rfl, rfl⟩ ⟨rfl, trivial⟩ Sub.ent)
        | (obtain rfl : n = i := (by omega); obtain ⟨L3, rfl, hl3⟩ := snoc_of (L := L) hn hx; exact S.meet ⟨L3, M, List.perm_append_singleton x L3, hl3, hat, heaped_mono (L := L3 ++ [x]) (fun c c0 cn => hh c c0 (by simp; omega)) (fun k hk => by rw [List.getElem?_append_left hk]), rfl, rfl⟩ ⟨rfl, trivial⟩ Sub.ent)
    · refine S.skip ?_
      with_reducible repeat (first | refine S.then_n ?_ | refine S.then_x ?_ | refine S.then_r ?_ | refine S.inBlock_n ?_ | refine S.inBlock_r ?_ | refine S.inBlock_x rfl ?_ | refine S.noGoto_r ?_ | refine S.noGoto_n ?_ | refine S.noGoto_x ?_)
      with_reducible repeat (first | refine S.then_n ?_ | refine S.then_x ?_ | refine S.then_r ?_ | refine S.inBlock_n ?_ | refine S.inBlock_r ?_ | refine S.inBlock_x rfl ?_ | refine S.noGoto_r ?_ | refine S.noGoto_n ?_ | refine S.noGoto_x ?_)
      first
      | (obtain ⟨L3, rfl, hl3⟩ := snoc_of (L := L4) (n := n) (x := x) (by rw [hp4.length_eq]; omega) (by rw [htail4 n (Nat.le_refl _), htail n (Nat.le_refl _), hsg, if_pos rfl]); exact S.meet ⟨L3, M4, (hsp.symm.trans (hp2.symm.trans hp4.symm)).trans (List.perm_append_singleton x L3), hl3, hat4, by rw [hl3]; exact heaped_mono (L := L3 ++ [x]) hh4 (fun k hk => by rw [List.getElem?_append_left (by omega)]), rfl, rfl⟩ ⟨rfl, trivial⟩ Sub.ent)
      | (obtain ⟨L3, rfl, hl3⟩ := snoc_of (L := L2) (n := n) (x := x) (by omega) (by rw [htail n (Nat.le_refl _), hsg, if_pos rfl]); exact S.meet ⟨L3, M2, (hsp.symm.trans hp2.symm).trans (List.perm_append_singleton x L3), hl3, hat2, by rw [hl3]; exact heaped_mono (L := L3 ++ [x]) (fun c c0 cn => (hok2 c c0 cn).resolve_left (fun h => by have := h2; simp only [Bool.not_eq_false', decide_eq_true_eq] at this; omega)) (fun k hk => by rw [List.getElem?_append_left (by omega)]), rfl, rfl⟩ ⟨rfl, trivial⟩ Sub.ent)
      | (obtain rfl : n = i := (by omega); obtain ⟨L3, rfl, hl3⟩ := snoc_of (L := L) hn hx; exact S.meet ⟨L3, M, List.perm_append_singleton x L3, hl3, hat, heaped_mono (L := L3 ++ [x]) (fun c c0 cn => hh c c0 (by simp; omega)) (fun k hk => by rw [List.getElem?_append_left hk]), rfl, rfl⟩ ⟨rfl, trivial⟩ Sub.ent)
  · rintro ρ' Γ' ⟨L3, M3, hperm3, hl3, hat3, hh3, rfl, rfl⟩
    refine hK3 _ _ ?_
    refine S.seq fun K7 hK7 => ?_
    refine S.region rfl ?_
    refine S.mapNodup m fun hnd => ?_
    refine S.op (S.q (q_move rfl) rfl rfl ?_)
    refine S.op (S.callI (f := 75) (vs := []) (by kernel_rfl) Try.en75 rfl trivial (iPop_S t m lv L3 M3 x (by omega)) rfl ?_)
    rintro v Θ ⟨lv', rfl, rfl⟩
    refine S.op (S.q (q_assign rfl) rfl rfl ?_)
    first | with_reducible refine S.nilK ?_ | refine S.nil ?_
    refine hK7 _ _ ?_
    refine S.ret ?_
    with_reducible repeat (first | refine S.then_n ?_ | refine S.then_x ?_ | refine S.then_r ?_ | refine S.inBlock_n ?_ | refine S.inBlock_r ?_ | refine S.inBlock_x rfl ?_ | refine S.noGoto_r ?_ | refine S.noGoto_n ?_ | refine S.noGoto_x ?_)
    exact S.fin (rs := [_]) (vs := [_]) Try.results29 (⟨rfl, trivial⟩)  (⟨lv', L3, _, hperm3, hat3.pop hnd, hh3, rfl⟩) Sub.ent
end Go.Proofs.Ythpfljiabhjodaa
