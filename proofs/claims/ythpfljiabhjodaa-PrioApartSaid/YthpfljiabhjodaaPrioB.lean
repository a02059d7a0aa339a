/- A heap of things that have an order, plain law. -/
import Derived.Test.YthpfljiabhjodaaPrioA
namespace Go.Proofs.Ythpfljiabhjodaa
/-- What stands at c isn't ahead of its parent. -/
def Ok (L : List It) (c : Nat) : Prop := ∀ a p, L[c]? = some a → L[(c - 1) / 2]? = some p → bf a p = false
def Heaped (n : Nat) (L : List It) : Prop := ∀ c, 0 < c → c < n → Ok L c
def UpOk (n : Nat) (L : List It) (j : Nat) : Prop := (∀ c, 0 < c → c < n → c ≠ j → Ok L c) ∧ (0 < j → ∀ c, c < n → 0 < c → (c - 1) / 2 = j → ∀ a p, L[c]? = some a → L[(j - 1) / 2]? = some p → bf a p = false)
/-- Two change places. -/
def swp (L : List It) (i j : Nat) (x y : It) : List It := (L.set i y).set j x
theorem swp_len (L : List It) (i j : Nat) (x y : It) : (swp L i j x y).length = L.length := by simp [swp]
theorem swp_get {L : List It} {i j : Nat} {x y : It} (hi : L[i]? = some x) (hj : L[j]? = some y) (k : Nat) : (swp L i j x y)[k]? = if k = j then some x else if k = i then some y else L[k]? := by
  have h1 := (List.getElem?_eq_some_iff.1 hi).1
  have h2 := (List.getElem?_eq_some_iff.1 hj).1
  unfold swp
  rw [List.getElem?_set, List.getElem?_set, List.length_set]
  by_cases e1 : k = j
  · subst e1; simp [h2]
  · rw [if_neg (Ne.symm e1), if_neg e1]
    by_cases e2 : k = i
    · subst e2; simp [h1]
    · rw [if_neg (Ne.symm e2), if_neg e2]
theorem swp_perm {L : List It} {i j : Nat} {x y : It} (hi : L[i]? = some x) (hj : L[j]? = some y) : (swp L i j x y).Perm L := by
  obtain ⟨h1, e1⟩ := List.getElem?_eq_some_iff.1 hi
  obtain ⟨h2, e2⟩ := List.getElem?_eq_some_iff.1 hj
  have := List.set_set_perm h1 h2
  rw [e1, e2] at this
  exact this
theorem upStop0 {n : Nat} {L : List It} (h : UpOk n L 0) : Heaped n L := fun c h0 hc => h.1 c h0 hc (by omega)
theorem upStop {n : Nat} {L : List It} {j : Nat} (h : UpOk n L j) {x y : It} (hi : L[(j - 1) / 2]? = some x) (hj : L[j]? = some y) (hb : bf y x = false) : Heaped n L := fun c h0 hc => by
  by_cases e : c = j
  · subst e
    intro a p ha hp
    rw [hj] at ha
    rw [hi] at hp
    cases ha
    cases hp
    exact hb
  · exact h.1 c h0 hc e
theorem upStep {n : Nat} {L : List It} {j : Nat} (h : UpOk n L j) (h0 : 0 < j) (hn : j < n) {x y : It} (hi : L[(j - 1) / 2]? = some x) (hj : L[j]? = some y) (hb : bf y x = true) : UpOk n (swp L ((j - 1) / 2) j x y) ((j - 1) / 2) := by
  obtain ⟨h1, h2⟩ := h
  refine ⟨fun c c0 cn ce a p ha hp => ?_, fun i0 c cn c0 ce a p ha hp => ?_⟩
  · rw [swp_get hi hj] at ha hp
    by_cases e1 : c = j
    · subst e1
      rw [if_pos rfl] at ha
      cases ha
      rw [if_neg (by omega), if_pos rfl] at hp
      cases hp
      exact bf_as hb
    · rw [if_neg e1, if_neg ce] at ha
      by_cases e2 : (c - 1) / 2 = j
      · rw [if_pos e2] at hp
        cases hp
        exact h2 h0 c cn c0 e2 a x ha hi
      · rw [if_neg e2] at hp
        by_cases e3 : (c - 1) / 2 = (j - 1) / 2
        · rw [if_pos e3] at hp
          cases hp
          have hx := h1 c c0 cn e1 a x ha (by rw [e3]; exact hi)
          cases hay : bf a y with
          | false => rfl
          | true => rw [bf_tr hay hb] at hx; cases hx
        · rw [if_neg e3] at hp
          exact h1 c c0 cn e1 a p ha hp
  · rw [swp_get hi hj] at ha hp
    rw [if_neg (by omega), if_neg (by omega)] at hp
    have hx := h1 ((j - 1) / 2) i0 (by omega) (by omega) x p hi hp
    by_cases e1 : c = j
    · rw [if_pos e1] at ha
      cases ha
      exact hx
    · rw [if_neg e1, if_neg (by omega)] at ha
      have := h1 c c0 cn e1 a x ha (by rw [ce]; exact hi)
      exact bf_nt this hx
def DownOk (n i0 : Nat) (L : List It) (i : Nat) : Prop := (∀ c, 0 < c → c < n → (c - 1) / 2 ≠ i → (c = i0 ∧ i = i0) ∨ Ok L c) ∧ (0 < i → ∀ c, c < n → 0 < c → (c - 1) / 2 = i → ∀ a p, L[c]? = some a → L[(i - 1) / 2]? = some p → bf a p = false)
theorem downStop {n i0 : Nat} {L : List It} {i : Nat} (h : DownOk n i0 L i) (hc : ∀ c, 0 < c → c < n → (c - 1) / 2 = i → Ok L c) : ∀ c, 0 < c → c < n → (c = i0 ∧ i = i0) ∨ Ok L c := fun c c0 cn => by
  by_cases e : (c - 1) / 2 = i
  · exact .inr (hc c c0 cn e)
  · exact h.1 c c0 cn e
theorem downStep {n i0 : Nat} {L : List It} {i j : Nat} (h : DownOk n i0 L i) (hj0 : 0 < j) (hji : (j - 1) / 2 = i) (hn : j < n) {x y : It} (hi : L[i]? = some x) (hj : L[j]? = some y) (hb : bf y x = true)
    (hm : ∀ c a, 0 < c → c < n → (c - 1) / 2 = i → L[c]? = some a → bf a y = false) : DownOk n i0 (swp L i j x y) j := by
  obtain ⟨h1, h2⟩ := h
  refine ⟨fun c c0 cn ce => .inr fun a p ha hp => ?_, fun _ c cn c0 ce a p ha hp => ?_⟩
  · rw [swp_get hi hj] at ha hp
    rw [if_neg ce] at hp
    by_cases e1 : c = j
    · rw [if_pos e1] at ha
      cases ha
      rw [if_pos (by omega)] at hp
      cases hp
      exact bf_as hb
    · rw [if_neg e1] at ha
      by_cases e2 : c = i
      · rw [if_pos e2] at ha
        cases ha
        rw [if_neg (by omega)] at hp
        exact h2 (by omega) j hn hj0 hji y p hj (by rw [← e2]; exact hp)
      · rw [if_neg e2] at ha
        by_cases e3 : (c - 1) / 2 = i
        · rw [if_pos e3] at hp
          cases hp
          exact hm c a c0 cn e3 ha
        · rw [if_neg e3] at hp
          rcases h1 c c0 cn e3 with ⟨e4, e5⟩ | h4
          · omega
          · exact h4 a p ha hp
  · rw [swp_get hi hj] at ha hp
    rw [if_neg (by omega), if_neg (by omega)] at ha
    rw [if_neg (by omega), if_pos hji] at hp
    cases hp
    rcases h1 c c0 cn (by omega) with ⟨e4, e5⟩ | h4
    · omega
    · exact h4 a y ha (by rw [ce]; exact hj)
/-- Nobody is ahead of the first. -/
theorem heap_min {L : List It} (h : Heaped L.length L) {r : It} (hr : L[0]? = some r) : ∀ (k : Nat) (a : It), L[k]? = some a → bf a r = false := by
  intro k
  induction k using Nat.strongRecOn with
  | ind k ih =>
    intro a ha
    by_cases e : k = 0
    · subst e
      rw [hr] at ha
      cases ha
      exact bf_irr _
    · have hk := (List.getElem?_eq_some_iff.1 ha).1
      obtain ⟨p, hp⟩ : ∃ p, L[(k - 1) / 2]? = some p := ⟨_, List.getElem?_eq_getElem (by omega)⟩
      exact bf_nt (h k (by omega) hk a p ha hp) (ih _ (by omega) p hp)
/-! In order. -/
def Srt (l : List It) : Prop := l.Pairwise (fun a b => bf a b = true)
def ins (x : It) : List It → List It
  | [] => [x]
  | y :: l => if bf x y then x :: y :: l else y :: ins x l
theorem ins_perm (x : It) : ∀ l, (ins x l).Perm (x :: l)
  | [] => .refl _
  | y :: l => by
    unfold ins
    split
    · exact .refl _
    · exact ((ins_perm x l).cons y).trans (.swap x y l)
theorem ins_srt {x : It} : ∀ {l : List It}, Srt l → (∀ y ∈ l, y.id ≠ x.id) → Srt (ins x l)
  | [], _, _ => by simp [ins, Srt]
  | y :: l, h, hx => by
    unfold ins
    have h' := List.pairwise_cons.1 h
    split
    · rename_i hb
      refine List.pairwise_cons.2 ⟨fun z hz => ?_, h⟩
      rcases List.mem_cons.1 hz with rfl | hz
      · exact hb
      · exact bf_tr hb (h'.1 z hz)
    · rename_i hb
      refine List.pairwise_cons.2 ⟨fun z hz => ?_, ins_srt h'.2 fun z hz => hx z (List.mem_cons_of_mem _ hz)⟩
      rcases List.mem_cons.1 ((ins_perm x l).mem_iff.1 hz) with rfl | hz
      · exact (bf_tot (hx y (List.mem_cons_self ..))).resolve_right hb
      · exact h'.1 z hz
theorem srt_head {L l : List It} {h r : It} (hh : Heaped L.length L) (hr : L[0]? = some r) (hp : L.Perm (h :: l)) (hs : Srt (h :: l)) : r = h := by
  have h' := List.pairwise_cons.1 hs
  have hm : r ∈ h :: l := hp.mem_iff.1 (List.mem_of_getElem? hr)
  rcases List.mem_cons.1 hm with e | hm
  · exact e
  · obtain ⟨k, hk⟩ := List.getElem?_of_mem (hp.mem_iff.2 (List.mem_cons_self ..))
    have := heap_min hh hr k h hk
    rw [h'.1 r hm] at this
    cases this
theorem srt_unique : ∀ {l m : List It}, Srt l → Srt m → l.Perm m → l = m
  | [], m, _, _, hp => (List.nil_perm.1 hp).symm
  | a :: l, [], _, _, hp => by have := hp.length_eq; simp at this
  | a :: l, b :: m, hl, hm, hp => by
    have hl' := List.pairwise_cons.1 hl
    have hm' := List.pairwise_cons.1 hm
    have e : a = b := by
      rcases List.mem_cons.1 (hp.mem_iff.1 (List.mem_cons_self ..)) with e | h1
      · exact e
      · rcases List.mem_cons.1 (hp.mem_iff.2 (List.mem_cons_self ..)) with e | h2
        · exact e.symm
        · have := bf_as (hl'.1 b h2)
          rw [hm'.1 a h1] at this
          cases this
    subst e
    rw [srt_unique hl'.2 hm'.2 (List.Perm.cons_inv hp)]
/-! Where each stands. -/
def AtOk (L : List It) (M : List (Int × Value)) : Prop := (∀ (i : Nat) x, L[i]? = some x → alGet x.id M = some (.int .i64 i)) ∧ (∀ z v, alGet z M = some v → ∃ (i : Nat) (x : It), L[i]? = some x ∧ x.id = z)
theorem AtOk.inj {L : List It} {M : List (Int × Value)} (h : AtOk L M) {i j : Nat} {x y : It} (hi : L[i]? = some x) (hj : L[j]? = some y) (e : x.id = y.id) : i = j := by
  have h1 := h.1 i x hi
  rw [e, h.1 j y hj] at h1
  simp only [Option.some.injEq, Value.int.injEq, true_and] at h1
  omega
theorem AtOk.swap {L : List It} {M : List (Int × Value)} (h : AtOk L M) {i j : Nat} {x y : It} (hi : L[i]? = some x) (hj : L[j]? = some y) : AtOk (swp L i j x y) (alPut x.id (.int .i64 j) (alPut y.id (.int .i64 i) M)) := by
  refine ⟨fun k z hk => ?_, fun z v hz => ?_⟩
  · rw [swp_get hi hj] at hk
    rw [alGet_put, alGet_put]
    by_cases e1 : k = j
    · rw [if_pos e1] at hk
      cases hk
      rw [if_pos rfl, e1]
    · rw [if_neg e1] at hk
      by_cases e2 : k = i
      · rw [if_pos e2] at hk
        cases hk
        rw [if_neg (fun e => e1 (e2.trans (h.inj hj hi e).symm)), if_pos rfl, e2]
      · rw [if_neg e2] at hk
        rw [if_neg (fun e => e2 (h.inj hk hi e)), if_neg (fun e => e1 (h.inj hk hj e))]
        exact h.1 k z hk
  · rw [alGet_put, alGet_put] at hz
    by_cases e1 : z = x.id
    · exact ⟨j, x, by rw [swp_get hi hj, if_pos rfl], e1.symm⟩
    · rw [if_neg e1] at hz
      by_cases e2 : z = y.id
      · refine ⟨i, y, ?_, e2.symm⟩
        rw [swp_get hi hj]
        by_cases e3 : i = j
        · rw [if_pos e3]
          subst e3
          rw [hi] at hj
          exact hj
        · rw [if_neg e3, if_pos rfl]
      · rw [if_neg e2] at hz
        obtain ⟨k, w, hk, hw⟩ := h.2 z v hz
        refine ⟨k, w, ?_, hw⟩
        rw [swp_get hi hj, if_neg (fun e => e2 ?_), if_neg (fun e => e1 ?_)]
        · exact hk
        · subst e; rw [hi] at hk; cases hk; exact hw.symm
        · subst e; rw [hj] at hk; cases hk; exact hw.symm
theorem AtOk.push {L : List It} {M : List (Int × Value)} (h : AtOk L M) {x : It} (hx : alGet x.id M = none) : AtOk (L ++ [x]) (alPut x.id (.int .i64 L.length) M) := by
  refine ⟨fun k z hk => ?_, fun z v hz => ?_⟩
  · rw [alGet_put]
    by_cases e : k < L.length
    · rw [List.getElem?_append_left e] at hk
      have h1 := h.1 k z hk
      rw [if_neg (fun e => by rw [e, hx] at h1; cases h1)]
      exact h1
    · rw [List.getElem?_append_right (by omega)] at hk
      have hl := (List.getElem?_eq_some_iff.1 hk).1
      simp at hl
      have e0 : k = L.length := by omega
      subst e0
      simp at hk
      subst hk
      rw [if_pos rfl]
  · rw [alGet_put] at hz
    by_cases e : z = x.id
    · exact ⟨L.length, x, by simp, e.symm⟩
    · rw [if_neg e] at hz
      obtain ⟨k, w, hk, hw⟩ := h.2 z v hz
      exact ⟨k, w, by rw [List.getElem?_append_left (List.getElem?_eq_some_iff.1 hk).1]; exact hk, hw⟩
theorem AtOk.pop {L : List It} {x : It} {M : List (Int × Value)} (h : AtOk (L ++ [x]) M) (hn : (M.map (·.1)).Nodup) : AtOk L (alDel x.id M) := by
  have hx : (L ++ [x])[L.length]? = some x := by simp
  have hk' : ∀ k z, L[k]? = some z → (L ++ [x])[k]? = some z := fun k z hk => by rw [List.getElem?_append_left (List.getElem?_eq_some_iff.1 hk).1]; exact hk
  refine ⟨fun k z hk => ?_, fun z v hz => ?_⟩
  · rw [alGet_del _ hn]
    have hlt := (List.getElem?_eq_some_iff.1 hk).1
    rw [if_neg (fun e => by have := h.inj (hk' k z hk) hx e; omega)]
    exact h.1 k z (hk' k z hk)
  · rw [alGet_del _ hn] at hz
    by_cases e : z = x.id
    · rw [if_pos e] at hz; cases hz
    · rw [if_neg e] at hz
      obtain ⟨k, w, hk, hw⟩ := h.2 z v hz
      refine ⟨k, w, ?_, hw⟩
      by_cases e2 : k < L.length
      · rwa [List.getElem?_append_left e2] at hk
      · rw [List.getElem?_append_right (by omega)] at hk
        have hl := (List.getElem?_eq_some_iff.1 hk).1
        simp at hl
        have e0 : k - L.length = 0 := by omega
        rw [e0] at hk
        simp at hk
        exact absurd (hk ▸ hw.symm) e
end Go.Proofs.Ythpfljiabhjodaa
