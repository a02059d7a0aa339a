/- TalkOnce, the plain law: both ends and the air, step by step. -/
import Derived.Test.YtdlddggjjibeaaaOnceQ
namespace Go.Proofs.Ytdlddggjjibeaaa
open Go.RowKit
structure OSt where
  SS : Nat → List BR
  CC : Nat → List BR
  AA : Nat → List PkA
  st : Nat → Sto
abbrev dat (l : List BR) : List (List Int) := l.map (·.l)
/-- One end, e; the other is o. -/
structure EndI (n : Nat) (X : OSt) (e o : Nat) (x : TX) : Prop where
  st : X.st e = some x
  ok : EndOk (dat (X.SS e)) (dat (X.SS o)) (X.CC e).length (X.CC o).length x
  le : (X.SS e).length ≤ n
  ck0 : 0 ≤ x.ck
  ck : x.ck ≤ n
  wt : ∀ t ∈ x.L, 0 ≤ t.wait ∧ t.wait ≤ x.ck
  small : ∀ s ∈ X.SS e, s.l.length ≤ 60 ∧ Rng s.l
  pre : dat (X.CC e) = (dat (X.SS o)).take (X.CC e).length
  air : ∀ p ∈ X.AA o, Good (dat (X.SS e)) (X.CC e).length p.k ∧ p.k.d.length ≤ 60 ∧ Rng p.k.d
def Inv (n : Nat) (X : OSt) : Prop := ∀ e o, e + o = 1 → ∃ x, EndI n X e o x
theorem EndOk.came' {Se So So' : List (List Int)} {ce co : Nat} {x : TX} (h : EndOk Se So ce co x) (hc : So.length ≤ So'.length) : EndOk Se So' ce co x :=
  ⟨h.q, h.hd, Nat.le_trans h.came hc, h.le, h.L, h.done, h.co⟩
theorem EndOk.heard' {Se So : List (List Int)} {ce co co' : Nat} {x : TX} (h : EndOk Se So ce co x) (hc : co ≤ co') (hl : co' ≤ Se.length) : EndOk Se So ce co' x :=
  ⟨h.q, h.hd, h.came, h.le, h.L, Nat.le_trans h.done hc, hl⟩
theorem dat_len (l : List BR) : (dat l).length = l.length := List.length_map ..
theorem EndI.mono {n n' : Nat} {X : OSt} {e o : Nat} {x : TX} (h : EndI n X e o x) (hn : n ≤ n') : EndI n' X e o x :=
  ⟨h.st, h.ok, Nat.le_trans h.le hn, h.ck0, by have := h.ck; omega, h.wt, h.small, h.pre, h.air⟩
theorem Inv.mono {n n' : Nat} {X : OSt} (h : Inv n X) (hn : n ≤ n') : Inv n' X := fun e o he => by
  obtain ⟨x, hx⟩ := h e o he
  exact ⟨x, hx.mono hn⟩
theorem EndI.small' {n : Nat} {X : OSt} {e o : Nat} {x : TX} (h : EndI n X e o x) {t : Th} (ht : t ∈ x.L) : t.data.length ≤ 60 ∧ Rng t.data := by
  have h1 : t.data ∈ (dat (X.SS e)).drop ((dat (X.SS e)).length - x.L.length) := by rw [← h.ok.L]; exact List.mem_map_of_mem ht
  obtain ⟨s, hs, e1⟩ := List.mem_map.1 (List.mem_of_mem_drop h1)
  rw [← e1]
  exact h.small s hs
theorem EndI.okT {n : Nat} {X : OSt} {e o : Nat} {x : TX} (h : EndI n X e o x) (ho : (X.SS o).length ≤ n) (hn : n ≤ 200) : OkT 200 (X.st e) := by
  rw [h.st]
  have h1 := h.ok.q
  have h2 := h.ok.hd
  have h3 := h.ok.came
  have h4 := h.le
  have h5 := h.ck
  have h6 := h.ok.le
  rw [dat_len] at h1 h3 h6
  refine ⟨by omega, by omega, h.ck0, by omega, by omega, by omega, fun t ht => ?_⟩
  have g1 := h.wt t ht
  have g2 := h.small' ht
  exact ⟨g1.1, by omega, g2⟩
theorem Inv.okT {n : Nat} {X : OSt} (h : Inv n X) (hn : n ≤ 200) {e : Nat} (he : e < 2) : OkT 200 (X.st e) := by
  obtain ⟨x, hx⟩ := h e (1 - e) (by omega)
  obtain ⟨y, hy⟩ := h (1 - e) e (by omega)
  exact hx.okT hy.le hn
/-- Packets leave the air. -/
theorem Inv.sub {n : Nat} {X : OSt} (h : Inv n X) {A : Nat → List PkA} (hA : ∀ j p, p ∈ A j → p ∈ X.AA j) : Inv n ⟨X.SS, X.CC, A, X.st⟩ := fun e o he => by
  obtain ⟨x, hx⟩ := h e o he
  exact ⟨x, hx.st, hx.ok, hx.le, hx.ck0, hx.ck, hx.wt, hx.small, hx.pre, fun p hp => hx.air p (hA _ p hp)⟩
theorem Good.app {Ss : List (List Int)} {cs : Nat} {k : Pak} (h : Good Ss cs k) (l : List (List Int)) : Good (Ss ++ l) cs k := h.mono (fun i d hd => by rw [List.getElem?_append_left (List.getElem?_eq_some_iff.1 hd).1]; exact hd) (Nat.le_refl _)
/-- Something is said at end i. -/
def OSt.say (X : OSt) (i j : Nat) (b : BR) (p : PkA) : OSt := ⟨upd X.SS i (X.SS i ++ [b]), X.CC, upd X.AA j (X.AA j ++ [p]), upd X.st i (sayR 2 3 4 b.l (X.st i)).2.2⟩
theorem Inv.say {n : Nat} {X : OSt} (h : Inv n X) {i j : Nat} (hij : i + j = 1) (b : BR) (hb : b.l.length ≤ 60) (hr : Rng b.l) (p : PkA) (hp : p.k = (sayR 2 3 4 b.l (X.st i)).1) : Inv (n + 1) (X.say i j b p) := by
  obtain ⟨x, hx⟩ := h i j hij
  obtain ⟨y, hy⟩ := h j i (by omega)
  have hne : j ≠ i := by omega
  have hd : dat (X.SS i ++ [b]) = dat (X.SS i) ++ [b.l] := by simp [dat]
  intro e o he
  rcases (show (e = i ∧ o = j) ∨ (e = j ∧ o = i) by omega) with ⟨rfl, rfl⟩ | ⟨rfl, rfl⟩
  · have h1 := say_ok hx.ok b.l
    rw [hx.st] at hp
    refine ⟨⟨x.q + 1, x.hd, x.ck, x.L ++ [⟨b.l, 0⟩]⟩, by simp only [OSt.say, upd_same]; rw [hx.st]; rfl, ?_, ?_, hx.ck0, ?_, ?_, ?_, ?_, ?_⟩
    · simp only [OSt.say, upd_same, upd_other _ _ hne]
      rw [hd]
      exact h1.1
    · simp only [OSt.say, upd_same, List.length_append, List.length_cons, List.length_nil]
      have := hx.le
      omega
    · have := hx.ck
      show x.ck ≤ _
      omega
    · intro t ht
      rcases List.mem_append.1 ht with ht | ht
      · exact hx.wt t ht
      · have := hx.ck0
        simp at ht
        subst ht
        exact ⟨by simp, this⟩
    · simp only [OSt.say, upd_same]
      intro s hs
      rcases List.mem_append.1 hs with hs | hs
      · exact hx.small s hs
      · simp at hs
        subst hs
        exact ⟨hb, hr⟩
    · simp only [OSt.say, upd_other _ _ hne]
      exact hx.pre
    · simp only [OSt.say, upd_same]
      rw [hd]
      intro q hq
      rcases List.mem_append.1 hq with hq | hq
      · have := hx.air q hq
        exact ⟨this.1.app _, this.2⟩
      · simp at hq
        subst hq
        rw [hp]
        exact ⟨h1.2, hb, hr⟩
  · refine ⟨y, by simp only [OSt.say, upd_other _ _ hne]; exact hy.st, ?_, ?_, hy.ck0, by have := hy.ck; omega, hy.wt, ?_, ?_, ?_⟩
    · simp only [OSt.say, upd_same, upd_other _ _ hne]
      rw [hd]
      exact hy.ok.came' (by simp)
    · simp only [OSt.say, upd_other _ _ hne]
      have := hy.le
      omega
    · simp only [OSt.say, upd_other _ _ hne]
      exact hy.small
    · simp only [OSt.say, upd_same]
      have hc := hy.ok.came
      rw [hd, List.take_append_of_le_length hc]
      exact hy.pre
    · simp only [OSt.say, upd_other _ _ hne, upd_other _ _ (Ne.symm hne)]
      exact hy.air
/-- A packet comes at end i. -/
def OSt.hear (X : OSt) (i j : Nat) (k : Pak) (C : List BR) (A : List PkA) : OSt := ⟨X.SS, upd X.CC i C, upd X.AA j A, upd X.st i (hearR 2 3 4 k (X.st i)).2.2.2.2⟩
theorem hearR_d (k : Pak) (st : Sto) : (hearR 2 3 4 k st).2.2.1.d = [] := by
  cases st with
  | none => rfl
  | some x =>
    simp only [hearR]
    cases mineB 2 3 4 x.q k.n k.e k.l k.a k.pl with
    | false => rfl
    | true =>
      simp only [cond_true]
      split
      · rfl
      · split <;> rfl
/-- All that hearing does. -/
theorem Inv.hear {n : Nat} {X : OSt} (h : Inv n X) {i j : Nat} (hij : i + j = 1) {k : Pak} (hk : Good (dat (X.SS j)) (X.CC j).length k) {g u : SV} {C : List BR} {A : List PkA}
    (hC : More (hearR 2 3 4 k (X.st i)).2.1 ⟨g, (hearR 2 3 4 k (X.st i)).1⟩ (X.CC i) C) (hA : More (hearR 2 3 4 k (X.st i)).2.2.2.1 ⟨(hearR 2 3 4 k (X.st i)).2.2.1, u⟩ (X.AA j) A) : Inv n (X.hear i j k C A) := by
  obtain ⟨x, hx⟩ := h i j hij
  obtain ⟨y, hy⟩ := h j i (by omega)
  have hne : j ≠ i := by omega
  rw [hx.st] at hC hA
  obtain ⟨x', ce', h1, h2, h3, h4, h5, h6, h7⟩ := hear_ok hx.ok hk
  have hCl : C.length = ce' ∧ (X.CC i).length ≤ ce' ∧ dat C = (dat (X.SS j)).take ce' := by
    rcases h3 with ⟨e1, e2, e3⟩ | ⟨e1, e2⟩
    · rcases hC with ⟨_, rfl⟩ | ⟨e, _⟩
      · refine ⟨by simp [e2], by omega, ?_⟩
        rw [e2, List.take_add_one, e3]
        simp only [dat, List.map_append, List.map_cons, List.map_nil, Option.toList_some]
        congr 1
        exact hx.pre
      · rw [e1] at e; cases e
    · rcases hC with ⟨e, _⟩ | ⟨_, rfl⟩
      · rw [e1] at e; cases e
      · exact ⟨e2.symm, by omega, by rw [e2]; exact hx.pre⟩
  obtain ⟨c1, c2, c3⟩ := hCl
  have hckL : x'.ck = x.ck ∧ x'.L = (ackd x k.a).L := by
    refine ⟨?_, h7⟩
    revert h1
    simp only [hearR]
    cases mineB 2 3 4 x.q k.n k.e k.l k.a k.pl with
    | false => intro h1; cases h1; rfl
    | true =>
      simp only [cond_true]
      split
      · intro h1; cases h1; rfl
      · split <;> (intro h1; cases h1; rfl)
  obtain ⟨k1, k2⟩ := hckL
  intro e o he
  rcases (show (e = i ∧ o = j) ∨ (e = j ∧ o = i) by omega) with ⟨rfl, rfl⟩ | ⟨rfl, rfl⟩
  · refine ⟨x', by simp only [OSt.hear, upd_same]; rw [hx.st]; exact h1, ?_, hx.le, by rw [k1]; exact hx.ck0, by rw [k1]; exact hx.ck, ?_, hx.small, ?_, ?_⟩
    · simp only [OSt.hear, upd_same, upd_other _ _ hne]
      rw [c1]
      exact h2
    · rw [k1, k2]
      intro t ht
      exact hx.wt t (List.mem_of_mem_drop ht)
    · simp only [OSt.hear, upd_same]
      rw [c1]
      exact c3
    · simp only [OSt.hear, upd_same]
      rw [c1]
      intro q hq
      rcases hA with ⟨e1, rfl⟩ | ⟨_, rfl⟩
      · rcases List.mem_append.1 hq with hq | hq
        · have := hx.air q hq
          exact ⟨this.1.mono (fun _ _ h => h) c2, this.2⟩
        · simp at hq
          subst hq
          have := h4 e1
          refine ⟨this, ?_, ?_⟩
          · simp only [hearR_d]; simp
          · simp only [hearR_d]; exact Rng.nil
      · have := hx.air q hq
        exact ⟨this.1.mono (fun _ _ h => h) c2, this.2⟩
  · refine ⟨y, by simp only [OSt.hear, upd_other _ _ hne]; exact hy.st, ?_, hy.le, hy.ck0, hy.ck, hy.wt, hy.small, ?_, ?_⟩
    · simp only [OSt.hear, upd_same, upd_other _ _ hne]
      have := h2.came
      rw [c1]
      exact hy.ok.heard' c2 this
    · simp only [OSt.hear, upd_other _ _ hne]
      exact hy.pre
    · simp only [OSt.hear, upd_other _ _ hne, upd_other _ _ (Ne.symm hne)]
      exact hy.air
/-- Both tick. -/
def OSt.tick (X : OSt) (A : Nat → List PkA) : OSt := ⟨X.SS, X.CC, A, sts X.st 2⟩
theorem Told.at {st : Nat → Sto} {A A' : Nat → List PkA} (h : Told st 2 A A') {e o : Nat} (he : e + o = 1) : ∃ ts : List PkA, A' o = A o ++ ts ∧ ts.map (·.k) = (tickR (st e)).1.map (toldP (hdR (st e))) := by
  obtain ⟨ts, h1, h2⟩ := h e (by omega)
  rw [if_pos (by omega)] at h2
  have : 1 - e = o := by omega
  rw [this] at h1
  exact ⟨ts, h1, h2⟩
theorem told_small : ∀ {L : List Th} {b : Int}, (∀ t ∈ L, t.data.length ≤ 60 ∧ Rng t.data) → ∀ z ∈ toldOf b L, z.2.length ≤ 60 ∧ Rng z.2
  | [], _, _, _, h => by cases h
  | t :: L, b, h, z, hz => by
    rcases List.mem_cons.1 hz with e | hz
    · subst e; exact h t (by simp)
    · exact told_small (fun t ht => h t (by simp [ht])) z hz
theorem Inv.tick {n : Nat} {X : OSt} (h : Inv n X) {A : Nat → List PkA} (hA : Told X.st 2 X.AA A) : Inv (n + 1) (X.tick A) := fun e o he => by
  obtain ⟨x, hx⟩ := h e o he
  obtain ⟨ts, e1, e2⟩ := hA.at he
  obtain ⟨x', h1, h2, h3, h4⟩ := tick_ok hx.ok
  have hst : sts X.st 2 e = (tickR (X.st e)).2 := by unfold sts; rw [if_pos (by omega)]
  rw [hx.st] at e2
  have hh : x.hd = hdR (some x) := rfl
  refine ⟨x', by simp only [OSt.tick]; rw [hst, hx.st]; exact h1, h2, by have := hx.le; simp only [OSt.tick]; omega, ?_, ?_, ?_, hx.small, hx.pre, ?_⟩
  · revert h1
    have := hx.ck0
    simp only [tickR]
    cases quietT x.L <;> (intro h1; cases h1; simp only; omega)
  · revert h1
    have := hx.ck
    simp only [tickR]
    cases quietT x.L <;> (intro h1; cases h1; simp only; omega)
  · revert h1
    have hc0 := hx.ck0
    simp only [tickR]
    cases quietT x.L with
    | true =>
      intro h1
      cases h1
      intro t ht
      obtain ⟨z, hz, rfl⟩ := List.mem_map.1 ht
      have := hx.wt z hz
      simp only
      omega
    | false =>
      intro h1
      cases h1
      intro t ht
      obtain ⟨z, hz, rfl⟩ := List.mem_map.1 ht
      simp only
      omega
  · simp only [OSt.tick]
    rw [e1]
    intro q hq
    rcases List.mem_append.1 hq with hq | hq
    · exact hx.air q hq
    · have hm : q.k ∈ ts.map (·.k) := List.mem_map_of_mem hq
      rw [e2] at hm
      obtain ⟨z, hz, e3⟩ := List.mem_map.1 hm
      rw [← e3]
      have g := h4 z hz
      refine ⟨g, ?_⟩
      revert hz
      simp only [tickR]
      cases quietT x.L with
      | true => intro hz; cases hz
      | false => intro hz; exact told_small (fun t ht => hx.small' ht) z hz
end Go.Proofs.Ytdlddggjjibeaaa
