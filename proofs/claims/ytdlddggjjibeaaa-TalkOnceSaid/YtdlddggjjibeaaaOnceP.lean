/- TalkOnce, the plain law: what is kept at each end and in the air. -/
import Derived.Test.YtdlddggjjibeaaaOnceC
namespace Go.Proofs.Ytdlddggjjibeaaa
/-- An end: Se is what was said there, ce how many came; co is how many came at the other end, So what was said there. -/
structure EndOk (Se So : List (List Int)) (ce co : Nat) (x : TX) : Prop where
  q : x.q = (Se.length : Int)
  hd : x.hd = (ce : Int)
  came : ce ≤ So.length
  le : x.L.length ≤ Se.length
  L : x.L.map (·.data) = Se.drop (Se.length - x.L.length)
  done : Se.length - x.L.length ≤ co
  co : co ≤ Se.length
/-- A packet of the end that said Ss and at which cs came. -/
structure Good (Ss : List (List Int)) (cs : Nat) (k : Pak) : Prop where
  n : k.n = 2
  e : k.e = 3
  l : k.l = 4
  pl : k.pl = false
  a0 : 0 ≤ k.a
  a : k.a ≤ (cs : Int)
  s : k.s = 0 ∨ ∃ i : Nat, k.s = (i : Int) + 1 ∧ Ss[i]? = some k.d
theorem Good.mono {Ss Ss' : List (List Int)} {cs cs' : Nat} {k : Pak} (h : Good Ss cs k) (hS : ∀ (i : Nat) (d : List Int), Ss[i]? = some d → Ss'[i]? = some d) (hc : cs ≤ cs') : Good Ss' cs' k :=
  ⟨h.n, h.e, h.l, h.pl, h.a0, by have := h.a; omega, h.s.imp id fun ⟨i, h1, h2⟩ => ⟨i, h1, hS i _ h2⟩⟩
theorem EndOk.ackd {Se So : List (List Int)} {ce co : Nat} {x : TX} (h : EndOk Se So ce co x) {a : Int} (ha : a ≤ (co : Int)) : EndOk Se So ce co (ackd x a) := by
  have h1 := h.q
  have h2 := h.le
  have h3 := h.done
  have h4 := h.co
  have hl : (Go.Proofs.Ytdlddggjjibeaaa.ackd x a).L.length = x.L.length - (a - (x.q - x.L.length)).toNat := by simp only [Go.Proofs.Ytdlddggjjibeaaa.ackd, List.length_drop]
  refine ⟨h1, h.hd, h.came, by omega, ?_, by omega, h4⟩
  rw [hl]
  simp only [Go.Proofs.Ytdlddggjjibeaaa.ackd, List.map_drop, h.L, List.drop_drop]
  by_cases hc : (a - (x.q - x.L.length)).toNat ≤ x.L.length
  · congr 1
    omega
  · rw [List.drop_eq_nil_of_le (by omega), List.drop_eq_nil_of_le (by omega)]
theorem EndOk.mine {Se So : List (List Int)} {ce co : Nat} {x : TX} (h : EndOk Se So ce co x) {k : Pak} (hg : Good So co k) : mineB 2 3 4 x.q k.n k.e k.l k.a k.pl = true := by
  have h1 := h.q
  have h2 := h.co
  have h3 := hg.a
  simp only [mineB, hg.n, hg.e, hg.l, hg.pl, decide_true, Bool.true_and, Bool.not_false, decide_eq_true_eq]
  omega
/-- A packet is heard. -/
theorem hear_ok {Se So : List (List Int)} {ce co : Nat} {x : TX} (h : EndOk Se So ce co x) {k : Pak} (hg : Good So co k) :
    ∃ (x' : TX) (ce' : Nat), (hearR 2 3 4 k (some x)).2.2.2.2 = some x' ∧ EndOk Se So ce' co x' ∧
      (((hearR 2 3 4 k (some x)).2.1 = true ∧ ce' = ce + 1 ∧ So[ce]? = some (hearR 2 3 4 k (some x)).1) ∨ ((hearR 2 3 4 k (some x)).2.1 = false ∧ ce' = ce)) ∧
      ((hearR 2 3 4 k (some x)).2.2.2.1 = true → Good Se ce' (hearR 2 3 4 k (some x)).2.2.1) ∧ (k.s ≠ 0 → (hearR 2 3 4 k (some x)).2.2.2.1 = true) ∧ (ce' : Int) ≥ (if k.s = (ce : Int) + 1 then k.s else (ce : Int)) ∧ x'.L = (ackd x k.a).L := by
  have hm := h.mine hg
  have hk := h.ackd hg.a
  have hh := h.hd
  simp only [hearR, hm, cond_true]
  by_cases hs : k.s = 0
  · simp only [if_pos hs]
    exact ⟨_, ce, rfl, hk, .inr ⟨by first | rfl | trivial, rfl⟩, fun h => (by first | cases h | exact h.elim), fun h => absurd hs h, by rw [if_neg (by omega)]; omega, rfl⟩
  · simp only [if_neg hs]
    by_cases hs1 : k.s = x.hd + 1
    · simp only [if_pos hs1]
      obtain ⟨i, hi1, hi2⟩ := hg.s.resolve_left hs
      have hi : i = ce := by omega
      subst hi
      have hlt := (List.getElem?_eq_some_iff.1 hi2).1
      exact ⟨_, i + 1, rfl, ⟨hk.q, by simp only; omega, hlt, hk.le, hk.L, hk.done, hk.co⟩, .inl ⟨by first | rfl | trivial, rfl, hi2⟩, fun _ => ⟨rfl, rfl, rfl, rfl, by simp only; omega, by simp only; omega, .inl rfl⟩, fun _ => (by first | rfl | trivial), by split <;> omega, rfl⟩
    · simp only [if_neg hs1]
      exact ⟨_, ce, rfl, hk, .inr ⟨by first | rfl | trivial, rfl⟩, fun _ => ⟨rfl, rfl, rfl, rfl, by simp only; omega, by simp only; omega, .inl rfl⟩, fun _ => (by first | rfl | trivial), by rw [if_neg (by omega)]; omega, rfl⟩
/-- Something is said. -/
theorem say_ok {Se So : List (List Int)} {ce co : Nat} {x : TX} (h : EndOk Se So ce co x) (p : List Int) :
    EndOk (Se ++ [p]) So ce co ⟨x.q + 1, x.hd, x.ck, x.L ++ [⟨p, 0⟩]⟩ ∧ Good (Se ++ [p]) ce (sayR 2 3 4 p (some x)).1 := by
  have h1 := h.q
  have h2 := h.le
  have h3 := h.done
  have h4 := h.co
  have h5 := h.hd
  refine ⟨⟨by simp; omega, h5, h.came, by simp; omega, ?_, by simp; omega, by simp; omega⟩, ⟨rfl, rfl, rfl, rfl, by simp only [sayR]; omega, by simp only [sayR]; omega, .inr ⟨Se.length, by simp only [sayR]; omega, by simp [sayR]⟩⟩⟩
  simp only [List.map_append, h.L, List.length_append, List.length_cons, List.length_nil, List.map_cons, List.map_nil]
  rw [List.drop_append_of_le_length (by omega)]
  congr 2
  omega
theorem told_mem : ∀ {L : List Th} {b : Int} {z : Int × List Int}, z ∈ toldOf b L → ∃ (i : Nat) (t : Th), L[i]? = some t ∧ z = (b + 1 + (i : Int), t.data) := fun {L b z} hz => by
  obtain ⟨i, hi⟩ := List.getElem?_of_mem hz
  have hl : i < L.length := by have := (List.getElem?_eq_some_iff.1 hi).1; rwa [told_len] at this
  have ht : L[i]? = some L[i] := List.getElem?_eq_getElem hl
  rw [told_get ht] at hi
  cases hi
  exact ⟨i, _, ht, rfl⟩
/-- A tick. -/
theorem tick_ok {Se So : List (List Int)} {ce co : Nat} {x : TX} (h : EndOk Se So ce co x) :
    ∃ x', (tickR (some x)).2 = some x' ∧ EndOk Se So ce co x' ∧ x'.L.length = x.L.length ∧ ∀ z ∈ (tickR (some x)).1, Good Se ce (toldP x.hd z) := by
  have h1 := h.q
  have h2 := h.le
  simp only [tickR]
  cases quietT x.L with
  | true => exact ⟨_, rfl, ⟨h.q, h.hd, h.came, by simpa using h.le, by simp only [List.map_map, List.length_map]; exact h.L, by simpa using h.done, h.co⟩, by simp, fun z hz => by cases hz⟩
  | false =>
    refine ⟨_, rfl, ⟨h.q, h.hd, h.came, by simpa using h.le, by simp only [List.map_map, List.length_map]; exact h.L, by simpa using h.done, h.co⟩, by simp, fun z hz => ?_⟩
    simp only [cond_false] at hz
    obtain ⟨i, t, ht, rfl⟩ := told_mem hz
    have hd := h.hd
    refine ⟨rfl, rfl, rfl, rfl, by simp only [toldP]; omega, by simp only [toldP]; omega, .inr ⟨Se.length - x.L.length + i, by simp only [toldP]; omega, ?_⟩⟩
    have e := congrArg (fun l => l[i]?) h.L
    simp only [List.getElem?_map, ht, Option.map_some, List.getElem?_drop] at e
    exact e.symm
end Go.Proofs.Ytdlddggjjibeaaa
