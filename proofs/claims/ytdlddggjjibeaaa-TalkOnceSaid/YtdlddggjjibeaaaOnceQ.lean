/- TalkOnce, the plain law: what still comes, in order. -/
import Derived.Test.YtdlddggjjibeaaaOnceP
namespace Go.Proofs.Ytdlddggjjibeaaa
/-- The packets l have all things from hd + 1 to q, in order. -/
inductive Cov (q : Nat) : Nat → List Pak → Prop
  | done (l : List Pak) : Cov q q l
  | next {hd : Nat} {l1 : List Pak} {k : Pak} {l2 : List Pak} : k.s = (hd : Int) + 1 → Cov q (hd + 1) l2 → Cov q hd (l1 ++ k :: l2)
theorem Cov.pre {q hd : Nat} {l : List Pak} (h : Cov q hd l) (l0 : List Pak) : Cov q hd (l0 ++ l) := by
  cases h with
  | done => exact .done _
  | next h1 h2 => rw [← List.append_assoc]; exact .next h1 h2
theorem Cov.post {q hd : Nat} {l : List Pak} (h : Cov q hd l) (l0 : List Pak) : Cov q hd (l ++ l0) := by
  induction h with
  | done => exact .done _
  | next h1 _ ih => rw [List.append_assoc, List.cons_append]; exact .next h1 ih
theorem Cov.none {q hd : Nat} {l : List Pak} (h : Cov q hd l) (hl : ∀ k ∈ l, k.s = 0) : hd = q := by
  cases h with
  | done => rfl
  | next h1 h2 => have := hl _ (List.mem_append_right _ (List.mem_cons_self ..)); omega
/-- The first is heard. -/
theorem Cov.heard {q hd : Nat} {k : Pak} {l : List Pak} (h : Cov q hd (k :: l)) : (k.s ≠ (hd : Int) + 1 → Cov q hd l) ∧ (k.s = (hd : Int) + 1 → hd = q ∨ Cov q (hd + 1) l) := by
  generalize hm : k :: l = m at h
  cases h with
  | done => exact ⟨fun _ => .done _, fun _ => .inl rfl⟩
  | @next _ l1 k' l2 h1 h2 =>
    cases l1 with
    | nil =>
      simp only [List.nil_append, List.cons.injEq] at hm
      obtain ⟨rfl, rfl⟩ := hm
      exact ⟨fun h => absurd h1 h, fun _ => .inr h2⟩
    | cons y l1 =>
      simp only [List.cons_append, List.cons.injEq] at hm
      obtain ⟨rfl, rfl⟩ := hm
      refine ⟨fun _ => .next h1 h2, fun _ => .inr ?_⟩
      have := (h2.pre [k']).pre l1
      rwa [List.singleton_append] at this
/-- What is told has all that isn't answered. -/
theorem told_cov {x : TX} (h : Int) : ∀ (L : List Th) (b hd : Nat), b ≤ hd → hd ≤ b + L.length → Cov (b + L.length) hd ((toldOf (b : Int) L).map (toldP h))
  | [], b, hd, h1, h2 => by
    have : hd = b := by simp at h2; omega
    subst this
    exact .done _
  | t :: L, b, hd, h1, h2 => by
    simp only [List.length_cons] at h2 ⊢
    have ih := told_cov (x := x) h L (b + 1)
    simp only [toldOf, List.map_cons]
    rw [show ((b : Int) + 1) = ((b + 1 : Nat) : Int) by omega, show b + (L.length + 1) = b + 1 + L.length by omega]
    by_cases e : hd = b
    · subst e
      exact Cov.next (l1 := []) (by simp only [toldP]; omega) (ih (hd + 1) (Nat.le_refl _) (by omega))
    · exact (ih hd (by omega) (by omega)).pre [_]
end Go.Proofs.Ytdlddggjjibeaaa
