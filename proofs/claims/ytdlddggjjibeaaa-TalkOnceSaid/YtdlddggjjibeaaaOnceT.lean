/- TalkOnce, the plain law: once all comes, all has come. -/
import Derived.Test.YtdlddggjjibeaaaOnceR
namespace Go.Proofs.Ytdlddggjjibeaaa
open Go.RowKit
/-- While all comes: F e: what is open at e was told, or nothing is. -/
def DR (F : Nat → Prop) (X : OSt) : Prop := ∀ e o, e + o = 1 → ∃ x, X.st e = some x ∧ (F e → Cov (X.SS e).length (X.CC o).length ((X.AA o).map (·.k)) ∧ (x.L = [] ∨ (∃ p ∈ X.AA o, p.k.s ≠ 0) ∨ ∃ p ∈ X.AA e, p.k.a = ((X.SS e).length : Int))) ∧ (¬ F e → ∀ t ∈ x.L, 1 ≤ t.wait)
def Wt (r : Nat) (X : OSt) : Prop := ∀ e o, e + o = 1 → ∃ x, X.st e = some x ∧ (1 ≤ r → ∀ t ∈ x.L, 1 ≤ t.wait) ∧ (2 ≤ r → x.L = [])
def ph (l : List PkA) : Nat := (l.map fun p => if p.k.s = 0 then 1 else 2).sum
theorem ph_snoc (l : List PkA) (p : PkA) : ph (l ++ [p]) = ph l + (if p.k.s = 0 then 1 else 2) := by simp [ph]
theorem ph_cons (l : List PkA) (p : PkA) : ph (p :: l) = (if p.k.s = 0 then 1 else 2) + ph l := by simp [ph]
theorem ph_len : ∀ l : List PkA, l.length ≤ ph l ∧ ph l ≤ 2 * l.length
  | [] => by simp [ph]
  | p :: l => by
    have := ph_len l
    rw [ph_cons, List.length_cons]
    split <;> omega
theorem hearR_zero {k : Pak} (h : k.s = 0) (st : Sto) : (hearR 2 3 4 k st).2.2.2.1 = false := by
  cases st with
  | none => rfl
  | some x =>
    simp only [hearR]
    cases mineB 2 3 4 x.q k.n k.e k.l k.a k.pl with
    | false => rfl
    | true => simp only [cond_true, if_pos h]
theorem hearR_s (k : Pak) (st : Sto) : (hearR 2 3 4 k st).2.2.1.s = 0 := by
  cases st with
  | none => rfl
  | some x =>
    simp only [hearR]
    cases mineB 2 3 4 x.q k.n k.e k.l k.a k.pl with
    | false => rfl
    | true =>
      simp only [cond_true]
      split
      · rfl
      · split <;> rfl
/-- The answer says how many came. -/
theorem hearR_a {k : Pak} {x x' : TX} (h : (hearR 2 3 4 k (some x)).2.2.2.2 = some x') (hi : (hearR 2 3 4 k (some x)).2.2.2.1 = true) : (hearR 2 3 4 k (some x)).2.2.1.a = x'.hd := by
  revert h hi
  simp only [hearR]
  cases mineB 2 3 4 x.q k.n k.e k.l k.a k.pl with
  | false => intro _ hi; cases hi
  | true =>
    simp only [cond_true]
    split
    · intro _ hi; cases hi
    · split <;> (intro h _; cases h; rfl)
theorem DR.hear {n : Nat} {F : Nat → Prop} {X : OSt} (hd : DR F X) (h : Inv n X) {i j : Nat} (hij : i + j = 1) {p : PkA} {rest : List PkA} (hp : X.AA i = p :: rest) {g u : SV} {C : List BR} {A : List PkA}
    (hC : More (hearR 2 3 4 p.k (X.st i)).2.1 ⟨g, (hearR 2 3 4 p.k (X.st i)).1⟩ (X.CC i) C) (hA : More (hearR 2 3 4 p.k (X.st i)).2.2.2.1 ⟨(hearR 2 3 4 p.k (X.st i)).2.2.1, u⟩ (X.AA j) A) :
    DR F (OSt.hear ⟨X.SS, X.CC, upd X.AA i rest, X.st⟩ i j p.k C A) ∧ ph rest + ph A + 1 ≤ ph (X.AA i) + ph (X.AA j) := by
  obtain ⟨x, hx⟩ := h i j hij
  obtain ⟨y, hy⟩ := h j i (by omega)
  have hne : j ≠ i := by omega
  have hk : Good (dat (X.SS j)) (X.CC j).length p.k := (hy.air p (by rw [hp]; exact List.mem_cons_self ..)).1
  have hst := hx.st
  obtain ⟨x', ce', h1, h2, h3, h4, h5, h6, h7⟩ := hear_ok hx.ok hk
  refine ⟨?_, ?_⟩
  · rw [hst] at hC hA
    have hCl : C.length = ce' ∧ (X.CC i).length ≤ ce' ∧ ce' ≤ (X.CC i).length + 1 := by
      rcases h3 with ⟨e1, e2, e3⟩ | ⟨e1, e2⟩
      · rcases hC with ⟨_, rfl⟩ | ⟨e, _⟩
        · exact ⟨by simp [e2], by omega, by omega⟩
        · rw [e1] at e; cases e
      · rcases hC with ⟨e, _⟩ | ⟨_, rfl⟩
        · rw [e1] at e; cases e
        · exact ⟨e2.symm, by omega, by omega⟩
    obtain ⟨c1, c2, c4⟩ := hCl
    have hcs : (p.k.s = ((X.CC i).length : Int) + 1 ∧ ce' = (X.CC i).length + 1) ∨ (p.k.s ≠ ((X.CC i).length : Int) + 1 ∧ ce' = (X.CC i).length) := by
      by_cases e : p.k.s = ((X.CC i).length : Int) + 1
      · rw [if_pos e] at h6
        exact .inl ⟨e, by omega⟩
      · refine .inr ⟨e, ?_⟩
        rcases h3 with ⟨e1, e2, _⟩ | ⟨_, e2⟩
        · exfalso
          revert e1
          simp only [hearR, hx.ok.mine hk, cond_true]
          have := hx.ok.hd
          split
          · intro h; cases h
          · rw [if_neg (by omega)]; intro h; cases h
        · exact e2
    have hAmem : ∀ q, q ∈ X.AA j → q ∈ A := fun q hq => by
      rcases hA with ⟨_, rfl⟩ | ⟨_, rfl⟩
      · exact List.mem_append_left _ hq
      · exact hq
    intro e o he
    rcases (show (e = i ∧ o = j) ∨ (e = j ∧ o = i) by omega) with ⟨rfl, rfl⟩ | ⟨rfl, rfl⟩
    · obtain ⟨z, z1, z2, z3⟩ := hd e o he
      rw [hst] at z1
      cases z1
      refine ⟨x', by simp only [OSt.hear, upd_same]; rw [hst]; exact h1, fun hF => ?_, fun hF t ht => ?_⟩
      · obtain ⟨g1, g2⟩ := z2 hF
        simp only [OSt.hear, upd_same, upd_other _ _ hne, upd_other _ _ (Ne.symm hne)]
        refine ⟨?_, ?_⟩
        · rcases hA with ⟨_, rfl⟩ | ⟨_, rfl⟩
          · rw [List.map_append]; exact g1.post _
          · exact g1
        · rcases g2 with g2 | ⟨q, q1, q2⟩ | ⟨q, q1, q2⟩
          · left
            rw [h7]
            simp only [ackd, g2, List.drop_nil]
          · exact .inr (.inl ⟨q, hAmem q q1, q2⟩)
          · rw [hp] at q1
            rcases List.mem_cons.1 q1 with rfl | q1
            · left
              rw [h7]
              simp only [ackd]
              have e1 := hx.ok.q
              have e2 := hx.ok.le
              rw [dat_len] at e1 e2
              exact List.drop_eq_nil_of_le (by omega)
            · exact .inr (.inr ⟨q, q1, q2⟩)
      · rw [h7] at ht
        exact z3 hF t (List.mem_of_mem_drop ht)
    · obtain ⟨z, z1, z2, z3⟩ := hd e o he
      have z1' := z1
      rw [hy.st] at z1'
      cases z1'
      refine ⟨y, by simp only [OSt.hear, upd_other _ _ hne]; exact hy.st, fun hF => ?_, z3⟩
      obtain ⟨g1, g2⟩ := z2 hF
      simp only [OSt.hear, upd_same, upd_other _ _ (Ne.symm hne)]
      rw [hp, List.map_cons] at g1
      have hcov : Cov (X.SS e).length C.length (rest.map (·.k)) := by
        rw [c1]
        rcases hcs with ⟨s1, s2⟩ | ⟨s1, s2⟩
        · rcases g1.heard.2 s1 with s3 | s3
          · exfalso
            rcases hk.s with s4 | ⟨v, s4, s5⟩
            · omega
            · have := (List.getElem?_eq_some_iff.1 s5).1
              rw [dat_len] at this
              omega
          · rw [s2]; exact s3
        · rw [s2]; exact g1.heard.1 s1
      refine ⟨hcov, ?_⟩
      rcases g2 with g2 | ⟨q, q1, q2⟩ | ⟨q, q1, q2⟩
      · exact .inl g2
      · right
        rw [hp] at q1
        by_cases hr : ∃ p ∈ rest, p.k.s ≠ 0
        · exact .inl hr
        · right
          have hq : q = p := by
            rcases List.mem_cons.1 q1 with rfl | q1
            · rfl
            · exact absurd ⟨q, q1, q2⟩ hr
          subst hq
          have hi := h5 q2
          have ha := hearR_a h1 hi
          have hcc : C.length = (X.SS e).length := hcov.none fun k hk => by
            obtain ⟨v, v1, rfl⟩ := List.mem_map.1 hk
            exact Classical.byContradiction fun v2 => hr ⟨v, v1, v2⟩
          rcases hA with ⟨_, rfl⟩ | ⟨e9, _⟩
          · refine ⟨_, List.mem_append_right _ (List.mem_cons_self ..), ?_⟩
            simp only
            rw [ha, h2.hd]
            omega
          · rw [hi] at e9; cases e9
      · exact .inr (.inr ⟨q, hAmem q q1, q2⟩)
  · rw [hp, ph_cons]
    by_cases hs : p.k.s = 0
    · have := hearR_zero hs (X.st i)
      rcases hA with ⟨e, _⟩ | ⟨_, rfl⟩
      · rw [this] at e; cases e
      · rw [if_pos hs]; omega
    · rw [if_neg hs]
      rcases hA with ⟨_, rfl⟩ | ⟨_, rfl⟩
      · rw [ph_snoc, if_pos (hearR_s _ _)]; omega
      · omega
theorem tick_DR {n r : Nat} {X : OSt} (h : Inv n X) (hw : Wt r X) (hA0 : ∀ j, j < 2 → X.AA j = []) {A : Nat → List PkA} (hA : Told X.st 2 X.AA A) : ∃ F : Nat → Prop, DR F (X.tick A) ∧ (1 ≤ r → ∀ e, e < 2 → F e) := by
  refine ⟨fun e => ∀ x, X.st e = some x → quietT x.L = false ∨ x.L = [], fun e o he => ?_, fun hr e he x hx => ?_⟩
  · obtain ⟨x, hx⟩ := h e o he
    obtain ⟨ts, e1, e2⟩ := hA.at he
    obtain ⟨x', h1, h2, h3, h4⟩ := tick_ok hx.ok
    have hst : sts X.st 2 e = (tickR (X.st e)).2 := by unfold sts; rw [if_pos (by omega)]
    rw [hA0 o (by omega), List.nil_append] at e1
    rw [hx.st] at e2
    refine ⟨x', by simp only [OSt.tick]; rw [hst, hx.st]; exact h1, fun hF => ?_, fun hF t ht => ?_⟩
    · simp only [OSt.tick]
      rw [e1, e2]
      have hq := hx.ok.q
      have hle := hx.ok.le
      have hdn := hx.ok.done
      have hco := hx.ok.co
      rw [dat_len] at hq hle hdn hco
      rcases hF x hx.st with hq1 | hL
      · refine ⟨?_, ?_⟩
        · have := told_cov (x := x) (hdR (some x)) x.L ((X.SS e).length - x.L.length) (X.CC o).length hdn (by omega)
          rw [show (X.SS e).length - x.L.length + x.L.length = (X.SS e).length by omega] at this
          simp only [tickR, hq1, cond_false]
          rw [show x.q - (x.L.length : Int) = (((X.SS e).length - x.L.length : Nat) : Int) by omega]
          exact this
        · cases hL : x.L with
          | nil => left; exact List.eq_nil_of_length_eq_zero (by rw [h3, hL]; rfl)
          | cons t L =>
            right
            left
            simp only [tickR, hq1, cond_false] at e2
            rw [hL] at e2
            simp only [toldOf, List.map_cons] at e2
            cases ts with
            | nil => cases e2
            | cons q ts =>
              simp only [List.map_cons, List.cons.injEq] at e2
              refine ⟨q, List.mem_cons_self .., ?_⟩
              rw [e2.1]
              simp only [toldP]
              rw [hL, List.length_cons] at hle
              simp only [List.length_cons]
              omega
      · have hx0 : x'.L = [] := List.eq_nil_of_length_eq_zero (by rw [h3, hL]; rfl)
        refine ⟨?_, .inl hx0⟩
        rw [hL] at hdn
        simp only [List.length_nil] at hdn
        rw [show (X.CC o).length = (X.SS e).length by omega]
        exact .done _
    · have hq1 : quietT x.L = true := by
        cases hq : quietT x.L with
        | true => rfl
        | false => exact absurd (fun z hz => by rw [hx.st] at hz; cases hz; exact .inl hq) hF
      simp only [tickR, hq1, cond_true, Option.some.injEq] at h1
      rw [← h1] at ht
      obtain ⟨z, hz, rfl⟩ := List.mem_map.1 ht
      have := hx.wt z hz
      simp only
      omega
  · obtain ⟨z, z1, z2, z3⟩ := hw e (1 - e) (by omega)
    rw [hx] at z1
    cases z1
    cases hL : x.L with
    | nil => exact .inr rfl
    | cons t L =>
      have := z2 hr t (by rw [hL]; exact List.mem_cons_self ..)
      left
      simp only [quietT]
      exact decide_eq_false (by omega)
theorem DR.wt {r : Nat} {F : Nat → Prop} {X : OSt} (hd : DR F X) (hA0 : ∀ j, j < 2 → X.AA j = []) (hF : 1 ≤ r → ∀ e, e < 2 → F e) : Wt (r + 1) X := fun e o he => by
  obtain ⟨x, h1, h2, h3⟩ := hd e o he
  have hL : F e → x.L = [] := fun h => by
    rcases (h2 h).2 with h | ⟨p, h, _⟩ | ⟨p, h, _⟩
    · exact h
    · rw [hA0 o (by omega)] at h; cases h
    · rw [hA0 e (by omega)] at h; cases h
  refine ⟨x, h1, fun _ t ht => ?_, fun hr => hL (hF (by omega) e (by omega))⟩
  by_cases h : F e
  · rw [hL h] at ht; cases ht
  · exact h3 h t ht
theorem Wt.zero {n : Nat} {X : OSt} (h : Inv n X) : Wt 0 X := fun e o he => by
  obtain ⟨x, hx⟩ := h e o he
  exact ⟨x, hx.st, fun h => by omega, fun h => by omega⟩
theorem Wt.all {n : Nat} {X : OSt} (hw : Wt 2 X) (h : Inv n X) {e o : Nat} (he : e + o = 1) : (X.CC o).length = (X.SS e).length ∧ openR (X.st e) = 0 := by
  obtain ⟨x, h1, _, h3⟩ := hw e o he
  obtain ⟨y, hy⟩ := h e o he
  have := hy.st
  rw [h1] at this
  cases this
  have h4 := h3 (Nat.le_refl _)
  have g1 := hy.ok.done
  have g2 := hy.ok.co
  rw [h4, dat_len] at g1
  rw [dat_len] at g2
  simp only [List.length_nil] at g1
  exact ⟨by omega, by rw [h1]; simp only [openR, h4, List.length_nil]⟩
end Go.Proofs.Ytdlddggjjibeaaa
