/- Talk in the whole: Hear, Tick, Open, Heard, at any state. -/
import Derived.Test.YtdlddggjjibeaaaTalkL
namespace Go.Proofs.Ytdlddggjjibeaaa
open Go.RowKit
/-- What is open behind an answer. -/
def ackd (x : TX) (a : Int) : TX := ⟨x.q, x.hd, x.ck, x.L.drop (a - (x.q - x.L.length)).toNat⟩
def hearR (nd ep lf : Int) (k : Pak) : Sto → List Int × Bool × Pak × Bool × Sto
  | none => ([], false, pak0, false, none)
  | some x => bif mineB nd ep lf x.q k.n k.e k.l k.a k.pl then
      (if k.s = 0 then ([], false, pak0, false, some (ackd x k.a))
       else if k.s = x.hd + 1 then (k.d, true, ⟨nd, ep, lf, 0, x.hd + 1, false, []⟩, true, some ⟨x.q, x.hd + 1, x.ck, (ackd x k.a).L⟩)
       else ([], false, ⟨nd, ep, lf, 0, x.hd, false, []⟩, true, some (ackd x k.a)))
    else ([], false, pak0, false, some x)
theorem mineB_le {nd ep lf said n e l a : Int} {pl : Bool} (h : mineB nd ep lf said n e l a pl = true) : a ≤ said := by
  unfold mineB at h
  simp at h
  exact h.2.2.2.2
theorem ackd_seqs {x : TX} {os : List Slt} {a : Int} (h2 : os.map th = x.L) (h3 : Seqs (x.q - x.L.length) os) (ha : a ≤ x.q) : (ans a os).map th = (ackd x a).L ∧ Seqs ((ackd x a).q - (ackd x a).L.length) (ans a os) := by
  have hlen : os.length = x.L.length := by rw [← h2, List.length_map]
  have e := h3.ans (a := a) (by omega)
  rw [e]
  refine ⟨by simp only [ackd]; rw [← h2, List.map_drop], ?_⟩
  have := h3.drop (a - (x.q - x.L.length)).toNat
  have e2 : (ackd x a).q - ((ackd x a).L.length : Int) = x.q - x.L.length + (((a - (x.q - x.L.length)).toNat : Nat) : Int) := by
    simp only [ackd, List.length_drop]
    omega
  rw [e2]
  exact this
theorem Rel.ackd {x : TX} {sds : List BR} {tls : List Int} {D : Nat} (h : Rel x sds tls D) {a : Int} (ha : a ≤ x.q) : Rel (ackd x a) sds tls (D + (a - (x.q - x.L.length)).toNat) ∧ max (D : Int) a = ((D + (a - (x.q - x.L.length)).toNat : Nat) : Int) := by
  have h1 := h.hq
  have h2 := h.tl
  have h3 := h.hD
  refine ⟨⟨h1, h2, ?_, fun i y hy => ?_, h.tr, h.dl⟩, by omega⟩
  · simp only [Go.Proofs.Ytdlddggjjibeaaa.ackd, List.length_drop]; omega
  · simp only [Go.Proofs.Ytdlddggjjibeaaa.ackd, List.getElem?_drop] at hy
    have := h.get _ y hy
    rw [Nat.add_assoc]
    exact this
theorem Rel.heard {x : TX} {sds : List BR} {tls : List Int} {D : Nat} (h : Rel x sds tls D) (z : Int) : Rel ⟨x.q, z, x.ck, x.L⟩ sds tls D := ⟨h.hq, h.tl, h.hD, h.get, h.tr, h.dl⟩
theorem ackd_ok {m : Nat} {x : TX} (h : OkT m (some x)) (a : Int) : OkT (m + 1) (some (ackd x a)) := by
  obtain ⟨h1, h2, h3, h4, h5, h6, h7⟩ := h
  refine ⟨h1, by simp only [ackd]; omega, h3, by simp only [ackd]; omega, by simp only [ackd, List.length_drop]; omega, by simp only [ackd]; omega, fun t ht => ?_⟩
  have := h7 t (List.mem_of_mem_drop ht)
  exact ⟨this.1, by omega, this.2.2⟩
theorem OkT.mono {m : Nat} {st : Sto} (h : OkT m st) : OkT (m + 1) st := by
  cases st with
  | none => trivial
  | some x =>
    obtain ⟨h1, h2, h3, h4, h5, h6, h7⟩ := h
    exact ⟨h1, by omega, h3, by omega, h5, by omega, fun t ht => by have := h7 t ht; exact ⟨this.1, by omega, this.2.2⟩⟩
theorem hearR_ok {nd ep lf : Int} {k : Pak} {m : Nat} {st : Sto} (h : OkT m st) (hr : Rng k.d) : OkT (m + 1) (hearR nd ep lf k st).2.2.2.2 ∧ Rng (hearR nd ep lf k st).1 := by
  cases st with
  | none => exact ⟨trivial, Rng.nil⟩
  | some x =>
    simp only [hearR]
    cases mineB nd ep lf x.q k.n k.e k.l k.a k.pl with
    | false => exact ⟨h.mono, Rng.nil⟩
    | true =>
      simp only [cond_true]
      split
      · exact ⟨ackd_ok h _, Rng.nil⟩
      · split
        · obtain ⟨g1, g2, g3⟩ := ackd_ok h k.a
          obtain ⟨h1, h2, _⟩ := h
          exact ⟨⟨by simp only; omega, by simp only; omega, g3⟩, hr⟩
        · exact ⟨ackd_ok h _, Rng.nil⟩
theorem THear (nd ep lf : Int) (pa : Option Addr) (st : Sto) (m : Nat) (hm : m ≤ 200) (ok : OkT m st) (k : Pak) (dv : SV) (R : Assn) (hR : ∀ Γ w, Sat w (R :: Γ) → BytesAt w dv.v k.d) (hl : k.d.length ≤ 60) :
    Spec Try.prog 12 [.pointer pa, .agg (pakC k dv).toArray] [TI nd ep lf pa st, R] fun Γ v Θ =>
      ∃ g u, v = .tuple #[g.v, .bool (hearR nd ep lf k st).2.1, .agg (pakC (hearR nd ep lf k st).2.2.1 u).toArray, .bool (hearR nd ep lf k st).2.2.2.1] ∧
        Θ = obytes g (hearR nd ep lf k st).1 :: obytes u (hearR nd ep lf k st).2.2.1.d :: TI nd ep lf pa (hearR nd ep lf k st).2.2.2.2 :: R :: Γ := by
  cases st with
  | none =>
    refine Spec.noTI fun e => ?_
    subst e
    refine (HearNil_S k.n k.e k.l k.s k.a k.pl dv).weaken fun Γ => ⟨R :: Γ, Ent.refl _, ?_⟩
    rintro v Θ ⟨rfl, rfl⟩
    exact ⟨_, ⟨SV.nil, SV.nil, rfl, rfl⟩, ((Ent.noTI _).trans (Ent.ownNil _ _)).trans (Ent.ownNil _ _)⟩
  | some x =>
    obtain ⟨h1, h2, h3, h4, h5, h6, h7⟩ := ok
    refine Spec.openTI fun t ov os e1 e2 e3 e4 => ?_
    subst e1
    have hlen : os.length = x.L.length := by rw [← e2, List.length_map]
    simp only [hearR]
    cases hmi : mineB nd ep lf x.q k.n k.e k.l k.a k.pl with
    | false =>
      simp only [cond_false]
      refine (HearOther_S t nd ep lf x.q x.hd ov os k.n k.e k.l k.s k.a k.pl dv hmi).weaken fun Γ => ⟨R :: Γ, Ent.refl _, ?_⟩
      rintro v Θ ⟨rfl, rfl⟩
      exact ⟨_, ⟨SV.nil, SV.nil, rfl, rfl⟩, ((Ent.closeTI e2 e3 _).trans (Ent.ownNil _ _)).trans (Ent.ownNil _ _)⟩
    | true =>
      have hq := mineB_le hmi
      obtain ⟨g1, g2⟩ := ackd_seqs e2 e3 hq
      simp only [cond_true]
      by_cases hs : k.s = 0
      · simp only [if_pos hs]
        refine (HearZero_S t nd ep lf x.q x.hd ov os k.n k.e k.l k.s k.a k.pl dv hmi hs).weaken fun Γ => ⟨R :: Γ, Ent.refl _, ?_⟩
        rintro v Θ ⟨ov', rfl, rfl⟩
        exact ⟨_, ⟨SV.nil, SV.nil, rfl, rfl⟩, ((Ent.closeTI (x := ackd x k.a) g1 g2 _).trans (Ent.ownNil _ _)).trans (Ent.ownNil _ _)⟩
      · simp only [if_neg hs]
        by_cases hs1 : k.s = x.hd + 1
        · simp only [if_pos hs1]
          refine (HearNew_S t nd ep lf x.q x.hd ov os k.n k.e k.l k.s k.a k.pl dv k.d R hR (by omega) hmi (by omega) hs1).weaken fun Γ => ⟨Γ, Ent.refl _, ?_⟩
          rintro v Θ ⟨ov', u, g, rfl, hu, hg, rfl⟩
          exact ⟨_, ⟨g, u, rfl, rfl⟩, ((Ent.closeTI (x := ⟨x.q, x.hd + 1, x.ck, (ackd x k.a).L⟩) g1 g2 _).cons _).cons _⟩
        · simp only [if_neg hs1]
          refine (HearOld_S t nd ep lf x.q x.hd ov os k.n k.e k.l k.s k.a k.pl dv hmi hs (.inr hs1) (by omega)).weaken fun Γ => ⟨R :: Γ, Ent.refl _, ?_⟩
          rintro v Θ ⟨ov', u, rfl, hu, rfl⟩
          exact ⟨_, ⟨SV.nil, u, rfl, rfl⟩, ((Ent.closeTI (x := ackd x k.a) g1 g2 _).cons _).trans (Ent.ownNil _ _)⟩
theorem RHear (nd ep lf : Int) (pa : Option Addr) (st : Sto) (m : Nat) (hm : m ≤ 200) (ok : OkT m st) (k : Pak) (dv : SV) (R : Assn) (hR : ∀ Γ w, Sat w (R :: Γ) → BytesAt w dv.v k.d) (hdn : dv.n = k.d.length) (hl : k.d.length ≤ 60) (ha : 0 ≤ k.a ∧ k.a ≤ 4294967295) (hs0 : 0 ≤ k.s ∧ k.s ≤ 4294967295) :
    Spec Try.prog 25 [.pointer pa, .agg (pakC k dv).toArray] [RI nd ep lf pa st, R] fun Γ v Θ =>
      ∃ g u, v = .tuple #[g.v, .bool (hearR nd ep lf k st).2.1, .agg (pakC (hearR nd ep lf k st).2.2.1 u).toArray, .bool (hearR nd ep lf k st).2.2.2.1] ∧
        Θ = obytes g (hearR nd ep lf k st).1 :: obytes u (hearR nd ep lf k st).2.2.1.d :: RI nd ep lf pa (hearR nd ep lf k st).2.2.2.2 :: R :: Γ := by
  cases st with
  | none =>
    refine Spec.noRI fun e => ?_
    subst e
    refine (rHearNil_S k.n k.e k.l k.s k.a k.pl dv).weaken fun Γ => ⟨R :: Γ, Ent.refl _, ?_⟩
    rintro v Θ ⟨rfl, rfl⟩
    exact ⟨_, ⟨SV.nil, SV.nil, rfl, rfl⟩, ((Ent.noRI _).trans (Ent.ownNil _ _)).trans (Ent.ownNil _ _)⟩
  | some x =>
    obtain ⟨h1, h2, h3, h4, h5, h6, h7⟩ := ok
    refine Spec.openRI fun t sv tv sds tls D e1 rel hn => ?_
    subst e1
    have hsq : (sv.n : Int) = x.q := by rw [hn]; exact rel.hq
    simp only [hearR]
    cases hmi : mineB nd ep lf x.q k.n k.e k.l k.a k.pl with
    | false =>
      simp only [cond_false]
      refine (rHearOther_S t nd ep lf sv tv x.ck D x.hd k.n k.e k.l k.s k.a k.pl dv ha (by rw [hsq]; exact hmi)).weaken fun Γ => ⟨own sv 32 1 (sds.flatMap brC) :: alls sds brB :: own tv 3 1 (tls.flatMap tC) :: R :: Γ, Ent.refl _, ?_⟩
      rintro v Θ ⟨rfl, rfl⟩
      exact ⟨_, ⟨SV.nil, SV.nil, rfl, rfl⟩, ((Ent.closeRI rel hn _).trans (Ent.ownNil _ _)).trans (Ent.ownNil _ _)⟩
    | true =>
      have hq := mineB_le hmi
      obtain ⟨rel2, hmax⟩ := rel.ackd hq
      simp only [cond_true]
      by_cases hs : k.s = 0
      · simp only [if_pos hs]
        refine (rHearZero_S t nd ep lf sv tv x.ck D x.hd k.n k.e k.l k.s k.a k.pl dv ha (by rw [hsq]; exact hmi) hs).weaken fun Γ => ⟨own sv 32 1 (sds.flatMap brC) :: alls sds brB :: own tv 3 1 (tls.flatMap tC) :: R :: Γ, Ent.refl _, ?_⟩
        rintro v Θ ⟨rfl, rfl⟩
        rw [hmax]
        exact ⟨_, ⟨SV.nil, SV.nil, rfl, rfl⟩, ((Ent.closeRI rel2 hn _).trans (Ent.ownNil _ _)).trans (Ent.ownNil _ _)⟩
      · simp only [if_neg hs]
        by_cases hs1 : k.s = x.hd + 1
        · simp only [if_pos hs1]
          refine (rHearNew_S t nd ep lf sv tv x.ck D x.hd k.n k.e k.l k.s k.a k.pl dv k.d R hR hdn (by omega) ha (by rw [hsq]; exact hmi) hs1 (by omega)).weaken fun Γ => ⟨own sv 32 1 (sds.flatMap brC) :: alls sds brB :: own tv 3 1 (tls.flatMap tC) :: Γ, by simp only [List.cons_append, List.nil_append]; exact Sub.ent, ?_⟩
          rintro v Θ ⟨g, rfl, rfl⟩
          rw [hmax]
          refine ⟨_, ⟨g, SV.nil, rfl, rfl⟩, Ent.cons _ ?_⟩
          exact ((Sub.ent : Ent _ (blk t 65 (rk nd ep lf sv tv x.ck ((D + (k.a - (x.q - x.L.length)).toNat : Nat) : Int) (x.hd + 1)).toArray :: own sv 32 1 (sds.flatMap brC) :: alls sds brB :: own tv 3 1 (tls.flatMap tC) :: R :: Γ)).trans (Ent.closeRI (x := ⟨x.q, x.hd + 1, x.ck, (ackd x k.a).L⟩) (rel2.heard (x.hd + 1)) hn _)).trans (Ent.ownNil _ _)
        · simp only [if_neg hs1]
          refine (rHearOld_S t nd ep lf sv tv x.ck D x.hd k.n k.e k.l k.s k.a k.pl dv ha (by rw [hsq]; exact hmi) hs hs1 hs0 (by omega)).weaken fun Γ => ⟨own sv 32 1 (sds.flatMap brC) :: alls sds brB :: own tv 3 1 (tls.flatMap tC) :: R :: Γ, Ent.refl _, ?_⟩
          rintro v Θ ⟨rfl, rfl⟩
          rw [hmax]
          exact ⟨_, ⟨SV.nil, SV.nil, rfl, rfl⟩, ((Ent.closeRI rel2 hn _).trans (Ent.ownNil _ _)).trans (Ent.ownNil _ _)⟩
/-- What is told: numbers from b on. -/
def toldOf (b : Int) : List Th → List (Int × List Int)
  | [] => []
  | t :: L => (b + 1, t.data) :: toldOf (b + 1) L
def quietT : List Th → Bool
  | [] => true
  | t :: _ => decide (t.wait + 1 < 2)
def tickR : Sto → List (Int × List Int) × Sto
  | none => ([], none)
  | some x => bif quietT x.L then ([], some ⟨x.q, x.hd, x.ck + 1, x.L.map fun t => ⟨t.data, t.wait + 1⟩⟩)
      else (toldOf (x.q - x.L.length) x.L, some ⟨x.q, x.hd, x.ck + 1, x.L.map fun t => ⟨t.data, 0⟩⟩)
theorem tickR_ok {m : Nat} {st : Sto} (h : OkT m st) : OkT (m + 1) (tickR st).2 := by
  cases st with
  | none => trivial
  | some x =>
    obtain ⟨h1, h2, h3, h4, h5, h6, h7⟩ := h
    simp only [tickR]
    cases quietT x.L with
    | true =>
      refine ⟨h1, by simp only; omega, by simp only; omega, by simp only; omega, by simp; omega, by simp only; omega, fun t ht => ?_⟩
      obtain ⟨z, hz, rfl⟩ := List.mem_map.1 ht
      have := h7 z hz
      exact ⟨by simp only; omega, by simp only; omega, this.2.2⟩
    | false =>
      refine ⟨h1, by simp only; omega, by simp only; omega, by simp only; omega, by simp; omega, by simp only; omega, fun t ht => ?_⟩
      obtain ⟨z, hz, rfl⟩ := List.mem_map.1 ht
      have := h7 z hz
      exact ⟨by simp, by simp only; omega, this.2.2⟩
theorem told_os : ∀ {os : List Slt} {b : Int}, Seqs b os → os.map (fun x => (x.seq, x.data)) = toldOf b (os.map th)
  | [], _, _ => rfl
  | x :: os, b, h => by
    have h0 := h 0 x rfl
    have ht : Seqs (b + 1) os := by have := h.drop 1; simpa using this
    simp only [List.map_cons, toldOf, told_os ht, List.cons.injEq, Prod.mk.injEq, th, and_true]
    omega
theorem told_get : ∀ {L : List Th} {b : Int} {i : Nat} {t : Th}, L[i]? = some t → (toldOf b L)[i]? = some (b + 1 + (i : Int), t.data)
  | [], _, _, _, h => by simp at h
  | t :: L, b, 0, _, h => by simp at h; subst h; simp [toldOf]
  | t :: L, b, i + 1, z, h => by
    simp only [List.getElem?_cons_succ] at h
    simp only [toldOf, List.getElem?_cons_succ, told_get h]
    congr 2
    omega
theorem told_len : ∀ (L : List Th) (b : Int), (toldOf b L).length = L.length
  | [], _ => rfl
  | _ :: L, b => by simp [toldOf, told_len L]
end Go.Proofs.Ytdlddggjjibeaaa
