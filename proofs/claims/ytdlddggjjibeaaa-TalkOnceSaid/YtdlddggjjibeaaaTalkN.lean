/- Talk in the whole: Tick, Open, Heard, New, at any state. -/
import Derived.Test.YtdlddggjjibeaaaTalkM
namespace Go.Proofs.Ytdlddggjjibeaaa
open Go.RowKit
def hdR : Sto → Int
  | none => 0
  | some x => x.hd
def openR : Sto → Nat
  | none => 0
  | some x => x.L.length
theorem quiet_th (os : List Slt) : quiet os = quietT (os.map th) := by cases os <;> rfl
theorem TTick (nd ep lf : Int) (pa : Option Addr) (st : Sto) (m : Nat) (hm : m ≤ 200) (ok : OkT m st) :
    Spec Try.prog 14 [.pointer pa] [TI nd ep lf pa st] fun Γ v Θ =>
      ∃ (out : SV) (ps : List Pk), v = out.v ∧ ps.map (fun y => (y.seq, y.data)) = (tickR st).1 ∧ Θ = alls ps pkB :: own out 34 7 (ps.flatMap (pkE nd ep lf (hdR st))) :: TI nd ep lf pa (tickR st).2 :: Γ := by
  cases st with
  | none =>
    refine Spec.noTI fun e => ?_
    subst e
    refine TickNil_S.weaken fun Γ => ⟨Γ, Ent.refl _, ?_⟩
    rintro v Θ ⟨rfl, rfl⟩
    exact ⟨_, ⟨SV.nil, [], rfl, rfl, rfl⟩, ((Ent.noTI _).trans (Ent.ownNil _ _)).trans (Ent.allsNil pkB _)⟩
  | some x =>
    obtain ⟨h1, h2, h3, h4, h5, h6, h7⟩ := ok
    refine Spec.openTI fun t ov os e1 e2 e3 e4 => ?_
    subst e1
    have hlen : os.length = x.L.length := by rw [← e2, List.length_map]
    have hth : ∀ s ∈ os, th s ∈ x.L := fun s hs => by rw [← e2]; exact List.mem_map_of_mem hs
    refine (TickU_S t nd ep lf x.q x.hd ov os (fun s hs => by have := h7 _ (hth s hs); simp only [th] at this; omega) (fun s hs => by have := h7 _ (hth s hs); simp only [th] at this; omega) (by omega)).weaken fun Γ => ⟨Γ, Ent.refl _, ?_⟩
    rintro v Θ ⟨out, ps, os4, rfl, hc, rfl⟩
    rw [quiet_th, e2] at hc
    rcases hc with ⟨hq, rfl, rfl⟩ | ⟨hq, hps, rfl⟩
    · refine ⟨_, ⟨out, [], rfl, by simp only [tickR, hq, cond_true]; rfl, rfl⟩, (Ent.swap _ _ _).trans (Ent.cons _ (Ent.cons _ ?_))⟩
      simp only [tickR, hq, cond_true]
      exact Ent.closeTI (os := os.map inc) (x := ⟨x.q, x.hd, x.ck + 1, x.L.map fun t => ⟨t.data, t.wait + 1⟩⟩) (by rw [← e2, List.map_map, List.map_map]; rfl) (by simp only [List.length_map]; exact e3.map _ (fun _ => rfl)) _
    · refine ⟨_, ⟨out, ps, rfl, by rw [hps]; simp only [tickR, hq, cond_false]; rw [← e2, List.length_map, hlen]; exact told_os e3, rfl⟩, (Ent.swap _ _ _).trans (Ent.cons _ (Ent.cons _ ?_))⟩
      simp only [tickR, hq, cond_false]
      exact Ent.closeTI (os := os.map zer) (x := ⟨x.q, x.hd, x.ck + 1, x.L.map fun t => ⟨t.data, 0⟩⟩) (by rw [← e2, List.map_map, List.map_map]; rfl) (by simp only [List.length_map]; exact e3.map _ (fun _ => rfl)) _
theorem Rel.quiet {x : TX} {sds : List BR} {tls : List Int} {D : Nat} (h : Rel x sds tls D) : quietR x.ck D tls = quietT x.L := by
  have h2 := h.tl
  have h3 := h.hD
  unfold quietR
  cases hL : x.L with
  | nil => rw [hL] at h3; simp at h3; rw [List.getElem?_eq_none (by omega)]; rfl
  | cons t L =>
    obtain ⟨s, k, _, _, g3, g4⟩ := h.get 0 t (by rw [hL]; rfl)
    rw [Nat.add_zero] at g3
    rw [g3]
    simp only [quietT]
    congr 1
    rw [g4]
    exact propext ⟨fun h => by omega, fun h => by omega⟩
theorem RTick (nd ep lf : Int) (pa : Option Addr) (st : Sto) (m : Nat) (hm : m ≤ 200) (ok : OkT m st) :
    Spec Try.prog 21 [.pointer pa] [RI nd ep lf pa st] fun Γ v Θ =>
      ∃ (out : SV) (ps : List Pk), v = out.v ∧ ps.map (fun y => (y.seq, y.data)) = (tickR st).1 ∧ Θ = alls ps pkB :: own out 34 7 (ps.flatMap (pkE nd ep lf (hdR st))) :: RI nd ep lf pa (tickR st).2 :: Γ := by
  cases st with
  | none =>
    refine Spec.noRI fun e => ?_
    subst e
    refine rTickNil_S.weaken fun Γ => ⟨Γ, Ent.refl _, ?_⟩
    rintro v Θ ⟨rfl, rfl⟩
    exact ⟨_, ⟨SV.nil, [], rfl, rfl, rfl⟩, ((Ent.noRI _).trans (Ent.ownNil _ _)).trans (Ent.allsNil pkB _)⟩
  | some x =>
    obtain ⟨h1, h2, h3, h4, h5, h6, h7⟩ := ok
    refine Spec.openRI fun t sv tv sds tls D e1 rel hn => ?_
    subst e1
    have r1 := rel.hq
    have r2 := rel.tl
    have r3 := rel.hD
    refine (rTick_S t nd ep lf sv tv x.ck x.hd D sds tls hn (by omega) r2 (by omega) (by omega) rel.tr (fun s hs => by have := rel.dl s hs; omega)).weaken fun Γ => ⟨Γ, Ent.refl _, ?_⟩
    rintro v Θ ⟨out, ps, tls', rfl, hc, rfl⟩
    rw [rel.quiet] at hc
    rcases hc with ⟨hq, rfl, rfl⟩ | ⟨hq, hpl, htell, htl', hset, hrng⟩
    · refine ⟨_, ⟨out, [], rfl, by simp only [tickR, hq, cond_true]; rfl, rfl⟩, Ent.cons _ (Ent.cons _ ?_)⟩
      simp only [tickR, hq, cond_true]
      refine Ent.closeRI (x := ⟨x.q, x.hd, x.ck + 1, x.L.map fun t => ⟨t.data, t.wait + 1⟩⟩) (D := D) ⟨r1, r2, by simpa using r3, fun i y hy => ?_, fun k hk => by have := rel.tr k hk; simp only; omega, rel.dl⟩ hn _
      simp only [List.getElem?_map] at hy
      cases hz : x.L[i]? with
      | none => rw [hz] at hy; cases hy
      | some z =>
        rw [hz] at hy
        simp at hy
        subst hy
        obtain ⟨s, k, g1, g2, g3, g4⟩ := rel.get i z hz
        exact ⟨s, k, g1, g2, g3, by simp only; omega⟩
    · refine ⟨_, ⟨out, ps, rfl, ?_, rfl⟩, Ent.cons _ (Ent.cons _ ?_)⟩
      · simp only [tickR, hq, cond_false]
        refine List.ext_getElem? fun i => ?_
        rw [List.getElem?_map]
        by_cases hi : i < x.L.length
        · obtain ⟨p, hp⟩ := getE (l := ps) (i := i) (by omega)
          obtain ⟨y, hy⟩ := getE (l := x.L) (i := i) hi
          obtain ⟨s, g1, g2, g3⟩ := htell i p hp
          obtain ⟨s', k, k1, k2, _, _⟩ := rel.get i y hy
          rw [g1] at k1
          cases k1
          rw [hp, told_get hy]
          simp only [Option.map_some, Option.some.injEq, Prod.mk.injEq]
          exact ⟨by omega, by rw [g2, k2]⟩
        · rw [List.getElem?_eq_none (by omega), List.getElem?_eq_none (by rw [told_len]; omega)]; rfl
      · simp only [tickR, hq, cond_false]
        refine Ent.closeRI (x := ⟨x.q, x.hd, x.ck + 1, x.L.map fun t => ⟨t.data, 0⟩⟩) (D := D) ⟨r1, by omega, by simpa using r3, fun i y hy => ?_, hrng, rel.dl⟩ hn _
        simp only [List.getElem?_map] at hy
        cases hz : x.L[i]? with
        | none => rw [hz] at hy; cases hy
        | some z =>
          rw [hz] at hy
          simp at hy
          subst hy
          obtain ⟨s, k, g1, g2, g3, g4⟩ := rel.get i z hz
          have hlt := (List.getElem?_eq_some_iff.1 g3).1
          obtain ⟨k', hk'⟩ := getE (l := tls') (i := D + i) (by omega)
          have e := hset (D + i) k' hk' (by omega)
          exact ⟨s, k', g1, g2, hk', by simp only; omega⟩
theorem TOpen (nd ep lf : Int) (pa : Option Addr) (st : Sto) :
    Spec Try.prog 17 [.pointer pa] [TI nd ep lf pa st] fun Γ v Θ => v = .int .i64 (openR st) ∧ Θ = TI nd ep lf pa st :: Γ := by
  cases st with
  | none =>
    refine Spec.noTI fun e => ?_
    subst e
    refine OpenNil_S.weaken fun Γ => ⟨Γ, Ent.refl _, ?_⟩
    rintro v Θ ⟨rfl, rfl⟩
    exact ⟨_, ⟨rfl, rfl⟩, Ent.noTI _⟩
  | some x =>
    refine Spec.openTI fun t ov os e1 e2 e3 e4 => ?_
    subst e1
    refine (Open_S t nd ep lf x.q x.hd ov).weaken fun Γ => ⟨own ov 76 3 (os.flatMap sltC) :: alls os sltB :: Γ, Ent.refl _, ?_⟩
    rintro v Θ ⟨rfl, rfl⟩
    exact ⟨_, ⟨by simp only [openR]; rw [e4, ← e2, List.length_map], rfl⟩, Ent.closeTI e2 e3 _⟩
theorem THeard (nd ep lf : Int) (pa : Option Addr) (st : Sto) :
    Spec Try.prog 26 [.pointer pa] [TI nd ep lf pa st] fun Γ v Θ => v = .int .u32 (hdR st) ∧ Θ = TI nd ep lf pa st :: Γ := by
  cases st with
  | none =>
    refine Spec.noTI fun e => ?_
    subst e
    refine HeardNil_S.weaken fun Γ => ⟨Γ, Ent.refl _, ?_⟩
    rintro v Θ ⟨rfl, rfl⟩
    exact ⟨_, ⟨rfl, rfl⟩, Ent.noTI _⟩
  | some x =>
    refine Spec.openTI fun t ov os e1 e2 e3 e4 => ?_
    subst e1
    refine (Heard_S t nd ep lf x.q x.hd ov).weaken fun Γ => ⟨own ov 76 3 (os.flatMap sltC) :: alls os sltB :: Γ, Ent.refl _, ?_⟩
    rintro v Θ ⟨rfl, rfl⟩
    exact ⟨_, ⟨rfl, rfl⟩, Ent.closeTI e2 e3 _⟩
theorem S.riOpen {nd ep lf : Int} {pa : Option Addr} {n : Nat} {w0 : World} {ρ : Env} {Γ Δ : List Assn} {φ : Act → World → Prop} (st : Sto) [p : Pick (RI nd ep lf pa st) Γ Δ] (hp : pa.isNone = false) (k : ∀ t sv tv sds tls D x, pa = some ⟨t, 0, none⟩ → st = some x → Rel x sds tls D → sv.n = sds.length → S n w0 ρ (blk t 65 (rk nd ep lf sv tv x.ck D x.hd).toArray :: own sv 32 1 (sds.flatMap brC) :: alls sds brB :: own tv 3 1 (tls.flatMap tC) :: Δ) φ) : S n w0 ρ Γ φ := by
  intro a w ha hs hx
  have hs1 := hs.ent p.ent
  cases st with
  | none => obtain ⟨x, _, e⟩ := hs1.head; simp only [RI] at e; rw [e] at hp; cases hp
  | some x =>
    obtain ⟨t, sv, tv, sds, tls, D, e1, e2, e3, hs'⟩ := Sat.openRI hs1
    exact k t sv tv sds tls D x e1 rfl e2 e3 a w ha hs' hx
theorem S.riNone {nd ep lf : Int} {pa : Option Addr} {n : Nat} {w0 : World} {ρ : Env} {Γ Δ : List Assn} {φ : Act → World → Prop} (st : Sto) [p : Pick (RI nd ep lf pa st) Γ Δ] (hp : pa.isNone = true) (k : pa = none → st = none → S n w0 ρ Γ φ) : S n w0 ρ Γ φ := by
  intro a w ha hs hx
  have hs1 := hs.ent p.ent
  cases st with
  | none => obtain ⟨x, _, e⟩ := hs1.head; exact k e rfl a w ha hs hx
  | some x =>
    obtain ⟨t, sv, tv, sds, tls, D, e1, e2, e3, hs'⟩ := Sat.openRI hs1
    rw [e1] at hp; cases hp
end Go.Proofs.Ytdlddggjjibeaaa
