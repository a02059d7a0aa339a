/- Talk in the whole: what an end is, be it nil or not; contracts of both sides at any state. -/
import Derived.Test.YtdlddggjjibeaaaTalkK
import Derived.Test.YtdlddggjjibeaaaTalkI
namespace Go.Proofs.Ytdlddggjjibeaaa
open Go.RowKit
structure Th where
  data : List Int
  wait : Int
structure TX where
  q : Int
  hd : Int
  ck : Int
  L : List Th
abbrev Sto := Option TX
def th (x : Slt) : Th := ⟨x.data, x.wait⟩
/-- The end of the program's talk. -/
def TI (nd ep lf : Int) (pa : Option Addr) : Sto → Assn
  | none => fun _ => pa = none
  | some x => fun h => ∃ t ov os, pa = some ⟨t, 0, none⟩ ∧ os.map th = x.L ∧ Seqs (x.q - x.L.length) os ∧ stars [blk t 72 (tk nd ep lf x.q x.hd ov).toArray, own ov 76 3 (os.flatMap sltC), alls os sltB] h
structure Rel (x : TX) (sds : List BR) (tls : List Int) (D : Nat) : Prop where
  hq : (sds.length : Int) = x.q
  tl : tls.length = sds.length
  hD : D + x.L.length = sds.length
  get : ∀ (i : Nat) (y : Th), x.L[i]? = some y → ∃ s k, sds[D + i]? = some s ∧ s.l = y.data ∧ tls[D + i]? = some k ∧ y.wait = x.ck - k
  tr : ∀ k ∈ tls, 0 ≤ k ∧ k ≤ x.ck
  dl : ∀ s ∈ sds, s.l.length ≤ 60
/-- The end of the document's. -/
def RI (nd ep lf : Int) (pa : Option Addr) : Sto → Assn
  | none => fun _ => pa = none
  | some x => fun h => ∃ t sv tv sds tls D, pa = some ⟨t, 0, none⟩ ∧ Rel x sds tls D ∧ sv.n = sds.length ∧ stars [blk t 65 (rk nd ep lf sv tv x.ck D x.hd).toArray, own sv 32 1 (sds.flatMap brC), alls sds brB, own tv 3 1 (tls.flatMap tC)] h
section
variable {nd ep lf : Int} {pa : Option Addr} {x : TX}
theorem Ent.closeTI {t : Nat} {ov : SV} {os : List Slt} (hL : os.map th = x.L) (hs : Seqs (x.q - x.L.length) os) (Γ : List Assn) : Ent (blk t 72 (tk nd ep lf x.q x.hd ov).toArray :: own ov 76 3 (os.flatMap sltC) :: alls os sltB :: Γ) (TI nd ep lf (some ⟨t, 0, none⟩) (some x) :: Γ) := fun h hh => by
  have := (stars_append (Γ := [blk t 72 (tk nd ep lf x.q x.hd ov).toArray, own ov 76 3 (os.flatMap sltC), alls os sltB]) (Δ := Γ)).1 hh
  exact Ent.mono1 Γ (fun y hy => ⟨t, ov, os, rfl, hL, hs, hy⟩) h this
theorem Ent.closeRI {t : Nat} {sv tv : SV} {sds : List BR} {tls : List Int} {D : Nat} (hr : Rel x sds tls D) (hn : sv.n = sds.length) (Γ : List Assn) : Ent (blk t 65 (rk nd ep lf sv tv x.ck D x.hd).toArray :: own sv 32 1 (sds.flatMap brC) :: alls sds brB :: own tv 3 1 (tls.flatMap tC) :: Γ) (RI nd ep lf (some ⟨t, 0, none⟩) (some x) :: Γ) := fun h hh => by
  have := (stars_append (Γ := [blk t 65 (rk nd ep lf sv tv x.ck D x.hd).toArray, own sv 32 1 (sds.flatMap brC), alls sds brB, own tv 3 1 (tls.flatMap tC)]) (Δ := Γ)).1 hh
  exact Ent.mono1 Γ (fun y hy => ⟨t, sv, tv, sds, tls, D, rfl, hr, hn, hy⟩) h this
theorem Ent.noTI (Γ : List Assn) : Ent Γ (TI nd ep lf none none :: Γ) := fun h hs => ⟨HL.emp, h, HL.emp_disj _, HL.emp_le _, HL.le.refl _, rfl, hs⟩
theorem Ent.noRI (Γ : List Assn) : Ent Γ (RI nd ep lf none none :: Γ) := fun h hs => ⟨HL.emp, h, HL.emp_disj _, HL.emp_le _, HL.le.refl _, rfl, hs⟩
theorem Sat.openTI {w : World} {Γ : List Assn} (hs : Sat w (TI nd ep lf pa (some x) :: Γ)) : ∃ t ov os, pa = some ⟨t, 0, none⟩ ∧ os.map th = x.L ∧ Seqs (x.q - x.L.length) os ∧ ov.n = os.length ∧ Sat w (blk t 72 (tk nd ep lf x.q x.hd ov).toArray :: own ov 76 3 (os.flatMap sltC) :: alls os sltB :: Γ) := by
  obtain ⟨h, l, h1, h2, d, l1, l2, ⟨t, ov, os, e1, e2, e3, e5⟩, s⟩ := hs
  refine ⟨t, ov, os, e1, e2, e3, ?_, h, l, (stars_append (Γ := [blk t 72 (tk nd ep lf x.q x.hd ov).toArray, own ov 76 3 (os.flatMap sltC), alls os sltB]) (Δ := Γ)).2 ⟨h1, h2, d, l1, l2, e5, s⟩⟩
  obtain ⟨_, k2, _, _, _, _, _, k3, _, _, _, p, _⟩ := e5
  have := p.1
  rw [flat_length sltC_len] at this
  omega
theorem Sat.openRI {w : World} {Γ : List Assn} (hs : Sat w (RI nd ep lf pa (some x) :: Γ)) : ∃ t sv tv sds tls D, pa = some ⟨t, 0, none⟩ ∧ Rel x sds tls D ∧ sv.n = sds.length ∧ Sat w (blk t 65 (rk nd ep lf sv tv x.ck D x.hd).toArray :: own sv 32 1 (sds.flatMap brC) :: alls sds brB :: own tv 3 1 (tls.flatMap tC) :: Γ) := by
  obtain ⟨h, l, h1, h2, d, l1, l2, ⟨t, sv, tv, sds, tls, D, e1, e2, e3, e5⟩, s⟩ := hs
  exact ⟨t, sv, tv, sds, tls, D, e1, e2, e3, h, l, (stars_append (Γ := [blk t 65 (rk nd ep lf sv tv x.ck D x.hd).toArray, own sv 32 1 (sds.flatMap brC), alls sds brB, own tv 3 1 (tls.flatMap tC)]) (Δ := Γ)).2 ⟨h1, h2, d, l1, l2, e5, s⟩⟩
theorem Spec.openTI {P : Program} {f : FuncId} {args : List Value} {pre : List Assn} {post : List Assn → Value → List Assn → Prop} (h : ∀ t ov os, pa = some ⟨t, 0, none⟩ → os.map th = x.L → Seqs (x.q - x.L.length) os → ov.n = os.length → Spec P f args (blk t 72 (tk nd ep lf x.q x.hd ov).toArray :: own ov 76 3 (os.flatMap sltC) :: alls os sltB :: pre) post) : Spec P f args (TI nd ep lf pa (some x) :: pre) post := by
  intro Γ w hs
  obtain ⟨t, ov, os, e1, e2, e3, e4, hs'⟩ := Sat.openTI hs
  exact h t ov os e1 e2 e3 e4 Γ w hs'
theorem Spec.openRI {P : Program} {f : FuncId} {args : List Value} {pre : List Assn} {post : List Assn → Value → List Assn → Prop} (h : ∀ t sv tv sds tls D, pa = some ⟨t, 0, none⟩ → Rel x sds tls D → sv.n = sds.length → Spec P f args (blk t 65 (rk nd ep lf sv tv x.ck D x.hd).toArray :: own sv 32 1 (sds.flatMap brC) :: alls sds brB :: own tv 3 1 (tls.flatMap tC) :: pre) post) : Spec P f args (RI nd ep lf pa (some x) :: pre) post := by
  intro Γ w hs
  obtain ⟨t, sv, tv, sds, tls, D, e1, e2, e3, hs'⟩ := Sat.openRI hs
  exact h t sv tv sds tls D e1 e2 e3 Γ w hs'
theorem Spec.noTI {P : Program} {f : FuncId} {args : List Value} {pre : List Assn} {post : List Assn → Value → List Assn → Prop} (h : pa = none → Spec P f args pre post) : Spec P f args (TI nd ep lf pa none :: pre) post := by
  intro Γ w hs
  have e : pa = none := by obtain ⟨x, _, p⟩ := hs.head; exact p
  exact h e Γ w (hs.ent (Ent.drop _ _))
theorem Spec.noRI {P : Program} {f : FuncId} {args : List Value} {pre : List Assn} {post : List Assn → Value → List Assn → Prop} (h : pa = none → Spec P f args pre post) : Spec P f args (RI nd ep lf pa none :: pre) post := by
  intro Γ w hs
  have e : pa = none := by obtain ⟨x, _, p⟩ := hs.head; exact p
  exact h e Γ w (hs.ent (Ent.drop _ _))
end
/-- What holds behind m calls. -/
def OkT (m : Nat) : Sto → Prop
  | none => True
  | some x => 0 ≤ x.hd ∧ x.hd ≤ m ∧ 0 ≤ x.ck ∧ x.ck ≤ m ∧ (x.L.length : Int) ≤ x.q ∧ x.q ≤ m ∧ ∀ t ∈ x.L, 0 ≤ t.wait ∧ t.wait ≤ m ∧ t.data.length ≤ 60 ∧ Rng t.data
/-- A packet, told by its fields. -/
structure Pak where
  n : Int
  e : Int
  l : Int
  s : Int
  a : Int
  pl : Bool
  d : List Int
abbrev pakC (k : Pak) (dv : SV) : List Value := pkC k.n k.e k.l k.s k.a k.pl dv
abbrev pak0 : Pak := ⟨0, 0, 0, 0, 0, false, []⟩
def sayR (nd ep lf : Int) (p : List Int) : Sto → Pak × Int × Sto
  | none => (pak0, 6, none)
  | some x => (⟨nd, ep, lf, x.q + 1, x.hd, false, p⟩, 0, some ⟨x.q + 1, x.hd, x.ck, x.L ++ [⟨p, 0⟩]⟩)
theorem sayR_ok {nd ep lf : Int} {p : List Int} {m : Nat} {st : Sto} (h : OkT m st) (hp : p.length ≤ 60) (hr : Rng p) : OkT (m + 1) (sayR nd ep lf p st).2.2 := by
  cases st with
  | none => trivial
  | some x =>
    obtain ⟨h1, h2, h3, h4, h5, h6, h7⟩ := h
    refine ⟨h1, by simp only; omega, h3, by simp only; omega, by simp; omega, by simp only; omega, fun t ht => ?_⟩
    rcases List.mem_append.1 ht with ht | ht
    · have := h7 t ht; exact ⟨this.1, by omega, this.2.2⟩
    · simp at ht; subst ht; exact ⟨by simp, by simp; omega, hp, hr⟩
theorem TSay (nd ep lf : Int) (pa : Option Addr) (st : Sto) (m : Nat) (hm : m ≤ 200) (ok : OkT m st) (p : SV) (l : List Int) (R : Assn) (hR : ∀ Γ w, Sat w (R :: Γ) → BytesAt w p.v l) (hpn : p.n = l.length) (hl : l.length ≤ 60) :
    Spec Try.prog 15 [.pointer pa, p.v] [TI nd ep lf pa st, R] fun Γ v Θ =>
      ∃ dv, v = .tuple #[.agg (pakC (sayR nd ep lf l st).1 dv).toArray, .int .i64 (sayR nd ep lf l st).2.1] ∧ Θ = obytes dv (sayR nd ep lf l st).1.d :: TI nd ep lf pa (sayR nd ep lf l st).2.2 :: R :: Γ := by
  cases st with
  | none =>
    refine Spec.noTI fun e => ?_
    subst e
    refine (SayNil_S p.v).weaken fun Γ => ⟨R :: Γ, Ent.refl _, ?_⟩
    rintro v Θ ⟨rfl, rfl⟩
    exact ⟨_, ⟨SV.nil, rfl, rfl⟩, (Ent.noTI _).trans (Ent.ownNil _ _)⟩
  | some x =>
    obtain ⟨h1, h2, h3, h4, h5, h6, h7⟩ := ok
    refine Spec.openTI fun t ov os e1 e2 e3 e4 => ?_
    subst e1
    have hlen : os.length = x.L.length := by rw [← e2, List.length_map]
    refine (Say_S t nd ep lf x.q x.hd ov os p l R hR hpn (by omega) (by omega) (by omega) (by omega)).weaken fun Γ => ⟨Γ, Ent.refl _, ?_⟩
    rintro v Θ ⟨s, ov', u, rfl, hs, rfl⟩
    refine ⟨_, ⟨s, rfl, rfl⟩, Ent.cons _ ?_⟩
    refine Ent.closeTI (os := os ++ [(⟨x.q + 1, l, 0, u⟩ : Slt)]) (x := ⟨x.q + 1, x.hd, x.ck, x.L ++ [⟨l, 0⟩]⟩) (by rw [List.map_append, e2]; rfl) ?_ _
    have hb : x.q + 1 - ((x.L ++ [(⟨l, 0⟩ : Th)]).length : Int) = x.q - x.L.length := by simp; omega
    simp only
    rw [hb]
    exact e3.snoc _ (by simp only; omega)
theorem Rel.said {x : TX} {sds : List BR} {tls : List Int} {D : Nat} (h : Rel x sds tls D) (u : SV) {l : List Int} (hl : l.length ≤ 60) (hck : 0 ≤ x.ck) : Rel ⟨x.q + 1, x.hd, x.ck, x.L ++ [⟨l, 0⟩]⟩ (sds ++ [⟨u, l⟩]) (tls ++ [x.ck]) D := by
  have h1 := h.hq
  have h2 := h.tl
  have h3 := h.hD
  refine ⟨by simp; omega, by simp [h2], by simp; omega, fun i y hy => ?_, fun k hk => ?_, fun s hs => ?_⟩
  · by_cases hi : i < x.L.length
    · simp only at hy
      rw [List.getElem?_append_left hi] at hy
      obtain ⟨s, k, g1, g2, g3, g4⟩ := h.get i y hy
      exact ⟨s, k, by rw [List.getElem?_append_left (by omega)]; exact g1, g2, by rw [List.getElem?_append_left (by omega)]; exact g3, g4⟩
    · simp only at hy
      rw [List.getElem?_append_right (by omega)] at hy
      have hl1 := (List.getElem?_eq_some_iff.1 hy).1
      simp at hl1
      have e0 : i = x.L.length := by omega
      subst e0
      simp at hy
      subst hy
      exact ⟨⟨u, l⟩, x.ck, by rw [h3]; simp, rfl, by rw [h3, ← h2]; simp, by simp⟩
  · rcases List.mem_append.1 hk with hk | hk
    · exact h.tr k hk
    · simp at hk; subst hk; exact ⟨hck, Int.le_refl _⟩
  · rcases List.mem_append.1 hs with hs | hs
    · exact h.dl s hs
    · simp at hs; subst hs; exact hl
theorem RSay (nd ep lf : Int) (pa : Option Addr) (st : Sto) (m : Nat) (hm : m ≤ 200) (ok : OkT m st) (p : SV) (l : List Int) (R : Assn) (hR : ∀ Γ w, Sat w (R :: Γ) → BytesAt w p.v l) (hpn : p.n = l.length) (hl : l.length ≤ 60) :
    Spec Try.prog 19 [.pointer pa, p.v] [RI nd ep lf pa st, R] fun Γ v Θ =>
      ∃ dv, v = .tuple #[.agg (pakC (sayR nd ep lf l st).1 dv).toArray, .int .i64 (sayR nd ep lf l st).2.1] ∧ Θ = obytes dv (sayR nd ep lf l st).1.d :: RI nd ep lf pa (sayR nd ep lf l st).2.2 :: R :: Γ := by
  cases st with
  | none =>
    refine Spec.noRI fun e => ?_
    subst e
    refine (rSayNil_S p.v).weaken fun Γ => ⟨R :: Γ, Ent.refl _, ?_⟩
    rintro v Θ ⟨rfl, rfl⟩
    exact ⟨_, ⟨SV.nil, rfl, rfl⟩, (Ent.noRI _).trans (Ent.ownNil _ _)⟩
  | some x =>
    obtain ⟨h1, h2, h3, h4, h5, h6, h7⟩ := ok
    refine Spec.openRI fun t sv tv sds tls D e1 rel hn => ?_
    subst e1
    have r1 := rel.hq
    have r2 := rel.tl
    have r3 := rel.hD
    refine (rSay_S t nd ep lf sv tv x.ck D x.hd sds tls hn (by omega) (by omega) p l R hR hpn (by omega) (by omega) (by omega)).weaken fun Γ => ⟨Γ, Ent.refl _, ?_⟩
    rintro v Θ ⟨u, sv', tv', pu, rfl, hsv', rfl⟩
    refine ⟨_, ⟨pu, by rw [r1]; rfl, rfl⟩, Ent.cons _ ?_⟩
    exact Ent.closeRI (x := ⟨x.q + 1, x.hd, x.ck, x.L ++ [⟨l, 0⟩]⟩) (rel.said u hl h3) (by simp; omega) _
def mineR (nd ep lf : Int) (k : Pak) : Sto → Bool
  | none => false
  | some x => mineB nd ep lf x.q k.n k.e k.l k.a k.pl
theorem TMine (nd ep lf : Int) (pa : Option Addr) (st : Sto) (k : Pak) (dv : SV) :
    Spec Try.prog 23 [.pointer pa, .agg (pakC k dv).toArray] [TI nd ep lf pa st] fun Γ v Θ => v = .bool (mineR nd ep lf k st) ∧ Θ = TI nd ep lf pa st :: Γ := by
  cases st with
  | none =>
    refine Spec.noTI fun e => ?_
    subst e
    refine (MineNil_S k.n k.e k.l k.s k.a k.pl dv.v).weaken fun Γ => ⟨Γ, Ent.refl _, ?_⟩
    rintro v Θ ⟨rfl, rfl⟩
    exact ⟨_, ⟨rfl, rfl⟩, Ent.noTI _⟩
  | some x =>
    refine Spec.openTI fun t ov os e1 e2 e3 e4 => ?_
    subst e1
    refine (Mine_S t nd ep lf x.q x.hd ov k.n k.e k.l k.s k.a k.pl dv.v).weaken fun Γ => ⟨own ov 76 3 (os.flatMap sltC) :: alls os sltB :: Γ, Ent.refl _, ?_⟩
    rintro v Θ ⟨rfl, rfl⟩
    exact ⟨_, ⟨rfl, rfl⟩, Ent.closeTI e2 e3 _⟩
theorem RMine (nd ep lf : Int) (pa : Option Addr) (st : Sto) (k : Pak) (dv : SV) (ha : 0 ≤ k.a ∧ k.a ≤ 4294967295) :
    Spec Try.prog 24 [.pointer pa, .agg (pakC k dv).toArray] [RI nd ep lf pa st] fun Γ v Θ => v = .bool (mineR nd ep lf k st) ∧ Θ = RI nd ep lf pa st :: Γ := by
  cases st with
  | none =>
    refine Spec.noRI fun e => ?_
    subst e
    refine (rMineNil_S k.n k.e k.l k.s k.a k.pl dv.v).weaken fun Γ => ⟨Γ, Ent.refl _, ?_⟩
    rintro v Θ ⟨rfl, rfl⟩
    exact ⟨_, ⟨rfl, rfl⟩, Ent.noRI _⟩
  | some x =>
    refine Spec.openRI fun t sv tv sds tls D e1 rel hn => ?_
    subst e1
    refine (rMine_S t nd ep lf sv tv x.ck D x.hd k.n k.e k.l k.s k.a k.pl dv.v ha).weaken fun Γ => ⟨own sv 32 1 (sds.flatMap brC) :: alls sds brB :: own tv 3 1 (tls.flatMap tC) :: Γ, Ent.refl _, ?_⟩
    rintro v Θ ⟨rfl, rfl⟩
    exact ⟨_, ⟨by rw [hn, rel.hq]; rfl, rfl⟩, Ent.closeRI rel hn _⟩
end Go.Proofs.Ytdlddggjjibeaaa
