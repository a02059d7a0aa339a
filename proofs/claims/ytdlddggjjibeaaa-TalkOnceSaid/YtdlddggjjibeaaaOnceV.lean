/- TalkOnce: the memory, step by step. -/
import Derived.Test.YtdlddggjjibeaaaOnceU
namespace Go.Proofs.Ytdlddggjjibeaaa
open Go.RowKit
theorem TNew (nd ep lf : Int) : Spec Try.prog 10 [.int .u8 nd, .int .u32 ep, .int .u32 lf] [] fun Γ v Θ => ∃ pa, v = .pointer pa ∧ Θ = TI nd ep lf pa (some ⟨0, 0, 0, []⟩) :: Γ := by
  refine (New_S nd ep lf).weaken fun Γ => ⟨Γ, Ent.refl _, ?_⟩
  rintro v Θ ⟨t, rfl, rfl⟩
  refine ⟨_, ⟨_, rfl, rfl⟩, ?_⟩
  have e1 : Ent (blk t 72 (tk nd ep lf 0 0 SV.nil).toArray :: Γ) (blk t 72 (tk nd ep lf 0 0 SV.nil).toArray :: own SV.nil 76 3 [] :: alls [] sltB :: Γ) := ((Ent.allsNil sltB Γ).trans (Ent.ownNil _ _)).cons _
  exact e1.trans (Ent.closeTI (os := []) (x := ⟨0, 0, 0, []⟩) rfl (Seqs.nil _) _)
/-- Before anything. -/
abbrev OSt.none : OSt := ⟨fun _ => [], fun _ => [], fun _ => [], fun _ => some ⟨0, 0, 0, []⟩⟩
theorem Inv.none : Inv 0 OSt.none := fun _ _ _ => ⟨⟨0, 0, 0, []⟩, rfl, ⟨rfl, rfl, Nat.le_refl _, Nat.le_refl _, rfl, Nat.le_refl _, Nat.le_refl _⟩, Nat.le_refl _, Int.le_refl _, Int.le_refl _, (fun _ h => by cases h), (fun _ h => by cases h), rfl, (fun _ h => by cases h)⟩
def Few (B : Nat) (X : OSt) : Prop := ∀ j, j < 2 → (X.AA j).length ≤ B
theorem Few.mono {B B' : Nat} {X : OSt} (h : Few B X) (hB : B ≤ B') : Few B' X := fun j hj => Nat.le_trans (h j hj) hB
theorem upd_len {α : Type} {f : Nat → List α} {i : Nat} {l : List α} {B : Nat} (h : ∀ j, j < 2 → (f j).length ≤ B) (hl : l.length ≤ B) : ∀ j, j < 2 → (upd f i l j).length ≤ B := fun j hj => by
  unfold upd
  split
  · exact hl
  · exact h j hj
theorem Few.say {B : Nat} {X : OSt} (h : Few B X) {i j : Nat} (hj : j < 2) (b : BR) (p : PkA) : Few (B + 1) (X.say i j b p) := upd_len (h.mono (Nat.le_succ _)) (by have := h j hj; simp only [List.length_append, List.length_cons, List.length_nil]; omega)
theorem Few.tick {B n : Nat} {X : OSt} (h : Few B X) (hi : Inv n X) (hn : n ≤ 200) {A : Nat → List PkA} (hA : Told X.st 2 X.AA A) : Few (B + 200) (X.tick A) := fun j hj => by
  obtain ⟨ts, e1, e2⟩ := hA.at (e := 1 - j) (o := j) (by omega)
  have h1 := congrArg List.length e2
  rw [List.length_map, List.length_map] at h1
  have h2 := tick_len (hi.okT hn (e := 1 - j) (by omega))
  have h3 := h j hj
  simp only [OSt.tick, e1, List.length_append]
  omega
theorem More.len {α : Type} {b : Bool} {x : α} {l l' : List α} (h : More b x l l') : l'.length ≤ l.length + 1 := by
  rcases h with ⟨_, rfl⟩ | ⟨_, rfl⟩
  · simp
  · omega
theorem Few.hear {B : Nat} {X : OSt} (h : Few B X) {i j : Nat} (hj : j < 2) {k : Pak} {b : Bool} {q : PkA} {C : List BR} {A : List PkA} (hA : More b q (X.AA j) A) : Few (B + 1) (X.hear i j k C A) := upd_len (h.mono (Nat.le_succ _)) (by have := h j hj; have := hA.len; omega)
def OSt.out (X : OSt) (i : Nat) (l : List PkA) : OSt := ⟨X.SS, X.CC, upd X.AA i l, X.st⟩
theorem Few.out {B : Nat} {X : OSt} (h : Few B X) {i : Nat} {l : List PkA} (hl : l.length ≤ B) : Few B (X.out i l) := upd_len h hl
theorem Inv.out {n : Nat} {X : OSt} (h : Inv n X) {i : Nat} {l : List PkA} (hl : ∀ p ∈ l, p ∈ X.AA i) : Inv n (X.out i l) := h.sub fun j p hp => by
  unfold upd at hp
  split at hp
  · rename_i e; rw [e]; exact hl p hp
  · exact hp
/-- All but the packets to end i. -/
abbrev MJ (i : Nat) (t3 t4 t5 t6 : Nat) (pp : Nat → Option Addr) (X : OSt) (s c a : Nat → SV) (Γ : List Assn) : List Assn :=
  blk t3 27 #[.pointer (pp 0), .pointer (pp 1)] :: TI 2 3 4 (pp i) (X.st i) :: TI 2 3 4 (pp (1 - i)) (X.st (1 - i)) :: blk t4 29 #[(s 0).v, (s 1).v] :: saidO (s i) (X.SS i) :: saidO (s (1 - i)) (X.SS (1 - i)) :: alls (X.SS i) brB :: alls (X.SS (1 - i)) brB ::
    blk t5 29 #[(c 0).v, (c 1).v] :: saidO (c i) (X.CC i) :: saidO (c (1 - i)) (X.CC (1 - i)) :: alls (X.CC i) brB :: alls (X.CC (1 - i)) brB :: blk t6 31 #[(a 0).v, (a 1).v] :: airO (a i) (X.AA i) :: airO (a (1 - i)) (X.AA (1 - i)) :: alls (X.AA (1 - i)) paB :: Γ
section
variable {n : Nat} {w0 : World} {ρ : Env} {φ : Act → World → Prop} {Γ0 : List Assn}
theorem Ent.saidNil (Γ : List Assn) : Ent Γ (saidO SV.nil [] :: Γ) := Ent.ownNil _ _
theorem Ent.airNil (Γ : List Assn) : Ent Γ (airO SV.nil [] :: Γ) := Ent.ownNil _ _
theorem MM.start (t3 t4 t5 t6 : Nat) (pp : Nat → Option Addr) (Γ : List Assn) [h : Sub (blk t3 27 #[.pointer (pp 0), .pointer (pp 1)] :: TI 2 3 4 (pp 0) (some ⟨0, 0, 0, []⟩) :: TI 2 3 4 (pp 1) (some ⟨0, 0, 0, []⟩) :: blk t4 29 #[SV.nil.v, SV.nil.v] :: blk t5 29 #[SV.nil.v, SV.nil.v] :: blk t6 31 #[SV.nil.v, SV.nil.v] :: Γ) Γ0]
    (k : S n w0 ρ (MM t3 t4 t5 t6 pp OSt.none (fun _ => SV.nil) (fun _ => SV.nil) (fun _ => SV.nil) Γ) φ) : S n w0 ρ Γ0 φ := by
  refine S.ent h.ent ?_
  refine S.ent (((Ent.allsNil brB _).trans (Ent.allsNil brB _)).trans ((Ent.allsNil brB _).trans (Ent.allsNil brB _))) ?_
  refine S.ent ((Ent.allsNil paB _).trans (Ent.allsNil paB _)) ?_
  refine S.ent (((Ent.saidNil _).trans (Ent.saidNil _)).trans ((Ent.saidNil _).trans (Ent.saidNil _))) ?_
  refine S.ent ((Ent.airNil _).trans (Ent.airNil _)) ?_
  exact S.ent Sub.ent k
/-- The air is emptied. -/
theorem MM.clear (t3 t4 t5 t6 : Nat) (pp : Nat → Option Addr) (X : OSt) (s c : Nat → SV) (Γ : List Assn) [h : Sub (blk t3 27 #[.pointer (pp 0), .pointer (pp 1)] :: TI 2 3 4 (pp 0) (X.st 0) :: TI 2 3 4 (pp 1) (X.st 1) :: blk t4 29 #[(s 0).v, (s 1).v] :: saidO (s 0) (X.SS 0) :: saidO (s 1) (X.SS 1) :: alls (X.SS 0) brB :: alls (X.SS 1) brB ::
    blk t5 29 #[(c 0).v, (c 1).v] :: saidO (c 0) (X.CC 0) :: saidO (c 1) (X.CC 1) :: alls (X.CC 0) brB :: alls (X.CC 1) brB :: blk t6 31 #[SV.nil.v, SV.nil.v] :: Γ) Γ0]
    (k : ∀ X', X' = ⟨X.SS, X.CC, fun _ => [], X.st⟩ → S n w0 ρ (MM t3 t4 t5 t6 pp X' s c (fun _ => SV.nil) Γ) φ) : S n w0 ρ Γ0 φ := by
  refine S.ent h.ent ?_
  refine S.ent ((Ent.allsNil paB _).trans (Ent.allsNil paB _)) ?_
  refine S.ent ((Ent.airNil _).trans (Ent.airNil _)) ?_
  exact S.ent Sub.ent (k _ rfl)
theorem MM.said {i : Nat} (hi : i < 2) (t3 t4 t5 t6 : Nat) (pp : Nat → Option Addr) (X : OSt) (s c a : Nat → SV) (Γ : List Assn) (u : SV) (l : List Int) (Q : Pak) (dv sn an : SV)
    [h : Sub (paB ⟨Q, dv⟩ :: brB ⟨u, l⟩ :: blk t6 31 #[(upd a (1 - i) an 0).v, (upd a (1 - i) an 1).v] :: airO an (X.AA (1 - i) ++ [(⟨Q, dv⟩ : PkA)]) :: blk t4 29 #[(upd s i sn 0).v, (upd s i sn 1).v] :: saidO sn (X.SS i ++ [(⟨u, l⟩ : BR)]) :: TI 2 3 4 (pp i) (sayR 2 3 4 l (X.st i)).2.2 :: blk t3 27 #[.pointer (pp 0), .pointer (pp 1)] :: TI 2 3 4 (pp (1 - i)) (X.st (1 - i)) :: saidO (s (1 - i)) (X.SS (1 - i)) :: alls (X.SS i) brB :: alls (X.SS (1 - i)) brB ::
    blk t5 29 #[(c 0).v, (c 1).v] :: saidO (c i) (X.CC i) :: saidO (c (1 - i)) (X.CC (1 - i)) :: alls (X.CC i) brB :: alls (X.CC (1 - i)) brB :: airO (a i) (X.AA i) :: alls (X.AA i) paB :: alls (X.AA (1 - i)) paB :: Γ) Γ0]
    (k : ∀ X' s' a', X' = X.say i (1 - i) ⟨u, l⟩ ⟨Q, dv⟩ → S n w0 ρ (MM t3 t4 t5 t6 pp X' s' c a' Γ) φ) : S n w0 ρ Γ0 φ := by
  refine S.ent h.ent ?_
  refine S.conv2 (brB ⟨u, l⟩) (alls (X.SS i) brB) (Ent.allsSnoc brB _ _ _) ?_
  refine S.conv2 (paB ⟨Q, dv⟩) (alls (X.AA (1 - i)) paB) (Ent.allsSnoc paB _ _ _) ?_
  have e1 : 1 - i ≠ i := by omega
  have := k (X.say i (1 - i) ⟨u, l⟩ ⟨Q, dv⟩) (upd s i sn) (upd a (1 - i) an) rfl
  refine S.ent ?_ (S.ent (MM.back hi) this)
  simp only [MI, OSt.say, upd_same, upd_other _ _ e1, upd_other _ _ (Ne.symm e1)]
  exact Sub.ent
theorem MM.heard {i : Nat} (hi : i < 2) (t3 t4 t5 t6 : Nat) (pp : Nat → Option Addr) (X : OSt) (s c a : Nat → SV) (Γ : List Assn) (q : Pak) (R : Assn) (hR : ∀ Γ, Ent (R :: Γ) (alls (X.AA i) paB :: Γ)) (cn an : SV) (C : List BR) (A : List PkA)
    [h : Sub (R :: blk t3 27 #[.pointer (pp 0), .pointer (pp 1)] :: TI 2 3 4 (pp i) (hearR 2 3 4 q (X.st i)).2.2.2.2 :: TI 2 3 4 (pp (1 - i)) (X.st (1 - i)) :: blk t4 29 #[(s 0).v, (s 1).v] :: saidO (s i) (X.SS i) :: saidO (s (1 - i)) (X.SS (1 - i)) :: alls (X.SS i) brB :: alls (X.SS (1 - i)) brB ::
    blk t5 29 #[(upd c i cn 0).v, (upd c i cn 1).v] :: saidO cn C :: saidO (c (1 - i)) (X.CC (1 - i)) :: alls C brB :: alls (X.CC (1 - i)) brB :: blk t6 31 #[(upd a (1 - i) an 0).v, (upd a (1 - i) an 1).v] :: airO (a i) (X.AA i) :: airO an A :: alls A paB :: Γ) Γ0]
    (k : ∀ X' c' a', X' = X.hear i (1 - i) q C A → S n w0 ρ (MM t3 t4 t5 t6 pp X' s c' a' Γ) φ) : S n w0 ρ Γ0 φ := by
  refine S.ent h.ent ?_
  refine S.ent (hR _) ?_
  have e1 : 1 - i ≠ i := by omega
  have := k (X.hear i (1 - i) q C A) (upd c i cn) (upd a (1 - i) an) rfl
  refine S.ent ?_ (S.ent (MM.back hi) this)
  simp only [MI, OSt.hear, upd_same, upd_other _ _ e1, upd_other _ _ (Ne.symm e1)]
  exact Sub.ent
theorem MM.ticked (t3 t4 t5 t6 : Nat) (pp : Nat → Option Addr) (X : OSt) (s c a' : Nat → SV) (Γ : List Assn) (A' : Nat → List PkA)
    [h : Sub (blk t3 27 #[.pointer (pp 0), .pointer (pp 1)] :: TI 2 3 4 (pp 0) (sts X.st 2 0) :: TI 2 3 4 (pp 1) (sts X.st 2 1) :: blk t4 29 #[(s 0).v, (s 1).v] :: saidO (s 0) (X.SS 0) :: saidO (s 1) (X.SS 1) :: alls (X.SS 0) brB :: alls (X.SS 1) brB ::
    blk t5 29 #[(c 0).v, (c 1).v] :: saidO (c 0) (X.CC 0) :: saidO (c 1) (X.CC 1) :: alls (X.CC 0) brB :: alls (X.CC 1) brB :: blk t6 31 #[(a' 0).v, (a' 1).v] :: airO (a' 0) (A' 0) :: airO (a' 1) (A' 1) :: alls (A' 0) paB :: alls (A' 1) paB :: Γ) Γ0]
    (k : ∀ X', X' = X.tick A' → S n w0 ρ (MM t3 t4 t5 t6 pp X' s c a' Γ) φ) : S n w0 ρ Γ0 φ := S.ent h.ent (k _ rfl)
theorem MJ.gone {i : Nat} (hi : i < 2) (t3 t4 t5 t6 : Nat) (pp : Nat → Option Addr) (X : OSt) (s c a : Nat → SV) (Γ : List Assn) (x : PkA) (l : List PkA) (an : SV)
    [h : Sub (paB x :: alls l paB :: blk t3 27 #[.pointer (pp 0), .pointer (pp 1)] :: TI 2 3 4 (pp i) (X.st i) :: TI 2 3 4 (pp (1 - i)) (X.st (1 - i)) :: blk t4 29 #[(s 0).v, (s 1).v] :: saidO (s i) (X.SS i) :: saidO (s (1 - i)) (X.SS (1 - i)) :: alls (X.SS i) brB :: alls (X.SS (1 - i)) brB ::
    blk t5 29 #[(c 0).v, (c 1).v] :: saidO (c i) (X.CC i) :: saidO (c (1 - i)) (X.CC (1 - i)) :: alls (X.CC i) brB :: alls (X.CC (1 - i)) brB :: blk t6 31 #[(upd a i an 0).v, (upd a i an 1).v] :: airO an l :: airO (a (1 - i)) (X.AA (1 - i)) :: alls (X.AA (1 - i)) paB :: Γ) Γ0]
    (k : ∀ X' a' R, X' = X.out i l → (∀ Γ w, Sat w (R :: Γ) → BytesAt w x.v.v x.k.d) → (∀ Γ, Ent (R :: Γ) (alls (X'.AA i) paB :: Γ)) → S n w0 ρ (R :: MJ i t3 t4 t5 t6 pp X' s c a' Γ) φ) : S n w0 ρ Γ0 φ := by
  refine S.ent h.ent ?_
  have e1 : 1 - i ≠ i := by omega
  have hop : ∀ Γ, Ent ((fun h => stars [paB x, alls l paB] h : Assn) :: Γ) (paB x :: alls l paB :: Γ) := fun Γ h hs => (stars_append (Γ := [paB x, alls l paB]) (Δ := Γ)).2 hs
  have := k (X.out i l) (upd a i an) (fun h => stars [paB x, alls l paB] h) rfl (fun Γ w hs => obytes_at (hs.ent (hop Γ))) (fun Γ => (hop Γ).trans (by simp only [OSt.out, upd_same]; exact Ent.drop _ _))
  have hcl : ∀ Γ, Ent (paB x :: alls l paB :: Γ) ((fun h => stars [paB x, alls l paB] h : Assn) :: Γ) := fun Γ h hs => (stars_append (Γ := [paB x, alls l paB]) (Δ := Γ)).1 hs
  refine S.ent (hcl _) ?_
  refine S.ent (Ent.cons _ ?_) this
  simp only [MJ, OSt.out, upd_same, upd_other _ _ e1]
  exact Sub.ent
/-- A packet that is read where it lies. -/
theorem MJ.stays {i : Nat} (t3 t4 t5 t6 : Nat) (pp : Nat → Option Addr) (X : OSt) (s c a : Nat → SV) (Γ : List Assn) {x : PkA} {j : Nat} (hx : (X.AA i)[j]? = some x) [h : Sub (alls (X.AA i) paB :: MJ i t3 t4 t5 t6 pp X s c a Γ) Γ0]
    (k : ∀ R, (∀ Γ w, Sat w (R :: Γ) → BytesAt w x.v.v x.k.d) → (∀ Γ, Ent (R :: Γ) (alls (X.AA i) paB :: Γ)) → S n w0 ρ (R :: MJ i t3 t4 t5 t6 pp X s c a Γ) φ) : S n w0 ρ Γ0 φ :=
  S.ent h.ent (k _ (fun _ _ hs => pa_alls_bytes hs hx) fun _ => Ent.refl _)
/-- All together again. -/
theorem MJ.back {i : Nat} (hi : i < 2) (t3 t4 t5 t6 : Nat) (pp : Nat → Option Addr) (X : OSt) (s c a : Nat → SV) (Γ : List Assn) (R : Assn) (hR : ∀ Γ, Ent (R :: Γ) (alls (X.AA i) paB :: Γ)) [h : Sub (R :: MJ i t3 t4 t5 t6 pp X s c a Γ) Γ0] (k : S n w0 ρ (MM t3 t4 t5 t6 pp X s c a Γ) φ) : S n w0 ρ Γ0 φ :=
  S.ent (h.ent.trans ((hR _).trans ((Sub.ent : Ent (alls (X.AA i) paB :: MJ i t3 t4 t5 t6 pp X s c a Γ) (MI i t3 t4 t5 t6 pp X s c a Γ)).trans (MM.back hi)))) k
end
end Go.Proofs.Ytdlddggjjibeaaa
