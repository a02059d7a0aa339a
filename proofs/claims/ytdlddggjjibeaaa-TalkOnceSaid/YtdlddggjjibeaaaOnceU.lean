/- TalkOnce: the memory of both ends and the air. -/
import Derived.Test.YtdlddggjjibeaaaOnceT
import Derived.Test.YtdlddggjjibeaaaRefs
import Derived.Test.YtdlddggjjibeaaaTalkH
namespace Go.Proofs.Ytdlddggjjibeaaa
open Go.RowKit
/-- An array, built of its cells. -/
theorem q_buildA {P : Program} {n : Nat} {ρ : Env} {Γ : List Assn} {ty : TypeId} {pos : String} {af : Array Edge} {gd : Option (Nat × Bool)} {ds : Option Tmp} {t : TypeId} {xs : List (Nat × Operand)} {pvs : List (Nat × Value)} {zs : List Value} {m s : Nat} (vs : List Value) (hz : zeroT P t = some zs) (hp : arrT P t = some (m, s)) (he : EvP ρ xs pvs) (hf : fillL (fun i => some (i * s, s)) zs pvs = some vs) :
    Qv P n ρ Γ ⟨ds, .build t xs.toArray, ty, pos, af, gd⟩ (.agg vs.toArray) := by
  intro a w ha _
  have hb : P.built t pvs = some vs.toArray := by
    unfold zeroT at hz
    unfold arrT at hp
    unfold Program.built
    cases hi : P.info? t with
    | none => simp [hi] at hz
    | some i =>
      cases hz' : i.zero with
      | none => simp [hi, hz'] at hz
      | some z =>
        simp only [hi, hz', Option.bind_some, Option.map_some, Option.some.injEq] at hz
        cases hu : P.underlying t with
        | none => simp [hu] at hp
        | some dd =>
          cases dd <;> simp [hu] at hp
          case array k e =>
            obtain ⟨ie, h1, rfl, rfl⟩ := hp
            simp only [hz', h1]
            have := fillL_fill _ pvs zs vs hf
            rw [← hz] at this
            simpa using this
  have hr := run_build (P := P) w t pvs.toArray vs.toArray hb
  have hm : (xs.toArray.map fun x : Nat × Operand => (x.1, a.eval x.2)) = pvs.toArray := by
    have := he.map ha
    simpa using congrArg List.toArray this
  simp only [execOp, hm, Sem.run_bind, hr, Result.andThen_ok, Sem.run_pure]
abbrev saidO (s : SV) (l : List BR) : Assn := own s 32 1 (l.flatMap brC)
abbrev airO (a : SV) (l : List PkA) : Assn := own a 34 7 (l.flatMap paE)
/-- All that the law has, the end i first. -/
abbrev MI (i : Nat) (t3 t4 t5 t6 : Nat) (pp : Nat → Option Addr) (X : OSt) (s c a : Nat → SV) (Γ : List Assn) : List Assn :=
  blk t3 27 #[.pointer (pp 0), .pointer (pp 1)] :: TI 2 3 4 (pp i) (X.st i) :: TI 2 3 4 (pp (1 - i)) (X.st (1 - i)) :: blk t4 29 #[(s 0).v, (s 1).v] :: saidO (s i) (X.SS i) :: saidO (s (1 - i)) (X.SS (1 - i)) :: alls (X.SS i) brB :: alls (X.SS (1 - i)) brB ::
    blk t5 29 #[(c 0).v, (c 1).v] :: saidO (c i) (X.CC i) :: saidO (c (1 - i)) (X.CC (1 - i)) :: alls (X.CC i) brB :: alls (X.CC (1 - i)) brB :: blk t6 31 #[(a 0).v, (a 1).v] :: airO (a i) (X.AA i) :: airO (a (1 - i)) (X.AA (1 - i)) :: alls (X.AA i) paB :: alls (X.AA (1 - i)) paB :: Γ
abbrev MM (t3 t4 t5 t6 : Nat) (pp : Nat → Option Addr) (X : OSt) (s c a : Nat → SV) (Γ : List Assn) : List Assn :=
  blk t3 27 #[.pointer (pp 0), .pointer (pp 1)] :: TI 2 3 4 (pp 0) (X.st 0) :: TI 2 3 4 (pp 1) (X.st 1) :: blk t4 29 #[(s 0).v, (s 1).v] :: saidO (s 0) (X.SS 0) :: saidO (s 1) (X.SS 1) :: alls (X.SS 0) brB :: alls (X.SS 1) brB ::
    blk t5 29 #[(c 0).v, (c 1).v] :: saidO (c 0) (X.CC 0) :: saidO (c 1) (X.CC 1) :: alls (X.CC 0) brB :: alls (X.CC 1) brB :: blk t6 31 #[(a 0).v, (a 1).v] :: airO (a 0) (X.AA 0) :: airO (a 1) (X.AA 1) :: alls (X.AA 0) paB :: alls (X.AA 1) paB :: Γ
section
variable {t3 t4 t5 t6 : Nat} {pp : Nat → Option Addr} {X : OSt} {s c a : Nat → SV} {Γ : List Assn}
theorem MM.turn {i : Nat} (hi : i < 2) : Ent (MM t3 t4 t5 t6 pp X s c a Γ) (MI i t3 t4 t5 t6 pp X s c a Γ) := by
  rcases (show i = 0 ∨ i = 1 by omega) with rfl | rfl
  · exact Ent.refl _
  · exact (Sub.ent : Ent (MM t3 t4 t5 t6 pp X s c a Γ) (blk t3 27 #[.pointer (pp 0), .pointer (pp 1)] :: TI 2 3 4 (pp 1) (X.st 1) :: TI 2 3 4 (pp 0) (X.st 0) :: blk t4 29 #[(s 0).v, (s 1).v] :: saidO (s 1) (X.SS 1) :: saidO (s 0) (X.SS 0) :: alls (X.SS 1) brB :: alls (X.SS 0) brB ::
      blk t5 29 #[(c 0).v, (c 1).v] :: saidO (c 1) (X.CC 1) :: saidO (c 0) (X.CC 0) :: alls (X.CC 1) brB :: alls (X.CC 0) brB :: blk t6 31 #[(a 0).v, (a 1).v] :: airO (a 1) (X.AA 1) :: airO (a 0) (X.AA 0) :: alls (X.AA 1) paB :: alls (X.AA 0) paB :: Γ))
theorem MM.back {i : Nat} (hi : i < 2) : Ent (MI i t3 t4 t5 t6 pp X s c a Γ) (MM t3 t4 t5 t6 pp X s c a Γ) := by
  rcases (show i = 0 ∨ i = 1 by omega) with rfl | rfl
  · exact Ent.refl _
  · exact (Sub.ent : Ent (blk t3 27 #[.pointer (pp 0), .pointer (pp 1)] :: TI 2 3 4 (pp 1) (X.st 1) :: TI 2 3 4 (pp 0) (X.st 0) :: blk t4 29 #[(s 0).v, (s 1).v] :: saidO (s 1) (X.SS 1) :: saidO (s 0) (X.SS 0) :: alls (X.SS 1) brB :: alls (X.SS 0) brB ::
      blk t5 29 #[(c 0).v, (c 1).v] :: saidO (c 1) (X.CC 1) :: saidO (c 0) (X.CC 0) :: alls (X.CC 1) brB :: alls (X.CC 0) brB :: blk t6 31 #[(a 0).v, (a 1).v] :: airO (a 1) (X.AA 1) :: airO (a 0) (X.AA 0) :: alls (X.AA 1) paB :: alls (X.AA 0) paB :: Γ) (MM t3 t4 t5 t6 pp X s c a Γ))
end
theorem pa_alls_bytes {l : List PkA} {i : Nat} {p : PkA} {Γ : List Assn} {w : World} (hs : Sat w (alls l paB :: Γ)) (hp : l[i]? = some p) : BytesAt w p.v.v p.k.d := obytes_at (hs.ent (Ent.allsAt paB hp Γ))
theorem br_alls_bytes {l : List BR} {i : Nat} {p : BR} {Γ Δ : List Assn} [h : Pick (alls l brB) Γ Δ] {w : World} (hs : Sat w Γ) (hp : l[i]? = some p) : BytesAt w p.v.v p.l := obytes_at ((hs.ent h.ent).ent (Ent.allsAt brB hp Δ))
theorem pa_out {os : List PkA} {i : Nat} {x : PkA} (hx : os[i]? = some x) (Γ : List Assn) : Ent (alls os paB :: Γ) (paB x :: alls (os.eraseIdx i) paB :: Γ) := by
  rw [List.eraseIdx_eq_take_drop_succ]
  exact (Ent.allsAt paB hx Γ).trans ((Ent.allsAppend paB _ _ Γ).cons _)
/-- The first i of what is owned, to be read. -/
theorem own_takeG {α : Type} {enc : α → List Value} {sz : Nat} (he : ∀ x, (enc x).length = sz) (h0 : 0 < sz) {w : World} {s : SV} {os : List α} (h : SlAt w s.v s.n sz (os.flatMap enc)) {i : Nat} (hi : i ≤ s.n) : SlAt w (.slice s.a i s.c) i sz ((os.take i).flatMap enc) := by
  obtain ⟨hl, ao, c, h1, h2, h3, h4, h5⟩ := h
  simp only [SV.v, Value.slice.injEq] at h1
  obtain ⟨rfl, _, rfl⟩ := h1
  rw [flat_length he] at hl
  have hl2 : os.length = s.n := Nat.eq_of_mul_eq_mul_right h0 hl
  refine ⟨by rw [flat_length he, List.length_take]; congr 1; omega, s.a, s.c, rfl, by omega, h3, fun e => ?_, fun a ha h0 => ?_⟩
  · have := h4 e; omega
  · obtain ⟨g1, g2, g3⟩ := h5 a ha (by omega)
    refine ⟨g1, g2, fun j u hu => g3 j u ?_⟩
    rw [← List.take_append_drop i os, List.flatMap_append, List.getElem?_append_left (List.getElem?_eq_some_iff.1 hu).1]
    exact hu
/-- What is behind the first i. -/
theorem own_dropG {α : Type} {enc : α → List Value} {sz : Nat} (he : ∀ x, (enc x).length = sz) (h0 : 0 < sz) {w : World} {s : SV} {os : List α} (h : SlAt w s.v s.n sz (os.flatMap enc)) {i : Nat} (hi : i ≤ s.n) : SlAt w (.slice (if s.c = i then s.a else s.a.map (·.add (i * sz))) (s.n - i) (s.c - i)) (s.n - i) sz ((os.drop i).flatMap enc) := by
  obtain ⟨hl, ao, c, h1, h2, h3, h4, h5⟩ := h
  simp only [SV.v, Value.slice.injEq] at h1
  obtain ⟨rfl, _, rfl⟩ := h1
  rw [flat_length he] at hl
  have hl2 : os.length = s.n := Nat.eq_of_mul_eq_mul_right h0 hl
  refine ⟨by rw [flat_length he, List.length_drop]; congr 1; omega, _, _, rfl, by omega, by omega, fun e => ?_, fun a ha h0 => ?_⟩
  · split at e
    · have := h4 e; omega
    · rw [Option.map_eq_none_iff] at e; have := h4 e; omega
  · rw [if_neg (by omega)] at ha
    obtain ⟨a0, ha0, rfl⟩ := Option.map_eq_some_iff.1 ha
    obtain ⟨g1, g2, g3⟩ := h5 a0 ha0 (by omega)
    have e0 : a0 = ⟨a0.block, a0.off, none⟩ := by rw [← g1]
    rw [e0, Addr.add_lit]
    refine ⟨rfl, g2, fun j u hu => ?_⟩
    rw [← flat_drop he, List.getElem?_drop] at hu
    rw [Nat.add_assoc]
    exact g3 _ u hu
/-- A step of a script. -/
structure Pck where
  od : Int
  b : Bool
  nn : Int
  v : SV
  l : List Int
instance : Inhabited Pck := ⟨⟨0, false, 0, SV.nil, []⟩⟩
abbrev pckC (x : Pck) : List Value := [.int .u8 x.od, .bool x.b, .int .u8 x.nn, x.v.v]
theorem rd_pcks {W : World} {cs : List Value} (h : Rd W (.slice 4 (.cat 1 (.int .u8) (.cat 1 .bool (.cat 1 (.int .u8) (.cat 1 tsBytes .nil))))) cs) :
    ∃ (s : SV) (rs : List Pck), cs = [s.v] ∧ s.n = rs.length ∧ SlAt W s.v rs.length 4 (rs.flatMap pckC) ∧ ∀ r ∈ rs, BW W r.v r.l ∧ (0 ≤ r.nn ∧ r.nn ≤ 255) := by
  obtain ⟨s, rs, h1, h2, h3, h4, _⟩ := rd_slice (α := Pck) (encA := pckC) (p := fun r => BW W r.v r.l ∧ (0 ≤ r.nn ∧ r.nn ≤ 255)) (fun cs hr _ => by
    obtain ⟨_, _, rfl, _, ⟨od, rfl, _⟩, _, _, rfl, _, ⟨b, rfl⟩, _, _, rfl, _, ⟨nn, rfl, hnn⟩, _, _, rfl, _, h7, rfl⟩ := hr
    obtain ⟨dv, ld, rfl, hb⟩ := rd_bytes h7
    exact ⟨⟨od, b, nn, dv, ld⟩, rfl, hb, u8_rng hnn⟩) h (by omega)
  exact ⟨s, rs, h1, h2, h3, h4⟩
end Go.Proofs.Ytdlddggjjibeaaa
