/- First: where an ask starts. -/
import Derived.Test.YtknpddiffellgaaPlanB
namespace Go.Proofs.Ytknpddiffellgaa
open Go.RowKit
set_option maxRecDepth 20000
set_option linter.unusedVariables false
/-- A row of a profile: its slice, its cells. -/
structure RW where
  v : SV
  d : List Int
instance : Inhabited RW := ⟨⟨SV.nil, []⟩⟩
abbrev rwC (r : RW) : List Value := [r.v.v]
theorem rwC_len : ∀ r, (rwC r).length = 1 := fun _ => rfl
abbrev rwB (r : RW) : Assn := own r.v 3 1 (ints r.d)
abbrev dat (rs : List RW) : List (List Int) := rs.map RW.d
/-- R gives a profile. -/
structure RdP (R : Assn) (s : SV) (rs : List RW) : Prop where
  top : RdS R s rs.length 1 (rs.flatMap rwC)
  row : ∀ {i : Nat} {r : RW}, rs[i]? = some r → RdS R r.v r.d.length 1 (ints r.d)
/-- A profile that is one's own. -/
def prof (s : SV) (rs : List RW) : Assn := stars [own s 25 1 (rs.flatMap rwC), alls rs rwB]
theorem Ent.prof (s : SV) (rs : List RW) (Γ : List Assn) : Ent (own s 25 1 (rs.flatMap rwC) :: alls rs rwB :: Γ) (prof s rs :: Γ) := Ent.pack [_, _] Γ
theorem Ent.unprof (s : SV) (rs : List RW) (Γ : List Assn) : Ent (Go.Proofs.Ytknpddiffellgaa.prof s rs :: Γ) (own s 25 1 (rs.flatMap rwC) :: alls rs rwB :: Γ) := Ent.unpack [_, _] Γ
theorem RdP.prof (s : SV) (rs : List RW) : RdP (prof s rs) s rs := by
  refine ⟨fun Γ w hs => ?_, fun {i r} hr Γ w hs => ?_⟩
  · have h1 := hs.ent (Ent.unprof s rs Γ)
    have h2 := (HasOw.head).slAt h1
    obtain ⟨x, _, p⟩ := h1.head
    have h3 := p.1
    rw [flat_length rwC_len, Nat.mul_one, Nat.mul_one] at h3
    rwa [← h3] at h2
  · have h1 := (hs.ent (Ent.unprof s rs Γ)).ent ((Ent.drop _ _).trans (Ent.allsAt rwB hr Γ))
    have h2 := (HasOw.head).slAt h1
    obtain ⟨x, _, p⟩ := h1.head
    have h3 := p.1
    rw [List.length_map, Nat.mul_one] at h3
    rwa [← h3] at h2
abbrev stC (u : SV) (x : St) : List Value := [.int .i64 x.at_, .int .i64 x.row, u.v, .bool x.ok]
/-- The best of the first n rows; its nodes not in order yet. -/
def accR (D : List (List Int)) (k n : Nat) : St := match bestUp k D n with
  | none => ⟨0, 0, [], false⟩
  | some (v, i) => ⟨v, i, ((srt (D[i]?.getD [])).take k).map (·.1), true⟩
theorem accR_succ {D : List (List Int)} {k n : Nat} {row : List Int} (hr : D[n]? = some row) (hk : 1 ≤ k) {ck : Ce} (hck : k ≤ row.length → (srt row)[k - 1]? = some ck) :
    accR D k (n + 1) = if (decide (k ≤ row.length) && (!(accR D k n).ok || decide (ck.2 < (accR D k n).at_))) = true then ⟨ck.2, n, ((srt row).take k).map (·.1), true⟩ else accR D k n := by
  unfold accR
  simp only [bestUp, hr, Option.bind_some, kth]
  by_cases h : k ≤ row.length
  · rw [if_pos h, hck h]
    simp only [Option.map_some, comb, decide_eq_true h, Bool.true_and]
    cases bestUp k D n with
    | none => simp [hr]
    | some x =>
      obtain ⟨u, j⟩ := x
      simp only [Bool.not_true, Bool.false_or, decide_eq_true_eq]
      by_cases h2 : ck.2 < u
      · rw [if_pos h2, if_pos h2]
        simp [hr]
      · rw [if_neg h2, if_neg h2]
  · rw [if_neg h]
    simp [comb, h]
theorem firstR_acc {D : List (List Int)} {k : Nat} (hk : 1 ≤ k) : firstR D k = ⟨(accR D k D.length).at_, (accR D k D.length).row, srtI (accR D k D.length).nodes, (accR D k D.length).ok⟩ := by
  unfold firstR accR
  rw [if_neg (by omega), Int.toNat_natCast]
  cases bestUp k D D.length with
  | none => rfl
  | some x => rfl
end Go.Proofs.Ytknpddiffellgaa
