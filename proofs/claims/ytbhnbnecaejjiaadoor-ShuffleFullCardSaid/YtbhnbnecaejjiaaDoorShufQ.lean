/- Rows put together, jobs put ahead: what the program reckons, and what comes of it. Of no program. -/
import Derived.Test.YtbhnbnecaejjiaaDoorShufP
namespace Go.Proofs.YtbhnbnecaejjiaaDoor
open Go.RowKit
set_option maxRecDepth 20000
abbrev Mv := Nat × Int × Int
/-- Jobs move to row z, one by one, as long as each can. -/
def runUp (m : Mx) (z : Int) (ids : List Nat) : Nat → Option (List Mv × Mx)
  | 0 => some ([], m)
  | q + 1 => match runUp m z ids q with
    | none => none
    | some a => match moveR a.2 (ids.getD q 0) z with
      | (some x, m') => some (a.1 ++ [x], m')
      | (none, _) => none
def allR (m : Mx) (f : Nat) (z : Int) : List Mv × Mx := match runUp m z (rowIds m f) (rowIds m f).length with
  | some a => a
  | none => ([], m)
def allStep (a : Mx × List Mv) (i j : Nat) : Mx × List Mv := ((allR a.1 j i).2, a.2 ++ (allR a.1 j i).1)
def uniIn (i : Nat) (a : Mx × List Mv) : Nat → Mx × List Mv
  | 0 => a
  | q + 1 => allStep (uniIn i a q) i (i + 1 + q)
def uniUp (m : Mx) : Nat → Mx × List Mv
  | 0 => (m, [])
  | i + 1 => uniIn i (uniUp m i) (m.R - (i + 1))
def unifyR (m : Mx) : Mx × List Mv := uniUp m m.R
def repTry (m : Mx) (j : Nat) : Nat → Option (Mv × Mx)
  | 0 => none
  | i + 1 => match repTry m j i with
    | some r => some r
    | none => match moveR m j i with
      | (some x, m') => some (x, m')
      | (none, _) => none
def repRow (j : Nat) (ids : List Nat) (a : Mx × List Mv) : Nat → Mx × List Mv
  | 0 => a
  | q + 1 => match repTry (repRow j ids a q).1 (ids.getD q 0) j with
    | some r => (r.2, (repRow j ids a q).2 ++ [r.1])
    | none => repRow j ids a q
def repUp (m : Mx) : Nat → Mx × List Mv
  | 0 => (m, [])
  | k + 1 => repRow (k + 1) (rowIds (repUp m k).1 ((k + 1 : Nat) : Int)) (repUp m k) (rowIds (repUp m k).1 ((k + 1 : Nat) : Int)).length
def repackR (m : Mx) : Mx × List Mv := repUp m (m.R - 1)
/-! What a move does. -/
theorem moveR_N (m : Mx) (j : Nat) (z : Int) : (moveR m j z).2.R = m.R ∧ (moveR m j z).2.N = m.N ∧ (moveR m j z).2.up = m.up := by
  unfold moveR
  cases look m.js j with
  | none => exact ⟨rfl, rfl, rfl⟩
  | some x => simp only; split <;> exact ⟨rfl, rfl, rfl⟩
theorem moveR_some {m : Mx} {j : Nat} {z : Int} {x : Mv} {m' : Mx} (h : moveR m j z = (some x, m')) : ∃ y, look m.js j = some y ∧ canMove m y z = true ∧ x = (j, (y.row : Int), z) ∧ m' = { m with js := reRow m.js j z.toNat } := by
  unfold moveR at h
  cases hl : look m.js j with
  | none => rw [hl] at h; simp at h
  | some y =>
    rw [hl] at h
    simp only at h
    by_cases hc : canMove m y z = true
    · rw [if_pos hc] at h
      simp only [Prod.mk.injEq, Option.some.injEq] at h
      exact ⟨y, rfl, hc, h.1.symm, h.2.symm⟩
    · rw [if_neg hc] at h; simp at h
theorem moveR_none {m : Mx} {j : Nat} {z : Int} {m' : Mx} (h : moveR m j z = (none, m')) : m' = m ∧ ∀ y, look m.js j = some y → canMove m y z = false := by
  unfold moveR at h
  cases hl : look m.js j with
  | none => rw [hl] at h; simp only [Prod.mk.injEq, true_and] at h; exact ⟨h.symm, fun y hy => by cases hy⟩
  | some y =>
    rw [hl] at h
    simp only at h
    by_cases hc : canMove m y z = true
    · rw [if_pos hc] at h; simp at h
    · rw [if_neg hc] at h
      simp only [Prod.mk.injEq, true_and] at h
      exact ⟨h.symm, fun y' hy' => by cases hy'; simpa using hc⟩
/-- Some jobs stand in row t now. -/
def toRow (js : List Jb) (ids : List Nat) (t : Nat) : List Jb := js.map fun x => if x.id ∈ ids then ⟨x.id, t, x.ns⟩ else x
theorem toRow_nil (js : List Jb) (t : Nat) : toRow js [] t = js := by simp [toRow]
theorem toRow_snoc (js : List Jb) (ids : List Nat) (j t : Nat) : reRow (toRow js ids t) j t = toRow js (ids ++ [j]) t := by
  rw [reRow, toRow, toRow, List.map_map]
  refine List.map_congr_left fun x _ => ?_
  simp only [Function.comp, List.mem_append, List.mem_singleton]
  by_cases h1 : x.id ∈ ids
  · rw [if_pos h1, if_pos (show x.id ∈ ids ∨ x.id = j from .inl h1)]
    split <;> rfl
  · rw [if_neg h1]
    by_cases h2 : x.id = j
    · rw [if_pos h2, if_pos (.inr h2)]
    · rw [if_neg h2, if_neg (by simp [h1, h2])]
theorem toRow_ids (js : List Jb) (ids : List Nat) (t : Nat) : (toRow js ids t).map (·.id) = js.map (·.id) := by
  rw [toRow, List.map_map]
  refine List.map_congr_left fun x _ => ?_
  simp only [Function.comp]
  split <;> rfl
theorem mem_toRow {js : List Jb} {ids : List Nat} {t : Nat} {y : Jb} : y ∈ toRow js ids t ↔ (∃ x ∈ js, x.id ∈ ids ∧ y = ⟨x.id, t, x.ns⟩) ∨ (y ∈ js ∧ y.id ∉ ids) := by
  rw [toRow, List.mem_map]
  constructor
  · rintro ⟨x, hx, rfl⟩
    by_cases h : x.id ∈ ids
    · rw [if_pos h]; exact .inl ⟨x, hx, h, rfl⟩
    · rw [if_neg h]; exact .inr ⟨hx, h⟩
  · rintro (⟨x, hx, h, rfl⟩ | ⟨h1, h2⟩)
    · exact ⟨x, hx, if_pos h⟩
    · exact ⟨y, h1, if_neg h2⟩
theorem rowIds_eq {m : Mx} {f : Nat} (hf : f < m.R) : rowIds m f = (rowJ m f).map (·.id) := by rw [rowIds, if_pos (rowB_iff.2 ⟨by omega, by omega⟩), Int.toNat_natCast]
theorem rowIds_nodup {m : Mx} (hm : MxOk m) {f : Nat} (hf : f < m.R) : (rowIds m f).Nodup := by
  rw [rowIds_eq hf]
  exact List.pairwise_map.2 (rowJ_srt.imp_of_mem fun {a b} ha hb h e => by rw [id_inj hm.srt ((mem_rowJ hm).1 ha).1 ((mem_rowJ hm).1 hb).1 e] at h; omega)
theorem mem_rowIds {m : Mx} (hm : MxOk m) {f : Nat} (hf : f < m.R) {j : Nat} : j ∈ rowIds m f ↔ ∃ x ∈ m.js, x.row = f ∧ x.id = j := by
  rw [rowIds_eq hf, List.mem_map]
  constructor
  · rintro ⟨x, hx, rfl⟩
    exact ⟨x, ((mem_rowJ hm).1 hx).1, ((mem_rowJ hm).1 hx).2, rfl⟩
  · rintro ⟨x, h1, h2, rfl⟩
    exact ⟨x, (mem_rowJ hm).2 ⟨h1, h2⟩, rfl⟩
theorem runUp_some {m : Mx} (hm : MxOk m) {t : Nat} {ids : List Nat} : ∀ {q : Nat} {a : List Mv × Mx}, q ≤ ids.length → runUp m t ids q = some a → MxOk a.2 ∧ a.2 = { m with js := toRow m.js (ids.take q) t } ∧ a.1.length = q
  | 0, a, _, h => by
    simp only [runUp, Option.some.injEq] at h
    subst h
    exact ⟨hm, by rw [List.take_zero, toRow_nil], rfl⟩
  | q + 1, a, hq, h => by
    rw [runUp] at h
    cases hr : runUp m t ids q with
    | none => rw [hr] at h; cases h
    | some b =>
      obtain ⟨h1, h2, h3⟩ := runUp_some hm (by omega) hr
      rw [hr] at h
      simp only at h
      cases hv : moveR b.2 (ids.getD q 0) t with
      | mk x m' =>
        rw [hv] at h
        cases x with
        | none => cases h
        | some x =>
          simp only [Option.some.injEq] at h
          subst h
          obtain ⟨y, _, _, _, e⟩ := moveR_some hv
          have hok := moveR_ok h1 (ids.getD q 0) t
          rw [hv] at hok
          have hx := List.getElem?_eq_getElem (show q < ids.length by omega)
          refine ⟨hok, ?_, by simp [h3]⟩
          rw [e, h2]
          simp only [Int.toNat_natCast, toRow_snoc, List.getD, hx, Option.getD_some]
          rw [List.take_add_one, hx]
          rfl
/-- Two rows that have no node in common can be put together. -/
theorem runUp_can {m : Mx} (hm : MxOk m) {f t : Nat} (hf : f < m.R) (ht : t < m.R) (hft : f ≠ t) (hd : tk m.js f &&& tk m.js t = 0#16) : ∀ q, q ≤ (rowIds m f).length → ∃ a, runUp m t (rowIds m f) q = some a
  | 0, _ => ⟨_, rfl⟩
  | q + 1, hq => by
    obtain ⟨a, ha⟩ := runUp_can hm hf ht hft hd q (by omega)
    obtain ⟨h1, h2, _⟩ := runUp_some hm (by omega) ha
    rw [runUp, ha]
    simp only
    have hq' : q < (rowIds m f).length := by omega
    have hgd : (rowIds m f).getD q 0 = (rowIds m f)[q] := by simp [List.getD, List.getElem?_eq_getElem hq']
    obtain ⟨x, hx1, hx2, hx3⟩ := (mem_rowIds hm hf).1 (List.getElem_mem hq')
    have hnt : x.id ∉ (rowIds m f).take q := fun h => by
      rw [hx3] at h
      obtain ⟨i, hi, e⟩ := List.mem_take_iff_getElem.1 h
      have := List.pairwise_iff_getElem.1 (rowIds_nodup hm hf) i q (by omega) hq' (by omega)
      exact this e
    have hxa : x ∈ a.2.js := by rw [h2]; exact mem_toRow.2 (.inr ⟨hx1, hnt⟩)
    have hlk : look a.2.js ((rowIds m f).getD q 0) = some x := by rw [hgd, ← hx3]; exact look_mem h1.srt hxa
    have hc : canMove a.2 x t = true := by
      rw [canMove, Bool.and_eq_true, decide_eq_true_eq]
      refine ⟨rowB_iff.2 ⟨by omega, by rw [h2]; show (t : Int) < m.R; omega⟩, ?_⟩
      rw [Int.toNat_natCast]
      refine BitVec.eq_of_getLsbD_eq fun i _ => ?_
      rw [BitVec.getLsbD_and]
      cases hb : x.ns.getLsbD i with
      | false => simp
      | true =>
        cases hb2 : (tk (delJ x.id a.2.js) t).getLsbD i with
        | false => simp
        | true =>
          exfalso
          obtain ⟨y, hy1, hy2, hy3⟩ := (tk_bit _ _ _).1 hb2
          obtain ⟨hy4, hy5⟩ := mem_delJ.1 hy1
          rw [h2] at hy4
          rcases mem_toRow.1 hy4 with ⟨y0, z1, z2, rfl⟩ | ⟨z1, z2⟩
          · obtain ⟨x2, w1, w2, w3⟩ := (mem_rowIds hm hf).1 (List.mem_of_mem_take z2)
            have := id_inj hm.srt w1 z1 w3
            subst this
            exact hm.dis x2 w1 x hx1 hy5 (w2.trans hx2.symm) i hy3 hb
          · have e1 := (tk_bit m.js f i).2 ⟨x, hx1, hx2, hb⟩
            have e2 := (tk_bit m.js t i).2 ⟨y, z1, hy2, hy3⟩
            have e3 := congrArg (fun s => s.getLsbD i) hd
            simp only [BitVec.getLsbD_and, e1, e2] at e3
            simp at e3
    have hv : moveR a.2 ((rowIds m f).getD q 0) t = (some ((rowIds m f).getD q 0, (x.row : Int), (t : Int)), { a.2 with js := reRow a.2.js ((rowIds m f).getD q 0) (t : Int).toNat }) := by
      rw [moveR, hlk]
      exact if_pos hc
    rw [hv]
    exact ⟨_, rfl⟩
theorem runUp_cannot {m : Mx} (hm : MxOk m) {f t : Nat} (hf : f < m.R) (hft : f ≠ t) {a : List Mv × Mx} (h : runUp m t (rowIds m f) (rowIds m f).length = some a) : tk m.js f &&& tk m.js t = 0#16 := by
  obtain ⟨h1, h2, _⟩ := runUp_some hm (Nat.le_refl _) h
  rw [List.take_length] at h2
  refine BitVec.eq_of_getLsbD_eq fun i _ => ?_
  rw [BitVec.getLsbD_and]
  cases hb : (tk m.js f).getLsbD i with
  | false => simp
  | true =>
    cases hb2 : (tk m.js t).getLsbD i with
    | false => simp
    | true =>
      exfalso
      obtain ⟨x, x1, x2, x3⟩ := (tk_bit _ _ _).1 hb
      obtain ⟨y, y1, y2, y3⟩ := (tk_bit _ _ _).1 hb2
      have hxi : x.id ∈ rowIds m f := (mem_rowIds hm hf).2 ⟨x, x1, x2, rfl⟩
      have hyi : y.id ∉ rowIds m f := fun hh => by
        obtain ⟨y', w1, w2, w3⟩ := (mem_rowIds hm hf).1 hh
        have := id_inj hm.srt w1 y1 w3
        subst this
        exact hft (w2.symm.trans y2)
      have hX : (⟨x.id, t, x.ns⟩ : Jb) ∈ a.2.js := by rw [h2]; exact mem_toRow.2 (.inl ⟨x, x1, hxi, rfl⟩)
      have hY : y ∈ a.2.js := by rw [h2]; exact mem_toRow.2 (.inr ⟨y1, hyi⟩)
      exact h1.dis _ hX y hY (fun e => hyi (e ▸ hxi)) y2.symm i x3 y3
end Go.Proofs.YtbhnbnecaejjiaaDoor
