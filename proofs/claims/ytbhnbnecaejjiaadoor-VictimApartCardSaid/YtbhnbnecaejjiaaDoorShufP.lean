/- Jobs that move from row to row, as plain data. Of no program. -/
import Derived.Test.YtbhnbnecaejjiaaDoorMatG
namespace Go.Proofs.YtbhnbnecaejjiaaDoor
open Go.RowKit
set_option maxRecDepth 20000
/-- A job stands in another row. -/
def reRow (js : List Jb) (j to_ : Nat) : List Jb := js.map fun x => if x.id = j then ⟨x.id, to_, x.ns⟩ else x
theorem reRow_ids (js : List Jb) (j t : Nat) : (reRow js j t).map (·.id) = js.map (·.id) := by
  rw [reRow, List.map_map]
  refine List.map_congr_left fun x _ => ?_
  simp only [Function.comp]
  split <;> rfl
theorem ids_srt {js js' : List Jb} (h : js'.map (·.id) = js.map (·.id)) (hs : js.Pairwise (fun a b => a.id < b.id)) : js'.Pairwise (fun a b => a.id < b.id) := by
  have h1 : (js.map (·.id)).Pairwise (· < ·) := List.pairwise_map.2 hs
  rw [← h] at h1
  exact List.pairwise_map.1 h1
theorem mem_reRow {js : List Jb} (hs : js.Pairwise (fun a b => a.id < b.id)) {x : Jb} (hx : x ∈ js) (t : Nat) (y : Jb) : y ∈ reRow js x.id t ↔ y = ⟨x.id, t, x.ns⟩ ∨ (y ∈ js ∧ y.id ≠ x.id) := by
  rw [reRow, List.mem_map]
  constructor
  · rintro ⟨z, hz, rfl⟩
    by_cases e : z.id = x.id
    · rw [if_pos e, id_inj hs hz hx e]
      exact .inl rfl
    · rw [if_neg e]
      exact .inr ⟨hz, e⟩
  · rintro (rfl | ⟨h1, h2⟩)
    · exact ⟨x, hx, if_pos rfl⟩
    · exact ⟨y, h1, if_neg h2⟩
theorem add_del {m : Mx} (hm : MxOk m) {x : Jb} (hx : x ∈ m.js) (t : Nat) : (m.del x.id).add ⟨x.id, t, x.ns⟩ = { m with js := reRow m.js x.id t } := by
  have : addJ ⟨x.id, t, x.ns⟩ (delJ x.id m.js) = reRow m.js x.id t := by
    refine srt_ext (addJ_srt (delJ_srt hm.srt) fun y hy => (mem_delJ.1 hy).2) (ids_srt (reRow_ids _ _ _) hm.srt) fun y => ?_
    rw [mem_addJ, mem_delJ, mem_reRow hm.srt hx]
  simp only [Mx.add, Mx.del, this]
theorem reRow_self {js : List Jb} (hs : js.Pairwise (fun a b => a.id < b.id)) {x : Jb} (hx : x ∈ js) : reRow js x.id x.row = js := by
  refine (List.map_congr_left fun y hy => ?_).trans (List.map_id _)
  by_cases e : y.id = x.id
  · rw [if_pos e, id_inj hs hy hx e]; rfl
  · rw [if_neg e]; rfl
/-- Put at nodes that were a job's. -/
theorem okUp_lst (m : Mx) (s : Bs) (hs : ∀ i, s.getLsbD i = true → i < m.N) : ∀ k, k ≤ (lst s).length → okUp m ((lst s).map fun i : Nat => (i : Int)) k = true
  | 0, _ => rfl
  | k + 1, hk => by
    have hr := List.pairwise_iff_getElem.1 (lst_rise s)
    have hk' : k < (lst s).length := by omega
    have e1 : ((lst s).map fun i : Nat => (i : Int)).getD k 0 = ((lst s)[k] : Int) := by simp [List.getD, List.getElem?_eq_getElem hk']
    rw [okUp, okUp_lst m s hs k (by omega), e1, nodeB_iff.2 ⟨by omega, by have := hs _ (mem_lst.1 (List.getElem_mem hk')); omega⟩, Bool.true_and, Bool.true_and, Bool.or_eq_true, decide_eq_true_eq, decide_eq_true_eq]
    by_cases e : k = 0
    · exact .inl e
    · refine .inr ?_
      have hk2 : k - 1 < (lst s).length := by omega
      have e2 : ((lst s).map fun i : Nat => (i : Int)).getD (k - 1) 0 = ((lst s)[k - 1] : Int) := by simp [List.getD, List.getElem?_eq_getElem hk2]
      rw [e2]
      have := hr (k - 1) k hk2 hk' (by omega)
      omega
theorem nats_lst (s : Bs) : nats ((lst s).map fun i : Nat => (i : Int)) = lst s := by
  rw [nats, List.map_map]
  exact (List.map_congr_left fun i _ => by simp [Function.comp]).trans (List.map_id _)
theorem putR_back {m : Mx} (hm : MxOk m) {x : Jb} (hx : x ∈ m.js) (z : Int) : putR (m.del x.id) x.id z ((lst x.ns).map fun i : Nat => (i : Int)) =
    if rowB m z = false then (1, m.del x.id) else if tk (delJ x.id m.js) z.toNat &&& x.ns ≠ 0#16 then (15, m.del x.id) else (0, { m with js := reRow m.js x.id z.toNat }) := by
  have h1 := hm.id1 x hx
  have hl : 0 < (lst x.ns).length := by
    cases e : lst x.ns with
    | nil => exact absurd (lst_nil.1 e) (hm.some x hx)
    | cons a l => simp
  have hok : okUp (m.del x.id) ((lst x.ns).map fun i : Nat => (i : Int)) ((lst x.ns).map fun i : Nat => (i : Int)).length = true := by
    rw [List.length_map]
    exact okUp_lst (m.del x.id) x.ns (fun i hi => hm.ns x hx i hi) _ (Nat.le_refl _)
  have hp : putOk (m.del x.id) x.id z ((lst x.ns).map fun i : Nat => (i : Int)) = rowB m z := by
    rw [putOk, List.length_map, decide_eq_true (show ((x.id : Nat) : Int) ≠ 0 by omega), decide_eq_true (show (((lst x.ns).length : Nat) : Int) > 0 by omega), Bool.true_and, Bool.and_true]
    rfl
  have hlk : look (m.del x.id).js x.id = none := by
    cases e : look (m.del x.id).js x.id with
    | none => rfl
    | some y => obtain ⟨q1, q2⟩ := look_some e; exact absurd q2 (mem_delJ.1 q1).2
  rw [putR, hp, hok, Bool.and_true, hlk, nats_lst, ofL_lst]
  by_cases e : rowB m z = false
  · rw [if_pos e, if_pos e]
  · rw [if_neg e, if_neg e, ← add_del hm hx]
    rfl
/-- A job moves, if it can. -/
def canMove (m : Mx) (x : Jb) (z : Int) : Bool := rowB m z && decide (tk (delJ x.id m.js) z.toNat &&& x.ns = 0#16)
def moveR (m : Mx) (j : Nat) (z : Int) : Option (Nat × Int × Int) × Mx := match look m.js j with
  | none => (none, m)
  | some x => if canMove m x z then (some (j, (x.row : Int), z), { m with js := reRow m.js j z.toNat }) else (none, m)
theorem MxOk.ofReRow {m : Mx} (hm : MxOk m) {x : Jb} (hx : x ∈ m.js) {t : Nat} (ht : t < m.R) (hd : tk (delJ x.id m.js) t &&& x.ns = 0#16) : MxOk { m with js := reRow m.js x.id t } := by
  rw [← add_del hm hx]
  exact (hm.del x.id).add (fun y hy => (mem_delJ.1 hy).2) (hm.id1 x hx) (hm.id2 x hx) ht (hm.some x hx) (hm.ns x hx) hd
theorem moveR_ok {m : Mx} (hm : MxOk m) (j : Nat) (z : Int) : MxOk (moveR m j z).2 := by
  unfold moveR
  cases h : look m.js j with
  | none => exact hm
  | some x =>
    obtain ⟨h1, h2⟩ := look_some h
    simp only
    by_cases hc : canMove m x z = true
    · rw [if_pos hc]
      rw [canMove, Bool.and_eq_true, decide_eq_true_eq] at hc
      have hr := rowB_iff.1 hc.1
      rw [← h2]
      exact hm.ofReRow h1 (by omega) hc.2
    · rw [if_neg hc]; exact hm
end Go.Proofs.YtbhnbnecaejjiaaDoor
