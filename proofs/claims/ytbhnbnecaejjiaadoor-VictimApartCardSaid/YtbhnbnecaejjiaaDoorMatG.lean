/- The matrix: Fill; lists held against lists. -/
import Derived.Test.YtbhnbnecaejjiaaDoorMatF
namespace Go.Proofs.YtbhnbnecaejjiaaDoor
open Go.RowKit
set_option maxRecDepth 20000
def fillStep (a : Bs × List Jb) (x : Jb) : Bs × List Jb := if x.ns &&& a.1 = 0#16 then (a.1 ||| x.ns, a.2 ++ [x]) else a
def fillUp (m : Mx) (r : Nat) : Nat → Bs × List Jb
  | 0 => (tk m.js r, [])
  | o + 1 => if o = r then fillUp m r o else (rowJ m o).foldl fillStep (fillUp m r o)
def fillIds (m : Mx) (z : Int) : List Nat := if rowB m z then (fillUp m z.toNat m.R).2.map (·.id) else []
theorem rowJ_len (m : Mx) (r : Nat) : (rowJ m r).length ≤ 16 := by
  have := List.length_filterMap_le (fun i => m.js.find? fun x => decide (x.row = r) && decide (tz x.ns = i)) (List.range 16)
  rw [List.length_range] at this
  exact this
theorem fold_len (l : List Jb) : ∀ a : Bs × List Jb, (l.foldl fillStep a).2.length ≤ a.2.length + l.length := by
  induction l with
  | nil => intro a; exact Nat.le_refl _
  | cons x l ih =>
    intro a
    have h1 := ih (fillStep a x)
    have h2 : (fillStep a x).2.length ≤ a.2.length + 1 := by
      unfold fillStep
      split
      · simp
      · omega
    rw [List.foldl_cons, List.length_cons]
    omega
theorem fillUp_len (m : Mx) (r : Nat) : ∀ o, (fillUp m r o).2.length ≤ 16 * o
  | 0 => Nat.le_refl _
  | o + 1 => by
    have h := fillUp_len m r o
    unfold fillUp
    split
    · omega
    · have h1 := fold_len (rowJ m o) (fillUp m r o)
      have h2 := rowJ_len m o
      omega
theorem idsV_at {js : List Jb} {q : Nat} {x : Jb} (h : js[q]? = some x) : (idsV (js.map (·.id)))[q]? = some (.int .u32 (x.id : Int)) := by
  show ((js.map (·.id)).map _)[q]? = _
  rw [List.getElem?_map, List.getElem?_map, h]
  rfl
/-! Lists held against lists. -/
theorem rdBlk {b : Nat} {e : TypeId} {cs : List Value} {m sz : Nat} (hl : cs.length = m * sz) (hm : m ≤ maxLen) : RdS (blk b e cs.toArray) ⟨some ⟨b, 0, none⟩, m, m⟩ m sz cs := fun Γ w hs => blk_slAt (b := b) (Γ := blk b e cs.toArray :: Γ) hl hm w hs
def sameUp (k l : List Int) : Nat → Bool
  | 0 => true
  | i + 1 => sameUp k l i && decide (k.getD i 0 = l.getD i 0)
theorem sameUp_eq {k l : List Int} (h : k.length = l.length) : sameUp k l k.length = decide (k = l) := by
  have : ∀ i, i ≤ k.length → (sameUp k l i = true ↔ k.take i = l.take i) := by
    intro i
    induction i with
    | zero => simp [sameUp]
    | succ i ih =>
      intro hi
      have h1 := List.getElem?_eq_getElem (show i < k.length by omega)
      have h2 := List.getElem?_eq_getElem (show i < l.length by omega)
      rw [sameUp, Bool.and_eq_true, ih (by omega), decide_eq_true_eq, List.take_add_one, List.take_add_one, List.getD, List.getD, h1, h2]
      simp only [Option.getD_some, Option.toList_some]
      constructor
      · rintro ⟨e1, e2⟩
        rw [e1, e2]
      · intro e
        have := List.append_inj e (by simp; omega)
        exact ⟨this.1, by simpa using this.2⟩
  rw [Bool.eq_iff_iff, this _ (Nat.le_refl _), decide_eq_true_eq, List.take_length, h, List.take_length]
end Go.Proofs.YtbhnbnecaejjiaaDoor
