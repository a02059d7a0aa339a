/- slices.Sort at numbers, as a contract of the states. Of no program: the laying is handed in. -/
import Derived.Test.YtknpddiffellgaaSort
import Derived.Test.YtknpddiffellgaaRd
import Derived.Shelf.Sort.Plain
import Derived.Shelf.Slices.In.SortNone
namespace Go.Proofs.Ytknpddiffellgaa
open Go.RowKit
open Go.Sort (putCells putRow mapBlock grow onCells Holds)
theorem putCells_map (off : Nat) (d : List Int) (cur : Array Value) : putCells (Value.int .i64) off d.toArray cur = putCells id off (ints d).toArray cur := by
  unfold putCells
  refine congrArg (fun f => Array.mapIdx f cur) ?_
  funext k x
  have hs : (ints d).toArray.size = d.toArray.size := by simp
  rw [hs]
  split
  · rename_i h
    have hk : k - off < d.length := by have := h.2; simp at this; omega
    rw [getElem!_pos d.toArray (k - off) (by simpa using hk), getElem!_pos (ints d).toArray (k - off) (by simpa using hk)]
    simp
  · rfl
theorem putWorld_heap {w : World} {b off n : Nat} {F : Array Value} {os : Array Obj} {cur : Array Value} {e : TypeId} (hb : Blk w b e cur) : Blk (grow (mapBlock (Sort.ahead w n) b (putCells id off F)) os) b e (putCells id off F cur) ∧
    Keeps (fun i => i = b) w (grow (mapBlock (Sort.ahead w n) b (putCells id off F)) os) := by
  have hlt := hb.lt
  have hsz : (mapBlock (Sort.ahead w n) b (putCells id off F)).heap.size = w.heap.size := by simp [mapBlock]
  have hold : ∀ i, i < w.heap.size → (grow (mapBlock (Sort.ahead w n) b (putCells id off F)) os).heap[i]? = (w.heap.modify b (onCells (putCells id off F)))[i]? := fun i hi => by
    show ((mapBlock (Sort.ahead w n) b (putCells id off F)).heap ++ os)[i]? = _
    rw [Array.getElem?_append_left (by rw [hsz]; exact hi)]
    rfl
  refine ⟨?_, rfl, rfl, rfl, ?_, fun i hi hne => ?_, ?_⟩
  · unfold Blk
    rw [hold b hlt, Array.getElem?_modify, if_pos rfl, show w.heap[b]? = some (.cells cur e (0, 0)) from hb]
    rfl
  · show w.heap.size ≤ ((mapBlock (Sort.ahead w n) b (putCells id off F)).heap ++ os).size
    rw [Array.size_append, hsz]
    omega
  · rw [hold i hi, Array.getElem?_modify, if_neg (fun e => hne e.symm)]
  · show w.drawn ≤ w.drawn + n
    omega
/-- slices.Sort at numbers. -/
theorem SortInts_S {P : Program} {ρ : Go.Shelf.Ren} (L : Lays.n189 P ρ) (e : TypeId) (s : SV) (l : List Int) (hl : l.length < 4611686018427387904) :
    Spec P (ρ.f 189) [s.v] [own s e 1 (ints l)] fun Γ _ Θ => Θ = own s e 1 (ints (l.mergeSort fun x y => decide (x ≤ y))) :: Γ := by
  intro Γ w hs
  obtain ⟨x0, le0, p0⟩ := hs.head
  have hO0 := (p0.mono le0).toOwn
  have hlen := hO0.1
  rw [List.length_map, Nat.mul_one] at hlen
  by_cases hz : s.n = 0
  · refine (show Calls P (ρ.f 189) #[.slice s.a s.n s.c] w _ from ?_)
    rw [hz]
    refine (Any.slices_Sort_int_none L s.a s.c w).mono ?_
    rintro e' w' ⟨rfl, rfl⟩
    obtain rfl : l = [] := List.eq_nil_of_length_eq_zero (by omega)
    exact ⟨_, _, rfl, by simp, hs, Ext.refl _⟩
  · rcases hO0.2 with ⟨_, h3, _⟩ | ⟨b, off, c, cur, q1, q2, hB, q4, q5, q6, q7⟩
    · omega
    · simp only [SV.v, Value.slice.injEq, true_and] at q1
      obtain ⟨q1, rfl⟩ := q1
      rw [Nat.mul_one] at q6 q7
      have hH : Holds (Value.int .i64) w b off l.toArray := by
        intro j hj
        have hj' : j < l.length := by simpa using hj
        refine ⟨?_, hB.frozen _⟩
        rw [hB.cell]
        have e1 : (ints l)[j]? = cur[off + j]? := by
          rw [← q7, List.getElem?_take_of_lt (by omega), List.getElem?_drop, Array.getElem?_toList]
        rw [← e1, getElem!_pos l.toArray j hj, List.getElem?_map, List.getElem?_eq_getElem hj']
        rfl
      refine (show Calls P (ρ.f 189) #[.slice s.a s.n s.c] w _ from ?_)
      have hc := Any.slices_Sort_int L b off s.c l w hH hB.lt hl
      rw [q1, ← hlen]
      refine hc.mono ?_
      rintro e' w' ⟨rfl, nn, os, rfl⟩
      have hml : (l.mergeSort fun x y => decide (x ≤ y)).length = l.length := (List.mergeSort_perm l _).length_eq
      generalize hm : (l.mergeSort fun x y => decide (x ≤ y)) = m at hml
      have ep : ∀ w : World, putRow (Value.int .i64) w b off m.toArray = mapBlock w b (putCells id off (ints m).toArray) := fun w => by
        unfold putRow
        congr 1
        funext cur
        exact putCells_map off m cur
      rw [ep]
      obtain ⟨k1, k2⟩ := putWorld_heap (off := off) (n := nn) (F := (ints m).toArray) (os := os) hB
      have hF : (ints m).toArray.size = s.n := by simp [hml, hlen]
      refine ⟨_, _, rfl, rfl, ?_, k2.os, k2.tape, k2.output, k2.size, k2.drawn⟩
      refine hs.ownUpd (b := b) ⟨?_, .inr ⟨b, off, s.c, _, by simp only [SV.v, q1], rfl, k1, q4, q5, ?_, ?_⟩⟩ (by rw [q1]; rfl) k2
      · simp [hml, hlen]
      · simp only [putCells, Array.size_mapIdx]
        omega
      · have := putCells_list (off := off) (F := (ints m).toArray) (cur := cur) (by rw [hF]; omega)
        rw [hF] at this
        rw [Nat.mul_one]
        exact this
end Go.Proofs.Ytknpddiffellgaa
