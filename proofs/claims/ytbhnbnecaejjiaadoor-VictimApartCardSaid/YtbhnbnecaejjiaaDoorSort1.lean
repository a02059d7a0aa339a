/- slices.SortFunc at elements of one cell, with a comparison that reads memory. Of no program: the laying is handed in. -/
import Derived.Test.YtbhnbnecaejjiaaDoorSort
import Derived.Test.YtbhnbnecaejjiaaDoorRd
namespace Go.Proofs.YtbhnbnecaejjiaaDoor
open Go.RowKit
open Go.Sort (SWO putCells putRow mapBlock grow onCells Holds)
theorem putCells_enc {α : Type} [Inhabited α] (enc : α → Value) (off : Nat) (d : List α) (cur : Array Value) : putCells enc off d.toArray cur = putCells id off (d.map enc).toArray cur := by
  unfold putCells
  refine congrArg (fun f => Array.mapIdx f cur) ?_
  funext k x
  have hs : (d.map enc).toArray.size = d.toArray.size := by simp
  rw [hs]
  split
  · rename_i h
    have hk : k - off < d.length := by have := h.2; simp at this; omega
    rw [getElem!_pos d.toArray (k - off) (by simpa using hk), getElem!_pos (d.map enc).toArray (k - off) (by simpa using hk)]
    simp
  · rfl
theorem sortWorld1_heap {α : Type} [Inhabited α] {enc : α → Value} {w : World} {b off n : Nat} {d : Array α} {os : Array Obj} {cur : Array Value} {e : TypeId} (hb : Blk w b e cur) : Blk (sortWorld enc w b off n d os) b e (putCells enc off d cur) ∧
    Keeps (fun i => i = b) w (sortWorld enc w b off n d os) := by
  have hlt := hb.lt
  have hsz : (putRow enc (Sort.ahead w n) b off d).heap.size = w.heap.size := by simp [putRow, mapBlock]
  have hold : ∀ i, i < w.heap.size → (sortWorld enc w b off n d os).heap[i]? = (w.heap.modify b (onCells (putCells enc off d)))[i]? := fun i hi => by
    show ((putRow enc (Sort.ahead w n) b off d).heap ++ os)[i]? = _
    rw [Array.getElem?_append_left (by rw [hsz]; exact hi)]
    rfl
  refine ⟨?_, rfl, rfl, rfl, ?_, fun i hi hne => ?_, ?_⟩
  · unfold Blk
    rw [hold b hlt, Array.getElem?_modify, if_pos rfl, show w.heap[b]? = some (.cells cur e (0, 0)) from hb]
    rfl
  · show w.heap.size ≤ ((putRow enc (Sort.ahead w n) b off d).heap ++ os).size
    rw [Array.size_append, hsz]
    omega
  · rw [hold i hi, Array.getElem?_modify, if_neg (fun e => hne e.symm)]
  · show w.drawn ≤ w.drawn + n
    omega
/-- slices.SortFunc at elements of one cell; pre: what the comparison reads. -/
theorem SortFunc1_S {P : Program} {ρ : Go.Shelf.Ren} (L : SlLaysF.n6 P ρ) (L0 : SlLaysF0.n6 P ρ) {α : Type} [Inhabited α] (enc : α → Value) (h1 : ∀ x, (enc x).oneCell' = true)
    (cf : α → α → Int) (hO : SWO (Go.Proofs.ltOf cf)) (g : Nat) (cb : List Value) (eg : ∀ args w, (callFunc g args).run P w = .ok (.enter g args) w) (pre : List Assn)
    (hcmp : ∀ x y W Γ, Sat W (pre ++ Γ) → PureS P g ([enc x, enc y] ++ cb) W (.int .i64 (cf x y))) (e : TypeId) (s : SV) (l : List α) (hl : l.length < 4611686018427387904) :
    Spec P (ρ.f 6) [s.v, .func (.func g) #[] cb.toArray] (own s e 1 (l.map enc) :: pre) fun Γ _ Θ => ∃ l' : List α, l'.Perm l ∧ l'.Pairwise (fun a b => Go.Proofs.ltOf cf b a = false) ∧ Θ = own s e 1 (l'.map enc) :: (pre ++ Γ) := by
  intro Γ w hs
  obtain ⟨x0, le0, p0⟩ := hs.head
  have hO0 := (p0.mono le0).toOwn
  have hlen := hO0.1
  rw [List.length_map, Nat.mul_one] at hlen
  by_cases hz : s.n = 0
  · refine (show Calls P (ρ.f 6) #[.slice s.a s.n s.c, .func (.func g) #[] cb.toArray] w _ from ?_)
    rw [hz]
    refine (AnyF.slices_SortFunc_none L0 s.a s.c _ w).mono ?_
    rintro e' w' ⟨rfl, rfl⟩
    obtain rfl : l = [] := List.eq_nil_of_length_eq_zero (by omega)
    exact ⟨_, _, rfl, ⟨[], .refl _, List.Pairwise.nil, rfl⟩, hs, Ext.refl _⟩
  · rcases hO0.2 with ⟨_, h3, _⟩ | ⟨b, off, c, cur, q1, q2, hB, q4, q5, q6, q7⟩
    · omega
    · simp only [SV.v, Value.slice.injEq, true_and] at q1
      obtain ⟨q1, rfl⟩ := q1
      rw [Nat.mul_one] at q6 q7
      have hsz : l.toArray.size = l.length := by simp
      have hown : ∀ (m : Nat) (os : Array Obj) (dk : Array α), dk.size = l.toArray.size → Sat (sortWorld enc w b off m dk os) (own s e 1 (dk.toList.map enc) :: (pre ++ Γ)) := fun m os dk hdk => by
        obtain ⟨k1, k2⟩ := sortWorld1_heap (enc := enc) (off := off) (n := m) (d := dk) (os := os) hB
        have hF : (dk.toList.map enc).toArray.size = s.n := by simp [hdk]; omega
        refine Sat.ownUpd (s := s) (xs := l.map enc) hs (b := b) ⟨?_, .inr ⟨b, off, s.c, _, by simp only [SV.v, q1], rfl, k1, q4, q5, ?_, ?_⟩⟩ (by rw [q1]; rfl) k2
        · simpa using hF
        · simp only [putCells, Array.size_mapIdx]
          omega
        · have e2 := putCells_enc enc off dk.toList cur
          rw [Array.toArray_toList] at e2
          have := putCells_list (off := off) (F := (dk.toList.map enc).toArray) (cur := cur) (by rw [hF]; omega)
          rw [hF] at this
          rw [e2, Nat.mul_one]
          exact this
      have hH : Holds enc w b off l.toArray := by
        intro j hj
        rw [hsz] at hj
        refine ⟨?_, hB.frozen _⟩
        rw [hB.cell]
        have e1 : (l.map enc)[j]? = cur[off + j]? := by
          rw [← q7, List.getElem?_take_of_lt (by omega), List.getElem?_drop, Array.getElem?_toList]
        rw [← e1, List.getElem?_map, List.getElem?_eq_getElem hj, getElem!_pos l.toArray j (by simpa using hj)]
        simp
      have hcl : CmpLays1 P g cb.toArray enc cf b off l.toArray.size w := fun m os dk hdk x y => by
        have hs2 := (hown m os dk hdk).ent (Ent.drop _ _)
        have ea : #[enc x, enc y] ++ cb.toArray = ([enc x, enc y] ++ cb).toArray := by simp
        rw [ea]
        refine ((pure_run (hcmp x y (sortWorld enc w b off m dk os) Γ hs2)).mono ?_)
        rintro e' w' ⟨rfl, hb, hd⟩
        obtain ⟨q, os', e2⟩ := world_grow hb hd
        exact ⟨rfl, q, os', e2⟩
      have hc := Any.slices_SortFunc L enc h1 cf hO g cb.toArray b off s.c l.toArray w eg hcl hH hB.lt (by rw [hsz]; exact hl)
      refine (show Calls P (ρ.f 6) #[.slice s.a s.n s.c, .func (.func g) #[] cb.toArray] w _ from ?_)
      rw [q1]
      rw [hsz, show l.length = s.n by omega] at hc
      refine hc.mono ?_
      rintro e' w' ⟨rfl, d', nn, os, hp, hsd, rfl⟩
      have hd'z : d'.size = l.toArray.size := hp.1
      obtain ⟨_, k2⟩ := sortWorld1_heap (enc := enc) (off := off) (n := nn) (d := d') (os := os) hB
      refine ⟨_, _, rfl, ⟨d'.toList, ?_, ?_, rfl⟩, hown nn os d' hd'z, k2.os, k2.tape, k2.output, k2.size, fun _ => k2.drawn⟩
      · have := hp.2.2
        rw [show s.n = d'.size by rw [hd'z, hsz]; omega, Array.extract_size, hd'z, Array.extract_size] at this
        simpa using this
      · rw [List.pairwise_iff_getElem]
        intro i j hi hj hij
        have := hsd i j (Nat.zero_le _) hij (by simp at hj; rw [hd'z, hsz] at hj; omega)
        rw [getElem!_pos d' i (by simpa using hi), getElem!_pos d' j (by simpa using hj)] at this
        simpa using this
end Go.Proofs.YtbhnbnecaejjiaaDoor
