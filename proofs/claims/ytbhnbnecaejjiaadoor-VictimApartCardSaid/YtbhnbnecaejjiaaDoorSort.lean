/- slices.SortFunc at records, as a contract of the states. Of no program: the laying is handed in. -/
import Derived.Test.YtbhnbnecaejjiaaDoorMap
import Derived.Shelf.SlSortCmp.NoneTotal
namespace Go.Proofs.YtbhnbnecaejjiaaDoor
open Go.RowKit
open Go.Sort (SWO putCells putRow mapBlock grow onCells flatK HoldsK putRowK)
theorem world_grow {w w' : World} (h1 : Below w.heap.size w w') (h2 : w.drawn ≤ w'.drawn) : ∃ q os', w' = Sort.grow (w.drewN q) os' := by
  refine ⟨w'.drawn - w.drawn, w'.heap.extract w.heap.size w'.heap.size, ?_⟩
  have hh : w'.heap = w.heap ++ w'.heap.extract w.heap.size w'.heap.size := by
    apply Array.ext_getElem?
    intro i
    by_cases hi : i < w.heap.size
    · rw [Array.getElem?_append_left hi]
      exact h1.block i hi
    · rw [Array.getElem?_append_right (by omega), Array.getElem?_extract]
      have := h1.size
      by_cases hi2 : i < w'.heap.size
      · rw [if_pos (by omega)]
        congr 1
        omega
      · rw [if_neg (by omega), Array.getElem?_eq_none (by omega)]
  have e1 := h1.os
  have e2 := h1.tape
  have e3 := h1.output
  obtain ⟨hp, tp, dr, os, out⟩ := w
  obtain ⟨hp', tp', dr', os', out'⟩ := w'
  simp only at e1 e2 e3 h2 hh
  subst e1 e2 e3
  simp only [Sort.grow, World.drewN, World.mk.injEq, true_and, and_true]
  exact ⟨hh, by omega⟩
theorem flatK_list {α : Type} [Inhabited α] {enc : α → List Value} {k : Nat} (hk : ∀ x, (enc x).length = k) (h0 : 0 < k) (d : Array α) : (flatK enc k d).toList = d.toList.flatMap enc := by
  refine List.ext_getElem? fun j => ?_
  by_cases hj : j < d.size * k
  · have hd : j / k < d.size := Nat.div_lt_of_lt_mul (by rw [Nat.mul_comm]; exact hj)
    have hm : j % k < k := Nat.mod_lt _ h0
    have h1 : d.toList[j / k]? = some d[j / k]! := by
      rw [getElem!_pos d _ hd, Array.getElem?_toList]
      exact Array.getElem?_eq_getElem hd
    have h2 : (enc d[j / k]!)[j % k]? = some (enc d[j / k]!)[j % k]! := by
      rw [getElem!_pos (enc d[j / k]!) (j % k) (by rw [hk]; exact hm)]
      exact List.getElem?_eq_getElem _
    have h3 := flat_get hk h1 h2
    rw [Nat.mul_comm, Nat.div_add_mod] at h3
    rw [h3, Array.getElem?_toList]
    have h4 := Go.Sort.get_flatK enc k d j hj
    rw [← h4, getElem!_pos _ _ (by simpa using hj)]
    exact Array.getElem?_eq_getElem _
  · rw [List.getElem?_eq_none (by simp; omega), List.getElem?_eq_none (by rw [flat_length hk]; simp; omega)]
theorem putCells_list {off : Nat} {F cur : Array Value} (h : off + F.size ≤ cur.size) : ((putCells id off F cur).toList.drop off).take F.size = F.toList := by
  refine List.ext_getElem? fun j => ?_
  by_cases hj : j < F.size
  · rw [List.getElem?_take_of_lt hj, List.getElem?_drop, Array.getElem?_toList, Array.getElem?_toList]
    unfold putCells
    rw [Array.getElem?_mapIdx, Array.getElem?_eq_getElem (show off + j < cur.size by omega)]
    simp only [Option.map_some]
    rw [if_pos (by omega), Nat.add_sub_cancel_left, getElem!_pos F j hj]
    exact (Array.getElem?_eq_getElem hj).symm
  · rw [List.getElem?_eq_none (by simp; omega), List.getElem?_eq_none (by simp; omega)]
/-- A row's block behind a sort. -/
theorem sortWorld_heap {α : Type} [Inhabited α] {enc : α → List Value} {k : Nat} {w : World} {b off n : Nat} {d : Array α} {os : Array Obj} {cur : Array Value} {e : TypeId} (hb : Blk w b e cur) : Blk (sortWorldK enc k w b off n d os) b e (putCells id off (flatK enc k d) cur) ∧
    Keeps (fun i => i = b) w (sortWorldK enc k w b off n d os) := by
  have hlt := hb.lt
  have hsz : (putRowK enc k (Sort.ahead w n) b off d).heap.size = w.heap.size := by simp [putRowK, putRow, mapBlock]
  have hold : ∀ i, i < w.heap.size → (sortWorldK enc k w b off n d os).heap[i]? = (w.heap.modify b (onCells (putCells id off (flatK enc k d))))[i]? := fun i hi => by
    show ((putRowK enc k (Sort.ahead w n) b off d).heap ++ os)[i]? = _
    rw [Array.getElem?_append_left (by rw [hsz]; exact hi)]
    rfl
  refine ⟨?_, rfl, rfl, rfl, ?_, fun i hi hne => ?_, ?_⟩
  · unfold Blk
    rw [hold b hlt, Array.getElem?_modify, if_pos rfl, show w.heap[b]? = some (.cells cur e (0, 0)) from hb]
    rfl
  · show w.heap.size ≤ ((putRowK enc k (Sort.ahead w n) b off d).heap ++ os).size
    rw [Array.size_append, hsz]
    omega
  · rw [hold i hi, Array.getElem?_modify, if_neg (fun e => hne e.symm)]
  · show w.drawn ≤ w.drawn + n
    omega
/-- slices.SortFunc at records. -/
theorem SortFunc_S {P : Program} {ρ : Go.Shelf.Ren} (L : SlLaysF0.n6 P ρ) {α : Type} [Inhabited α] (k : Nat) (aE : ∀ w, (isAgg (ρ.t 24)).run P w = .ok true w) (zE : ∀ w, (Go.sizeOf (ρ.t 24)).run P w = .ok k w) (enc : α → List Value) (hk : ∀ x, (enc x).length = k) (h0 : 0 < k) (h1 : ∀ x, ∀ v ∈ enc x, v.oneCell' = true)
    (cf : α → α → Int) (hO : SWO (Go.Proofs.ltOf cf)) (g : Nat) (eg : ∀ args w, (callFunc g args).run P w = .ok (.enter g args) w) (hcmp : ∀ x y W, PureS P g [.agg (enc x).toArray, .agg (enc y).toArray] W (.int .i64 (cf x y))) (e : TypeId) (s : SV) (l : List α) (hl : l.length < 4611686018427387904) :
    Spec P (ρ.f 6) [s.v, .func (.func g) #[] #[]] [own s e k (l.flatMap enc)] fun Γ _ Θ => ∃ l' : List α, l'.Perm l ∧ l'.Pairwise (fun a b => Go.Proofs.ltOf cf b a = false) ∧ Θ = own s e k (l'.flatMap enc) :: Γ := by
  intro Γ w hs
  obtain ⟨x0, le0, p0⟩ := hs.head
  have hO0 := (p0.mono le0).toOwn
  have hlen := hO0.1
  rw [flat_length hk] at hlen
  have hn : l.length = s.n := Nat.eq_of_mul_eq_mul_right h0 hlen
  by_cases hz : s.n = 0
  · refine (show Calls P (ρ.f 6) #[.slice s.a s.n s.c, .func (.func g) #[] #[]] w _ from ?_)
    rw [hz]
    refine (AnyF.slices_SortFunc_none L s.a s.c _ w).mono ?_
    rintro e' w' ⟨rfl, rfl⟩
    obtain rfl : l = [] := List.eq_nil_of_length_eq_zero (by omega)
    exact ⟨_, _, rfl, ⟨[], .refl _, List.Pairwise.nil, rfl⟩, hs, Ext.refl _⟩
  · rcases hO0.2 with ⟨_, h3, _⟩ | ⟨b, off, c, cur, q1, q2, hB, q4, q5, q6, q7⟩
    · omega
    · simp only [SV.v, Value.slice.injEq, true_and] at q1
      obtain ⟨q1, rfl⟩ := q1
      have hsz : l.toArray.size = l.length := by simp
      have hfs : (flatK enc k l.toArray).toList = l.flatMap enc := by rw [flatK_list hk h0]
      have hfz : (flatK enc k l.toArray).size = s.n * k := by rw [Go.Sort.size_flatK, hsz, hn]
      have hcm : s.n * k ≤ s.c * k := Nat.mul_le_mul_right _ q4
      have hH : HoldsK enc k w b off l.toArray := by
        intro j hj
        rw [hfz] at hj
        refine ⟨?_, hB.frozen _⟩
        rw [hB.cell]
        have e1 : (l.flatMap enc)[j]? = cur[off + j]? := by
          rw [← q7, List.getElem?_take_of_lt hj, List.getElem?_drop, Array.getElem?_toList]
        rw [← e1, ← hfs, Array.getElem?_toList, getElem!_pos _ _ (by rw [hfz]; exact hj)]
        exact Array.getElem?_eq_getElem _
      have hcl : CmpLays P g #[] enc k cf b off l.toArray.size w := fun m os dk _ x y => by
        refine (pure_run (hcmp x y (sortWorldK enc k w b off m dk os))).mono ?_
        rintro e' w' ⟨rfl, hb, hd⟩
        obtain ⟨q, os', e2⟩ := world_grow hb hd
        exact ⟨rfl, q, os', e2⟩
      have hc := AnyQ.slices_SortFunc L k aE zE enc hk h1 cf hO g #[] b off s.c l.toArray w eg hcl hH hB.lt (by rw [hsz]; exact hl)
      refine (show Calls P (ρ.f 6) #[.slice s.a s.n s.c, .func (.func g) #[] #[]] w _ from ?_)
      rw [q1]
      rw [hsz, hn] at hc
      refine hc.mono ?_
      rintro e' w' ⟨rfl, d', nn, os, hp, hsd, rfl⟩
      obtain ⟨k1, k2⟩ := sortWorld_heap (enc := enc) (k := k) (off := off) (n := nn) (d := d') (os := os) hB
      have hd'z : d'.size = s.n := by rw [hp.1, hsz, hn]
      have hF : (flatK enc k d').size = s.n * k := by rw [Go.Sort.size_flatK, hd'z]
      refine ⟨_, _, rfl, ⟨d'.toList, ?_, ?_, rfl⟩, ?_, k2.os, k2.tape, k2.output, k2.size, fun _ => k2.drawn⟩
      · have := hp.2.2
        rw [← hd'z, Array.extract_size, hd'z, show s.n = l.toArray.size by rw [hsz, hn], Array.extract_size] at this
        simpa using this
      · rw [List.pairwise_iff_getElem]
        intro i j hi hj hij
        have := hsd i j (Nat.zero_le _) hij (by simpa [hd'z] using hj)
        rw [getElem!_pos d' i (by simpa using hi), getElem!_pos d' j (by simpa using hj)] at this
        simpa using this
      · refine hs.ownUpd (b := b) ⟨?_, .inr ⟨b, off, s.c, _, by simp only [SV.v, q1], rfl, k1, q4, q5, ?_, ?_⟩⟩ (by rw [q1]; rfl) k2
        · rw [flat_length hk]
          simp [hd'z]
        · simp only [putCells, Array.size_mapIdx]
          exact q6
        · have := putCells_list (off := off) (F := flatK enc k d') (cur := cur) (by rw [hF]; omega)
          rw [hF, flatK_list hk h0] at this
          exact this
end Go.Proofs.YtbhnbnecaejjiaaDoor
