/- Slices of pairs that come in, opened. -/
import Derived.Test.YtdafbepmilidnaaLift
import Derived.Deep.Slices
namespace Go.Proofs.Ytdafbepmilidnaa
open Go.ChangeShapes Go.WideShapes Go.ChangeAt Go.RowKit Go.Deep
theorem spot_none {w : World} {a : Addr} {v : Value} (h : w.cell? a = some v) : a.spot = none := by
  obtain ⟨b, o, s⟩ := a
  cases s with
  | none => rfl
  | some s =>
    simp only [World.cell?] at h
    split at h <;> simp_all
section
variable {H : Type} {enc : TypeId × Value → H} {W : World}
theorem open_arr2 {A I : TypeId} {k : IntKind} (hA : Try.prog.underlying A = some (.array 2 I)) (hI : Try.prog.underlying I = some (.int k)) (cA : Try.prog.cellsOf A = 2) (cI : Try.prog.cellsOf I = 1)
    {fuel : Nat} {cs : List Value} {x : DataW H × List MemPlace} {sp : Nat → Bool} (h : DataW.trod enc Try.prog W 0 sp true fuel A cs = some x) :
    ∃ a b : Int, cs = [.int k a, .int k b] ∧ (Lit.int k a).wf = true ∧ (Lit.int k b).wf = true := by
  obtain ⟨xs, m, _, _, hcs, hxl, hx⟩ := DataW.trod_array hA h
  rw [cA] at hcs
  rw [cI] at hx
  match cs, hcs, xs, hxl with
  | [v0, v1], _, [y0, y1], _ =>
    have g0 := hx 0 (by omega)
    have g1 := hx 1 (by omega)
    simp at g0 g1
    obtain ⟨a, e0, _, w0⟩ := DataW.trod_int hI g0
    obtain ⟨b, e1, _, w1⟩ := DataW.trod_int hI g1
    simp at e0 e1
    exact ⟨a, b, by rw [e0, e1], w0, w1⟩
theorem open_pairs {T A I : TypeId} {k : IntKind} (hT : Try.prog.underlying T = some (.slice A)) (hA : Try.prog.underlying A = some (.array 2 I)) (hI : Try.prog.underlying I = some (.int k)) (cA : Try.prog.cellsOf A = 2) (cI : Try.prog.cellsOf I = 1)
    {v : Value} {d : DataW H} {p : List MemPlace} (h : DataW.Trod enc Try.prog W 0 (fun _ => true) true T v d p) (hone : v.cells = #[v]) :
    v = .slice none 0 0 ∨ ∃ (a : Addr) (len cap : Nat) (l : List (Int × Int)), v = .slice (some a) len cap ∧ len ≤ cap ∧ cap ≤ maxLen ∧ l.length = len ∧
      (∀ x, x ∈ l → (Lit.int k x.1).wf = true ∧ (Lit.int k x.2).wf = true) ∧
      (0 < len → ∃ b off, a = ⟨b, off, none⟩ ∧ b < W.heap.size ∧ ∀ i, i < len → W.cell? ⟨b, off + i * 2, none⟩ = some (.int k (l.getD i (0, 0)).1) ∧ W.cell? ⟨b, off + i * 2 + 1, none⟩ = some (.int k (l.getD i (0, 0)).2)) := by
  obtain ⟨fuel, hf⟩ := h
  rw [hone] at hf
  rcases open_slice hT hf with ⟨hcs, _⟩ | ⟨a, len, cap, m, n, D, Pl, hcs, hb, hl, hm, hmm, _, hx⟩
  · left
    simpa using hcs
  · right
    have hv : v = .slice (some a) len cap := by simpa using hcs
    have hmc : m = cap := by simpa using hmm
    have each : ∀ i, i < len → ∃ q : Int × Int, (W.cell? (a.add (i * 2)) = some (.int k q.1) ∧ W.cell? (a.add (i * 2 + 1)) = some (.int k q.2)) ∧ (Lit.int k q.1).wf = true ∧ (Lit.int k q.2).wf = true := by
      intro i hi
      obtain ⟨cs', h1, h2⟩ := hx i (by omega)
      rw [cA] at h1
      obtain ⟨q0, q1, rfl, w0, w1⟩ := open_arr2 hA hI cA cI h2
      obtain ⟨_, _, hcell⟩ := World.cells?_some h1
      have e0 := hcell 0 (by omega)
      have e1 := hcell 1 (by omega)
      rw [add_add] at e0 e1
      exact ⟨(q0, q1), ⟨by simpa using e0, by simpa using e1⟩, w0, w1⟩
    obtain ⟨q, hq⟩ := choose_lt each
    refine ⟨a, len, cap, (List.range len).map q, hv, hl, hm, by simp, ?_, ?_⟩
    · intro x hx
      obtain ⟨i, hi, rfl⟩ := List.mem_map.1 hx
      exact (hq i (by simpa using hi)).2
    · intro h0
      have c0 := (hq 0 h0).1.1
      have hs := spot_none c0
      have hs' : a.spot = none := by
        have e : a.add (0 * 2) = a := by simp [Addr.add]
        rw [e] at hs; exact hs
      have ea : a = ⟨a.block, a.off, none⟩ := by rw [← hs']
      refine ⟨a.block, a.off, ea, ?_, ?_⟩
      · have e : a.add (0 * 2) = a := by simp [Addr.add]
        rw [e] at c0
        exact World.block_lt_of_cell? W a c0
      · intro i hi
        have g := (hq i hi).1
        rw [ea, Addr.add_lit, Addr.add_lit, ← Nat.add_assoc] at g
        have e : ((List.range len).map q).getD i (0, 0) = q i := by simp [List.getD, hi]
        rw [e]
        exact g
theorem open_arr2_val {A I : TypeId} {k : IntKind} (hA : Try.prog.underlying A = some (.array 2 I)) (hI : Try.prog.underlying I = some (.int k)) (cA : Try.prog.cellsOf A = 2) (cI : Try.prog.cellsOf I = 1)
    {r : Reach} {b0 : Nat} {v : Value} {d : DataW H} {p : List MemPlace} (hv : Value.okWide Try.prog W r b0 A v) (h : DataW.Trod enc Try.prog W 0 (fun _ => true) true A v d p) :
    ∃ a b : Int, v = .agg #[.int k a, .int k b] ∧ (Lit.int k a).wf = true ∧ (Lit.int k b).wf = true := by
  simp only [Value.okWide, hA] at hv
  obtain ⟨cs, rfl, hsz, _⟩ := hv
  obtain ⟨fuel, hf⟩ := h
  obtain ⟨a, b, hcs, wa, wb⟩ := open_arr2 hA hI cA cI hf
  refine ⟨a, b, ?_, wa, wb⟩
  have : cs.toList = [.int k a, .int k b] := hcs
  congr 1
  exact Array.toList_inj.1 this
end
end Go.Proofs.Ytdafbepmilidnaa
