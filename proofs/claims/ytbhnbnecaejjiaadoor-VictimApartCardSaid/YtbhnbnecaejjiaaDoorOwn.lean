/- Slices that a call owns, at whatever offset in their block; append onto them; what is kept of the rest of memory. Of no program. -/
import Derived.Test.YtbhnbnecaejjiaaDoorMem
namespace Go.Proofs.YtbhnbnecaejjiaaDoor
open Go.RowKit
/-- Blocks that were there, and of which F does not speak, are as they were. -/
structure Keeps (F : Nat → Prop) (w w' : World) : Prop where
  os : w'.os = w.os
  tape : w'.tape = w.tape
  output : w'.output = w.output
  size : w.heap.size ≤ w'.heap.size
  block : ∀ k, k < w.heap.size → ¬ F k → w'.heap[k]? = w.heap[k]?
  drawn : w.drawn ≤ w'.drawn
theorem Keeps.refl (F : Nat → Prop) (w : World) : Keeps F w w := ⟨rfl, rfl, rfl, Nat.le_refl _, fun _ _ _ => rfl, Nat.le_refl _⟩
theorem Keeps.trans {F : Nat → Prop} {a b c : World} (h : Keeps F a b) (k : Keeps F b c) : Keeps F a c :=
  ⟨k.os.trans h.os, k.tape.trans h.tape, k.output.trans h.output, Nat.le_trans h.size k.size, fun i hi hF => (k.block i (Nat.lt_of_lt_of_le hi h.size) hF).trans (h.block i hi hF), Nat.le_trans h.drawn k.drawn⟩
theorem Keeps.mono {F G : Nat → Prop} {w w' : World} (h : Keeps F w w') (hFG : ∀ k, k < w.heap.size → F k → G k) : Keeps G w w' :=
  ⟨h.os, h.tape, h.output, h.size, fun k hk hG => h.block k hk (fun hF => hG (hFG k hk hF)), h.drawn⟩
theorem Keeps.drew {F : Nat → Prop} {a w : World} (h : Keeps F a w) : Keeps F a w.drew := ⟨h.os, h.tape, h.output, h.size, h.block, Nat.le_succ_of_le h.drawn⟩
theorem Keeps.drewN {F : Nat → Prop} {a w : World} (h : Keeps F a w) (n : Nat) : Keeps F a (w.drewN n) := h.trans ⟨rfl, rfl, rfl, Nat.le_refl _, fun _ _ _ => rfl, Nat.le_add_right _ _⟩
theorem Keeps.alloc {F : Nat → Prop} {a w : World} (h : Keeps F a w) (o : Obj) : Keeps F a (w.alloc o) :=
  h.trans ⟨rfl, rfl, rfl, by simp, fun k hk _ => Below.heap_alloc _ _ _ hk, Nat.le_refl _⟩
theorem Keeps.setCell {F : Nat → Prop} {a w : World} (h : Keeps F a w) {p : Addr} (hp : F p.block ∨ a.heap.size ≤ p.block) (u : Value) : Keeps F a (w.setCell p u) :=
  ⟨h.os, h.tape, h.output, by have := h.size; simp [World.setCell]; omega, fun k hk hF => by
    rw [Below.heap_setCell _ _ _ _ (fun e => by subst e; rcases hp with hp | hp; exact hF hp; omega)]
    exact h.block k hk hF, h.drawn⟩
theorem Keeps.below {F : Nat → Prop} {w w' : World} (h : Keeps F w w') {B : Nat} (hB : B ≤ w.heap.size) (hF : ∀ k, F k → B ≤ k) : Below B w w' :=
  ⟨h.os, h.tape, h.output, h.size, fun k hk => h.block k (by omega) (fun hk' => by have := hF k hk'; omega)⟩
/-- Nothing that was there when a began has changed by the second step if that changed only what is new, or of F. -/
theorem Keeps.trans' {F G : Nat → Prop} {a b c : World} (h : Keeps F a b) (k : Keeps G b c) (hG : ∀ i, i < a.heap.size → G i → F i) : Keeps F a c :=
  ⟨k.os.trans h.os, k.tape.trans h.tape, k.output.trans h.output, Nat.le_trans h.size k.size, fun i hi hF => (k.block i (Nat.lt_of_lt_of_le hi h.size) (fun hg => hF (hG i hi hg))).trans (h.block i hi hF), Nat.le_trans h.drawn k.drawn⟩
theorem bl_alloc {a w : World} (h : Below a.heap.size a w) (o : Obj) : Below a.heap.size a (w.alloc o) := h.alloc h.size o
theorem bl_drewN {B : Nat} {a w : World} (h : Below B a w) (n : Nat) : Below B a (w.drewN n) := h.trans ⟨rfl, rfl, rfl, Nat.le_refl _, fun _ _ => rfl⟩
theorem bl_set {a w : World} (h : Below a.heap.size a w) {p : Addr} (hp : a.heap.size ≤ p.block) (u : Value) : Below a.heap.size a (w.setCell p u) := h.setCell hp u
theorem bl_trans {a b c : World} (h : Below a.heap.size a b) (k : Below b.heap.size b c) : Below a.heap.size a c := h.trans (k.mono h.size)
/-- A block that is known whole, writable. -/
def Blk (w : World) (b : Nat) (e : TypeId) (cs : Array Value) : Prop := w.heap[b]? = some (.cells cs e (0, 0))
theorem Blk.lt {w : World} {b : Nat} {e : TypeId} {cs : Array Value} (h : Blk w b e cs) : b < w.heap.size := (Array.getElem?_eq_some_iff.1 h).1
theorem Blk.cell {w : World} {b : Nat} {e : TypeId} {cs : Array Value} (h : Blk w b e cs) : ∀ o, w.cell? ⟨b, o, none⟩ = cs[o]? := fun o => cell_of_row w b o cs e (0, 0) h
theorem Blk.frozen {w : World} {b : Nat} {e : TypeId} {cs : Array Value} (h : Blk w b e cs) : ∀ o, w.frozen? ⟨b, o, none⟩ = false := fun o => frozen_of_row w b o cs e h
theorem Blk.keeps {F : Nat → Prop} {w w' : World} {b : Nat} {e : TypeId} {cs : Array Value} (h : Blk w b e cs) (hk : Keeps F w w') (hF : ¬ F b) : Blk w' b e cs := (hk.block b h.lt hF).trans h
theorem Blk.below {B : Nat} {w w' : World} {b : Nat} {e : TypeId} {cs : Array Value} (h : Blk w b e cs) (hk : Below B w w') (hF : b < B) : Blk w' b e cs := (hk.block b hF).trans h
theorem Blk.alloc {w : World} {b : Nat} {e : TypeId} {cs : Array Value} (h : Blk w b e cs) (o : Obj) : Blk (w.alloc o) b e cs := hx_alloc h
theorem Blk.drew {w : World} {b : Nat} {e : TypeId} {cs : Array Value} (h : Blk w b e cs) : Blk w.drew b e cs := h
theorem Blk.drewN {w : World} {b : Nat} {e : TypeId} {cs : Array Value} (h : Blk w b e cs) (n : Nat) : Blk (w.drewN n) b e cs := h
theorem Blk.new {w : World} {e : TypeId} {cs : Array Value} {b : Nat} (h : b = w.heap.size) : Blk (w.alloc (.cells cs e)) b e cs := hx_new h
theorem Blk.set {w : World} {b : Nat} {e : TypeId} {cs : Array Value} (h : Blk w b e cs) (o : Nat) (u : Value) : Blk (w.setCell ⟨b, o, none⟩ u) b e (cs.setIfInBounds o u) := heap_setCell_same w b o cs e u h
theorem Blk.setOther {w : World} {b : Nat} {e : TypeId} {cs : Array Value} (h : Blk w b e cs) {a : Addr} (hne : b ≠ a.block) (u : Value) : Blk (w.setCell a u) b e cs := hx_set h hne
/-- A slice value of n elements (sz cells each) that owns its cells xs, in block g (none: nil). -/
def Own (w : World) (e : TypeId) (sz : Nat) (v : Value) (n : Nat) (xs : List Value) (g : Option Nat) : Prop :=
  xs.length = n * sz ∧ ((v = .slice none 0 0 ∧ n = 0 ∧ g = none) ∨
    ∃ b off c cur, v = .slice (some ⟨b, off, none⟩) n c ∧ g = some b ∧ Blk w b e cur ∧ n ≤ c ∧ c ≤ maxLen ∧ off + c * sz ≤ cur.size ∧ (cur.toList.drop off).take (n * sz) = xs)
theorem Own.nil (w : World) (e : TypeId) (sz : Nat) : Own w e sz (.slice none 0 0) 0 [] none := ⟨by simp, .inl ⟨rfl, rfl, rfl⟩⟩
theorem Own.lt {w : World} {e : TypeId} {sz : Nat} {v : Value} {n : Nat} {xs : List Value} {g : Option Nat} (h : Own w e sz v n xs g) : ∀ b, g = some b → b < w.heap.size := by
  intro b hb
  rcases h.2 with ⟨_, _, h3⟩ | ⟨b', off, c, cur, _, h2, h3, _⟩
  · rw [h3] at hb; cases hb
  · rw [h2] at hb; cases hb; exact h3.lt
theorem Own.of {w w' : World} {e : TypeId} {sz : Nat} {v : Value} {n : Nat} {xs : List Value} {g : Option Nat} (h : Own w e sz v n xs g) (hk : ∀ b, g = some b → w'.heap[b]? = w.heap[b]?) : Own w' e sz v n xs g := by
  refine ⟨h.1, ?_⟩
  rcases h.2 with h | ⟨b, off, c, cur, h1, h2, h3, r⟩
  · exact .inl h
  · exact .inr ⟨b, off, c, cur, h1, h2, (hk b h2).trans h3, r⟩
theorem Own.keeps {F : Nat → Prop} {w w' : World} {e : TypeId} {sz : Nat} {v : Value} {n : Nat} {xs : List Value} {g : Option Nat} (h : Own w e sz v n xs g) (hk : Keeps F w w') (hF : ∀ b, g = some b → ¬ F b) : Own w' e sz v n xs g :=
  h.of fun b hb => hk.block b (h.lt b hb) (hF b hb)
theorem Own.alloc {w : World} {e : TypeId} {sz : Nat} {v : Value} {n : Nat} {xs : List Value} {g : Option Nat} (h : Own w e sz v n xs g) (o : Obj) : Own (w.alloc o) e sz v n xs g := h.of fun b hb => Below.heap_alloc _ _ _ (h.lt b hb)
theorem Own.drew {w : World} {e : TypeId} {sz : Nat} {v : Value} {n : Nat} {xs : List Value} {g : Option Nat} (h : Own w e sz v n xs g) : Own w.drew e sz v n xs g := h
theorem Own.setOther {w : World} {e : TypeId} {sz : Nat} {v : Value} {n : Nat} {xs : List Value} {g : Option Nat} (h : Own w e sz v n xs g) {a : Addr} (hne : g ≠ some a.block) (u : Value) : Own (w.setCell a u) e sz v n xs g :=
  h.of fun b hb => Below.heap_setCell _ _ _ _ (fun e => hne (by rw [hb, e]))
theorem Own.ofRow {w : World} {base : Nat} {e : TypeId} {sz : Nat} {v : Value} {n : Nat} {xs : List Value} (h : w.ownsRow base e sz v n xs) : Own w e sz v n xs v.ownBlock := by
  refine ⟨h.1, ?_⟩
  rcases h.2 with ⟨rfl, rfl⟩ | ⟨g, cap, cur, rfl, hb, hg, hn, hc, hs, htk⟩
  · exact .inl ⟨rfl, rfl, rfl⟩
  · exact .inr ⟨g, 0, cap, cur, rfl, rfl, hg, hn, hc, by omega, by simpa using htk⟩
/-- What an owned slice reads as. -/
theorem Own.sl {w : World} {e : TypeId} {sz : Nat} {v : Value} {n : Nat} {xs : List Value} {g : Option Nat} (h : Own w e sz v n xs g) : SlAt w v n sz xs := by
  refine ⟨h.1, ?_⟩
  rcases h.2 with ⟨rfl, rfl, _⟩ | ⟨b, off, c, cur, rfl, _, hb, hn, hc, hs, htk⟩
  · exact ⟨none, 0, rfl, Nat.le_refl _, Nat.zero_le _, fun _ => ⟨rfl, rfl⟩, fun a h => by cases h⟩
  · refine ⟨some ⟨b, off, none⟩, c, rfl, hn, hc, fun h => (by cases h), fun a ha _ => ?_⟩
    cases ha
    refine ⟨rfl, hb.lt, fun j u hu => ?_⟩
    rw [hb.cell]
    rw [← htk, List.getElem?_take] at hu
    split at hu
    · rw [List.getElem?_drop] at hu; simpa using hu
    · cases hu
theorem Own.cases {w : World} {e : TypeId} {sz : Nat} {v : Value} {n : Nat} {xs : List Value} {g : Option Nat} (h : Own w e sz v n xs g) :
    (v = .slice none 0 0 ∧ n = 0 ∧ xs = [] ∧ g = none) ∨ ∃ b off c, v = .slice (some ⟨b, off, none⟩) n c ∧ g = some b ∧ n ≤ c ∧ c ≤ maxLen ∧ b < w.heap.size ∧ (∀ j, j < n * sz → w.cell? ⟨b, off + j, none⟩ = xs[j]?) ∧ (∀ j, w.frozen? ⟨b, j, none⟩ = false) := by
  rcases h.2 with ⟨rfl, rfl, h3⟩ | ⟨b, off, c, cur, h1, h2, h3, h4, h5, h6, h7⟩
  · exact .inl ⟨rfl, rfl, List.eq_nil_of_length_eq_zero (by simpa using h.1), h3⟩
  · refine .inr ⟨b, off, c, h1, h2, h4, h5, h3.lt, fun j hj => ?_, h3.frozen⟩
    rw [h3.cell, ← h7, List.getElem?_take, if_pos hj, List.getElem?_drop]
    simp
/-- One store within the length. -/
theorem Own.stored {w : World} {e : TypeId} {sz : Nat} {b off n c : Nat} {xs : List Value} {g : Option Nat} (h : Own w e sz (.slice (some ⟨b, off, none⟩) n c) n xs g) (j : Nat) (u : Value) :
    Own (w.setCell ⟨b, off + j, none⟩ u) e sz (.slice (some ⟨b, off, none⟩) n c) n (xs.set j u) g := by
  refine ⟨by simpa using h.1, ?_⟩
  rcases h.2 with ⟨h1, _⟩ | ⟨b', off', c', cur, h1, h2, h3, h4, h5, h6, h7⟩
  · cases h1
  · simp only [Value.slice.injEq, Option.some.injEq, Addr.mk.injEq, and_true, true_and] at h1
    obtain ⟨⟨rfl, rfl⟩, rfl⟩ := h1
    refine .inr ⟨b, off, c, _, rfl, h2, h3.set _ u, h4, h5, by simpa using h6, ?_⟩
    rw [Array.toList_setIfInBounds, ← h7, List.drop_set, if_neg (by omega), Nat.add_sub_cancel_left, List.take_set]
/-- A slice cut at its front. -/
theorem Own.drop {w : World} {e : TypeId} {sz : Nat} {b off n c : Nat} {xs : List Value} {g : Option Nat} (h : Own w e sz (.slice (some ⟨b, off, none⟩) n c) n xs g) (k : Nat) (hk : k ≤ n) :
    Own w e sz (.slice (some ⟨b, off + k * sz, none⟩) (n - k) (c - k)) (n - k) (xs.drop (k * sz)) g := by
  have hmul : ∀ a, k ≤ a → (a - k) * sz + k * sz = a * sz := fun a ha => by rw [← Nat.add_mul]; congr 1; omega
  refine ⟨by rw [List.length_drop, h.1]; have := hmul n hk; omega, ?_⟩
  rcases h.2 with ⟨h1, _⟩ | ⟨b', off', c', cur, h1, h2, h3, h4, h5, h6, h7⟩
  · cases h1
  · simp only [Value.slice.injEq, Option.some.injEq, Addr.mk.injEq, and_true, true_and] at h1
    obtain ⟨⟨rfl, rfl⟩, rfl⟩ := h1
    have e1 := hmul c (by omega)
    have e2 := hmul n hk
    refine .inr ⟨b, off + k * sz, c - k, cur, rfl, h2, h3, by omega, by omega, by omega, ?_⟩
    rw [← h7, List.drop_take, List.drop_drop]
    congr 1
    omega
theorem Own.drop_end {w : World} {e : TypeId} {sz : Nat} {b off n : Nat} {xs : List Value} {g : Option Nat} (h : Own w e sz (.slice (some ⟨b, off, none⟩) n n) n xs g) :
    Own w e sz (.slice (some ⟨b, off, none⟩) 0 0) 0 [] g := by
  refine ⟨by simp, ?_⟩
  rcases h.2 with ⟨h1, _⟩ | ⟨b', off', c', cur, h1, h2, h3, h4, h5, h6, h7⟩
  · cases h1
  · simp only [Value.slice.injEq, Option.some.injEq, Addr.mk.injEq, and_true, true_and] at h1
    obtain ⟨⟨rfl, rfl⟩, rfl⟩ := h1
    exact .inr ⟨b, off, 0, cur, rfl, h2, h3, Nat.le_refl _, Nat.zero_le _, by omega, by simp⟩
section
variable {P : Program} {w : World}
theorem run_append_room_off (t ty e : TypeId) (i : TypeInfo) (ht : P.underlying t = some (.slice e)) (hi : P.info? e = some i)
    (g off sLen sCap : Nat) (cur : Array Value) (hg : Blk w g e cur)
    (a : Addr) (m c : Nat) (news : List Value) (hl : news.length = m * i.size) (hnews : ∀ j u, news[j]? = some u → w.cell? (a.add j) = some u) (h1 : ∀ u ∈ news, u.oneCell' = true)
    (hroom : sLen + m ≤ sCap) (hfit : off + sLen * i.size + news.length ≤ cur.size) :
    (Builtin.append_ #[t, t] ty #[.slice (some ⟨g, off, none⟩) sLen sCap, .slice (some a) m c]).run P w =
      .ok (.slice (some ⟨g, off, none⟩) (sLen + m) sCap) (w.setRow g (cur.toList.take (off + sLen * i.size) ++ news ++ cur.toList.drop (off + sLen * i.size + news.length)).toArray) := by
  have hf := run_firstCells_some (P := P) w i.size m a m c news hl hnews
  have hst := run_storeCells_at P g (off + sLen * i.size) e news 0 cur w hg (by simpa using hfit) h1
  simp only [Nat.add_zero] at hst
  simp [Builtin.append_, run_underlying ht, sizeOf, typeInfo, hi, Builtin.lenOf, hroom, hf, Addr.add_lit, hst]
theorem run_append_nothing' (t ty e : TypeId) (i : TypeInfo) (ht : P.underlying t = some (.slice e)) (hi : P.info? e = some i) (base : Option Addr) (n c : Nat) (hn : n ≤ c) (ao : Option Addr) (c' : Nat) :
    (Builtin.append_ #[t, t] ty #[.slice base n c, .slice ao 0 c']).run P w = .ok (.slice base n c) w := by
  cases ao with
  | none =>
    cases base <;> simp [Builtin.append_, run_underlying ht, sizeOf, typeInfo, hi, Builtin.lenOf, hn, Builtin.firstCells, storeCells]
  | some a =>
    have hf := run_firstCells_some (P := P) w i.size 0 a 0 c' [] (by simp) (fun j u h => by simp at h)
    cases base <;> simp [Builtin.append_, run_underlying ht, sizeOf, typeInfo, hi, Builtin.lenOf, hn, hf, storeCells]
/-- append onto an owned slice, of whatever source. -/
theorem run_append_Own (t ty e : TypeId) (i : TypeInfo) (z : Value) (size bytes : Nat) (ht : P.underlying t = some (.slice e)) (hi : P.info? e = some i) (hz : i.zero = some z)
    (hsize : i.size = size) (hby : i.bytes = bytes) (hzs : z.cells.size = size)
    (v : Value) (n : Nat) (xs : List Value) (g : Option Nat) (hown : Own w e size v n xs g)
    (xv : Value) (m : Nat) (news : List Value) (hsrc : SlAt w xv m size news) (h1 : ∀ u ∈ news, u.oneCell' = true)
    (h63 : n + m ≤ maxLen) (hbytes : (n + m) * bytes ≤ 140737488355328) :
    ∃ v' w' g', (Builtin.append_ #[t, t] ty #[v, xv]).run P w = .ok v' w' ∧ Own w' e size v' (n + m) (xs ++ news) g' ∧ Keeps (fun b => g = some b) w w' ∧ (g' = g ∨ g' = some w.heap.size) := by
  subst hsize
  subst hby
  obtain ⟨hl, ao, c, rfl, hmc, hcm, hnone, hsome⟩ := hsrc
  have hlen : (xs ++ news).length = (n + m) * i.size := by rw [List.length_append, hown.1, hl, Nat.add_mul]
  rcases Nat.eq_zero_or_pos m with rfl | hm
  · have hnews : news = [] := List.eq_nil_of_length_eq_zero (by simpa using hl)
    subst hnews
    have hnc : ∃ base c0, v = .slice base n c0 ∧ n ≤ c0 := by
      rcases hown.2 with ⟨rfl, rfl, _⟩ | ⟨b, off, c0, cur, rfl, _, _, h4, _⟩
      · exact ⟨none, 0, rfl, Nat.le_refl _⟩
      · exact ⟨_, c0, rfl, h4⟩
    obtain ⟨base, c0, rfl, hnc⟩ := hnc
    exact ⟨_, w, g, run_append_nothing' t ty e i ht hi base n c0 hnc ao c, by simpa using hown, Keeps.refl _ _, .inl rfl⟩
  · cases ao with
    | none => have := (hnone rfl).1; omega
    | some a =>
      obtain ⟨g1, g2, g3⟩ := hsome a rfl hm
      have hcell : ∀ j u, news[j]? = some u → w.cell? (a.add j) = some u := by
        intro j u hu
        have := g3 j u hu
        have e : a = ⟨a.block, a.off, none⟩ := by rw [← g1]
        rw [e, Addr.add_lit]
        exact this
      have h63' : ((n + m : Nat) : Int) ≤ 9223372036854775807 := by simp only [maxLen] at h63; omega
      -- the new row
      have grown : ∀ (old : Nat), old < n + m →
          Own (w.drew.alloc (.cells (xs.toArray ++ news.toArray ++ Builtin.zeroCells z.cells (grownCap w (n + m) old e - (n + m))) e)) e i.size
            (.slice (some ⟨w.heap.size, 0, none⟩) (n + m) (grownCap w (n + m) old e)) (n + m) (xs ++ news) (some w.heap.size) := by
        intro old ho
        have hge := grownCap_ge w (n + m) old e
        have hcm : grownCap w (n + m) old e ≤ maxLen := grownCap_le_maxLen w (n + m) old e h63
        refine ⟨hlen, .inr ⟨w.heap.size, 0, _, _, rfl, rfl, Blk.new (w := w.drew) rfl, hge, hcm, ?_, ?_⟩⟩
        · simp only [Array.size_append, List.size_toArray, size_zeroCells, hzs, hown.1, hl, ← Nat.add_mul, Nat.zero_add]
          refine Nat.mul_le_mul_right _ (by omega)
        · simp only [List.drop_zero, Array.toList_append, List.append_assoc]
          rw [← List.append_assoc, ← hlen]
          exact List.take_left
      rcases hown.2 with ⟨rfl, rfl, rfl⟩ | ⟨b, off, c0, cur, rfl, rfl, hb, hnc, hcm0, hcs, htk⟩
      · have hx : xs = [] := List.eq_nil_of_length_eq_zero (by simpa using hown.1)
        subst hx
        have hr := run_append_nil (P := P) w t ty e i z ht hi hz a m c news hl hcell hm (by omega) (by have hb := hbytes; simp only [Nat.zero_add] at hb; omega)
        have hgr := grown 0 (by omega)
        simp only [Nat.zero_add, List.nil_append, Array.empty_append] at hgr ⊢
        exact ⟨_, _, _, hr, hgr, (Keeps.refl _ _).drew.alloc _, .inr rfl⟩
      · by_cases hroom : n + m ≤ c0
        · have hfit : off + n * i.size + news.length ≤ cur.size := by
            have h2 : n * i.size + m * i.size ≤ c0 * i.size := by rw [← Nat.add_mul]; exact Nat.mul_le_mul_right _ hroom
            rw [hl]; omega
          have hr := run_append_room_off (P := P) (w := w) t ty e i ht hi b off n c0 cur hb a m c news hl hcell h1 hroom hfit
          refine ⟨_, _, some b, hr, ⟨hlen, .inr ⟨b, off, c0, _, rfl, rfl, setRow_heap w b cur _ e _ hb, hroom, hcm0, ?_, ?_⟩⟩, ?_, .inl rfl⟩
          · simp only [List.size_toArray, List.length_append, List.length_take, List.length_drop, Array.length_toList]
            omega
          · have hlt : (cur.toList.take (off + n * i.size)).length = off + n * i.size := by simp; omega
            have e1 : ((cur.toList.take (off + n * i.size) ++ news ++ cur.toList.drop (off + n * i.size + news.length)).drop off).take ((n + m) * i.size) = (cur.toList.take (off + n * i.size)).drop off ++ news := by
              rw [List.append_assoc, List.drop_append_of_le_length (by omega), Nat.add_mul, ← hl, ← List.append_assoc]
              have hll : ((cur.toList.take (off + n * i.size)).drop off ++ news).length = n * i.size + news.length := by rw [List.length_append, List.length_drop, hlt]; omega
              rw [← hll]
              exact List.take_left
            rw [e1, ← htk, List.drop_take]
            congr 2
            omega
          · exact ⟨rfl, rfl, rfl, by simp [World.setRow], fun k _ hk => setRow_other w b k _ (fun e => hk (by rw [e])), Nat.le_refl _⟩
        · have holds : ∀ j u, xs[j]? = some u → w.cell? ((⟨b, off, none⟩ : Addr).add j) = some u := by
            intro j u hu
            rw [Addr.add_lit]
            obtain ⟨_, ao', c', h1', _, _, _, h5⟩ := hown.sl
            simp only [Value.slice.injEq] at h1'
            obtain ⟨rfl, _, rfl⟩ := h1'
            have hn0 : 0 < n := by
              rcases Nat.eq_zero_or_pos n with h0 | h0
              · subst h0
                have hx : xs = [] := List.eq_nil_of_length_eq_zero (by simpa using hown.1)
                rw [hx] at hu
                simp at hu
              · exact h0
            exact (h5 _ rfl hn0).2.2 j u hu
          have hr := run_append_grow (P := P) w t ty e i z ht hi hz ⟨b, off, none⟩ n c0 xs hown.1 holds a m c news hl hcell (by omega) h63' (growslice_fits (by omega) hbytes)
          exact ⟨_, _, _, hr, grown c0 (by omega), (Keeps.refl _ _).drew.alloc _, .inr rfl⟩
end
/-- At the operation. -/
theorem wp_append_Own {P : Program} {w : World} {o : Oper} {a : Act} {K : Act → World → Prop} {Q : Exit → Act → World → Prop} (s x : Operand) (t : TypeId)
    (ho : o.op = .call { callee := .builtin .append, args := #[s, x], argTypes := #[t, t] })
    (e : TypeId) (i : TypeInfo) (z : Value) (size bytes : Nat) (ht : P.underlying t = some (.slice e)) (hi : P.info? e = some i) (hz : i.zero = some z)
    (hsize : i.size = size) (hby : i.bytes = bytes) (hzs : z.cells.size = size)
    (v : Value) (n : Nat) (xs : List Value) (g : Option Nat) (hown : Own w e size v n xs g) (hs : a.eval s = v)
    (xv : Value) (m : Nat) (news : List Value) (hx : a.eval x = xv) (hsrc : SlAt w xv m size news) (h1 : ∀ u ∈ news, u.oneCell' = true)
    (h63 : n + m ≤ maxLen) (hbytes : (n + m) * bytes ≤ 140737488355328)
    (h : ∀ v' w' g', Own w' e size v' (n + m) (xs ++ news) g' → Keeps (fun b => g = some b) w w' → (g' = g ∨ g' = some w.heap.size) → K (a.put o.dst v') w') : o.wp P a w K Q := by
  obtain ⟨v', w', g', hr, h2, h3, h4⟩ := run_append_Own (P := P) (w := w) t o.type e i z size bytes ht hi hz hsize hby hzs v n xs g hown xv m news hsrc h1 h63 hbytes
  unfold Oper.wp execOp
  simp only [ho, resolve, invoke, builtin, Sem.run_bind, Sem.run_pure, Result.andThen_ok, List.map_toArray, List.map_cons, List.map_nil, hs, hx, hr]
  exact h v' w' g' h2 h3 h4
theorem wpList_append_Own {P : Program} {w : World} {ops : Array Oper} {rest : List Oper} {o : Oper} {a : Act} {Q : Exit → Act → World → Prop} (hgd : Region.wanted o (yielded ops a.tmps) = true) (s x : Operand) (t : TypeId)
    (ho : o.op = .call { callee := .builtin .append, args := #[s, x], argTypes := #[t, t] })
    (e : TypeId) (i : TypeInfo) (z : Value) (size bytes : Nat) (ht : P.underlying t = some (.slice e)) (hi : P.info? e = some i) (hz : i.zero = some z)
    (hsize : i.size = size) (hby : i.bytes = bytes) (hzs : z.cells.size = size)
    (v : Value) (n : Nat) (xs : List Value) (g : Option Nat) (hown : Own w e size v n xs g) (hs : a.eval s = v)
    (xv : Value) (m : Nat) (news : List Value) (hx : a.eval x = xv) (hsrc : SlAt w xv m size news) (h1 : ∀ u ∈ news, u.oneCell' = true)
    (h63 : n + m ≤ maxLen) (hbytes : (n + m) * bytes ≤ 140737488355328)
    (h : ∀ v' w' g', Own w' e size v' (n + m) (xs ++ news) g' → Keeps (fun b => g = some b) w w' → (g' = g ∨ g' = some w.heap.size) → wpList P ops Q rest (a.put o.dst v') w') : wpList P ops Q (o :: rest) a w :=
  wpList_step fun K hK => by
    rw [if_pos hgd]
    exact wp_append_Own s x t ho e i z size bytes ht hi hz hsize hby hzs v n xs g hown hs xv m news hx hsrc h1 h63 hbytes fun v' w' g' h2 h3 h4 => hK _ _ (h v' w' g' h2 h3 h4)
theorem step_append_Own {P : Program} {w : World} {ops : Array Oper} {o : Oper} {a : Act} {K : Act → World → Prop} {Q : Exit → Act → World → Prop} {E : Prop} (hgd : Region.wanted o (yielded ops a.tmps) = true) (s x : Operand) (t : TypeId)
    (ho : o.op = .call { callee := .builtin .append, args := #[s, x], argTypes := #[t, t] })
    (e : TypeId) (i : TypeInfo) (z : Value) (size bytes : Nat) (ht : P.underlying t = some (.slice e)) (hi : P.info? e = some i) (hz : i.zero = some z)
    (hsize : i.size = size) (hby : i.bytes = bytes) (hzs : z.cells.size = size)
    (v : Value) (n : Nat) (xs : List Value) (g : Option Nat) (hown : Own w e size v n xs g) (hs : a.eval s = v)
    (xv : Value) (m : Nat) (news : List Value) (hx : a.eval x = xv) (hsrc : SlAt w xv m size news) (h1 : ∀ u ∈ news, u.oneCell' = true)
    (h63 : n + m ≤ maxLen) (hbytes : (n + m) * bytes ≤ 140737488355328)
    (h : ∀ v' w' g', Own w' e size v' (n + m) (xs ++ news) g' → Keeps (fun b => g = some b) w w' → (g' = g ∨ g' = some w.heap.size) → K (a.put o.dst v') w') :
    if Region.wanted o (yielded ops a.tmps) = true then Oper.wp P o a w K Q else E := by
  rw [if_pos hgd]
  exact wp_append_Own s x t ho e i z size bytes ht hi hz hsize hby hzs v n xs g hown hs xv m news hx hsrc h1 h63 hbytes h
/-- An empty literal slice. -/
theorem Own.empty {W : World} {g : Nat} {e : TypeId} {sz : Nat} (hg : W.heap[g]? = some (.cells #[] e (0, 0))) : Own W e sz (.slice (some ⟨g, 0, none⟩) 0 0) 0 [] (some g) :=
  ⟨by simp, .inr ⟨g, 0, 0, #[], rfl, rfl, hg, Nat.le_refl _, Nat.zero_le _, by simp, by simp⟩⟩
/-- A literal slice over its own block. -/
theorem Own.lit {W : World} {g n : Nat} {e : TypeId} {sz : Nat} {cs : Array Value} (hg : Blk W g e cs) (hn : cs.size = n * sz) (hc : n ≤ maxLen) : Own W e sz (.slice (some ⟨g, 0, none⟩) n n) n cs.toList (some g) :=
  ⟨by simpa using hn, .inr ⟨g, 0, n, cs, rfl, rfl, hg, Nat.le_refl _, hc, by omega, by rw [List.drop_zero]; exact List.take_of_length_le (by simp [hn])⟩⟩
end Go.Proofs.YtbhnbnecaejjiaaDoor
