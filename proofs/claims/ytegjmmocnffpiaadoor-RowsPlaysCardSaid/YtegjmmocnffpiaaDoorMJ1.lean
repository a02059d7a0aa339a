/- Contracts of functions that only read (and make). -/
import Derived.WalkKit
import Derived.ProofKit
import Derived.OpenShut
import Derived.Lib.Hide
import Derived.Handy
import Derived.WalkSmall
import Derived.Maps.AppendAt
import Derived.Deep.RegionHeld3
import Derived.Deep.RegionWith
import Derived.Deep.QuietTactic
import Derived.BigQuiet
import Derived.Deep.LoopGhost
import Derived.Deep.DeepCutAuto
import Derived.Deep.DeepMust
import Derived.Deep.RegionLaw
import Derived.WalkSpells
import Derived.Laws.Tables
import Derived.Great.BuildSlice
import Derived.OrdersHeld
import Derived.Test.YtegjmmocnffpiaaDoorProg
import Derived.Test.YtegjmmocnffpiaaDoorRows
import Derived.SizedLaws
import Derived.Deep.Slices
import Derived.Laws.BytesArg
/- Facts on memory that are of no program: slices whose cells are known, append from whatever source, what is kept. -/
namespace Go.Proofs.YtegjmmocnffpiaaDoor
open Go.RowKit
theorem ret_int {k : IntKind} {a b : Int} (h : a = b) : Ending.returned (.int k a) = .returned (.int k b) := by rw [h]
theorem val_int {k : IntKind} {a b : Int} (h : a = b) : Value.int k a = .int k b := by rw [h]
theorem ret_bool {a b : Bool} (h : a = b) : Ending.returned (.bool a) = .returned (.bool b) := by rw [h]
theorem lt_add' {b n k : Nat} (h : b < n) : b < n + k := by omega
theorem lt_add'2 {b n : Nat} (h : b < n) : b < n + 1 + 1 := by omega
theorem lt_add'3 {b n : Nat} (h : b < n) : b < n + 1 + 1 + 1 := by omega
theorem lt_add'4 {b n : Nat} (h : b < n) : b < n + 1 + 1 + 1 + 1 := by omega
theorem lt_add'5 {b n : Nat} (h : b < n) : b < n + 1 + 1 + 1 + 1 + 1 := by omega
theorem lt_add'6 {b n : Nat} (h : b < n) : b < n + 1 + 1 + 1 + 1 + 1 + 1 := by omega
theorem lt_add'7 {b n : Nat} (h : b < n) : b < n + 1 + 1 + 1 + 1 + 1 + 1 + 1 := by omega
theorem lt_add'8 {b n : Nat} (h : b < n) : b < n + 1 + 1 + 1 + 1 + 1 + 1 + 1 + 1 := by omega
theorem lt_add'9 {b n : Nat} (h : b < n) : b < n + 1 + 1 + 1 + 1 + 1 + 1 + 1 + 1 + 1 := by omega
theorem lt_add'10 {b n : Nat} (h : b < n) : b < n + 1 + 1 + 1 + 1 + 1 + 1 + 1 + 1 + 1 + 1 := by omega
theorem lt_add'11 {b n : Nat} (h : b < n) : b < n + 1 + 1 + 1 + 1 + 1 + 1 + 1 + 1 + 1 + 1 + 1 := by omega
theorem lt_add'12 {b n : Nat} (h : b < n) : b < n + 1 + 1 + 1 + 1 + 1 + 1 + 1 + 1 + 1 + 1 + 1 + 1 := by omega
attribute [go_sem] lt_add' lt_add'2 lt_add'3 lt_add'4 lt_add'5 lt_add'6 lt_add'7 lt_add'8 lt_add'9 lt_add'10 lt_add'11 lt_add'12
/-- A slice value of n elements, sz cells each, whose cells are xs. -/
def SlAt (w : World) (v : Value) (n sz : Nat) (xs : List Value) : Prop :=
  xs.length = n * sz ∧ ∃ ao c, v = .slice ao n c ∧ n ≤ c ∧ c ≤ maxLen ∧ (ao = none → n = 0 ∧ c = 0) ∧
    ∀ a, ao = some a → 0 < n → a.spot = none ∧ a.block < w.heap.size ∧ ∀ j u, xs[j]? = some u → w.cell? ⟨a.block, a.off + j, none⟩ = some u
theorem SlAt.nil (w : World) (sz : Nat) : SlAt w (.slice none 0 0) 0 sz [] :=
  ⟨by simp, none, 0, rfl, Nat.le_refl _, Nat.zero_le _, fun _ => ⟨rfl, rfl⟩, fun a h => by cases h⟩
theorem SlAt.mk (w : World) (b off n c sz : Nat) (xs : List Value) (hx : xs.length = n * sz) (hn : n ≤ c) (hc : c ≤ maxLen) (hb : b < w.heap.size) (h : ∀ j u, xs[j]? = some u → w.cell? ⟨b, off + j, none⟩ = some u) :
    SlAt w (.slice (some ⟨b, off, none⟩) n c) n sz xs :=
  ⟨hx, some ⟨b, off, none⟩, c, rfl, hn, hc, fun h => (by cases h), fun a ha _ => by cases ha; exact ⟨rfl, hb, h⟩⟩
theorem SlAt.of {w W : World} {v : Value} {n sz : Nat} {xs : List Value} (h : SlAt w v n sz xs) (hs : w.heap.size ≤ W.heap.size) (hk : ∀ k, k < w.heap.size → W.heap[k]? = w.heap[k]?) : SlAt W v n sz xs := by
  obtain ⟨h0, ao, c, h1, h2, h3, h4, h5⟩ := h
  refine ⟨h0, ao, c, h1, h2, h3, h4, fun a ha hn => ?_⟩
  obtain ⟨g1, g2, g3⟩ := h5 a ha hn
  refine ⟨g1, Nat.lt_of_lt_of_le g2 hs, fun j u hu => ?_⟩
  rw [World.cell?_of_block (w := w) (a := ⟨a.block, a.off + j, none⟩) (hk a.block g2)]
  exact g3 j u hu
theorem SlAt.below {w W : World} {v : Value} {n sz : Nat} {xs : List Value} (h : SlAt w v n sz xs) (hb : Below w.heap.size w W) : SlAt W v n sz xs := h.of hb.size hb.block
theorem SlAt.alloc {w : World} {v : Value} {n sz : Nat} {xs : List Value} (h : SlAt w v n sz xs) (o : Obj) : SlAt (w.alloc o) v n sz xs := h.below ((Below.refl _ _).alloc (Nat.le_refl _) _)
theorem SlAt.drew {w : World} {v : Value} {n sz : Nat} {xs : List Value} (h : SlAt w v n sz xs) : SlAt w.drew v n sz xs := h
theorem SlAt.ofOwn {w : World} {base : Nat} {e : TypeId} {v : Value} {n sz : Nat} {xs : List Value} (h : w.ownsRow base e sz v n xs) : SlAt w v n sz xs := by
  refine ⟨h.1, ?_⟩
  rcases h.2 with ⟨rfl, rfl⟩ | ⟨g, cap, cur, rfl, hb, hg, hn, hc, hs, htk⟩
  · exact ⟨none, 0, rfl, Nat.le_refl _, Nat.zero_le _, fun _ => ⟨rfl, rfl⟩, fun a h => by cases h⟩
  · refine ⟨some ⟨g, 0, none⟩, cap, rfl, hn, hc, fun h => (by cases h), fun a ha _ => ?_⟩
    cases ha
    refine ⟨rfl, (Array.getElem?_eq_some_iff.1 hg).1, fun j u hu => ?_⟩
    rw [Nat.zero_add, cell_of_row w g j cur e (0, 0) hg]
    rw [← htk, List.getElem?_take] at hu
    split at hu
    · simpa using hu
    · cases hu
theorem grown_refl (w : World) (r : Option Nat) : w.grownBy w r := ⟨rfl, rfl, rfl, Nat.le_refl _, fun _ _ _ => rfl⟩
/-! What a block is, step by step back through a world that is written out. -/
theorem hx_new {w : World} {o : Obj} {g : Nat} (h : g = w.heap.size) : (w.alloc o).heap[g]? = some o := by subst h; exact heap_alloc_new w o
theorem hx_alloc {w : World} {o x : Obj} {g : Nat} (h : w.heap[g]? = some x) : (w.alloc o).heap[g]? = some x := by
  rw [Below.heap_alloc w o g (Array.getElem?_eq_some_iff.1 h).1]; exact h
theorem hx_drew {w : World} {x : Obj} {g : Nat} (h : w.heap[g]? = some x) : w.drew.heap[g]? = some x := h
theorem hx_set {w : World} {x : Obj} {g : Nat} {a : Addr} {v : Value} (h : w.heap[g]? = some x) (hne : g ≠ a.block) : (w.setCell a v).heap[g]? = some x := by
  rw [Below.heap_setCell _ _ _ _ hne]; exact h
theorem hx_grown {w w' : World} {x : Obj} {g : Nat} {r : Option Nat} (hg : w.grownBy w' r) (h : w.heap[g]? = some x) (hne : some g ≠ r) : w'.heap[g]? = some x := by
  rw [hg.block g (Array.getElem?_eq_some_iff.1 h).1 hne]; exact h
theorem hx_below {w w' : World} {x : Obj} {g B : Nat} (hb : Below B w w') (h : w.heap[g]? = some x) (hne : g < B) : w'.heap[g]? = some x := by
  rw [hb.block g hne]; exact h
/-- An empty row that lies anywhere from base on. -/
theorem own_empty {W : World} {base g : Nat} {e : TypeId} {sz : Nat} (hb : base ≤ g) (hg : W.heap[g]? = some (.cells #[] e (0, 0))) : W.ownsRow base e sz (.slice (some ⟨g, 0, none⟩) 0 0) 0 [] :=
  ⟨by simp, .inr ⟨g, 0, #[], rfl, hb, hg, Nat.le_refl _, Nat.zero_le _, by simp, by simp⟩⟩
/-- A slice over a block that is known whole. -/
theorem SlAt.block {W : World} {g n sz : Nat} {e : TypeId} {fr : Nat × Nat} (cs : Array Value) (xs : List Value) (hx : cs.toList = xs) (hg : W.heap[g]? = some (.cells cs e fr)) (hn : xs.length = n * sz) (hc : n ≤ maxLen) : SlAt W (.slice (some ⟨g, 0, none⟩) n n) n sz xs := by
  refine SlAt.mk W g 0 n n sz xs hn (Nat.le_refl _) hc (Array.getElem?_eq_some_iff.1 hg).1 (fun j u hu => ?_)
  rw [Nat.zero_add, cell_of_row W g j cs e fr hg]
  rw [← hx] at hu
  simpa using hu
theorem Below.grown' {B : Nat} {a w w' : World} {e : TypeId} {sz base n : Nat} {xs : List Value} {v : Value} (h : Below B a w) (hg : w.grownBy w' v.ownBlock) (hB : B ≤ w.heap.size) (ho : w.ownsRow base e sz v n xs) (hb : B ≤ base) : Below B a w' :=
  h.grown hg hB (fun k hk => Nat.le_trans hb (ho.lt k hk).1)
/-- append onto a slice that the call owns, of whatever source. -/
theorem wp_append_src {P : Program} {w : World} {o : Oper} {a : Act} {K : Act → World → Prop} {Q : Exit → Act → World → Prop} (s x : Operand) (t : TypeId)
    (ho : o.op = .call { callee := .builtin .append, args := #[s, x], argTypes := #[t, t] })
    (base : Nat) (e : TypeId) (i : TypeInfo) (z : Value) (size bytes : Nat) (ht : P.underlying t = some (.slice e)) (hi : P.info? e = some i) (hz : i.zero = some z)
    (hsize : i.size = size) (hby : i.bytes = bytes) (hzs : z.cells.size = size) (hsz : 0 < size)
    (v : Value) (n : Nat) (xs : List Value) (hown : w.ownsRow base e size v n xs) (hs : a.eval s = v)
    (xv : Value) (m : Nat) (news : List Value) (hx : a.eval x = xv) (hsrc : SlAt w xv m size news) (h1 : ∀ u ∈ news, u.oneCell' = true)
    (h63 : n + m ≤ maxLen) (hbytes : (n + m) * bytes ≤ 140737488355328) (hbase : base ≤ w.heap.size)
    (h : ∀ v' w', w'.ownsRow base e size v' (n + m) (xs ++ news) → w.grownBy w' v.ownBlock → (v'.ownBlock = v.ownBlock ∨ v'.ownBlock = some w.heap.size) → K (a.put o.dst v') w') : o.wp P a w K Q := by
  obtain ⟨hl, ao, c, rfl, hmc, hcm, hnone, hsome⟩ := hsrc
  cases ao with
  | none =>
    obtain ⟨rfl, rfl⟩ := hnone rfl
    have hnews : news = [] := List.eq_nil_of_length_eq_zero (by simpa using hl)
    subst hnews
    have hrun := run_append_owned_none (P := P) w base t o.type e i size ht hi v n xs hown
    unfold Oper.wp
    simp [execOp, ho, resolve, invoke, builtin, hs, hx, hrun, Result.andThen]
    exact h v w (by simpa using hown) (grown_refl w _) (Or.inl rfl)
  | some ad =>
    have hcell : ∀ j u, news[j]? = some u → w.cell? (ad.add j) = some u := by
      intro j u hu
      have hm0 : 0 < m := by
        rcases Nat.eq_zero_or_pos m with h0 | h0
        · subst h0
          have hn : news = [] := List.eq_nil_of_length_eq_zero (by simpa using hl)
          rw [hn] at hu
          simp at hu
        · exact h0
      obtain ⟨g1, g2, g3⟩ := hsome ad rfl hm0
      have := g3 j u hu
      have e : ad = ⟨ad.block, ad.off, none⟩ := by rw [← g1]
      rw [e, Addr.add_lit]
      exact this
    obtain ⟨v', w', hr, h2, h3, _, h5⟩ := run_append_own_at (P := P) w base t o.type e i z size bytes ht hi hz hsize hby hzs hsz v n xs hown ad m c news hl hcell h1 h63 hbytes hbase
    unfold Oper.wp execOp
    simp only [ho, resolve, invoke, builtin, Sem.run_bind, Sem.run_pure, Result.andThen_ok, List.map_toArray, List.map_cons, List.map_nil, hs, hx, hr]
    exact h v' w' h2 h3 h5
/-- The same at a list of operations. -/
theorem wpList_append_src {P : Program} {w : World} {ops : Array Oper} {rest : List Oper} {o : Oper} {a : Act} {Q : Exit → Act → World → Prop} (hgd : Region.wanted o (yielded ops a.tmps) = true) (s x : Operand) (t : TypeId)
    (ho : o.op = .call { callee := .builtin .append, args := #[s, x], argTypes := #[t, t] })
    (base : Nat) (e : TypeId) (i : TypeInfo) (z : Value) (size bytes : Nat) (ht : P.underlying t = some (.slice e)) (hi : P.info? e = some i) (hz : i.zero = some z)
    (hsize : i.size = size) (hby : i.bytes = bytes) (hzs : z.cells.size = size) (hsz : 0 < size)
    (v : Value) (n : Nat) (xs : List Value) (hown : w.ownsRow base e size v n xs) (hs : a.eval s = v)
    (xv : Value) (m : Nat) (news : List Value) (hx : a.eval x = xv) (hsrc : SlAt w xv m size news) (h1 : ∀ u ∈ news, u.oneCell' = true)
    (h63 : n + m ≤ maxLen) (hbytes : (n + m) * bytes ≤ 140737488355328) (hbase : base ≤ w.heap.size)
    (h : ∀ v' w', w'.ownsRow base e size v' (n + m) (xs ++ news) → w.grownBy w' v.ownBlock → (v'.ownBlock = v.ownBlock ∨ v'.ownBlock = some w.heap.size) → wpList P ops Q rest (a.put o.dst v') w') : wpList P ops Q (o :: rest) a w :=
  wpList_step fun K hK => by
    rw [if_pos hgd]
    exact wp_append_src s x t ho base e i z size bytes ht hi hz hsize hby hzs hsz v n xs hown hs xv m news hx hsrc h1 h63 hbytes hbase fun v' w' h2 h3 h4 => hK _ _ (h v' w' h2 h3 h4)
/-- The same at a step of a region that draws its order. -/
theorem step_append_src {P : Program} {w : World} {ops : Array Oper} {o : Oper} {a : Act} {K : Act → World → Prop} {Q : Exit → Act → World → Prop} {E : Prop} (hgd : Region.wanted o (yielded ops a.tmps) = true) (s x : Operand) (t : TypeId)
    (ho : o.op = .call { callee := .builtin .append, args := #[s, x], argTypes := #[t, t] })
    (base : Nat) (e : TypeId) (i : TypeInfo) (z : Value) (size bytes : Nat) (ht : P.underlying t = some (.slice e)) (hi : P.info? e = some i) (hz : i.zero = some z)
    (hsize : i.size = size) (hby : i.bytes = bytes) (hzs : z.cells.size = size) (hsz : 0 < size)
    (v : Value) (n : Nat) (xs : List Value) (hown : w.ownsRow base e size v n xs) (hs : a.eval s = v)
    (xv : Value) (m : Nat) (news : List Value) (hx : a.eval x = xv) (hsrc : SlAt w xv m size news) (h1 : ∀ u ∈ news, u.oneCell' = true)
    (h63 : n + m ≤ maxLen) (hbytes : (n + m) * bytes ≤ 140737488355328) (hbase : base ≤ w.heap.size)
    (h : ∀ v' w', w'.ownsRow base e size v' (n + m) (xs ++ news) → w.grownBy w' v.ownBlock → (v'.ownBlock = v.ownBlock ∨ v'.ownBlock = some w.heap.size) → K (a.put o.dst v') w') :
    if Region.wanted o (yielded ops a.tmps) = true then Oper.wp P o a w K Q else E := by
  rw [if_pos hgd]
  exact wp_append_src s x t ho base e i z size bytes ht hi hz hsize hby hzs hsz v n xs hown hs xv m news hx hsrc h1 h63 hbytes hbase h
end Go.Proofs.YtegjmmocnffpiaaDoor
/- Slices that a call owns, at whatever offset in their block; append onto them; what is kept of the rest of memory. Of no program. -/
namespace Go.Proofs.YtegjmmocnffpiaaDoor
open Go.RowKit
/-- Blocks that were there, and of which F does not speak, are as they were. -/
structure Keeps (F : Nat → Prop) (w w' : World) : Prop where
  os : w'.os = w.os
  tape : w'.tape = w.tape
  output : w'.output = w.output
  size : w.heap.size ≤ w'.heap.size
  block : ∀ k, k < w.heap.size → ¬ F k → w'.heap[k]? = w.heap[k]?
  drawn : w.drawn ≤ w'.drawn
theorem Keeps.refl (F : Nat → Prop) (w : World) : Keeps F w w := ⟨rfl, rfl, rfl, Nat.le_refl _, fun _ _ _ => rfl, Nat.le_refl _⟩
theorem Keeps.trans {F : Nat → Prop} {a b c : World} (h : Keeps F a b) (k : Keeps F b c) : Keeps F a c :=
  ⟨k.os.trans h.os, k.tape.trans h.tape, k.output.trans h.output, Nat.le_trans h.size k.size, fun i hi hF => (k.block i (Nat.lt_of_lt_of_le hi h.size) hF).trans (h.block i hi hF), Nat.le_trans h.drawn k.drawn⟩
theorem Keeps.mono {F G : Nat → Prop} {w w' : World} (h : Keeps F w w') (hFG : ∀ k, k < w.heap.size → F k → G k) : Keeps G w w' :=
  ⟨h.os, h.tape, h.output, h.size, fun k hk hG => h.block k hk (fun hF => hG (hFG k hk hF)), h.drawn⟩
theorem Keeps.drew {F : Nat → Prop} {a w : World} (h : Keeps F a w) : Keeps F a w.drew := ⟨h.os, h.tape, h.output, h.size, h.block, Nat.le_succ_of_le h.drawn⟩
theorem Keeps.drewN {F : Nat → Prop} {a w : World} (h : Keeps F a w) (n : Nat) : Keeps F a (w.drewN n) := h.trans ⟨rfl, rfl, rfl, Nat.le_refl _, fun _ _ _ => rfl, Nat.le_add_right _ _⟩
theorem Keeps.alloc {F : Nat → Prop} {a w : World} (h : Keeps F a w) (o : Obj) : Keeps F a (w.alloc o) :=
  h.trans ⟨rfl, rfl, rfl, by simp, fun k hk _ => Below.heap_alloc _ _ _ hk, Nat.le_refl _⟩
theorem Keeps.setCell {F : Nat → Prop} {a w : World} (h : Keeps F a w) {p : Addr} (hp : F p.block ∨ a.heap.size ≤ p.block) (u : Value) : Keeps F a (w.setCell p u) :=
  ⟨h.os, h.tape, h.output, by have := h.size; simp [World.setCell]; omega, fun k hk hF => by
    rw [Below.heap_setCell _ _ _ _ (fun e => by subst e; rcases hp with hp | hp; exact hF hp; omega)]
    exact h.block k hk hF, h.drawn⟩
theorem Keeps.below {F : Nat → Prop} {w w' : World} (h : Keeps F w w') {B : Nat} (hB : B ≤ w.heap.size) (hF : ∀ k, F k → B ≤ k) : Below B w w' :=
  ⟨h.os, h.tape, h.output, h.size, fun k hk => h.block k (by omega) (fun hk' => by have := hF k hk'; omega)⟩
/-- Nothing that was there when a began has changed by the second step if that changed only what is new, or of F. -/
theorem Keeps.trans' {F G : Nat → Prop} {a b c : World} (h : Keeps F a b) (k : Keeps G b c) (hG : ∀ i, i < a.heap.size → G i → F i) : Keeps F a c :=
  ⟨k.os.trans h.os, k.tape.trans h.tape, k.output.trans h.output, Nat.le_trans h.size k.size, fun i hi hF => (k.block i (Nat.lt_of_lt_of_le hi h.size) (fun hg => hF (hG i hi hg))).trans (h.block i hi hF), Nat.le_trans h.drawn k.drawn⟩
theorem bl_alloc {a w : World} (h : Below a.heap.size a w) (o : Obj) : Below a.heap.size a (w.alloc o) := h.alloc h.size o
theorem bl_drewN {B : Nat} {a w : World} (h : Below B a w) (n : Nat) : Below B a (w.drewN n) := h.trans ⟨rfl, rfl, rfl, Nat.le_refl _, fun _ _ => rfl⟩
theorem bl_set {a w : World} (h : Below a.heap.size a w) {p : Addr} (hp : a.heap.size ≤ p.block) (u : Value) : Below a.heap.size a (w.setCell p u) := h.setCell hp u
theorem bl_trans {a b c : World} (h : Below a.heap.size a b) (k : Below b.heap.size b c) : Below a.heap.size a c := h.trans (k.mono h.size)
/-- A block that is known whole, writable. -/
def Blk (w : World) (b : Nat) (e : TypeId) (cs : Array Value) : Prop := w.heap[b]? = some (.cells cs e (0, 0))
theorem Blk.lt {w : World} {b : Nat} {e : TypeId} {cs : Array Value} (h : Blk w b e cs) : b < w.heap.size := (Array.getElem?_eq_some_iff.1 h).1
theorem Blk.cell {w : World} {b : Nat} {e : TypeId} {cs : Array Value} (h : Blk w b e cs) : ∀ o, w.cell? ⟨b, o, none⟩ = cs[o]? := fun o => cell_of_row w b o cs e (0, 0) h
theorem Blk.frozen {w : World} {b : Nat} {e : TypeId} {cs : Array Value} (h : Blk w b e cs) : ∀ o, w.frozen? ⟨b, o, none⟩ = false := fun o => frozen_of_row w b o cs e h
theorem Blk.keeps {F : Nat → Prop} {w w' : World} {b : Nat} {e : TypeId} {cs : Array Value} (h : Blk w b e cs) (hk : Keeps F w w') (hF : ¬ F b) : Blk w' b e cs := (hk.block b h.lt hF).trans h
theorem Blk.below {B : Nat} {w w' : World} {b : Nat} {e : TypeId} {cs : Array Value} (h : Blk w b e cs) (hk : Below B w w') (hF : b < B) : Blk w' b e cs := (hk.block b hF).trans h
theorem Blk.alloc {w : World} {b : Nat} {e : TypeId} {cs : Array Value} (h : Blk w b e cs) (o : Obj) : Blk (w.alloc o) b e cs := hx_alloc h
theorem Blk.drew {w : World} {b : Nat} {e : TypeId} {cs : Array Value} (h : Blk w b e cs) : Blk w.drew b e cs := h
theorem Blk.drewN {w : World} {b : Nat} {e : TypeId} {cs : Array Value} (h : Blk w b e cs) (n : Nat) : Blk (w.drewN n) b e cs := h
theorem Blk.new {w : World} {e : TypeId} {cs : Array Value} {b : Nat} (h : b = w.heap.size) : Blk (w.alloc (.cells cs e)) b e cs := hx_new h
theorem Blk.set {w : World} {b : Nat} {e : TypeId} {cs : Array Value} (h : Blk w b e cs) (o : Nat) (u : Value) : Blk (w.setCell ⟨b, o, none⟩ u) b e (cs.setIfInBounds o u) := heap_setCell_same w b o cs e u h
theorem Blk.setOther {w : World} {b : Nat} {e : TypeId} {cs : Array Value} (h : Blk w b e cs) {a : Addr} (hne : b ≠ a.block) (u : Value) : Blk (w.setCell a u) b e cs := hx_set h hne
/-- A slice value of n elements (sz cells each) that owns its cells xs, in block g (none: nil). -/
def Own (w : World) (e : TypeId) (sz : Nat) (v : Value) (n : Nat) (xs : List Value) (g : Option Nat) : Prop :=
  xs.length = n * sz ∧ ((v = .slice none 0 0 ∧ n = 0 ∧ g = none) ∨
    ∃ b off c cur, v = .slice (some ⟨b, off, none⟩) n c ∧ g = some b ∧ Blk w b e cur ∧ n ≤ c ∧ c ≤ maxLen ∧ off + c * sz ≤ cur.size ∧ (cur.toList.drop off).take (n * sz) = xs)
theorem Own.nil (w : World) (e : TypeId) (sz : Nat) : Own w e sz (.slice none 0 0) 0 [] none := ⟨by simp, .inl ⟨rfl, rfl, rfl⟩⟩
theorem Own.lt {w : World} {e : TypeId} {sz : Nat} {v : Value} {n : Nat} {xs : List Value} {g : Option Nat} (h : Own w e sz v n xs g) : ∀ b, g = some b → b < w.heap.size := by
  intro b hb
  rcases h.2 with ⟨_, _, h3⟩ | ⟨b', off, c, cur, _, h2, h3, _⟩
  · rw [h3] at hb; cases hb
  · rw [h2] at hb; cases hb; exact h3.lt
theorem Own.of {w w' : World} {e : TypeId} {sz : Nat} {v : Value} {n : Nat} {xs : List Value} {g : Option Nat} (h : Own w e sz v n xs g) (hk : ∀ b, g = some b → w'.heap[b]? = w.heap[b]?) : Own w' e sz v n xs g := by
  refine ⟨h.1, ?_⟩
  rcases h.2 with h | ⟨b, off, c, cur, h1, h2, h3, r⟩
  · exact .inl h
  · exact .inr ⟨b, off, c, cur, h1, h2, (hk b h2).trans h3, r⟩
theorem Own.keeps {F : Nat → Prop} {w w' : World} {e : TypeId} {sz : Nat} {v : Value} {n : Nat} {xs : List Value} {g : Option Nat} (h : Own w e sz v n xs g) (hk : Keeps F w w') (hF : ∀ b, g = some b → ¬ F b) : Own w' e sz v n xs g :=
  h.of fun b hb => hk.block b (h.lt b hb) (hF b hb)
theorem Own.alloc {w : World} {e : TypeId} {sz : Nat} {v : Value} {n : Nat} {xs : List Value} {g : Option Nat} (h : Own w e sz v n xs g) (o : Obj) : Own (w.alloc o) e sz v n xs g := h.of fun b hb => Below.heap_alloc _ _ _ (h.lt b hb)
theorem Own.drew {w : World} {e : TypeId} {sz : Nat} {v : Value} {n : Nat} {xs : List Value} {g : Option Nat} (h : Own w e sz v n xs g) : Own w.drew e sz v n xs g := h
theorem Own.setOther {w : World} {e : TypeId} {sz : Nat} {v : Value} {n : Nat} {xs : List Value} {g : Option Nat} (h : Own w e sz v n xs g) {a : Addr} (hne : g ≠ some a.block) (u : Value) : Own (w.setCell a u) e sz v n xs g :=
  h.of fun b hb => Below.heap_setCell _ _ _ _ (fun e => hne (by rw [hb, e]))
theorem Own.ofRow {w : World} {base : Nat} {e : TypeId} {sz : Nat} {v : Value} {n : Nat} {xs : List Value} (h : w.ownsRow base e sz v n xs) : Own w e sz v n xs v.ownBlock := by
  refine ⟨h.1, ?_⟩
  rcases h.2 with ⟨rfl, rfl⟩ | ⟨g, cap, cur, rfl, hb, hg, hn, hc, hs, htk⟩
  · exact .inl ⟨rfl, rfl, rfl⟩
  · exact .inr ⟨g, 0, cap, cur, rfl, rfl, hg, hn, hc, by omega, by simpa using htk⟩
/-- What an owned slice reads as. -/
theorem Own.sl {w : World} {e : TypeId} {sz : Nat} {v : Value} {n : Nat} {xs : List Value} {g : Option Nat} (h : Own w e sz v n xs g) : SlAt w v n sz xs := by
  refine ⟨h.1, ?_⟩
  rcases h.2 with ⟨rfl, rfl, _⟩ | ⟨b, off, c, cur, rfl, _, hb, hn, hc, hs, htk⟩
  · exact ⟨none, 0, rfl, Nat.le_refl _, Nat.zero_le _, fun _ => ⟨rfl, rfl⟩, fun a h => by cases h⟩
  · refine ⟨some ⟨b, off, none⟩, c, rfl, hn, hc, fun h => (by cases h), fun a ha _ => ?_⟩
    cases ha
    refine ⟨rfl, hb.lt, fun j u hu => ?_⟩
    rw [hb.cell]
    rw [← htk, List.getElem?_take] at hu
    split at hu
    · rw [List.getElem?_drop] at hu; simpa using hu
    · cases hu
theorem Own.cases {w : World} {e : TypeId} {sz : Nat} {v : Value} {n : Nat} {xs : List Value} {g : Option Nat} (h : Own w e sz v n xs g) :
    (v = .slice none 0 0 ∧ n = 0 ∧ xs = [] ∧ g = none) ∨ ∃ b off c, v = .slice (some ⟨b, off, none⟩) n c ∧ g = some b ∧ n ≤ c ∧ c ≤ maxLen ∧ b < w.heap.size ∧ (∀ j, j < n * sz → w.cell? ⟨b, off + j, none⟩ = xs[j]?) ∧ (∀ j, w.frozen? ⟨b, j, none⟩ = false) := by
  rcases h.2 with ⟨rfl, rfl, h3⟩ | ⟨b, off, c, cur, h1, h2, h3, h4, h5, h6, h7⟩
  · exact .inl ⟨rfl, rfl, List.eq_nil_of_length_eq_zero (by simpa using h.1), h3⟩
  · refine .inr ⟨b, off, c, h1, h2, h4, h5, h3.lt, fun j hj => ?_, h3.frozen⟩
    rw [h3.cell, ← h7, List.getElem?_take, if_pos hj, List.getElem?_drop]
    simp
/-- One store within the length. -/
theorem Own.stored {w : World} {e : TypeId} {sz : Nat} {b off n c : Nat} {xs : List Value} {g : Option Nat} (h : Own w e sz (.slice (some ⟨b, off, none⟩) n c) n xs g) (j : Nat) (u : Value) :
    Own (w.setCell ⟨b, off + j, none⟩ u) e sz (.slice (some ⟨b, off, none⟩) n c) n (xs.set j u) g := by
  refine ⟨by simpa using h.1, ?_⟩
  rcases h.2 with ⟨h1, _⟩ | ⟨b', off', c', cur, h1, h2, h3, h4, h5, h6, h7⟩
  · cases h1
  · simp only [Value.slice.injEq, Option.some.injEq, Addr.mk.injEq, and_true, true_and] at h1
    obtain ⟨⟨rfl, rfl⟩, rfl⟩ := h1
    refine .inr ⟨b, off, c, _, rfl, h2, h3.set _ u, h4, h5, by simpa using h6, ?_⟩
    rw [Array.toList_setIfInBounds, ← h7, List.drop_set, if_neg (by omega), Nat.add_sub_cancel_left, List.take_set]
/-- A slice cut at its front. -/
theorem Own.drop {w : World} {e : TypeId} {sz : Nat} {b off n c : Nat} {xs : List Value} {g : Option Nat} (h : Own w e sz (.slice (some ⟨b, off, none⟩) n c) n xs g) (k : Nat) (hk : k ≤ n) :
    Own w e sz (.slice (some ⟨b, off + k * sz, none⟩) (n - k) (c - k)) (n - k) (xs.drop (k * sz)) g := by
  have hmul : ∀ a, k ≤ a → (a - k) * sz + k * sz = a * sz := fun a ha => by rw [← Nat.add_mul]; congr 1; omega
  refine ⟨by rw [List.length_drop, h.1]; have := hmul n hk; omega, ?_⟩
  rcases h.2 with ⟨h1, _⟩ | ⟨b', off', c', cur, h1, h2, h3, h4, h5, h6, h7⟩
  · cases h1
  · simp only [Value.slice.injEq, Option.some.injEq, Addr.mk.injEq, and_true, true_and] at h1
    obtain ⟨⟨rfl, rfl⟩, rfl⟩ := h1
    have e1 := hmul c (by omega)
    have e2 := hmul n hk
    refine .inr ⟨b, off + k * sz, c - k, cur, rfl, h2, h3, by omega, by omega, by omega, ?_⟩
    rw [← h7, List.drop_take, List.drop_drop]
    congr 1
    omega
theorem Own.drop_end {w : World} {e : TypeId} {sz : Nat} {b off n : Nat} {xs : List Value} {g : Option Nat} (h : Own w e sz (.slice (some ⟨b, off, none⟩) n n) n xs g) :
    Own w e sz (.slice (some ⟨b, off, none⟩) 0 0) 0 [] g := by
  refine ⟨by simp, ?_⟩
  rcases h.2 with ⟨h1, _⟩ | ⟨b', off', c', cur, h1, h2, h3, h4, h5, h6, h7⟩
  · cases h1
  · simp only [Value.slice.injEq, Option.some.injEq, Addr.mk.injEq, and_true, true_and] at h1
    obtain ⟨⟨rfl, rfl⟩, rfl⟩ := h1
    exact .inr ⟨b, off, 0, cur, rfl, h2, h3, Nat.le_refl _, Nat.zero_le _, by omega, by simp⟩
section
variable {P : Program} {w : World}
theorem run_append_room_off (t ty e : TypeId) (i : TypeInfo) (ht : P.underlying t = some (.slice e)) (hi : P.info? e = some i)
    (g off sLen sCap : Nat) (cur : Array Value) (hg : Blk w g e cur)
    (a : Addr) (m c : Nat) (news : List Value) (hl : news.length = m * i.size) (hnews : ∀ j u, news[j]? = some u → w.cell? (a.add j) = some u) (h1 : ∀ u ∈ news, u.oneCell' = true)
    (hroom : sLen + m ≤ sCap) (hfit : off + sLen * i.size + news.length ≤ cur.size) :
    (Builtin.append_ #[t, t] ty #[.slice (some ⟨g, off, none⟩) sLen sCap, .slice (some a) m c]).run P w =
      .ok (.slice (some ⟨g, off, none⟩) (sLen + m) sCap) (w.setRow g (cur.toList.take (off + sLen * i.size) ++ news ++ cur.toList.drop (off + sLen * i.size + news.length)).toArray) := by
  have hf := run_firstCells_some (P := P) w i.size m a m c news hl hnews
  have hst := run_storeCells_at P g (off + sLen * i.size) e news 0 cur w hg (by simpa using hfit) h1
  simp only [Nat.add_zero] at hst
  simp [Builtin.append_, run_underlying ht, sizeOf, typeInfo, hi, Builtin.lenOf, hroom, hf, Addr.add_lit, hst]
theorem run_append_nothing' (t ty e : TypeId) (i : TypeInfo) (ht : P.underlying t = some (.slice e)) (hi : P.info? e = some i) (base : Option Addr) (n c : Nat) (hn : n ≤ c) (ao : Option Addr) (c' : Nat) :
    (Builtin.append_ #[t, t] ty #[.slice base n c, .slice ao 0 c']).run P w = .ok (.slice base n c) w := by
  cases ao with
  | none =>
    cases base <;> simp [Builtin.append_, run_underlying ht, sizeOf, typeInfo, hi, Builtin.lenOf, hn, Builtin.firstCells, storeCells]
  | some a =>
    have hf := run_firstCells_some (P := P) w i.size 0 a 0 c' [] (by simp) (fun j u h => by simp at h)
    cases base <;> simp [Builtin.append_, run_underlying ht, sizeOf, typeInfo, hi, Builtin.lenOf, hn, hf, storeCells]
/-- append onto an owned slice, of whatever source. -/
theorem run_append_Own (t ty e : TypeId) (i : TypeInfo) (z : Value) (size bytes : Nat) (ht : P.underlying t = some (.slice e)) (hi : P.info? e = some i) (hz : i.zero = some z)
    (hsize : i.size = size) (hby : i.bytes = bytes) (hzs : z.cells.size = size)
    (v : Value) (n : Nat) (xs : List Value) (g : Option Nat) (hown : Own w e size v n xs g)
    (xv : Value) (m : Nat) (news : List Value) (hsrc : SlAt w xv m size news) (h1 : ∀ u ∈ news, u.oneCell' = true)
    (h63 : n + m ≤ maxLen) (hbytes : (n + m) * bytes ≤ 140737488355328) :
    ∃ v' w' g', (Builtin.append_ #[t, t] ty #[v, xv]).run P w = .ok v' w' ∧ Own w' e size v' (n + m) (xs ++ news) g' ∧ Keeps (fun b => g = some b) w w' ∧ (g' = g ∨ g' = some w.heap.size) := by
  subst hsize
  subst hby
  obtain ⟨hl, ao, c, rfl, hmc, hcm, hnone, hsome⟩ := hsrc
  have hlen : (xs ++ news).length = (n + m) * i.size := by rw [List.length_append, hown.1, hl, Nat.add_mul]
  rcases Nat.eq_zero_or_pos m with rfl | hm
  · have hnews : news = [] := List.eq_nil_of_length_eq_zero (by simpa using hl)
    subst hnews
    have hnc : ∃ base c0, v = .slice base n c0 ∧ n ≤ c0 := by
      rcases hown.2 with ⟨rfl, rfl, _⟩ | ⟨b, off, c0, cur, rfl, _, _, h4, _⟩
      · exact ⟨none, 0, rfl, Nat.le_refl _⟩
      · exact ⟨_, c0, rfl, h4⟩
    obtain ⟨base, c0, rfl, hnc⟩ := hnc
    exact ⟨_, w, g, run_append_nothing' t ty e i ht hi base n c0 hnc ao c, by simpa using hown, Keeps.refl _ _, .inl rfl⟩
  · cases ao with
    | none => have := (hnone rfl).1; omega
    | some a =>
      obtain ⟨g1, g2, g3⟩ := hsome a rfl hm
      have hcell : ∀ j u, news[j]? = some u → w.cell? (a.add j) = some u := by
        intro j u hu
        have := g3 j u hu
        have e : a = ⟨a.block, a.off, none⟩ := by rw [← g1]
        rw [e, Addr.add_lit]
        exact this
      have h63' : ((n + m : Nat) : Int) ≤ 9223372036854775807 := by simp only [maxLen] at h63; omega
      -- the new row
      have grown : ∀ (old : Nat), old < n + m →
          Own (w.drew.alloc (.cells (xs.toArray ++ news.toArray ++ Builtin.zeroCells z.cells (grownCap w (n + m) old e - (n + m))) e)) e i.size
            (.slice (some ⟨w.heap.size, 0, none⟩) (n + m) (grownCap w (n + m) old e)) (n + m) (xs ++ news) (some w.heap.size) := by
        intro old ho
        have hge := grownCap_ge w (n + m) old e
        have hcm : grownCap w (n + m) old e ≤ maxLen := grownCap_le_maxLen w (n + m) old e h63
        refine ⟨hlen, .inr ⟨w.heap.size, 0, _, _, rfl, rfl, Blk.new (w := w.drew) rfl, hge, hcm, ?_, ?_⟩⟩
        · simp only [Array.size_append, List.size_toArray, size_zeroCells, hzs, hown.1, hl, ← Nat.add_mul, Nat.zero_add]
          refine Nat.mul_le_mul_right _ (by omega)
        · simp only [List.drop_zero, Array.toList_append, List.append_assoc]
          rw [← List.append_assoc, ← hlen]
          exact List.take_left
      rcases hown.2 with ⟨rfl, rfl, rfl⟩ | ⟨b, off, c0, cur, rfl, rfl, hb, hnc, hcm0, hcs, htk⟩
      · have hx : xs = [] := List.eq_nil_of_length_eq_zero (by simpa using hown.1)
        subst hx
        have hr := run_append_nil (P := P) w t ty e i z ht hi hz a m c news hl hcell hm (by omega) (by have hb := hbytes; simp only [Nat.zero_add] at hb; omega)
        have hgr := grown 0 (by omega)
        simp only [Nat.zero_add, List.nil_append, Array.empty_append] at hgr ⊢
        exact ⟨_, _, _, hr, hgr, (Keeps.refl _ _).drew.alloc _, .inr rfl⟩
      · by_cases hroom : n + m ≤ c0
        · have hfit : off + n * i.size + news.length ≤ cur.size := by
            have h2 : n * i.size + m * i.size ≤ c0 * i.size := by rw [← Nat.add_mul]; exact Nat.mul_le_mul_right _ hroom
            rw [hl]; omega
          have hr := run_append_room_off (P := P) (w := w) t ty e i ht hi b off n c0 cur hb a m c news hl hcell h1 hroom hfit
          refine ⟨_, _, some b, hr, ⟨hlen, .inr ⟨b, off, c0, _, rfl, rfl, setRow_heap w b cur _ e _ hb, hroom, hcm0, ?_, ?_⟩⟩, ?_, .inl rfl⟩
          · simp only [List.size_toArray, List.length_append, List.length_take, List.length_drop, Array.length_toList]
            omega
          · have hlt : (cur.toList.take (off + n * i.size)).length = off + n * i.size := by simp; omega
            have e1 : ((cur.toList.take (off + n * i.size) ++ news ++ cur.toList.drop (off + n * i.size + news.length)).drop off).take ((n + m) * i.size) = (cur.toList.take (off + n * i.size)).drop off ++ news := by
              rw [List.append_assoc, List.drop_append_of_le_length (by omega), Nat.add_mul, ← hl, ← List.append_assoc]
              have hll : ((cur.toList.take (off + n * i.size)).drop off ++ news).length = n * i.size + news.length := by rw [List.length_append, List.length_drop, hlt]; omega
              rw [← hll]
              exact List.take_left
            rw [e1, ← htk, List.drop_take]
            congr 2
            omega
          · exact ⟨rfl, rfl, rfl, by simp [World.setRow], fun k _ hk => setRow_other w b k _ (fun e => hk (by rw [e])), Nat.le_refl _⟩
        · have holds : ∀ j u, xs[j]? = some u → w.cell? ((⟨b, off, none⟩ : Addr).add j) = some u := by
            intro j u hu
            rw [Addr.add_lit]
            obtain ⟨_, ao', c', h1', _, _, _, h5⟩ := hown.sl
            simp only [Value.slice.injEq] at h1'
            obtain ⟨rfl, _, rfl⟩ := h1'
            have hn0 : 0 < n := by
              rcases Nat.eq_zero_or_pos n with h0 | h0
              · subst h0
                have hx : xs = [] := List.eq_nil_of_length_eq_zero (by simpa using hown.1)
                rw [hx] at hu
                simp at hu
              · exact h0
            exact (h5 _ rfl hn0).2.2 j u hu
          have hr := run_append_grow (P := P) w t ty e i z ht hi hz ⟨b, off, none⟩ n c0 xs hown.1 holds a m c news hl hcell (by omega) h63' (growslice_fits (by omega) hbytes)
          exact ⟨_, _, _, hr, grown c0 (by omega), (Keeps.refl _ _).drew.alloc _, .inr rfl⟩
end
/-- At the operation. -/
theorem wp_append_Own {P : Program} {w : World} {o : Oper} {a : Act} {K : Act → World → Prop} {Q : Exit → Act → World → Prop} (s x : Operand) (t : TypeId)
    (ho : o.op = .call { callee := .builtin .append, args := #[s, x], argTypes := #[t, t] })
    (e : TypeId) (i : TypeInfo) (z : Value) (size bytes : Nat) (ht : P.underlying t = some (.slice e)) (hi : P.info? e = some i) (hz : i.zero = some z)
    (hsize : i.size = size) (hby : i.bytes = bytes) (hzs : z.cells.size = size)
    (v : Value) (n : Nat) (xs : List Value) (g : Option Nat) (hown : Own w e size v n xs g) (hs : a.eval s = v)
    (xv : Value) (m : Nat) (news : List Value) (hx : a.eval x = xv) (hsrc : SlAt w xv m size news) (h1 : ∀ u ∈ news, u.oneCell' = true)
    (h63 : n + m ≤ maxLen) (hbytes : (n + m) * bytes ≤ 140737488355328)
    (h : ∀ v' w' g', Own w' e size v' (n + m) (xs ++ news) g' → Keeps (fun b => g = some b) w w' → (g' = g ∨ g' = some w.heap.size) → K (a.put o.dst v') w') : o.wp P a w K Q := by
  obtain ⟨v', w', g', hr, h2, h3, h4⟩ := run_append_Own (P := P) (w := w) t o.type e i z size bytes ht hi hz hsize hby hzs v n xs g hown xv m news hsrc h1 h63 hbytes
  unfold Oper.wp execOp
  simp only [ho, resolve, invoke, builtin, Sem.run_bind, Sem.run_pure, Result.andThen_ok, List.map_toArray, List.map_cons, List.map_nil, hs, hx, hr]
  exact h v' w' g' h2 h3 h4
theorem wpList_append_Own {P : Program} {w : World} {ops : Array Oper} {rest : List Oper} {o : Oper} {a : Act} {Q : Exit → Act → World → Prop} (hgd : Region.wanted o (yielded ops a.tmps) = true) (s x : Operand) (t : TypeId)
    (ho : o.op = .call { callee := .builtin .append, args := #[s, x], argTypes := #[t, t] })
    (e : TypeId) (i : TypeInfo) (z : Value) (size bytes : Nat) (ht : P.underlying t = some (.slice e)) (hi : P.info? e = some i) (hz : i.zero = some z)
    (hsize : i.size = size) (hby : i.bytes = bytes) (hzs : z.cells.size = size)
    (v : Value) (n : Nat) (xs : List Value) (g : Option Nat) (hown : Own w e size v n xs g) (hs : a.eval s = v)
    (xv : Value) (m : Nat) (news : List Value) (hx : a.eval x = xv) (hsrc : SlAt w xv m size news) (h1 : ∀ u ∈ news, u.oneCell' = true)
    (h63 : n + m ≤ maxLen) (hbytes : (n + m) * bytes ≤ 140737488355328)
    (h : ∀ v' w' g', Own w' e size v' (n + m) (xs ++ news) g' → Keeps (fun b => g = some b) w w' → (g' = g ∨ g' = some w.heap.size) → wpList P ops Q rest (a.put o.dst v') w') : wpList P ops Q (o :: rest) a w :=
  wpList_step fun K hK => by
    rw [if_pos hgd]
    exact wp_append_Own s x t ho e i z size bytes ht hi hz hsize hby hzs v n xs g hown hs xv m news hx hsrc h1 h63 hbytes fun v' w' g' h2 h3 h4 => hK _ _ (h v' w' g' h2 h3 h4)
theorem step_append_Own {P : Program} {w : World} {ops : Array Oper} {o : Oper} {a : Act} {K : Act → World → Prop} {Q : Exit → Act → World → Prop} {E : Prop} (hgd : Region.wanted o (yielded ops a.tmps) = true) (s x : Operand) (t : TypeId)
    (ho : o.op = .call { callee := .builtin .append, args := #[s, x], argTypes := #[t, t] })
    (e : TypeId) (i : TypeInfo) (z : Value) (size bytes : Nat) (ht : P.underlying t = some (.slice e)) (hi : P.info? e = some i) (hz : i.zero = some z)
    (hsize : i.size = size) (hby : i.bytes = bytes) (hzs : z.cells.size = size)
    (v : Value) (n : Nat) (xs : List Value) (g : Option Nat) (hown : Own w e size v n xs g) (hs : a.eval s = v)
    (xv : Value) (m : Nat) (news : List Value) (hx : a.eval x = xv) (hsrc : SlAt w xv m size news) (h1 : ∀ u ∈ news, u.oneCell' = true)
    (h63 : n + m ≤ maxLen) (hbytes : (n + m) * bytes ≤ 140737488355328)
    (h : ∀ v' w' g', Own w' e size v' (n + m) (xs ++ news) g' → Keeps (fun b => g = some b) w w' → (g' = g ∨ g' = some w.heap.size) → K (a.put o.dst v') w') :
    if Region.wanted o (yielded ops a.tmps) = true then Oper.wp P o a w K Q else E := by
  rw [if_pos hgd]
  exact wp_append_Own s x t ho e i z size bytes ht hi hz hsize hby hzs v n xs g hown hs xv m news hx hsrc h1 h63 hbytes h
/-- An empty literal slice. -/
theorem Own.empty {W : World} {g : Nat} {e : TypeId} {sz : Nat} (hg : W.heap[g]? = some (.cells #[] e (0, 0))) : Own W e sz (.slice (some ⟨g, 0, none⟩) 0 0) 0 [] (some g) :=
  ⟨by simp, .inr ⟨g, 0, 0, #[], rfl, rfl, hg, Nat.le_refl _, Nat.zero_le _, by simp, by simp⟩⟩
/-- A literal slice over its own block. -/
theorem Own.lit {W : World} {g n : Nat} {e : TypeId} {sz : Nat} {cs : Array Value} (hg : Blk W g e cs) (hn : cs.size = n * sz) (hc : n ≤ maxLen) : Own W e sz (.slice (some ⟨g, 0, none⟩) n n) n cs.toList (some g) :=
  ⟨by simpa using hn, .inr ⟨g, 0, n, cs, rfl, rfl, hg, Nat.le_refl _, hc, by omega, by rw [List.drop_zero]; exact List.take_of_length_le (by simp [hn])⟩⟩
end Go.Proofs.YtegjmmocnffpiaaDoor
/- Separation logic over the walk's rules: heaplets, states, contracts. Of no program. -/
namespace Go.Proofs.YtegjmmocnffpiaaDoor
open Go.RowKit
def HL : Type := Nat → Option Obj
namespace HL
def le (h k : HL) : Prop := ∀ b o, h b = some o → k b = some o
def disj (h k : HL) : Prop := ∀ b, h b = none ∨ k b = none
def of (w : World) : HL := fun b => w.heap[b]?
def join (h k : HL) : HL := fun b => match h b with | some o => some o | none => k b
def one (b : Nat) (o : Obj) : HL := fun x => if x = b then some o else none
def emp : HL := fun _ => none
theorem le.refl (h : HL) : le h h := fun _ _ e => e
theorem le.trans {a b c : HL} (h : le a b) (k : le b c) : le a c := fun x o e => k x o (h x o e)
theorem disj.symm {a b : HL} (h : disj a b) : disj b a := fun x => (h x).symm
theorem disj.mono {a b a' b' : HL} (h : disj a b) (ha : le a' a) (hb : le b' b) : disj a' b' := by
  intro x
  cases ea : a' x with
  | none => exact .inl rfl
  | some o =>
    refine .inr ?_
    cases eb : b' x with
    | none => rfl
    | some p => rcases h x with h | h <;> simp [ha x _ ea, hb x _ eb] at h
theorem le_join_left (a b : HL) : le a (join a b) := fun x o e => by simp [join, e]
theorem le_join_right {a b : HL} (h : disj a b) : le b (join a b) := fun x o e => by
  rcases h x with h | h
  · simp [join, h, e]
  · rw [h] at e; cases e
theorem join_le {a b c : HL} (ha : le a c) (hb : le b c) : le (join a b) c := fun x o e => by
  unfold join at e
  cases h : a x with
  | none => rw [h] at e; exact hb x o e
  | some p => rw [h] at e; cases e; exact ha x _ h
theorem join_none {a b : HL} {x : Nat} (ha : a x = none) (hb : b x = none) : join a b x = none := by simp [join, ha, hb]
theorem disj_join {a b c : HL} (hb : disj a b) (hc : disj a c) : disj a (join b c) := by
  intro x
  rcases hb x with h | h
  · exact .inl h
  · rcases hc x with h' | h'
    · exact .inl h'
    · exact .inr (join_none h h')
theorem emp_le (a : HL) : le emp a := fun _ _ e => by cases e
theorem emp_disj (a : HL) : disj emp a := fun _ => .inl rfl
theorem one_le {b : Nat} {o : Obj} {h : HL} (e : h b = some o) : le (one b o) h := fun x p hx => by
  unfold one at hx
  split at hx
  · rename_i hb; cases hx; rw [hb]; exact e
  · cases hx
theorem one_self (b : Nat) (o : Obj) : one b o b = some o := by simp [one]
theorem one_none {b x : Nat} {o : Obj} (h : x ≠ b) : one b o x = none := by simp [one, h]
end HL
abbrev Assn := HL → Prop
def stars : List Assn → HL → Prop
  | [], _ => True
  | P :: Γ, h => ∃ h1 h2, HL.disj h1 h2 ∧ HL.le h1 h ∧ HL.le h2 h ∧ P h1 ∧ stars Γ h2
theorem stars_mono {Γ : List Assn} {h k : HL} (hs : stars Γ h) (hk : HL.le h k) : stars Γ k := by
  cases Γ with
  | nil => trivial
  | cons P Γ =>
    obtain ⟨h1, h2, d, l1, l2, p, s⟩ := hs
    exact ⟨h1, h2, d, l1.trans hk, l2.trans hk, p, s⟩
theorem stars_swap {P Q : Assn} {Γ : List Assn} {h : HL} (hs : stars (P :: Q :: Γ) h) : stars (Q :: P :: Γ) h := by
  obtain ⟨h1, h2, d, l1, l2, p, h3, h4, d', l3, l4, q, s⟩ := hs
  have d14 : HL.disj h1 h4 := d.mono (HL.le.refl _) l4
  exact ⟨h3, HL.join h1 h4, HL.disj_join (d.mono (HL.le.refl _) l3).symm d', l3.trans l2, HL.join_le l1 (l4.trans l2), q, h1, h4, d14, HL.le_join_left _ _, HL.le_join_right d14, p, s⟩
/-- Entailment. -/
def Ent (Γ Δ : List Assn) : Prop := ∀ h, stars Γ h → stars Δ h
theorem Ent.refl (Γ : List Assn) : Ent Γ Γ := fun _ h => h
theorem Ent.trans {Γ Δ Θ : List Assn} (h : Ent Γ Δ) (k : Ent Δ Θ) : Ent Γ Θ := fun x hx => k x (h x hx)
theorem Ent.cons {Γ Δ : List Assn} (P : Assn) (h : Ent Γ Δ) : Ent (P :: Γ) (P :: Δ) := fun _ ⟨h1, h2, d, l1, l2, p, s⟩ => ⟨h1, h2, d, l1, l2, p, h _ s⟩
theorem Ent.swap (P Q : Assn) (Γ : List Assn) : Ent (P :: Q :: Γ) (Q :: P :: Γ) := fun _ h => stars_swap h
theorem Ent.drop (P : Assn) (Γ : List Assn) : Ent (P :: Γ) Γ := fun _ ⟨_, _, _, _, l2, _, s⟩ => stars_mono s l2
theorem Ent.mono1 {P Q : Assn} (Γ : List Assn) (h : ∀ x, P x → Q x) : Ent (P :: Γ) (Q :: Γ) := fun _ ⟨h1, h2, d, l1, l2, p, s⟩ => ⟨h1, h2, d, l1, l2, h _ p, s⟩
theorem Ent.append {Γ Δ : List Assn} (Θ : List Assn) (h : Ent Γ Δ) : Ent (Θ ++ Γ) (Θ ++ Δ) := by
  induction Θ with
  | nil => exact h
  | cons P Θ ih => exact ih.cons P
/-- Some assertions as one. -/
theorem stars_append {Γ Δ : List Assn} {h : HL} : stars (Γ ++ Δ) h ↔ stars (stars Γ :: Δ) h := by
  induction Γ generalizing h with
  | nil => exact ⟨fun hs => ⟨HL.emp, h, HL.emp_disj _, HL.emp_le _, HL.le.refl _, trivial, hs⟩, fun ⟨_, _, _, _, l2, _, s⟩ => stars_mono s l2⟩
  | cons P Γ ih =>
    constructor
    · rintro ⟨h1, h2, d, l1, l2, p, s⟩
      obtain ⟨h3, h4, d', l3, l4, q, s'⟩ := ih.1 s
      have d13 : HL.disj h1 h3 := d.mono (HL.le.refl _) l3
      refine ⟨HL.join h1 h3, h4, (HL.disj_join (d.mono (HL.le.refl _) l4).symm d'.symm).symm, HL.join_le l1 (l3.trans l2), l4.trans l2, ⟨h1, h3, d13, HL.le_join_left _ _, HL.le_join_right d13, p, q⟩, s'⟩
    · rintro ⟨h1, h2, d, l1, l2, ⟨h3, h4, d', l3, l4, p, q⟩, s⟩
      have d42 : HL.disj h4 h2 := d.mono l4 (HL.le.refl _)
      exact ⟨h3, HL.join h4 h2, HL.disj_join d' (d.mono l3 (HL.le.refl _)), l3.trans l1, HL.join_le (l4.trans l1) l2, p, ih.2 ⟨h4, h2, d42, HL.le_join_left _ _, HL.le_join_right d42, q, s⟩⟩
theorem Ent.appendR {Γ Δ : List Assn} (Θ : List Assn) (h : Ent Γ Δ) : Ent (Γ ++ Θ) (Δ ++ Θ) := fun x hx => stars_append.2 (Ent.mono1 (P := stars Γ) (Q := stars Δ) Θ h x (stars_append.1 hx))
/-! Choosing an assertion. -/
class Pick (P : Assn) (Γ : List Assn) (Δ : outParam (List Assn)) : Prop where
  ent : Ent Γ (P :: Δ)
instance (priority := high) Pick.head {P : Assn} {Γ : List Assn} : Pick P (P :: Γ) Γ := ⟨Ent.refl _⟩
instance Pick.tail {P Q : Assn} {Γ Δ : List Assn} [h : Pick P Γ Δ] : Pick P (Q :: Γ) (Q :: Δ) := ⟨(h.ent.cons Q).trans (Ent.swap _ _ _)⟩
class Tail (Δ Γ : List Assn) : Prop where
  ent : Ent Γ Δ
instance (priority := high) Tail.refl {Γ : List Assn} : Tail Γ Γ := ⟨Ent.refl _⟩
instance Tail.drop {P : Assn} {Δ Γ : List Assn} [h : Tail Δ Γ] : Tail Δ (P :: Γ) := ⟨(Ent.drop P Γ).trans h.ent⟩
/-- Γ entails Δ by choosing and leaving. -/
class Sub (Δ Γ : List Assn) : Prop where
  ent : Ent Γ Δ
instance (priority := high) Sub.nil {Γ : List Assn} : Sub [] Γ := ⟨fun _ _ => trivial⟩
instance Sub.cons {P : Assn} {Δ Γ Θ : List Assn} [p : Pick P Γ Θ] [s : Sub Δ Θ] : Sub (P :: Δ) Γ := ⟨p.ent.trans (s.ent.cons P)⟩
instance (priority := low) Sub.tail {Δ Γ : List Assn} [h : Tail Δ Γ] : Sub Δ Γ := ⟨h.ent⟩
/-- Γ is Δ and a rest. -/
class Picks (Δ Γ : List Assn) (Θ : outParam (List Assn)) : Prop where
  ent : Ent Γ (Δ ++ Θ)
instance (priority := high) Picks.nil {Γ : List Assn} : Picks [] Γ Γ := ⟨Ent.refl _⟩
instance Picks.cons {P : Assn} {Δ Γ Θ Ξ : List Assn} [p : Pick P Γ Θ] [s : Picks Δ Θ Ξ] : Picks (P :: Δ) Γ Ξ := ⟨p.ent.trans (s.ent.cons P)⟩
/-! Worlds. -/
def Sat (w : World) (Γ : List Assn) : Prop := ∃ h, HL.le h (HL.of w) ∧ stars Γ h
theorem Sat.ent {w : World} {Γ Δ : List Assn} (h : Sat w Γ) (e : Ent Γ Δ) : Sat w Δ := h.imp fun _ ⟨l, s⟩ => ⟨l, e _ s⟩
theorem Sat.of_heap {w w' : World} {Γ : List Assn} (h : Sat w Γ) (e : w'.heap = w.heap) : Sat w' Γ := by
  obtain ⟨h, l, s⟩ := h
  exact ⟨h, fun b o hb => by have := l b o hb; unfold HL.of at *; rw [e]; exact this, s⟩
theorem Sat.head {w : World} {P : Assn} {Γ : List Assn} (h : Sat w (P :: Γ)) : ∃ x, HL.le x (HL.of w) ∧ P x := by
  obtain ⟨h, l, h1, h2, d, l1, l2, p, s⟩ := h
  exact ⟨h1, l1.trans l, p⟩
theorem Sat.upd {w w' : World} {P P' : Assn} {Γ : List Assn} (hs : Sat w (P :: Γ))
    (h : ∀ x, HL.le x (HL.of w) → P x → ∃ x', HL.le x' (HL.of w') ∧ P' x' ∧ (∀ b, x b = none → w.heap[b]? ≠ none → x' b = none ∧ w'.heap[b]? = w.heap[b]?)) : Sat w' (P' :: Γ) := by
  obtain ⟨h0, l, h1, h2, d, l1, l2, p, s⟩ := hs
  obtain ⟨x', lx, px, fx⟩ := h h1 (l1.trans l) p
  have l2' : HL.le h2 (HL.of w') := fun b o e => by
    have hb := l2.trans l b o e
    have hn : h1 b = none := (d b).resolve_right (by rw [e]; simp)
    have := (fx b hn (by unfold HL.of at hb; rw [hb]; simp)).2
    unfold HL.of at *
    rw [this]; exact hb
  have dd : HL.disj x' h2 := fun b => by
    cases e : h2 b with
    | none => exact .inr rfl
    | some o =>
      have hb := l2.trans l b o e
      have hn : h1 b = none := (d b).resolve_right (by rw [e]; simp)
      exact .inl (fx b hn (by unfold HL.of at hb; rw [hb]; simp)).1
  exact ⟨HL.join x' h2, HL.join_le lx l2', x', h2, dd, HL.le_join_left _ _, HL.le_join_right dd, px, s⟩
/-- A block that is known whole, writable. -/
def blk (b : Nat) (e : TypeId) (cs : Array Value) : Assn := fun h => h b = some (.cells cs e (0, 0))
theorem Sat.isBlk {w : World} {b : Nat} {e : TypeId} {cs : Array Value} {Γ : List Assn} (h : Sat w (blk b e cs :: Γ)) : Blk w b e cs := by
  obtain ⟨x, l, p⟩ := h.head
  exact l b _ p
theorem Sat.alloc {w : World} {Γ : List Assn} (h : Sat w Γ) (e : TypeId) (cs : Array Value) : Sat (w.alloc (.cells cs e)) (blk w.heap.size e cs :: Γ) := by
  have h' : Sat w ((fun _ => True : Assn) :: Γ) := by
    obtain ⟨x, l, s⟩ := h
    exact ⟨x, l, HL.emp, x, HL.emp_disj _, HL.emp_le _, HL.le.refl _, trivial, s⟩
  refine h'.upd fun x _ _ => ⟨HL.one w.heap.size (.cells cs e), HL.one_le (hx_new rfl), HL.one_self _ _, fun b _ hb => ?_⟩
  have hlt : b < w.heap.size := by
    rcases Nat.lt_or_ge b w.heap.size with h | h
    · exact h
    · simp [Array.getElem?_eq_none h] at hb
  exact ⟨HL.one_none (by omega), Below.heap_alloc _ _ _ hlt⟩
theorem Sat.setCell {w : World} {Γ : List Assn} {b : Nat} {e : TypeId} {cs : Array Value} (h : Sat w (blk b e cs :: Γ)) (o : Nat) (v : Value) :
    Sat (w.setCell ⟨b, o, none⟩ v) (blk b e (cs.setIfInBounds o v) :: Γ) := by
  refine h.upd fun x l p => ⟨HL.one b (.cells (cs.setIfInBounds o v) e), HL.one_le ((show Blk w b e cs from l b _ p).set o v), HL.one_self _ _, fun c hc _ => ?_⟩
  have hne : c ≠ b := fun e => by subst e; rw [p] at hc; cases hc
  exact ⟨HL.one_none hne, Below.heap_setCell _ _ _ _ hne⟩
/-- The world's streams are as they were; no block has gone. -/
structure Ext0 (w w' : World) : Prop where
  os : w'.os = w.os
  tape : w'.tape = w.tape
  output : w'.output = w.output
  size : w.heap.size ≤ w'.heap.size
  drawn : w.drawn ≤ w'.drawn
/-- Where a walk began; md: is what was drawn to be reckoned with too? (Contracts of the kit's own say nothing of it.) -/
structure WM (md : Bool) where
  w : World
structure Ext {md : Bool} (a : WM md) (w' : World) : Prop where
  os : w'.os = a.w.os
  tape : w'.tape = a.w.tape
  output : w'.output = a.w.output
  size : a.w.heap.size ≤ w'.heap.size
  drawn : md = true → a.w.drawn ≤ w'.drawn
theorem Ext.refl {md : Bool} (w : World) : Ext (⟨w⟩ : WM md) w := ⟨rfl, rfl, rfl, Nat.le_refl _, fun _ => Nat.le_refl _⟩
theorem Ext.trans {md : Bool} {a : WM md} {b c : World} (h : Ext a b) (k : Ext0 b c) : Ext a c := ⟨k.os.trans h.os, k.tape.trans h.tape, k.output.trans h.output, Nat.le_trans h.size k.size, fun e => Nat.le_trans (h.drawn e) k.drawn⟩
theorem Ext.transM {md : Bool} {a : WM md} {b c : World} (h : Ext a b) (k : Ext (⟨b⟩ : WM md) c) : Ext a c := ⟨k.os.trans h.os, k.tape.trans h.tape, k.output.trans h.output, Nat.le_trans h.size k.size, fun e => Nat.le_trans (h.drawn e) (k.drawn e)⟩
theorem Ext.alloc {md : Bool} {a : WM md} {w : World} (h : Ext a w) (o : Obj) : Ext a (w.alloc o) := h.trans ⟨rfl, rfl, rfl, by simp, Nat.le_refl _⟩
theorem Ext.setCell {md : Bool} {a : WM md} {w : World} (h : Ext a w) (p : Addr) (v : Value) : Ext a (w.setCell p v) := h.trans ⟨rfl, rfl, rfl, by simp [World.setCell], Nat.le_refl _⟩
theorem Ext.drew {md : Bool} {a : WM md} {w : World} (h : Ext a w) : Ext a w.drew := ⟨h.os, h.tape, h.output, h.size, fun e => Nat.le_succ_of_le (h.drawn e)⟩
/-! The frame's slots: what is known of them. -/
abbrev Env := List (Nat × Value)
def Env.get : Env → Nat → Option Value
  | [], _ => none
  | (t, v) :: ρ, x => match Nat.beq t x with
    | true => some v
    | false => Env.get ρ x
def ev (ρ : Env) : Operand → Option Value
  | .tmp t => Env.get ρ t
  | .const v => some v
  | .global g => some (.pointer (some ⟨g, 0, none⟩))
  | .func f => some (.func (.func f) #[] #[])
structure EnvOk (n : Nat) (ρ : Env) (a : Act) : Prop where
  size : a.tmps.size = n
  defers : a.defers = []
  get : ∀ t v, Env.get ρ t = some v → a.tmps.getD t undef = v
theorem EnvOk.ev {n : Nat} {ρ : Env} {a : Act} (h : EnvOk n ρ a) {x : Operand} {v : Value} (hx : ev ρ x = some v) : a.eval x = v := by
  cases x with
  | tmp t => exact h.get t v hx
  | const u => simpa [Act.eval, Go.Proofs.YtegjmmocnffpiaaDoor.ev] using hx
  | global g => simpa [Act.eval, Go.Proofs.YtegjmmocnffpiaaDoor.ev] using hx
  | func f => simpa [Act.eval, Go.Proofs.YtegjmmocnffpiaaDoor.ev] using hx
theorem EnvOk.put {n : Nat} {ρ : Env} {a : Act} (h : EnvOk n ρ a) {d : Nat} (hd : Nat.blt d n = true) (v : Value) : EnvOk n ((d, v) :: ρ) (a.put (some d) v) := by
  have hd' : d < a.tmps.size := by rw [h.size]; have := hd; simp [Nat.blt] at this; omega
  refine ⟨by simp [Act.put, h.size], h.defers, fun t u hu => ?_⟩
  unfold Env.get at hu
  cases hb : Nat.beq d t with
  | true =>
    rw [hb] at hu
    have := Nat.eq_of_beq_eq_true hb
    subst this
    cases hu
    simp [Act.put, hd']
  | false =>
    rw [hb] at hu
    have hne : d ≠ t := fun e => by subst e; simp [Nat.beq_refl] at hb
    have := h.get t u hu
    simpa [Act.put, Array.getElem?_setIfInBounds_ne hne] using this
def EnvSub : Env → Env → Prop
  | [], _ => True
  | (t, v) :: σ, ρ => Env.get ρ t = some v ∧ EnvSub σ ρ
theorem EnvSub.get {σ ρ : Env} (h : EnvSub σ ρ) : ∀ t v, Env.get σ t = some v → Env.get ρ t = some v := by
  induction σ with
  | nil => intro t v hv; cases hv
  | cons p σ ih =>
    intro t v hv
    obtain ⟨t', v'⟩ := p
    unfold Env.get at hv
    cases hb : Nat.beq t' t with
    | true =>
      rw [hb] at hv
      have := Nat.eq_of_beq_eq_true hb
      subst this
      cases hv
      exact h.1
    | false => rw [hb] at hv; exact ih h.2 t v hv
theorem EnvOk.sub {n : Nat} {σ ρ : Env} {a : Act} (h : EnvOk n ρ a) (hs : EnvSub σ ρ) : EnvOk n σ a := ⟨h.size, h.defers, fun t v hv => h.get t v (hs.get t v hv)⟩
/-! States. -/
def S {md : Bool} (n : Nat) (w0 : WM md) (ρ : Env) (Γ : List Assn) (φ : Act → World → Prop) : Prop := ∀ a w, EnvOk n ρ a → Sat w Γ → Ext w0 w → φ a w
/-- A contract: from pre to post, whatever else there is. -/
def Spec (P : Program) (f : FuncId) (args : List Value) (pre : List Assn) (post : List Assn → Value → List Assn → Prop) (md : Bool := false) : Prop :=
  ∀ (Γ : List Assn) (w : World), Sat w (pre ++ Γ) → Calls P f args.toArray w fun e w' => ∃ v Θ, e = .returned v ∧ post Γ v Θ ∧ Sat w' Θ ∧ Ext (⟨w⟩ : WM md) w'
def Fin {md : Bool} (P : Program) (fn : Func) (post : List Assn → Value → List Assn → Prop) (Γ : List Assn) (w0 : WM md) : Exit → Act → World → Prop :=
  bodyPost P fn fun e w' => ∃ v Θ, e = .returned v ∧ post Γ v Θ ∧ Sat w' Θ ∧ Ext w0 w'
def argEnv : Nat → List Value → Env
  | _, [] => []
  | k, v :: l => (k, v) :: argEnv (k + 1) l
theorem argEnv_get (l : List Value) : ∀ k t v, Env.get (argEnv k l) t = some v → k ≤ t ∧ l[t - k]? = some v := by
  induction l with
  | nil => intro k t v h; cases h
  | cons u l ih =>
    intro k t v h
    unfold argEnv Env.get at h
    cases hb : Nat.beq k t with
    | true =>
      rw [hb] at h
      have := Nat.eq_of_beq_eq_true hb
      subst this
      cases h
      simp
    | false =>
      rw [hb] at h
      obtain ⟨h1, h2⟩ := ih (k + 1) t v h
      refine ⟨by omega, ?_⟩
      rw [show t - k = (t - (k + 1)) + 1 by omega]
      simpa using h2
section
variable {P : Program} {n : Nat} {md : Bool} {w0 : WM md} {ρ : Env} {Γ : List Assn} {Q : Exit → Act → World → Prop}
theorem Spec.of_body {f : FuncId} {fn : Func} {c : Code} {l : List Value} {pre : List Assn} {post : List Assn → Value → List Assn → Prop} (hf : P.funcs[f]? = some fn) (hb : fn.body = some c) (hn : fn.ntmps = n) (hl : Nat.ble l.length n = true)
    (h : ∀ (w0 : WM md) Γ, S n w0 (argEnv 0 l) (pre ++ Γ) (c.wp P (Fin P fn post Γ w0))) : Spec P f l pre post md := by
  intro Γ w hs
  refine calls_of_wp hf hb (h ⟨w⟩ Γ _ w ⟨?_, rfl, fun t v hv => ?_⟩ hs (Ext.refl _))
  · have := Nat.le_of_ble_eq_true hl
    simp [hn]; omega
  · obtain ⟨_, h2⟩ := argEnv_get l 0 t v hv
    simp only [Nat.sub_zero] at h2
    have hlt : t < l.length := (List.getElem?_eq_some_iff.1 h2).1
    have := (List.getElem?_eq_some_iff.1 h2).2
    simp [Array.getElem?_append_left, hlt, this]
theorem S.mono {φ ψ : Act → World → Prop} (h : S n w0 ρ Γ φ) (k : ∀ a w, φ a w → ψ a w) : S n w0 ρ Γ ψ := fun a w ha hs hx => k _ _ (h a w ha hs hx)
theorem S.ent {φ : Act → World → Prop} {Δ : List Assn} (e : Ent Γ Δ) (h : S n w0 ρ Δ φ) : S n w0 ρ Γ φ := fun a w ha hs hx => h a w ha (hs.ent e) hx
theorem S.sub {φ : Act → World → Prop} (Δ : List Assn) [e : Sub Δ Γ] (h : S n w0 ρ Δ φ) : S n w0 ρ Γ φ := S.ent e.ent h
theorem S.env {φ : Act → World → Prop} {σ : Env} (e : EnvSub σ ρ) (h : S n w0 σ Γ φ) : S n w0 ρ Γ φ := fun a w ha hs hx => h a w (ha.sub e) hs hx
theorem S.seq {x y : Code} (h : ∀ K : Act → World → Prop, (∀ ρ Γ, S n w0 ρ Γ (y.wp P Q) → S n w0 ρ Γ K) → S n w0 ρ Γ (x.wp P (Exit.then K Q))) : S n w0 ρ Γ ((Code.seq x y).wp P Q) :=
  fun a w ha hs hx => wp_seq (h _ (fun _ _ h => h) a w ha hs hx)
theorem S.skip (h : S n w0 ρ Γ (Q .normal)) : S n w0 ρ Γ (Code.skip.wp P Q) := fun a w ha hs hx => wp_skip (h a w ha hs hx)
theorem S.block {id : Nat} {c : Code} (h : S n w0 ρ Γ (c.wp P (Exit.inBlock id Q))) : S n w0 ρ Γ ((Code.block id c).wp P Q) := fun a w ha hs hx => wp_block (h a w ha hs hx)
theorem S.exit {id : Nat} (h : S n w0 ρ Γ (Q (.exit id))) : S n w0 ρ Γ ((Code.exit id).wp P Q) := fun a w ha hs hx => wp_exit (h a w ha hs hx)
theorem S.ret (h : S n w0 ρ Γ (Q .ret)) : S n w0 ρ Γ (Code.ret.wp P Q) := fun a w ha hs hx => wp_ret (h a w ha hs hx)
theorem S.scope {c : Code} (h : S n w0 ρ Γ (c.wp P (Exit.noGoto Q))) : S n w0 ρ Γ ((Code.scope c).wp P Q) := fun a w ha hs hx => wp_scope_straight (h a w ha hs hx)
theorem S.cond {c : Operand} {x y : Code} {t : Bool} (hc : ev ρ c = some (.bool t)) (h1 : t = true → S n w0 ρ Γ (x.wp P Q)) (h2 : t = false → S n w0 ρ Γ (y.wp P Q)) : S n w0 ρ Γ ((Code.cond c x y).wp P Q) :=
  fun a w ha hs hx => wp_cond_split (ha.ev hc) (fun e => h1 e a w ha hs hx) (fun e => h2 e a w ha hs hx)
theorem S.condD {c : Operand} {x y : Code} {p : Prop} [d : Decidable p] (hc : ev ρ c = some (.bool (decide p))) (h1 : p → S n w0 ρ Γ (x.wp P Q)) (h2 : ¬ p → S n w0 ρ Γ (y.wp P Q)) : S n w0 ρ Γ ((Code.cond c x y).wp P Q) :=
  S.cond hc (fun e => h1 (of_decide_eq_true e)) (fun e => h2 (of_decide_eq_false e))
theorem S.condT {c : Operand} {x y : Code} (hc : ev ρ c = some (.bool true)) (h : S n w0 ρ Γ (x.wp P Q)) : S n w0 ρ Γ ((Code.cond c x y).wp P Q) := fun a w ha hs hx => wp_cond_true (ha.ev hc) (h a w ha hs hx)
theorem S.condF {c : Operand} {x y : Code} (hc : ev ρ c = some (.bool false)) (h : S n w0 ρ Γ (y.wp P Q)) : S n w0 ρ Γ ((Code.cond c x y).wp P Q) := fun a w ha hs hx => wp_cond_false (ha.ev hc) (h a w ha hs hx)
/-! Exits. -/
theorem S.then_n {K : Act → World → Prop} (h : S n w0 ρ Γ K) : S n w0 ρ Γ (Exit.then K Q .normal) := h
theorem S.then_x {K : Act → World → Prop} {i : Nat} (h : S n w0 ρ Γ (Q (.exit i))) : S n w0 ρ Γ (Exit.then K Q (.exit i)) := h
theorem S.then_r {K : Act → World → Prop} (h : S n w0 ρ Γ (Q .ret)) : S n w0 ρ Γ (Exit.then K Q .ret) := h
theorem S.inBlock_n {i : Nat} (h : S n w0 ρ Γ (Q .normal)) : S n w0 ρ Γ (Exit.inBlock i Q .normal) := h
theorem S.inBlock_r {i : Nat} (h : S n w0 ρ Γ (Q .ret)) : S n w0 ρ Γ (Exit.inBlock i Q .ret) := h
theorem S.inBlock_s {i : Nat} (h : S n w0 ρ Γ (Q .normal)) : S n w0 ρ Γ (Exit.inBlock i Q (.exit i)) := fun a w ha hs hx => by simpa [Exit.inBlock] using h a w ha hs hx
theorem S.inBlock_x {i j : Nat} (hne : Nat.beq j i = false) (h : S n w0 ρ Γ (Q (.exit j))) : S n w0 ρ Γ (Exit.inBlock i Q (.exit j)) := fun a w ha hs hx => by
  have hne' : j ≠ i := fun e => by subst e; simp [Nat.beq_refl] at hne
  simpa [Exit.inBlock, hne'] using h a w ha hs hx
/-! Loops. -/
def Next {md : Bool} (n : Nat) (w0 : WM md) (I : Nat → Env → List Assn → Prop) (m : Nat) : Act → World → Prop := fun a w => ∃ m', m' < m ∧ ∃ ρ Γ, I m' ρ Γ ∧ EnvOk n ρ a ∧ Sat w Γ ∧ Ext w0 w
theorem S.loop {c : Code} (I : Nat → Env → List Assn → Prop) {m : Nat} {ρ0 : Env} {Γ0 : List Assn} (h0 : I m ρ0 Γ0) (hρ : EnvSub ρ0 ρ) (hΓ : Ent Γ Γ0)
    (round : ∀ m ρ Γ, I m ρ Γ → S n w0 ρ Γ (c.wp P (Exit.then (Next n w0 I m) Q))) : S n w0 ρ Γ ((Code.loop c).wp P Q) := by
  intro a w ha hs hx
  refine wp_loop_ghost (fun k a w => ∃ ρ Γ, I k ρ Γ ∧ EnvOk n ρ a ∧ Sat w Γ ∧ Ext w0 w) m ⟨ρ0, Γ0, h0, ha.sub hρ, hs.ent hΓ, hx⟩ ?_
  rintro k a w ⟨ρ, Γ, hI, ha, hs, hx⟩
  exact round k ρ Γ hI a w ha hs hx
theorem S.next {I : Nat → Env → List Assn → Prop} {m : Nat} (m' : Nat) {ρ' : Env} {Γ' : List Assn} (hI : I m' ρ' Γ') (hm : m' < m) (hρ : EnvSub ρ' ρ) (hΓ : Ent Γ Γ') : S n w0 ρ Γ (Next n w0 I m) :=
  fun _ _ ha hs hx => ⟨m', hm, ρ', Γ', hI, ha.sub hρ, hs.ent hΓ, hx⟩
end
end Go.Proofs.YtegjmmocnffpiaaDoor
/- Rules for single operations, in the states of XSep. Of no program. -/
namespace Go.Proofs.YtegjmmocnffpiaaDoor
open Go.RowKit
/-! Facts on the program's types, each a closed equation. -/
def atomT (P : Program) (t : TypeId) : Bool := match P.underlying t with
  | some (.struct _) | some (.array _ _) | none => false
  | some _ => (P.info? t).map (·.size) == some 1
def aggT (P : Program) (t : TypeId) : Option Nat := match P.underlying t with
  | some (.struct _) | some (.array _ _) => (P.info? t).map (·.size)
  | _ => none
def fieldT (P : Program) (t : TypeId) (f : Nat) : Option Nat := match P.underlying t with
  | some (.struct fs) => match fs[f]? with
    | some x => match P.info? x.type with
      | some i => if i.size = 0 then none else some x.offset
      | none => none
    | none => none
  | _ => none
def zeroT (P : Program) (t : TypeId) : Option (List Value) := ((P.info? t).bind (·.zero)).map (·.cells.toList)
def elemT (P : Program) (t : TypeId) : Option (TypeId × Nat) := match P.underlying t with
  | some (.slice e) => (P.info? e).map fun i => (e, i.size)
  | _ => none
def arrT (P : Program) (t : TypeId) : Option (Nat × Nat) := match P.underlying t with
  | some (.array n e) => (P.info? e).map fun i => (n, i.size)
  | _ => none
def intT (P : Program) (t : TypeId) : Option IntKind := match P.underlying t with
  | some (.int k) => some k
  | _ => none
def enterT (P : Program) (f : FuncId) : Bool := match P.funcs[f]? with
  | some fn => fn.name != "runtime.NumGoroutine" && fn.body.isSome
  | none => false
def partsT (P : Program) (t : TypeId) : Option (List (Nat × Nat)) := match P.underlying t with
  | some (.struct fs) => fs.toList.mapM fun f => (P.info? f.type).map fun i => (f.offset, i.size)
  | _ => none
/-- A cell of a list, so that what is reckoned is the cell itself. -/
def lg : List Value → Nat → Option Value
  | [], _ => none
  | v :: _, 0 => some v
  | _ :: vs, n + 1 => lg vs n
theorem lg_eq : ∀ (l : List Value) (n : Nat), lg l n = l[n]?
  | [], _ => by simp [lg]
  | _ :: _, 0 => by simp [lg]
  | _ :: vs, n + 1 => by simp [lg, lg_eq vs n]
theorem lg_arr {cs : Array Value} {o : Nat} {v : Value} (h : lg cs.toList o = some v) : cs[o]? = some v := by rw [lg_eq] at h; simpa using h
/-- Cells from o on. -/
def Seg (cs : Array Value) (o : Nat) : List Value → Prop
  | [] => True
  | v :: vs => lg cs.toList o = some v ∧ Seg cs (o + 1) vs
theorem Seg.get {cs : Array Value} {o : Nat} {vs : List Value} (h : Seg cs o vs) : ∀ j v, vs[j]? = some v → cs[o + j]? = some v := by
  induction vs generalizing o with
  | nil => intro j v h; simp at h
  | cons u vs ih =>
    intro j v hv
    cases j with
    | zero => simp only [List.getElem?_cons_zero, Option.some.injEq] at hv; subst hv; exact lg_arr h.1
    | succ j => have := ih h.2 j v (by simpa using hv); rwa [show o + 1 + j = o + (j + 1) by omega] at this
def EvL (ρ : Env) : List Operand → List Value → Prop
  | [], [] => True
  | x :: xs, v :: vs => ev ρ x = some v ∧ EvL ρ xs vs
  | _, _ => False
theorem EvL.map {n : Nat} {ρ : Env} {a : Act} (ha : EnvOk n ρ a) : ∀ {xs : List Operand} {vs : List Value}, EvL ρ xs vs → xs.map a.eval = vs
  | [], [], _ => rfl
  | _ :: _, _ :: _, h => by rw [List.map_cons, ha.ev h.1, EvL.map ha h.2]
  | [], _ :: _, h => h.elim
  | _ :: _, [], h => h.elim
/-- A block among the assertions. -/
class HasB (Γ : List Assn) (b : Nat) (e : outParam TypeId) (cs : outParam (Array Value)) (Δ : outParam (List Assn)) : Prop where
  ent : Ent Γ (blk b e cs :: Δ)
instance (priority := high) HasB.head {Γ : List Assn} {b : Nat} {e : TypeId} {cs : Array Value} : HasB (blk b e cs :: Γ) b e cs Γ := ⟨Ent.refl _⟩
instance HasB.tail {P : Assn} {Γ Δ : List Assn} {b : Nat} {e : TypeId} {cs : Array Value} [h : HasB Γ b e cs Δ] : HasB (P :: Γ) b e cs (P :: Δ) := ⟨(h.ent.cons P).trans (Ent.swap _ _ _)⟩
theorem HasB.blk {Γ Δ : List Assn} {b : Nat} {e : TypeId} {cs : Array Value} (h : HasB Γ b e cs Δ) {w : World} (hs : Sat w Γ) : Blk w b e cs := (hs.ent h.ent).isBlk
/-- An operation that leaves a value and changes nothing. -/
def Qv (P : Program) (n : Nat) (ρ : Env) (Γ : List Assn) (o : Oper) (v : Value) : Prop := ∀ a w, EnvOk n ρ a → Sat w Γ → (execOp a.eval o).run P w = .ok (.value v) w
/-- An operation, then K. -/
def Ow (P : Program) (Q : Exit → Act → World → Prop) (o : Oper) (K : Act → World → Prop) : Act → World → Prop := fun a w => o.wp P a w K Q
def wpL (P : Program) (Q : Exit → Act → World → Prop) : List Oper → Act → World → Prop
  | [], a, w => Q .normal a w
  | o :: rest, a, w => o.wp P a w (wpL P Q rest) Q
theorem wpL_sound {P : Program} {Q : Exit → Act → World → Prop} {ops : Array Oper} : ∀ (l : List Oper), (l.all fun o => o.guard.isNone) = true → ∀ a w, wpL P Q l a w → wpList P ops Q l a w := by
  intro l
  induction l with
  | nil => intro _ a w h; exact h
  | cons o l ih =>
    intro hg a w h
    simp only [List.all_cons, Bool.and_eq_true, Option.isNone_iff_eq_none] at hg
    unfold wpList
    rw [if_pos (by simp [Region.wanted, hg.1])]
    exact .inl (Oper.wp_mono (ih hg.2) h)
section
variable {P : Program} {n : Nat} {md : Bool} {w0 : WM md} {ρ : Env} {Γ : List Assn} {Q : Exit → Act → World → Prop} {K : Act → World → Prop} {rest : List Oper} {ty : TypeId} {pos : String} {af : Array Edge} {gd : Option (Nat × Bool)} {d : Nat} {ds : Option Tmp}
theorem S.region {id : Nat} {l : List Oper} (hg : (l.all fun o => o.guard.isNone) = true) (h : S n w0 ρ Γ (wpL P Q l)) : S n w0 ρ Γ ((Code.region id l.toArray false).wp P Q) :=
  fun a w ha hs hx => wp_region_lit (wpL_sound l hg a w (h a w ha hs hx))
theorem S.nil (h : S n w0 ρ Γ (Q .normal)) : S n w0 ρ Γ (wpL P Q []) := h
theorem S.nilK (h : S n w0 ρ Γ K) : S n w0 ρ Γ (wpL P (Exit.then K Q) []) := h
theorem S.op {o : Oper} (h : S n w0 ρ Γ (Ow P Q o (wpL P Q rest))) : S n w0 ρ Γ (wpL P Q (o :: rest)) := h
/-- A quiet operation. -/
theorem S.q {o : Oper} {v : Value} (h : Qv P n ρ Γ o v) (hd : o.dst = some d) (hn : Nat.blt d n = true) (k : S n w0 ((d, v) :: ρ) Γ K) : S n w0 ρ Γ (Ow P Q o K) := by
  intro a w ha hs hx
  unfold Ow Oper.wp
  rw [h a w ha hs, Oper.upon_value, hd]
  exact k _ _ (ha.put hn v) hs hx
/-! Quiet operations. -/
theorem q_move {x : Operand} {v : Value} (hx : ev ρ x = some v) : Qv P n ρ Γ ⟨ds, .move x, ty, pos, af, gd⟩ v := fun a w ha _ => by simp [execOp, ha.ev hx]
theorem q_assign {x : Operand} {v : Value} (hx : ev ρ x = some v) : Qv P n ρ Γ ⟨ds, .assign x, ty, pos, af, gd⟩ v := fun a w ha _ => by simp [execOp, ha.ev hx]
theorem q_nilCheck {x : Operand} {p : Addr} (hx : ev ρ x = some (.pointer (some p))) : Qv P n ρ Γ ⟨ds, .nilCheck x, ty, pos, af, gd⟩ (.pointer (some p)) := fun a w ha _ => by simp [execOp, ha.ev hx]
theorem q_field {t f : Nat} {x : Operand} {b o c : Nat} (hf : fieldT P t f = some c) (hx : ev ρ x = some (.pointer (some ⟨b, o, none⟩))) : Qv P n ρ Γ ⟨ds, .fieldAddr t x f, ty, pos, af, gd⟩ (.pointer (some ⟨b, o + c, none⟩)) := by
  intro a w ha _
  unfold fieldT at hf
  split at hf
  · rename_i fs hfs
    split at hf
    · rename_i y hy
      split at hf
      · rename_i i hi
        split at hf
        · cases hf
        · rename_i hne
          cases hf
          simp [execOp, ha.ev hx, Instr.fieldAt, run_underlying hfs, hy, Instr.sureAddr, fieldPlace, sizeOf, typeInfo, hi, hne, Addr.add_lit]
      · cases hf
    · cases hf
  · cases hf
theorem run_isAgg_atom {t : TypeId} (h : atomT P t = true) (w : World) : (isAgg t).run P w = .ok false w ∧ (sizeOf t).run P w = .ok 1 w := by
  unfold atomT at h
  split at h
  · cases h
  · cases h
  · cases h
  · rename_i dd h1 h2 h3
    cases hi : P.info? t with
    | none => simp [hi] at h
    | some i =>
      simp only [hi, Option.map_some, beq_iff_eq, Option.some.injEq] at h
      refine ⟨?_, by simp [sizeOf, typeInfo, hi, h]⟩
      unfold isAgg
      rw [Sem.run_bind, run_underlying h3]
      cases dd <;> simp_all
theorem run_isAgg_agg {t : TypeId} {k : Nat} (h : aggT P t = some k) (w : World) : (isAgg t).run P w = .ok true w ∧ (sizeOf t).run P w = .ok k w := by
  unfold aggT at h
  split at h
  · rename_i dd h1
    cases hi : P.info? t with
    | none => simp [hi] at h
    | some i => simp [hi] at h; exact ⟨by simp [isAgg, run_underlying h1], by simp [sizeOf, typeInfo, hi, h]⟩
  · rename_i dd h1
    cases hi : P.info? t with
    | none => simp [hi] at h
    | some i => simp [hi] at h; exact ⟨by simp [isAgg, run_underlying h1], by simp [sizeOf, typeInfo, hi, h]⟩
  · cases h
theorem run_load_at {w : World} {a : Addr} {v : Value} (h : w.cell? a = some v) : (load a).run P w = .ok v w := by simp [load, Sem.run, h]
theorem q_load {t b o : Nat} {x : Operand} {e : TypeId} {cs : Array Value} {v : Value} {Δ : List Assn} (ht : atomT P t = true) (hx : ev ρ x = some (.pointer (some ⟨b, o, none⟩))) [hb : HasB Γ b e cs Δ] (hv : lg cs.toList o = some v) :
    Qv P n ρ Γ ⟨ds, .load t x, ty, pos, af, gd⟩ v := by
  intro a w ha hs
  have hc : w.cell? ⟨b, o, none⟩ = some v := by rw [(hb.blk hs).cell]; exact lg_arr hv
  have hl : (loadVar t ⟨b, o, none⟩).run P w = .ok v w := by
    unfold loadVar
    rw [Sem.run_bind, (run_isAgg_atom ht w).1]
    exact run_load_at hc
  simp only [execOp, ha.ev hx, Instr.loadAt, Instr.sureAddr, Sem.run_bind, Sem.run_pure, Result.andThen_ok, hl]
theorem q_loadS {t b o k : Nat} {x : Operand} {e : TypeId} {cs : Array Value} {Δ : List Assn} (vs : List Value) (ht : aggT P t = some k) (hx : ev ρ x = some (.pointer (some ⟨b, o, none⟩))) [hb : HasB Γ b e cs Δ] (hk : vs.length = k) (hv : Seg cs o vs) :
    Qv P n ρ Γ ⟨ds, .load t x, ty, pos, af, gd⟩ (.agg vs.toArray) := by
  intro a w ha hs
  have hc : ∀ j u, vs[j]? = some u → w.cell? ((⟨b, o, none⟩ : Addr).add j) = some u := fun j u hu => by rw [Addr.add_lit, (hb.blk hs).cell]; exact hv.get j u hu
  have := run_loadCells_list (P := P) (w := w) ⟨b, o, none⟩ vs hc
  rw [hk] at this
  simp [execOp, ha.ev hx, Instr.loadAt, Instr.sureAddr, loadVar, (run_isAgg_agg ht w).1, (run_isAgg_agg ht w).2, this]
theorem q_extract {x : Operand} {vs : Array Value} {i : Nat} {v : Value} (hx : ev ρ x = some (.tuple vs)) (hv : lg vs.toList i = some v) : Qv P n ρ Γ ⟨ds, .extract x i, ty, pos, af, gd⟩ v := fun a w ha _ => by simp [execOp, ha.ev hx, Instr.extract, lg_arr hv]
theorem q_makeFunc {fn : Fn} {fs cs : List Operand} {vs us : List Value} (h1 : EvL ρ fs vs) (h2 : EvL ρ cs us) : Qv P n ρ Γ ⟨ds, .makeFunc fn fs.toArray cs.toArray, ty, pos, af, gd⟩ (.func fn vs.toArray us.toArray) := fun a w ha _ => by
  simp [execOp, Instr.makeFunc, h1.map ha, h2.map ha]
/-! Numbers. -/
theorem q_bin {op : BinOp} {t yt : TypeId} {x y : Operand} {k : IntKind} {p q : Int} {v : Value} (hx : ev ρ x = some (.int k p)) (hy : ev ρ y = some (.int k q)) (h : ∀ w, (binOp op t (.int k p) (.int k q)).run P w = .ok v w) : Qv P n ρ Γ ⟨ds, .binOp op t x y yt, ty, pos, af, gd⟩ v := fun a w ha _ => by
  simp [execOp, ha.ev hx, ha.ev hy, eqGuard, h]
theorem wrap_in {k : IntKind} {n : Int} (h : k.min ≤ n ∧ n ≤ k.max) : k.wrap n = n := by
  obtain ⟨h1, h2⟩ := h
  unfold IntKind.wrap
  cases k <;> simp [IntKind.min, IntKind.max, IntKind.signed, IntKind.bits] at h1 h2 ⊢ <;> omega
theorem q_add {t yt : TypeId} {x y : Operand} {k : IntKind} {p q : Int} (hx : ev ρ x = some (.int k p)) (hy : ev ρ y = some (.int k q)) (h : k.min ≤ p + q ∧ p + q ≤ k.max) : Qv P n ρ Γ ⟨ds, .binOp .add t x y yt, ty, pos, af, gd⟩ (.int k (p + q)) :=
  q_bin hx hy fun w => by simp [binOp, Op.intArith, wrap_in h]
theorem q_sub {t yt : TypeId} {x y : Operand} {k : IntKind} {p q : Int} (hx : ev ρ x = some (.int k p)) (hy : ev ρ y = some (.int k q)) (h : k.min ≤ p - q ∧ p - q ≤ k.max) : Qv P n ρ Γ ⟨ds, .binOp .sub t x y yt, ty, pos, af, gd⟩ (.int k (p - q)) :=
  q_bin hx hy fun w => by simp [binOp, Op.intArith, wrap_in h]
theorem q_mul {t yt : TypeId} {x y : Operand} {k : IntKind} {p q : Int} (hx : ev ρ x = some (.int k p)) (hy : ev ρ y = some (.int k q)) (h : k.min ≤ p * q ∧ p * q ≤ k.max) : Qv P n ρ Γ ⟨ds, .binOp .mul t x y yt, ty, pos, af, gd⟩ (.int k (p * q)) :=
  q_bin hx hy fun w => by simp [binOp, Op.intArith, wrap_in h]
theorem q_addW {t yt : TypeId} {x y : Operand} {k : IntKind} {p q : Int} (hx : ev ρ x = some (.int k p)) (hy : ev ρ y = some (.int k q)) : Qv P n ρ Γ ⟨ds, .binOp .add t x y yt, ty, pos, af, gd⟩ (.int k (k.wrap (p + q))) :=
  q_bin hx hy fun w => by simp [binOp, Op.intArith]
theorem q_subW {t yt : TypeId} {x y : Operand} {k : IntKind} {p q : Int} (hx : ev ρ x = some (.int k p)) (hy : ev ρ y = some (.int k q)) : Qv P n ρ Γ ⟨ds, .binOp .sub t x y yt, ty, pos, af, gd⟩ (.int k (k.wrap (p - q))) :=
  q_bin hx hy fun w => by simp [binOp, Op.intArith]
theorem q_eq {t yt : TypeId} {x y : Operand} {k : IntKind} {p q : Int} (hx : ev ρ x = some (.int k p)) (hy : ev ρ y = some (.int k q)) : Qv P n ρ Γ ⟨ds, .binOp .eql t x y yt, ty, pos, af, gd⟩ (.bool (decide (p = q))) :=
  q_bin hx hy fun w => by rw [show decide (p = q) = (p == q) from rfl]; simp [binOp, Op.intCmp]
theorem q_ne {t yt : TypeId} {x y : Operand} {k : IntKind} {p q : Int} (hx : ev ρ x = some (.int k p)) (hy : ev ρ y = some (.int k q)) : Qv P n ρ Γ ⟨ds, .binOp .neq t x y yt, ty, pos, af, gd⟩ (.bool (decide (p ≠ q))) :=
  q_bin hx hy fun w => by rw [show decide (p ≠ q) = (p != q) from by simp [bne]; rfl]; simp [binOp, Op.intCmp]
theorem q_lt {t yt : TypeId} {x y : Operand} {k : IntKind} {p q : Int} (hx : ev ρ x = some (.int k p)) (hy : ev ρ y = some (.int k q)) : Qv P n ρ Γ ⟨ds, .binOp .lss t x y yt, ty, pos, af, gd⟩ (.bool (decide (p < q))) :=
  q_bin hx hy fun w => by simp [binOp, Op.intCmp]
theorem q_le {t yt : TypeId} {x y : Operand} {k : IntKind} {p q : Int} (hx : ev ρ x = some (.int k p)) (hy : ev ρ y = some (.int k q)) : Qv P n ρ Γ ⟨ds, .binOp .leq t x y yt, ty, pos, af, gd⟩ (.bool (decide (p ≤ q))) :=
  q_bin hx hy fun w => by simp [binOp, Op.intCmp]
theorem q_gt {t yt : TypeId} {x y : Operand} {k : IntKind} {p q : Int} (hx : ev ρ x = some (.int k p)) (hy : ev ρ y = some (.int k q)) : Qv P n ρ Γ ⟨ds, .binOp .gtr t x y yt, ty, pos, af, gd⟩ (.bool (decide (q < p))) :=
  q_bin hx hy fun w => by simp [binOp, Op.intCmp]
theorem q_ge {t yt : TypeId} {x y : Operand} {k : IntKind} {p q : Int} (hx : ev ρ x = some (.int k p)) (hy : ev ρ y = some (.int k q)) : Qv P n ρ Γ ⟨ds, .binOp .geq t x y yt, ty, pos, af, gd⟩ (.bool (decide (q ≤ p))) :=
  q_bin hx hy fun w => by simp [binOp, Op.intCmp]
theorem q_rem {t yt : TypeId} {x y : Operand} {k : IntKind} {p q : Int} (hx : ev ρ x = some (.int k p)) (hy : ev ρ y = some (.int k q)) (h : 0 ≤ p ∧ 0 < q) : Qv P n ρ Γ ⟨ds, .binOp .rem t x y yt, ty, pos, af, gd⟩ (.int k (p % q)) :=
  q_bin hx hy fun w => by
    have h0 : q ≠ 0 := by omega
    simp [binOp, Op.intDiv, h0, Int.tmod_eq_emod_of_nonneg h.1]
theorem q_quo {t yt : TypeId} {x y : Operand} {k : IntKind} {p q : Int} (hx : ev ρ x = some (.int k p)) (hy : ev ρ y = some (.int k q)) (h : 0 ≤ p ∧ 0 < q) (hr : k.min ≤ p / q ∧ p / q ≤ k.max) : Qv P n ρ Γ ⟨ds, .binOp .quo t x y yt, ty, pos, af, gd⟩ (.int k (p / q)) :=
  q_bin hx hy fun w => by
    have h0 : q ≠ 0 := by omega
    simp [binOp, Op.intDiv, h0, Int.tdiv_eq_ediv_of_nonneg h.1, wrap_in hr]
theorem q_not {t : TypeId} {x : Operand} {b : Bool} (hx : ev ρ x = some (.bool b)) : Qv P n ρ Γ ⟨ds, .unOp .not t x, ty, pos, af, gd⟩ (.bool (!b)) := fun a w ha _ => by simp [execOp, ha.ev hx, Op.unary]
theorem q_conv {s t : TypeId} {x : Operand} {k j : IntKind} {p : Int} (ht : intT P t = some k) (hst : (P.underlying s).isSome = true) (hx : ev ρ x = some (.int j p)) (h : k.min ≤ p ∧ p ≤ k.max) : Qv P n ρ Γ ⟨ds, .convert s t x, ty, pos, af, gd⟩ (.int k p) := fun a w ha _ => by
  unfold intT at ht
  split at ht
  · rename_i k' hk
    cases ht
    obtain ⟨ds', hds⟩ := Option.isSome_iff_exists.1 hst
    simp [execOp, ha.ev hx, convert, run_underlying hds, run_underlying hk, Conv.intToInt, wrap_in h]
  · cases ht
theorem q_convW {s t : TypeId} {x : Operand} {k j : IntKind} {p : Int} (ht : intT P t = some k) (hst : (P.underlying s).isSome = true) (hx : ev ρ x = some (.int j p)) : Qv P n ρ Γ ⟨ds, .convert s t x, ty, pos, af, gd⟩ (.int k (k.wrap p)) := fun a w ha _ => by
  unfold intT at ht
  split at ht
  · rename_i k' hk
    cases ht
    obtain ⟨ds', hds⟩ := Option.isSome_iff_exists.1 hst
    simp [execOp, ha.ev hx, convert, run_underlying hds, run_underlying hk, Conv.intToInt]
  · cases ht
theorem q_binR {op : BinOp} {t yt : TypeId} {x y : Operand} {p q v : Value} (hx : ev ρ x = some p) (hy : ev ρ y = some q) (hg : ∀ w, (eqGuard op t x y p q).run P w = .ok () w) (h : ∀ w, (binOp op t p q).run P w = .ok v w) : Qv P n ρ Γ ⟨ds, .binOp op t x y yt, ty, pos, af, gd⟩ v := fun a w ha _ => by
  simp only [execOp, ha.ev hx, ha.ev hy, Sem.run_bind, hg, h, Result.andThen_ok, Sem.run_pure]
theorem q_eqB {t yt : TypeId} {x y : Operand} {p q : Bool} (ht : P.underlying t = some .bool) (hx : ev ρ x = some (.bool p)) (hy : ev ρ y = some (.bool q)) : Qv P n ρ Γ ⟨ds, .binOp .eql t x y yt, ty, pos, af, gd⟩ (.bool (p == q)) :=
  q_binR hx hy (fun w => by simp [eqGuard]) (fun w => run_eql_bool (w := w) t p q ht)
theorem q_neB {t yt : TypeId} {x y : Operand} {p q : Bool} (ht : P.underlying t = some .bool) (hx : ev ρ x = some (.bool p)) (hy : ev ρ y = some (.bool q)) : Qv P n ρ Γ ⟨ds, .binOp .neq t x y yt, ty, pos, af, gd⟩ (.bool (p != q)) :=
  q_binR hx hy (fun w => by simp [eqGuard]) (fun w => run_neq_bool (w := w) t p q ht)
/-! Pointers against nil. -/
theorem pointee_of {t e : TypeId} (ht : P.underlying t = some (.pointer e)) : P.underlying t = some (.pointer (P.pointee t)) := by rw [ht]; simp [Program.pointee, ht]
theorem q_eqN {t yt e : TypeId} {x : Operand} {p : Option Addr} (ht : P.underlying t = some (.pointer e)) (hx : ev ρ x = some (.pointer p)) {y : Operand} (hy : ev ρ y = some (.pointer none)) : Qv P n ρ Γ ⟨ds, .binOp .eql t x y yt, ty, pos, af, gd⟩ (.bool p.isNone) :=
  q_binR hx hy (fun w => by simp [eqGuard]) (fun w => run_eql_pointer_nil (w := w) t p (pointee_of ht))
theorem q_neN {t yt e : TypeId} {x : Operand} {p : Option Addr} (ht : P.underlying t = some (.pointer e)) (hx : ev ρ x = some (.pointer p)) {y : Operand} (hy : ev ρ y = some (.pointer none)) : Qv P n ρ Γ ⟨ds, .binOp .neq t x y yt, ty, pos, af, gd⟩ (.bool (!p.isNone)) :=
  q_binR hx hy (fun w => by simp [eqGuard]) (fun w => run_neq_pointer_nil (w := w) t p (pointee_of ht))
/-! Slices. -/
theorem q_eqSN {t yt e : TypeId} {x : Operand} {p : Option Addr} {l c l' c' : Nat} (ht : P.underlying t = some (.slice e)) (hx : ev ρ x = some (.slice p l c)) {y : Operand} (hy : ev ρ y = some (.slice none l' c')) : Qv P n ρ Γ ⟨ds, .binOp .eql t x y yt, ty, pos, af, gd⟩ (.bool p.isNone) :=
  q_binR hx hy (fun w => by simp [eqGuard]) (fun w => Lib.run_eql_slice_nil w _ _ p l c l' c' ht)
theorem q_neSN {t yt e : TypeId} {x : Operand} {p : Option Addr} {l c l' c' : Nat} (ht : P.underlying t = some (.slice e)) (hx : ev ρ x = some (.slice p l c)) {y : Operand} (hy : ev ρ y = some (.slice none l' c')) : Qv P n ρ Γ ⟨ds, .binOp .neq t x y yt, ty, pos, af, gd⟩ (.bool (!p.isNone)) :=
  q_binR hx hy (fun w => by simp [eqGuard]) (fun w => run_neq_slice_nil_any w _ _ p l c l' c' ht)
theorem q_len {x : Operand} {t e : TypeId} {p : Option Addr} {l c : Nat} (ht : P.underlying t = some (.slice e)) (hx : ev ρ x = some (.slice p l c)) : Qv P n ρ Γ ⟨ds, .call { callee := .builtin .len, args := #[x], argTypes := #[t] }, ty, pos, af, gd⟩ (.int .i64 l) := fun a w ha _ => by
  simp [execOp, ha.ev hx, resolve, invoke, builtin, Builtin.len_, run_underlying ht, goInt]
theorem q_index {t : TypeId} {x y : Operand} {e sz b o l c : Nat} {k : IntKind} {i : Int} (ht : elemT P t = some (e, sz)) (hx : ev ρ x = some (.slice (some ⟨b, o, none⟩) l c)) (hy : ev ρ y = some (.int k i)) (h : 0 ≤ i ∧ i < l) : Qv P n ρ Γ ⟨ds, .indexAddr t x y, ty, pos, af, gd⟩ (.pointer (some ⟨b, o + i.toNat * sz, none⟩)) := fun a w ha _ => by
  unfold elemT at ht
  split at ht
  · rename_i e' he
    cases hi : P.info? e' with
    | none => simp [hi] at ht
    | some inf =>
      simp only [hi, Option.map_some, Option.some.injEq, Prod.mk.injEq] at ht
      obtain ⟨rfl, rfl⟩ := ht
      simp [execOp, ha.ev hx, ha.ev hy, Instr.indexAt, asIntOf, run_underlying he, h.1, h.2, sizeOf, typeInfo, hi, Addr.add_lit]
  · cases ht
theorem q_indexA {t : TypeId} {x y : Operand} {m sz b o : Nat} {k : IntKind} {i : Int} (ht : arrT P t = some (m, sz)) (hx : ev ρ x = some (.pointer (some ⟨b, o, none⟩))) (hy : ev ρ y = some (.int k i)) (h : 0 ≤ i ∧ i < m) : Qv P n ρ Γ ⟨ds, .indexAddr t x y, ty, pos, af, gd⟩ (.pointer (some ⟨b, o + i.toNat * sz, none⟩)) := fun a w ha _ => by
  unfold arrT at ht
  split at ht
  · rename_i m' e' he
    cases hi : P.info? e' with
    | none => simp [hi] at ht
    | some inf =>
      simp only [hi, Option.map_some, Option.some.injEq, Prod.mk.injEq] at ht
      obtain ⟨rfl, rfl⟩ := ht
      simp [execOp, ha.ev hx, ha.ev hy, Instr.indexAt, asIntOf, run_underlying he, h.1, h.2, sizeOf, typeInfo, hi, Addr.add_lit, Instr.sureAddr]
  · cases ht
/-! What makes or writes memory. -/
theorem S.alloc {t : TypeId} {zs : List Value} (hz : zeroT P t = some zs) (hn : Nat.blt d n = true) (k : ∀ b, S n w0 ((d, .pointer (some ⟨b, 0, none⟩)) :: ρ) (blk b t zs.toArray :: Γ) K) : S n w0 ρ Γ (Ow P Q ⟨some d, .alloc t, ty, pos, af, gd⟩ K) := by
  intro a w ha hs hx
  unfold zeroT at hz
  cases hi : P.info? t with
  | none => simp [hi] at hz
  | some i =>
    cases hz' : i.zero with
    | none => simp [hi, hz'] at hz
    | some z =>
      simp only [hi, hz', Option.bind_some, Option.map_some, Option.some.injEq] at hz
      have hr : (execOp a.eval ⟨some d, .alloc t, ty, pos, af, gd⟩).run P w = .ok (.value (.pointer (some ⟨w.heap.size, 0, none⟩))) (w.alloc (.cells zs.toArray t)) := by
        have : zs.toArray = z.cells := by rw [← hz]
        simp [execOp, Instr.alloc, zeroValue, typeInfo, hi, hz', newVar, newRow, this]
      unfold Ow Oper.wp
      rw [hr, Oper.upon_value]
      exact k w.heap.size _ _ (ha.put hn _) (hs.alloc _ _) (hx.alloc _)
theorem S.box {t : TypeId} {x : Operand} {v : Value} {cs : List Value} (hx : ev ρ x = some v) (hc : v.cells.toList = cs) (hn : Nat.blt d n = true) (k : ∀ b, S n w0 ((d, .pointer (some ⟨b, 0, none⟩)) :: ρ) (blk b t cs.toArray :: Γ) K) : S n w0 ρ Γ (Ow P Q ⟨some d, .box t x, ty, pos, af, gd⟩ K) := by
  intro a w ha hs hxt
  have hr : (execOp a.eval ⟨some d, .box t x, ty, pos, af, gd⟩).run P w = .ok (.value (.pointer (some ⟨w.heap.size, 0, none⟩))) (w.alloc (.cells cs.toArray t)) := by
    have : cs.toArray = v.cells := by rw [← hc]
    simp [execOp, ha.ev hx, Instr.box, newVar, newRow, this]
  unfold Ow Oper.wp
  rw [hr, Oper.upon_value]
  exact k w.heap.size _ _ (ha.put hn _) (hs.alloc _ _) (hxt.alloc _)
theorem EnvOk.putNone {ρ : Env} {a : Act} (h : EnvOk n ρ a) (v : Value) : EnvOk n ρ (a.put none v) := h
theorem S.store {t b o : Nat} {x y : Operand} {e : TypeId} {cs : Array Value} {v : Value} {Δ : List Assn} {cs' : List Value} (ht : atomT P t = true) (hx : ev ρ x = some (.pointer (some ⟨b, o, none⟩))) (hy : ev ρ y = some v) (hv : v.oneCell' = true) [hb : HasB Γ b e cs Δ] (ho : Nat.blt o cs.size = true) (hc : cs.toList.set o v = cs')
    (k : S n w0 ρ (blk b e cs'.toArray :: Δ) K) : S n w0 ρ Γ (Ow P Q ⟨none, .store t x y, ty, pos, af, gd⟩ K) := by
  intro a w ha hs hxt
  have hB := hb.blk hs
  have ho' : o < cs.size := by have := ho; simp [Nat.blt] at this; omega
  have hcell : w.cell? ⟨b, o, none⟩ = some cs[o] := by rw [hB.cell]; simp [ho']
  have hcells : v.cells = #[v] := by cases v <;> first | rfl | simp [Value.oneCell'] at hv
  have hst : (Go.store (⟨b, o, none⟩ : Addr) v).run P w = .ok () (w.setCell ⟨b, o, none⟩ v) := by rw [run_store P w _ v _ hv, hcell]; simp [hB.frozen]
  have hr : (execOp a.eval ⟨none, .store t x y, ty, pos, af, gd⟩).run P w = .ok .skip (w.setCell ⟨b, o, none⟩ v) := by
    have h0 : (⟨b, o, none⟩ : Addr).add 0 = ⟨b, o, none⟩ := by simp [Addr.add]
    simp [execOp, ha.ev hx, ha.ev hy, Instr.storeAt, Instr.sureAddr, storeVar, (run_isAgg_atom ht w).2, hcells, storeCells]
    rw [h0, hst]
    rfl
  unfold Ow Oper.wp
  rw [hr, Oper.upon_skip]
  refine k _ _ (ha.putNone _) ?_ (hxt.setCell _ _)
  have := (hs.ent hb.ent).setCell o v
  rw [← hc]
  have e1 : (cs.toList.set o v).toArray = cs.setIfInBounds o v := by rw [← Array.toList_setIfInBounds]
  rw [e1]
  exact this
def allOne (l : List Value) : Bool := l.all (·.oneCell')
theorem Sat.setRow {w : World} {Γ : List Assn} {b : Nat} {e : TypeId} {cs : Array Value} (h : Sat w (blk b e cs :: Γ)) (cs' : Array Value) : Sat (w.setRow b cs') (blk b e cs' :: Γ) := by
  refine h.upd fun x l p => ⟨HL.one b (.cells cs' e), HL.one_le (setRow_heap w b cs _ e _ (l b _ p)), HL.one_self _ _, fun c hc _ => ?_⟩
  have hne : c ≠ b := fun e => by subst e; rw [p] at hc; cases hc
  exact ⟨HL.one_none hne, setRow_other w b c _ hne⟩
theorem S.storeS {t b o k : Nat} {x y : Operand} {e : TypeId} {cs : Array Value} {vs : Array Value} {Δ : List Assn} {cs' : List Value} (ht : aggT P t = some k) (hx : ev ρ x = some (.pointer (some ⟨b, o, none⟩))) (hy : ev ρ y = some (.agg vs)) (hk : vs.size = k) (h1 : allOne vs.toList = true) [hb : HasB Γ b e cs Δ] (ho : Nat.ble (o + vs.size) cs.size = true)
    (hc : cs.toList.take o ++ vs.toList ++ cs.toList.drop (o + vs.size) = cs') (kk : S n w0 ρ (blk b e cs'.toArray :: Δ) K) : S n w0 ρ Γ (Ow P Q ⟨none, .store t x y, ty, pos, af, gd⟩ K) := by
  intro a w ha hs hxt
  have hB := hb.blk hs
  have ho' : o + vs.size ≤ cs.size := Nat.le_of_ble_eq_true ho
  have hst := run_storeCells_at P b o e vs.toList 0 cs w hB (by simpa using ho') (fun v hv => List.all_eq_true.1 h1 v hv)
  have hr : (execOp a.eval ⟨none, .store t x y, ty, pos, af, gd⟩).run P w = .ok .skip (w.setRow b cs'.toArray) := by
    rw [← hc]
    simp only [Nat.add_zero, Array.length_toList] at hst
    simp [execOp, ha.ev hx, ha.ev hy, Instr.storeAt, Instr.sureAddr, storeVar, (run_isAgg_agg ht w).2, Value.cells, hk] at hst ⊢
    rw [hst]
    simp
  unfold Ow Oper.wp
  rw [hr, Oper.upon_skip]
  exact kk _ _ (ha.putNone _) ((hs.ent hb.ent).setRow _) (hxt.trans ⟨rfl, rfl, rfl, by simp [World.setRow], Nat.le_refl _⟩)
/-! Calls. -/
theorem run_enter {f : FuncId} {vs : List Value} {c : Call} {a : Act} {ds : Option Tmp} (he : enterT P f = true) (hc : a.eval (match c.callee with | .value x => x | _ => .const undef) = .func (.func f) #[] #[]) (hv : ∃ x, c.callee = .value x) (hargs : c.args.map a.eval = vs.toArray) (w : World) :
    (execOp a.eval ⟨ds, .call c, ty, pos, af, gd⟩).run P w = .ok (.enter f vs.toArray) w := by
  obtain ⟨x, hx⟩ := hv
  simp only [hx] at hc
  unfold enterT at he
  split at he
  · rename_i fn hfn
    simp only [Bool.and_eq_true, bne_iff_ne, ne_eq] at he
    obtain ⟨h1, h2⟩ := he
    have h2' : ¬ fn.body = none := by cases hb : fn.body <;> simp [hb] at h2 ⊢
    simp [execOp, resolve, hx, hc, Deferred.ofValue, invoke, hargs, callFunc, hfn, h1, h2']
  · cases he
theorem S.call {f : FuncId} {xs : List Operand} {ats : Array TypeId} {vs : List Value} {pre Δ : List Assn} {post : List Assn → Value → List Assn → Prop} (he : enterT P f = true) (hargs : EvL ρ xs vs)
    (hs : Spec P f vs pre post md) [hp : Picks pre Γ Δ] (hn : Nat.blt d n = true)
    (k : ∀ v Θ, post Δ v Θ → S n w0 ((d, v) :: ρ) Θ K) : S n w0 ρ Γ (Ow P Q ⟨some d, .call { callee := .value (.func f), args := xs.toArray, argTypes := ats }, ty, pos, af, gd⟩ K) := by
  intro a w ha hsat hx
  have hr := run_enter (ty := ty) (pos := pos) (af := af) (gd := gd) (c := { callee := .value (.func f), args := xs.toArray, argTypes := ats }) (a := a) (ds := some d) (vs := vs) he rfl ⟨_, rfl⟩ (by simp [hargs.map ha]) w
  unfold Ow Oper.wp
  rw [hr, Oper.upon_enter]
  refine (hs Δ w (hsat.ent hp.ent)).mono ?_
  rintro e w' ⟨v, Θ, rfl, hpost, hsat', hx'⟩
  exact k v Θ hpost _ _ (ha.put hn v) hsat' (hx.transM hx')
theorem S.call0 {f : FuncId} {xs : List Operand} {ats : Array TypeId} {vs : List Value} {pre Δ : List Assn} {post : List Assn → Value → List Assn → Prop} (he : enterT P f = true) (hargs : EvL ρ xs vs)
    (hs : Spec P f vs pre post md) [hp : Picks pre Γ Δ]
    (k : ∀ v Θ, post Δ v Θ → S n w0 ρ Θ K) : S n w0 ρ Γ (Ow P Q ⟨none, .call { callee := .value (.func f), args := xs.toArray, argTypes := ats }, ty, pos, af, gd⟩ K) := by
  intro a w ha hsat hx
  have hr := run_enter (ty := ty) (pos := pos) (af := af) (gd := gd) (c := { callee := .value (.func f), args := xs.toArray, argTypes := ats }) (a := a) (ds := none) (vs := vs) he rfl ⟨_, rfl⟩ (by simp [hargs.map ha]) w
  unfold Ow Oper.wp
  rw [hr, Oper.upon_enter]
  refine (hs Δ w (hsat.ent hp.ent)).mono ?_
  rintro e w' ⟨v, Θ, rfl, hpost, hsat', hx'⟩
  exact k v Θ hpost _ _ (ha.putNone _) hsat' (hx.transM hx')
end
end Go.Proofs.YtegjmmocnffpiaaDoor
/- Returns, aggregates, slices: rules in the states of XSep. Of no program. -/
namespace Go.Proofs.YtegjmmocnffpiaaDoor
open Go.RowKit
/-! Returns. -/
def Lod (P : Program) (Γ : List Assn) (t : TypeId) (b o : Nat) (v : Value) : Prop := ∀ w, Sat w Γ → (loadVar t ⟨b, o, none⟩).run P w = .ok v w
theorem lod_atom {P : Program} {Γ Δ : List Assn} {t b o : Nat} {e : TypeId} {cs : Array Value} {v : Value} (ht : atomT P t = true) [hb : HasB Γ b e cs Δ] (hv : lg cs.toList o = some v) : Lod P Γ t b o v := by
  intro w hs
  have hc : w.cell? ⟨b, o, none⟩ = some v := by rw [(hb.blk hs).cell]; exact lg_arr hv
  unfold loadVar
  rw [Sem.run_bind, (run_isAgg_atom ht w).1]
  exact run_load_at hc
theorem lod_agg {P : Program} {Γ Δ : List Assn} {t b o k : Nat} {e : TypeId} {cs : Array Value} (vs : List Value) (ht : aggT P t = some k) [hb : HasB Γ b e cs Δ] (hk : vs.length = k) (hv : Seg cs o vs) : Lod P Γ t b o (.agg vs.toArray) := by
  intro w hs
  have hc : ∀ j u, vs[j]? = some u → w.cell? ((⟨b, o, none⟩ : Addr).add j) = some u := fun j u hu => by rw [Addr.add_lit, (hb.blk hs).cell]; exact hv.get j u hu
  have := run_loadCells_list (P := P) (w := w) ⟨b, o, none⟩ vs hc
  rw [hk] at this
  simp [loadVar, (run_isAgg_agg ht w).1, (run_isAgg_agg ht w).2, this]
def ResL (P : Program) (ρ : Env) (Γ : List Assn) : List ResultVar → List Value → Prop
  | [], [] => True
  | .tmp t :: rs, v :: vs => Env.get ρ t = some v ∧ ResL P ρ Γ rs vs
  | .cell t ty :: rs, v :: vs => (∃ b o, Env.get ρ t = some (.pointer (some ⟨b, o, none⟩)) ∧ Lod P Γ ty b o v) ∧ ResL P ρ Γ rs vs
  | _, _ => False
def resOne (a : Act) : ResultVar → Sem Value
  | .tmp t => pure (a.tmps.getD t undef)
  | .cell x t => do loadVar t (← asAddr (a.tmps.getD x undef))
theorem ResL.run {P : Program} {n : Nat} {ρ : Env} {Γ : List Assn} {a : Act} {w : World} (ha : EnvOk n ρ a) (hs : Sat w Γ) : ∀ {rs : List ResultVar} {vs : List Value}, ResL P ρ Γ rs vs →
    (rs.mapM (resOne a)).run P w = Result.ok vs w
  | [], [], _ => by simp
  | .tmp t :: rs, v :: vs, h => by
    have := ResL.run ha hs h.2
    have hg := ha.get _ _ h.1
    have h1 : (resOne a (.tmp t)).run P w = .ok v w := by simp only [resOne, Sem.run_pure, hg]
    simp only [List.mapM_cons, Sem.run_bind, Sem.run_pure, Result.andThen_ok, this, h1]
  | .cell t ty :: rs, v :: vs, h => by
    obtain ⟨⟨b, o, h1, h2⟩, h3⟩ := h
    have := ResL.run ha hs h3
    have hg := ha.get _ _ h1
    have h1 : (resOne a (.cell t ty)).run P w = .ok v w := by simp only [resOne, hg, asAddr, Sem.run_bind, Sem.run_pure, Result.andThen_ok, h2 w hs]
    simp only [List.mapM_cons, Sem.run_bind, Sem.run_pure, Result.andThen_ok, this, h1]
  | [], _ :: _, h => h.elim
  | .tmp _ :: _, [], h => h.elim
  | .cell _ _ :: _, [], h => h.elim
def resV : List Value → Value
  | [v] => v
  | vs => .tuple vs.toArray
section
variable {P : Program} {n : Nat} {md : Bool} {w0 : WM md} {ρ : Env} {Γ : List Assn} {Q : Exit → Act → World → Prop} {K : Act → World → Prop} {rest : List Oper} {ty : TypeId} {pos : String} {af : Array Edge} {gd : Option (Nat × Bool)} {d : Nat} {ds : Option Tmp}
theorem run_results {fn : Func} {rs : List ResultVar} {vs : List Value} {a : Act} {w : World} (hr : fn.results = rs.toArray) (hl : ResL P ρ Γ rs vs) (ha : EnvOk n ρ a) (hs : Sat w Γ) : (results fn a.tmps).run P w = .ok (resV vs) w := by
  have h := hl.run ha hs
  have e : results fn a.tmps = (do
      let us ← fn.results.mapM (resOne a)
      pure (if h : us.size = 1 then us[0] else .tuple us)) := by
    unfold results
    congr 1
  rw [e, hr]
  simp only [List.mapM_toArray, Sem.run_bind]
  rw [← bind_pure_comp, Sem.run_bind]
  rw [h]
  simp only [Result.andThen_ok, Sem.run_pure, Result.ok.injEq, and_true]
  unfold resV
  match vs with
  | [] => simp
  | [v] => simp
  | _ :: _ :: _ => simp
theorem S.fin {fn : Func} {post : List Assn → Value → List Assn → Prop} {Γf Θ : List Assn} {rs : List ResultVar} {vs : List Value} (hr : fn.results = rs.toArray) (hl : ResL P ρ Γ rs vs) (hp : post Γf (resV vs) Θ) (he : Ent Γ Θ) : S n w0 ρ Γ (Fin P fn post Γf w0 .ret) := by
  intro a w ha hs hx
  exact ⟨ha.defers, _, run_results hr hl ha hs, _, Θ, rfl, hp, hs.ent he, hx⟩
theorem S.finN {fn : Func} {post : List Assn → Value → List Assn → Prop} {Γf Θ : List Assn} {rs : List ResultVar} {vs : List Value} (hr : fn.results = rs.toArray) (hl : ResL P ρ Γ rs vs) (hp : post Γf (resV vs) Θ) (he : Ent Γ Θ) : S n w0 ρ Γ (Fin P fn post Γf w0 .normal) := by
  intro a w ha hs hx
  exact ⟨ha.defers, _, run_results hr hl ha hs, _, Θ, rfl, hp, hs.ent he, hx⟩
/-! Aggregates. -/
def fillL (place : Nat → Option (Nat × Nat)) (cells : List Value) : List (Nat × Value) → Option (List Value)
  | [] => some cells
  | (i, v) :: rest => match place i with
    | none => none
    | some (off, size) => bif Nat.beq v.cells.toList.length size && Nat.ble (off + v.cells.toList.length) cells.length then fillL place (cells.take off ++ (v.cells.toList ++ cells.drop (off + v.cells.toList.length))) rest else none
theorem foldl_sets (off : Nat) : ∀ (vs : List Value) (k : Nat) (cs : List Value), off + k + vs.length ≤ cs.length →
    ((vs.zipIdx k).foldl (fun (a : Array Value) (x : Value × Nat) => a.setIfInBounds (off + x.2) x.1) cs.toArray).toList = cs.take (off + k) ++ (vs ++ cs.drop (off + k + vs.length)) := by
  intro vs
  induction vs with
  | nil => intro k cs _; simp
  | cons v vs ih =>
    intro k cs h
    simp only [List.length_cons] at h
    simp only [List.zipIdx_cons, List.foldl_cons, List.setIfInBounds_toArray]
    rw [ih (k + 1) (cs.set (off + k) v) (by simp; omega)]
    have e1 : off + (k + 1) = off + k + 1 := by omega
    rw [e1, List.take_set, List.take_succ_eq_append_getElem (show off + k < cs.length by omega), List.set_append_right _ _ (by rw [List.length_take]; omega), List.drop_set_of_lt (by omega)]
    simp only [List.length_take, List.length_cons, List.append_assoc]
    have e2 : off + k - min (off + k) cs.length = 0 := by rw [Nat.min_eq_left (by omega)]; omega
    rw [e2]
    simp only [List.set_cons_zero, List.cons_append, List.nil_append, List.append_cancel_left_eq, List.cons.injEq, true_and]
    rw [show off + k + 1 + vs.length = off + k + (vs.length + 1) by omega]
theorem fillL_fill (place : Nat → Option (Nat × Nat)) : ∀ (parts : List (Nat × Value)) (cells : List Value) (r : List Value), fillL place cells parts = some r → Instr.fill place cells.toArray parts = some r.toArray := by
  intro parts
  induction parts with
  | nil => intro cells r h; unfold fillL at h; cases h; rfl
  | cons p parts ih =>
    intro cells r h
    obtain ⟨i, v⟩ := p
    unfold fillL at h
    unfold Instr.fill
    cases hp : place i with
    | none => rw [hp] at h; cases h
    | some q =>
      obtain ⟨off, size⟩ := q
      rw [hp] at h
      simp only at h ⊢
      cases hb : (Nat.beq v.cells.toList.length size && Nat.ble (off + v.cells.toList.length) cells.length) with
      | false => rw [hb] at h; cases h
      | true =>
        rw [hb] at h
        simp only [cond_true] at h
        simp only [Bool.and_eq_true] at hb
        have e1 := Nat.eq_of_beq_eq_true hb.1
        have e2 := Nat.le_of_ble_eq_true hb.2
        simp only [Array.length_toList] at e1 e2
        rw [if_neg (by simp [e1]; omega)]
        have hf := foldl_sets off v.cells.toList 0 cells (by simpa using e2)
        have : (v.cells.zipIdx.foldl (fun cs (x : Value × Nat) => cs.setIfInBounds (off + x.2) x.1) cells.toArray) = (cells.take off ++ (v.cells.toList ++ cells.drop (off + v.cells.toList.length))).toArray := by
          apply Array.toList_inj.1
          rw [← Array.foldl_toList, Array.toList_zipIdx, hf]
          simp
        have h2 := ih _ _ h
        rw [← this] at h2
        exact h2
def EvP (ρ : Env) : List (Nat × Operand) → List (Nat × Value) → Prop
  | [], [] => True
  | (i, x) :: xs, (j, v) :: vs => (i = j ∧ ev ρ x = some v) ∧ EvP ρ xs vs
  | _, _ => False
theorem EvP.map {ρ : Env} {a : Act} (ha : EnvOk n ρ a) : ∀ {xs : List (Nat × Operand)} {vs : List (Nat × Value)}, EvP ρ xs vs → xs.map (fun (i, x) => (i, a.eval x)) = vs
  | [], [], _ => rfl
  | (i, x) :: _, (j, v) :: _, h => by
    obtain ⟨⟨rfl, h1⟩, h2⟩ := h
    simp only [List.map_cons, ha.ev h1, EvP.map ha h2]
  | [], _ :: _, h => h.elim
  | _ :: _, [], h => h.elim
theorem q_build {t : TypeId} {xs : List (Nat × Operand)} {pvs : List (Nat × Value)} {zs : List Value} {places : List (Nat × Nat)} (vs : List Value) (hz : zeroT P t = some zs) (hp : partsT P t = some places) (he : EvP ρ xs pvs) (hf : fillL (fun i => places[i]?) zs pvs = some vs) :
    Qv P n ρ Γ ⟨ds, .build t xs.toArray, ty, pos, af, gd⟩ (.agg vs.toArray) := by
  intro a w ha _
  have hb : P.built t pvs = some vs.toArray := by
    unfold zeroT at hz
    unfold partsT at hp
    unfold Program.built
    cases hi : P.info? t with
    | none => simp [hi] at hz
    | some i =>
      cases hz' : i.zero with
      | none => simp [hi, hz'] at hz
      | some z =>
        simp only [hi, hz', Option.bind_some, Option.map_some, Option.some.injEq] at hz
        cases hu : P.underlying t with
        | none => simp [hu] at hp
        | some dd =>
          cases dd <;> simp [hu] at hp
          case struct fs =>
            simp only [hz']
            have hp' : List.mapM (fun f => (P.info? f.type).map fun i => (f.offset, i.size)) fs.toList = some places := by simpa using hp
            rw [hp']
            have := fillL_fill _ pvs zs vs hf
            rw [← hz] at this
            simpa using this
  have hr := run_build (P := P) w t pvs.toArray vs.toArray hb
  have hm : (xs.toArray.map fun x : Nat × Operand => (x.1, a.eval x.2)) = pvs.toArray := by
    have := he.map ha
    simpa using congrArg List.toArray this
  simp only [execOp, hm, Sem.run_bind, hr, Result.andThen_ok, Sem.run_pure]
/-- A part of a struct that stands by itself. -/
theorem q_fieldV {t f : Nat} {x : Operand} {vs : Array Value} {v : Value} {fs : Array Field} {fd : Field} (hu : P.underlying t = some (.struct fs)) (hf : fs[f]? = some fd) (ht : atomT P fd.type = true) (hx : ev ρ x = some (.agg vs)) (hv : vs[fd.offset]? = some v) : Qv P n ρ Γ ⟨ds, .field t x f, ty, pos, af, gd⟩ v := by
  intro a w ha _
  simp [execOp, ha.ev hx, Instr.field, run_underlying hu, hf, asAgg, part, (run_isAgg_atom ht w).1, hv]
/-! Slices that are owned. -/
structure SV where
  a : Option Addr
  n : Nat
  c : Nat
abbrev SV.v (s : SV) : Value := .slice s.a s.n s.c
abbrev SV.nil : SV := ⟨none, 0, 0⟩
def own (s : SV) (e : TypeId) (sz : Nat) (xs : List Value) : Assn := fun h => xs.length = s.n * sz ∧ ((s.a = none ∧ s.n = 0 ∧ s.c = 0) ∨
  ∃ b off cur, s.a = some ⟨b, off, none⟩ ∧ h b = some (.cells cur e (0, 0)) ∧ s.n ≤ s.c ∧ s.c ≤ maxLen ∧ off + s.c * sz ≤ cur.size ∧ (cur.toList.drop off).take (s.n * sz) = xs)
theorem own.mono {s : SV} {e : TypeId} {sz : Nat} {xs : List Value} {h k : HL} (p : own s e sz xs h) (l : HL.le h k) : own s e sz xs k :=
  ⟨p.1, p.2.imp id fun ⟨b, off, cur, h1, h2, r⟩ => ⟨b, off, cur, h1, l b _ h2, r⟩⟩
theorem own.toOwn {s : SV} {e : TypeId} {sz : Nat} {xs : List Value} {w : World} (p : own s e sz xs (HL.of w)) : Own w e sz s.v s.n xs (s.a.map (·.block)) := by
  refine ⟨p.1, ?_⟩
  rcases p.2 with ⟨h1, h2, h3⟩ | ⟨b, off, cur, h1, h2, h3, h4, h5, h6⟩
  · exact .inl ⟨by simp [SV.v, h1, h2, h3], h2, by simp [h1]⟩
  · exact .inr ⟨b, off, s.c, cur, by simp [SV.v, h1], by simp [h1], h2, h3, h4, h5, h6⟩
theorem own.ofOwn {s : SV} {e : TypeId} {sz : Nat} {xs : List Value} {w : World} {g : Option Nat} (p : Own w e sz s.v s.n xs g) : g = s.a.map (·.block) ∧ own s e sz xs (HL.of w) := by
  obtain ⟨sa, sn, sc⟩ := s
  rcases p.2 with ⟨h1, h2, h3⟩ | ⟨b, off, c, cur, h1, h2, h3, h4, h5, h6, h7⟩
  · simp only [SV.v, Value.slice.injEq] at h1
    obtain ⟨rfl, rfl, rfl⟩ := h1
    exact ⟨by simp [h3], p.1, .inl ⟨rfl, rfl, rfl⟩⟩
  · simp only [SV.v, Value.slice.injEq] at h1
    obtain ⟨rfl, _, rfl⟩ := h1
    exact ⟨by simp [h2], p.1, .inr ⟨b, off, cur, rfl, h3, h4, h5, h6, h7⟩⟩
theorem own.nil' (e : TypeId) (sz : Nat) (h : HL) : own SV.nil e sz [] h := ⟨by simp, .inl ⟨rfl, rfl, rfl⟩⟩
theorem Ent.ownNil (e : TypeId) (sz : Nat) : Ent Γ (own SV.nil e sz [] :: Γ) := fun h hs => ⟨HL.emp, h, HL.emp_disj _, HL.emp_le _, HL.le.refl _, own.nil' _ _ _, hs⟩
theorem S.ownNil {φ : Act → World → Prop} (e : TypeId) (sz : Nat) (h : S n w0 ρ (own SV.nil e sz [] :: Γ) φ) : S n w0 ρ Γ φ := S.ent (Ent.ownNil e sz) h
/-- Whether an owned slice is nil. -/
theorem S.ownCases {φ : Act → World → Prop} {s : SV} {e : TypeId} {sz : Nat} {xs : List Value} {Δ : List Assn} [hp : Pick (own s e sz xs) Γ Δ] (h0 : s = SV.nil → xs = [] → S n w0 ρ Γ φ)
    (h1 : ∀ b off m c, s = ⟨some ⟨b, off, none⟩, m, c⟩ → m ≤ c → c ≤ maxLen → xs.length = m * sz → S n w0 ρ Γ φ) : S n w0 ρ Γ φ := by
  intro a w ha hs hx
  obtain ⟨x, _, p1, p2⟩ := (hs.ent hp.ent).head
  obtain ⟨sa, sn, sc⟩ := s
  rcases p2 with ⟨e1, e2, e3⟩ | ⟨b, off, cur, e1, _, h3, h4, _⟩
  · simp only at e1 e2 e3
    subst e1 e2 e3
    exact h0 rfl (List.eq_nil_of_length_eq_zero (by simpa using p1)) a w ha hs hx
  · simp only at e1 h3 h4 p1
    subst e1
    exact h1 b off sn sc rfl h3 h4 p1 a w ha hs hx
class HasO (Γ : List Assn) (b : Nat) (off m c : outParam Nat) (e : outParam TypeId) (sz : outParam Nat) (xs : outParam (List Value)) (Δ : outParam (List Assn)) : Prop where
  ent : Ent Γ (own ⟨some ⟨b, off, none⟩, m, c⟩ e sz xs :: Δ)
instance (priority := high) HasO.head {b off m c : Nat} {e : TypeId} {sz : Nat} {xs : List Value} : HasO (own ⟨some ⟨b, off, none⟩, m, c⟩ e sz xs :: Γ) b off m c e sz xs Γ := ⟨Ent.refl _⟩
instance HasO.tail {A : Assn} {Δ : List Assn} {b off m c : Nat} {e : TypeId} {sz : Nat} {xs : List Value} [h : HasO Γ b off m c e sz xs Δ] : HasO (A :: Γ) b off m c e sz xs (A :: Δ) := ⟨(h.ent.cons A).trans (Ent.swap _ _ _)⟩
theorem HasO.slAt {Δ : List Assn} {b off m c : Nat} {e : TypeId} {sz : Nat} {xs : List Value} (h : HasO Γ b off m c e sz xs Δ) {w : World} (hs : Sat w Γ) : Own w e sz (.slice (some ⟨b, off, none⟩) m c) m xs (some b) := by
  obtain ⟨x, l, p⟩ := (hs.ent h.ent).head
  exact (p.mono l).toOwn
theorem HasO.cell {Δ : List Assn} {b off m c : Nat} {e : TypeId} {sz : Nat} {xs : List Value} (h : HasO Γ b off m c e sz xs Δ) {w : World} (hs : Sat w Γ) {j : Nat} {v : Value} (hj : xs[j]? = some v) : w.cell? ⟨b, off + j, none⟩ = some v := by
  have := h.slAt hs
  rcases this.cases with ⟨h1, _⟩ | ⟨b', off', c', h1, _, _, _, _, h2, _⟩
  · cases h1
  · simp only [Value.slice.injEq, Option.some.injEq, Addr.mk.injEq, and_true, true_and] at h1
    obtain ⟨⟨rfl, rfl⟩, rfl⟩ := h1
    rw [h2 j (by rw [← this.1]; exact (List.getElem?_eq_some_iff.1 hj).1)]
    exact hj
/-- A load through an owned slice, at number j of its cells. -/
theorem q_loadO {t b o off m c : Nat} {x : Operand} {e : TypeId} {sz : Nat} {xs : List Value} {v : Value} {Δ : List Assn} (j : Nat) (ht : atomT P t = true) (hx : ev ρ x = some (.pointer (some ⟨b, o, none⟩))) [hb : HasO Γ b off m c e sz xs Δ] (ho : o = off + j) (hv : xs[j]? = some v) :
    Qv P n ρ Γ ⟨ds, .load t x, ty, pos, af, gd⟩ v := by
  intro a w ha hs
  subst ho
  have hc := hb.cell hs hv
  have hl : (loadVar t ⟨b, off + j, none⟩).run P w = .ok v w := by
    unfold loadVar
    rw [Sem.run_bind, (run_isAgg_atom ht w).1]
    exact run_load_at hc
  simp only [execOp, ha.ev hx, Instr.loadAt, Instr.sureAddr, Sem.run_bind, Sem.run_pure, Result.andThen_ok, hl]
theorem q_loadOS {t b o off m c k : Nat} {x : Operand} {e : TypeId} {sz : Nat} {xs : List Value} {Δ : List Assn} (j : Nat) (vs : List Value) (ht : aggT P t = some k) (hx : ev ρ x = some (.pointer (some ⟨b, o, none⟩))) [hb : HasO Γ b off m c e sz xs Δ] (ho : o = off + j) (hk : vs.length = k) (hv : ∀ i u, vs[i]? = some u → xs[j + i]? = some u) :
    Qv P n ρ Γ ⟨ds, .load t x, ty, pos, af, gd⟩ (.agg vs.toArray) := by
  intro a w ha hs
  subst ho
  have hc : ∀ i u, vs[i]? = some u → w.cell? ((⟨b, off + j, none⟩ : Addr).add i) = some u := fun i u hu => by rw [Addr.add_lit, Nat.add_assoc]; exact hb.cell hs (hv i u hu)
  have := run_loadCells_list (P := P) (w := w) ⟨b, off + j, none⟩ vs hc
  rw [hk] at this
  simp [execOp, ha.ev hx, Instr.loadAt, Instr.sureAddr, loadVar, (run_isAgg_agg ht w).1, (run_isAgg_agg ht w).2, this]
theorem S.storeO {t b o off m c : Nat} {x y : Operand} {e : TypeId} {sz : Nat} {xs : List Value} {v : Value} {Δ : List Assn} (j : Nat) (ht : atomT P t = true) (hx : ev ρ x = some (.pointer (some ⟨b, o, none⟩))) (hy : ev ρ y = some v) (hv : v.oneCell' = true) [hb : HasO Γ b off m c e sz xs Δ] (ho : o = off + j) (hj : j < xs.length)
    (k : S n w0 ρ (own ⟨some ⟨b, off, none⟩, m, c⟩ e sz (xs.set j v) :: Δ) K) : S n w0 ρ Γ (Ow P Q ⟨none, .store t x y, ty, pos, af, gd⟩ K) := by
  intro a w ha hs hxt
  subst ho
  have hO := hb.slAt hs
  have hcell := hb.cell hs (List.getElem?_eq_getElem hj)
  have hcells : v.cells = #[v] := by cases v <;> first | rfl | simp [Value.oneCell'] at hv
  have hfr : w.frozen? ⟨b, off + j, none⟩ = false := by
    rcases hO.cases with ⟨h1, _⟩ | ⟨b', off', c', h1, _, _, _, _, _, h2⟩
    · cases h1
    · simp only [Value.slice.injEq, Option.some.injEq, Addr.mk.injEq, and_true, true_and] at h1
      obtain ⟨⟨rfl, rfl⟩, rfl⟩ := h1
      exact h2 _
  have hst : (Go.store (⟨b, off + j, none⟩ : Addr) v).run P w = .ok () (w.setCell ⟨b, off + j, none⟩ v) := by rw [run_store P w _ v _ hv, hcell]; simp [hfr]
  have hr : (execOp a.eval ⟨none, .store t x y, ty, pos, af, gd⟩).run P w = .ok .skip (w.setCell ⟨b, off + j, none⟩ v) := by
    have h0 : (⟨b, off + j, none⟩ : Addr).add 0 = ⟨b, off + j, none⟩ := by simp [Addr.add]
    simp [execOp, ha.ev hx, ha.ev hy, Instr.storeAt, Instr.sureAddr, storeVar, (run_isAgg_atom ht w).2, hcells, storeCells]
    rw [h0, hst]
    rfl
  unfold Ow Oper.wp
  rw [hr, Oper.upon_skip]
  refine k _ _ (ha.putNone _) ?_ (hxt.setCell _ _)
  refine (hs.ent hb.ent).upd fun y l p => ?_
  have hO' := hO.stored j v
  obtain ⟨_, hown⟩ := own.ofOwn (s := ⟨some ⟨b, off, none⟩, m, c⟩) hO'
  rcases p.2 with ⟨h1, _⟩ | ⟨b', off', cur, h1, h2, h3, h4, h5, h6⟩
  · cases h1
  · simp only [Option.some.injEq, Addr.mk.injEq, and_true] at h1
    obtain ⟨rfl, rfl⟩ := h1
    have hB : Blk w b e cur := l b _ h2
    refine ⟨HL.one b (.cells (cur.setIfInBounds (off + j) v) e), HL.one_le (hB.set _ _), ⟨hown.1, .inr ⟨b, off, _, rfl, HL.one_self _ _, h3, h4, by simpa using h5, ?_⟩⟩, fun z hz _ => ?_⟩
    · rcases hown.2 with ⟨h, _⟩ | ⟨b', off', cur', h, hc, _, _, _, h7⟩
      · cases h
      · simp only [Option.some.injEq, Addr.mk.injEq, and_true] at h
        obtain ⟨rfl, rfl⟩ := h
        have : cur' = cur.setIfInBounds (off + j) v := by
          have e1 : (w.setCell ⟨b, off + j, none⟩ v).heap[b]? = some (.cells (cur.setIfInBounds (off + j) v) e (0, 0)) := hB.set _ _
          unfold HL.of at hc
          rw [e1] at hc
          cases hc
          rfl
        rw [← this]; exact h7
    · have hne : z ≠ b := fun e => by subst e; rw [h2] at hz; cases hz
      exact ⟨HL.one_none hne, Below.heap_setCell _ _ _ _ hne⟩
/-! append -/
theorem elemT_info {t e sz : Nat} (h : elemT P t = some (e, sz)) : P.underlying t = some (.slice e) ∧ ∃ i, P.info? e = some i ∧ i.size = sz := by
  unfold elemT at h
  split at h
  · rename_i e' he
    cases hi : P.info? e' with
    | none => simp [hi] at h
    | some i =>
      simp only [hi, Option.map_some, Option.some.injEq, Prod.mk.injEq] at h
      obtain ⟨rfl, rfl⟩ := h
      exact ⟨he, i, hi, rfl⟩
  · cases h
def infoT (P : Program) (e : TypeId) : Option (List Value × Nat × Nat) := match P.info? e with
  | some i => match i.zero with
    | some z => some (z.cells.toList, i.size, i.bytes)
    | none => none
  | none => none
theorem S.append {t e sz by_ : Nat} {x y : Operand} {s : SV} {xs news zs : List Value} {yv : Value} {m : Nat} {Δ : List Assn} (hu : P.underlying t = some (.slice e)) (hi : infoT P e = some (zs, sz, by_)) (hzl : Nat.beq zs.length sz = true) (hx : ev ρ x = some s.v) [hp : Pick (own s e sz xs) Γ Δ]
    (hy : ev ρ y = some yv) (hsrc : ∀ w, Sat w Γ → SlAt w yv m sz news) (h1 : allOne news = true) (h63 : s.n + m ≤ maxLen) (hby : (s.n + m) * by_ ≤ 140737488355328) (hn : Nat.blt d n = true)
    (k : ∀ s' : SV, s'.n = s.n + m → S n w0 ((d, s'.v) :: ρ) (own s' e sz (xs ++ news) :: Δ) K) :
    S n w0 ρ Γ (Ow P Q ⟨some d, .call { callee := .builtin .append, args := #[x, y], argTypes := #[t, t] }, ty, pos, af, gd⟩ K) := by
  intro a w ha hs hxt
  unfold infoT at hi
  split at hi
  case h_2 => cases hi
  rename_i i hi'
  split at hi
  case h_2 => cases hi
  rename_i z hz
  simp only [Option.some.injEq, Prod.mk.injEq] at hi
  obtain ⟨rfl, rfl, rfl⟩ := hi
  have hzs : z.cells.size = i.size := by simpa using Nat.eq_of_beq_eq_true hzl
  obtain ⟨y0, l0, p0⟩ := (hs.ent hp.ent).head
  have hO := (p0.mono l0).toOwn
  unfold Ow
  refine wp_append_Own x y t rfl e i z i.size i.bytes hu hi' hz rfl rfl hzs s.v s.n xs _ hO (ha.ev hx) yv m news (ha.ev hy) (hsrc w hs) (fun v hv => List.all_eq_true.1 h1 v hv) h63 hby ?_
  intro v' w' g' own' keep hg
  obtain ⟨ao, c, rfl⟩ : ∃ ao c, v' = .slice ao (s.n + m) c := by obtain ⟨_, ao, c, h1, _⟩ := own'.sl; exact ⟨ao, c, h1⟩
  obtain ⟨hg', ow⟩ := own.ofOwn (s := ⟨ao, s.n + m, c⟩) own'
  refine k ⟨ao, s.n + m, c⟩ rfl _ _ (ha.put hn _) ?_ (hxt.trans ⟨keep.os, keep.tape, keep.output, keep.size, keep.drawn⟩)
  refine (hs.ent hp.ent).upd fun q l p => ?_
  -- blocks that q does not hold are not s's
  have hq : ∀ b, q b = none → w.heap[b]? ≠ none → s.a.map (·.block) ≠ some b := by
    intro b hb _ e1
    rcases p.2 with ⟨h, _⟩ | ⟨b', off, cur, h, h2, _⟩
    · rw [h] at e1; cases e1
    · rw [h] at e1
      simp only [Option.map_some, Option.some.injEq] at e1
      subst e1
      rw [h2] at hb; cases hb
  have hlt : ∀ b, w.heap[b]? ≠ none → b < w.heap.size := fun b hb => by
    rcases Nat.lt_or_ge b w.heap.size with h | h
    · exact h
    · simp [Array.getElem?_eq_none h] at hb
  rcases ow.2 with ⟨h1, h2, h3⟩ | ⟨b, off, cur, h1, h2, r⟩
  · exact ⟨HL.emp, HL.emp_le _, ⟨ow.1, .inl ⟨h1, h2, h3⟩⟩, fun b hb hw => ⟨rfl, keep.block b (hlt b hw) (hq b hb hw)⟩⟩
  · refine ⟨HL.one b (.cells cur e), HL.one_le h2, ⟨ow.1, .inr ⟨b, off, cur, h1, HL.one_self _ _, r⟩⟩, fun c' hc hw => ⟨HL.one_none fun e1 => ?_, keep.block c' (hlt c' hw) (hq c' hc hw)⟩⟩
    subst e1
    simp only at h1
    rw [h1] at hg'
    simp only [Option.map_some] at hg'
    rcases hg with h | h
    · exact hq c' hc hw (by rw [← h, hg'])
    · rw [h] at hg'; cases hg'; exact absurd (hlt _ hw) (Nat.lt_irrefl _)
end
end Go.Proofs.YtegjmmocnffpiaaDoor
/- Regions that draw their order, guarded operations, cuts: rules in the states of XSep. Of no program. -/
namespace Go.Proofs.YtegjmmocnffpiaaDoor
open Go.RowKit
/-- Whatever order: H holds behind every operation up to the first late one. -/
def wpT (P : Program) (ops : Array Oper) (Q : Exit → Act → World → Prop) (H : World → Prop) (late : Nat → Bool) : Nat → Array Bool → Act → World → Prop
  | 0, listed, a, w => Region.ready .any ops listed = [] ∧ Q .normal a w
  | fuel + 1, listed, a, w =>
    (Region.ready .any ops listed = [] → Q .normal a w) ∧
    ∀ i ∈ Region.ready .any ops listed, wpOp P ops Q i (fun a' w' => if late i = true then wpAny P .any ops Q fuel (listed.setIfInBounds i true) a' w' else H w' ∧ wpT P ops Q H late fuel (listed.setIfInBounds i true) a' w') a w
section
variable {P : Program} {ops : Array Oper} {Q : Exit → Act → World → Prop} {H : World → Prop} {late : Nat → Bool}
theorem wpAny_of_wpT : ∀ (fuel : Nat) (listed : Array Bool) (a : Act) (w : World), wpT P ops Q H late fuel listed a w → wpAny P .any ops Q fuel listed a w
  | 0, _, _, _, h => h
  | fuel + 1, _, _, _, h => ⟨h.1, fun i hi => wpOp_mono (fun a' w' h' => by
      split at h'
      · exact h'
      · exact wpAny_of_wpT fuel _ a' w' h'.2) (h.2 i hi)⟩
theorem wpT_first {i : Nat} {oi : Oper} {v : Value} (D : List Nat) (hi : ops[i]? = some oi) (hsel : ∀ (j : Nat) (o : Oper) cs b, ops[j]? = some o → o.op ≠ .select cs b)
    (hQ : ∀ c a w, Q (.panic c) (a.put oi.dst v) w → Q (.panic c) a w) (hlate : ∀ j, late j = true → j ∈ D)
    (hD : ∀ j ∈ D, ∀ o, ops[j]? = some o → ∃ e ∈ o.after, Region.binds .any e = true ∧ (e.on = i ∨ e.on ∈ D)) :
    ∀ (fuel : Nat) (listed : Array Bool) (a : Act) (w : World),
      (∀ j oj, ops[j]? = some oj → j ≠ i → listed.getD j true = false → (∀ e ∈ oj.after, Region.binds .any e = true → e.on ≠ i) → oi.apart ops oj = true) →
      (∀ j ∈ D, j ≠ i ∧ listed.getD j false = false) →
      i ∈ Region.ready .any ops listed → YieldsIf P ops H oi v a → H w →
      wpT P ops Q H late fuel (listed.setIfInBounds i true) (a.put oi.dst v) w → wpT P ops Q H late (fuel + 1) listed a w := by
  have yes : ∀ (fuel : Nat) (listed : Array Bool) (a : Act) (w : World), (∀ j ∈ D, j ≠ i ∧ listed.getD j false = false) → YieldsIf P ops H oi v a → H w → wpT P ops Q H late fuel (listed.setIfInBounds i true) (a.put oi.dst v) w →
      wpOp P ops Q i (fun a' w' => if late i = true then wpAny P .any ops Q fuel (listed.setIfInBounds i true) a' w' else H w' ∧ wpT P ops Q H late fuel (listed.setIfInBounds i true) a' w') a w := by
    intro fuel listed a w hDl hy hS hh
    have hni : late i ≠ true := fun e => (hDl i (hlate i e)).1 rfl
    refine hy.wpOp hi hS ?_
    simp only [hni]
    exact ⟨hS, hh⟩
  intro fuel
  induction fuel with
  | zero =>
    intro listed a w _ hDl hr hy hS hh
    refine ⟨fun h => (by rw [h] at hr; cases hr), fun j hj => ?_⟩
    by_cases hji : j = i
    · subst hji; exact yes 0 listed a w hDl hy hS hh
    · have := ready_mono hj hji
      rw [hh.1] at this
      cases this
  | succ fuel ih =>
    intro listed a w hfree hDl hr hy hS hh
    refine ⟨fun h => (by rw [h] at hr; cases hr), fun j hj => ?_⟩
    by_cases hji : j = i
    · subst hji; exact yes (fuel + 1) listed a w hDl hy hS hh
    · have h1 := hh.2 j (ready_mono hj hji)
      obtain ⟨hjun, oj, hoj, hall⟩ := mem_ready.1 hj
      have iun : listed.getD i true = false := (mem_ready.1 hr).1
      have hnot : ∀ e ∈ oj.after, Region.binds .any e = true → e.on ≠ i := fun e he hb heq => by
        have h1 := hall e he hb
        rw [heq] at h1
        rcases Nat.lt_or_ge i listed.size with h' | h'
        · simp [h'] at iun h1; rw [iun] at h1; cases h1
        · simp [Array.getElem?_eq_none h'] at h1
      have hjD : j ∉ D := fun hjd => by
        obtain ⟨e, he, hb, h2⟩ := hD j hjd oj hoj
        rcases h2 with h2 | h2
        · exact hnot e he hb h2
        · have := hall e he hb
          rw [(hDl _ h2).2] at this
          cases this
      have hlj : late j ≠ true := fun e => hjD (hlate j e)
      have h1' : wpOp P ops Q j (fun a' w' => H w' ∧ wpT P ops Q H late fuel ((listed.setIfInBounds i true).setIfInBounds j true) a' w') (a.put oi.dst v) w := by
        refine wpOp_mono (fun a' w' h => ?_) h1
        simp only [hlj] at h
        exact h
      have h2 := wpOp_putIf hoj (hfree j oj hoj hji hjun hnot) (fun cs b => hsel i oi cs b hi) (fun cs b => hsel j oj cs b hoj) hQ hy h1'
      have hfree' : ∀ k ok, ops[k]? = some ok → k ≠ i → (listed.setIfInBounds j true).getD k true = false →
          (∀ e ∈ ok.after, Region.binds .any e = true → e.on ≠ i) → oi.apart ops ok = true := fun k ok hk hki hun hno => by
        refine hfree k ok hk hki ?_ hno
        by_cases hjk : j = k
        · subst hjk; exact hjun
        · rw [getD_set_ne true hjk] at hun; exact hun
      have hDl' : ∀ k ∈ D, k ≠ i ∧ (listed.setIfInBounds j true).getD k false = false := fun k hk => by
        refine ⟨(hDl k hk).1, ?_⟩
        rw [getD_set_ne false (fun e : j = k => hjD (by rw [e]; exact hk))]
        exact (hDl k hk).2
      refine wpOp_mono (fun a' w' h3 => ?_) h2
      simp only [hlj]
      refine ⟨h3.2.1, ih (listed.setIfInBounds j true) a' w' hfree' hDl' (ready_mono hr (Ne.symm hji)) h3.1 h3.2.1 ?_⟩
      rw [Array.setIfInBounds_comm _ _ hji]
      exact h3.2.2
/-- The side conditions, to be reckoned. -/
def takeOk (ops : Array Oper) (listed : Array Bool) (i : Nat) (late D : List Nat) : Bool :=
  Region.noSelect ops && Region.free .any ops listed i && (Region.ready .any ops listed).contains i && late.all (fun j => D.contains j) &&
  D.all fun j => j != i && !listed.getD j false && match ops[j]? with
    | some o => o.after.any fun e => Region.binds .any e && (e.on == i || D.contains e.on)
    | none => true
end
section
variable {P : Program} {n : Nat} {md : Bool} {w0 : WM md} {ρ : Env} {Γ : List Assn} {Q : Exit → Act → World → Prop} {K : Act → World → Prop} {ops : Array Oper} {d : Nat} {Hs : List Assn} {late : List Nat} {fuel : Nat} {listed : Array Bool}
/-- The state inside a drawn region. -/
def Dr (P : Program) (ops : Array Oper) (Q : Exit → Act → World → Prop) (Hs : List Assn) (late : List Nat) (fuel : Nat) (listed : Array Bool) : Act → World → Prop :=
  wpT P ops (NoPanic Q) (fun w => Sat w Hs) (fun j => late.contains j) fuel listed
/-- Behind operation i. -/
def DrK (P : Program) (ops : Array Oper) (Q : Exit → Act → World → Prop) (Hs : List Assn) (late : List Nat) (fuel : Nat) (listed : Array Bool) (i : Nat) : Act → World → Prop := fun a w =>
  if late.contains i = true then wpAny P .any ops (NoPanic Q) fuel (listed.setIfInBounds i true) a w else Sat w Hs ∧ Dr P ops Q Hs late fuel (listed.setIfInBounds i true) a w
theorem S.draw {id : Nat} (Hs : List Assn) (late : List Nat) (hm : P.follows .mixedOrders = true) (h : S n w0 ρ Γ (Dr P ops Q Hs late ops.size (Array.replicate ops.size false))) : S n w0 ρ Γ ((Code.region id ops true).wp P Q) :=
  fun a w ha hs hx => wp_region_noPanic (wp_region_any hm (wpAny_of_wpT _ _ _ _ (h a { w with drawn := w.drawn + 1 } ha (hs.of_heap rfl) ⟨hx.os, hx.tape, hx.output, hx.size, fun e => Nat.le_succ_of_le (hx.drawn e)⟩)))
theorem S.again (Hs' : List Assn) (late' : List Nat) (h : S n w0 ρ Γ (Dr P ops Q Hs' late' fuel listed)) : S n w0 ρ Γ (wpAny P .any ops (NoPanic Q) fuel listed) :=
  fun a w ha hs hx => wpAny_of_wpT _ _ _ _ (h a w ha hs hx)
theorem S.dr_take {o : Oper} {v : Value} (i : Nat) (D : List Nat) (hi : ops[i]? = some o) (hok : takeOk ops listed i late D = true) (hg : o.guard = none) (hd : o.dst = some d) (hn : Nat.blt d n = true) (hy : Qv P n ρ Hs o v) (hH : Ent Γ Hs)
    (k : S n w0 ((d, v) :: ρ) Γ (Dr P ops Q Hs late fuel (listed.setIfInBounds i true))) : S n w0 ρ Γ (Dr P ops Q Hs late (fuel + 1) listed) := by
  intro a w ha hs hx
  unfold takeOk at hok
  simp only [Bool.and_eq_true, List.all_eq_true] at hok
  obtain ⟨⟨⟨⟨h1, h2⟩, h3⟩, h4⟩, h5⟩ := hok
  have hY : YieldsIf P ops (fun w => Sat w Hs) o v a := .inl ⟨by simp [Region.wanted, hg], fun w hw => hy a w ha hw⟩
  unfold Dr
  refine wpT_first (D := D) hi (Region.noSelect_spec h1) (fun _ _ _ h => h) (fun j hj => by simpa using h4 j (by simpa using hj)) (fun j hj o ho => ?_) fuel listed a w (Region.free_spec hi h2) (fun j hj => ?_) (by simpa using h3) hY (hs.ent hH) ?_
  · have := h5 j hj
    simp only [ho] at this
    obtain ⟨e, he, hb⟩ := Array.any_eq_true'.1 this.2
    simp only [Bool.and_eq_true, Bool.or_eq_true, beq_iff_eq, List.contains_iff_mem] at hb
    exact ⟨e, he, hb.1, hb.2⟩
  · have := h5 j hj
    simp only [bne_iff_ne, ne_eq, Bool.not_eq_true'] at this
    exact ⟨this.1.1, this.1.2⟩
  · rw [hd]
    exact k _ _ (ha.put hn v) hs hx
theorem S.dr_run {o : Oper} {i : Nat} (hi : ops[i]? = some o) (hg : o.guard = none) (h : S n w0 ρ Γ (Ow P (NoPanic Q) o (DrK P ops Q Hs late fuel listed i))) :
    ∀ a w, EnvOk n ρ a → Sat w Γ → Ext w0 w → wpOp P ops (NoPanic Q) i (DrK P ops Q Hs late fuel listed i) a w := by
  intro a w ha hs hx
  unfold wpOp
  simp only [hi, Region.wanted, hg, if_true]
  exact .inl (h a w ha hs hx)
theorem S.dr_1 {i : Nat} {o : Oper} (hr : Region.ready .any ops listed = [i]) (hi : ops[i]? = some o) (hg : o.guard = none) (h : S n w0 ρ Γ (Ow P (NoPanic Q) o (DrK P ops Q Hs late fuel listed i))) : S n w0 ρ Γ (Dr P ops Q Hs late (fuel + 1) listed) := by
  intro a w ha hs hx
  refine ⟨fun e => (by rw [hr] at e; cases e), fun j hj => ?_⟩
  rw [hr] at hj
  obtain rfl := List.mem_singleton.1 hj
  exact S.dr_run hi hg h a w ha hs hx
theorem S.dr_2 {i j : Nat} {o p : Oper} (hr : Region.ready .any ops listed = [i, j]) (hi : ops[i]? = some o) (hg : o.guard = none) (hj : ops[j]? = some p) (hg' : p.guard = none)
    (h1 : S n w0 ρ Γ (Ow P (NoPanic Q) o (DrK P ops Q Hs late fuel listed i))) (h2 : S n w0 ρ Γ (Ow P (NoPanic Q) p (DrK P ops Q Hs late fuel listed j))) : S n w0 ρ Γ (Dr P ops Q Hs late (fuel + 1) listed) := by
  intro a w ha hs hx
  refine ⟨fun e => (by rw [hr] at e; cases e), fun k hk => ?_⟩
  rw [hr] at hk
  simp only [List.mem_cons, List.not_mem_nil, or_false] at hk
  rcases hk with rfl | rfl
  · exact S.dr_run hi hg h1 a w ha hs hx
  · exact S.dr_run hj hg' h2 a w ha hs hx
theorem S.dr_3 {i j l : Nat} {o p q : Oper} (hr : Region.ready .any ops listed = [i, j, l]) (hi : ops[i]? = some o) (hg : o.guard = none) (hj : ops[j]? = some p) (hg' : p.guard = none) (hl : ops[l]? = some q) (hg'' : q.guard = none)
    (h1 : S n w0 ρ Γ (Ow P (NoPanic Q) o (DrK P ops Q Hs late fuel listed i))) (h2 : S n w0 ρ Γ (Ow P (NoPanic Q) p (DrK P ops Q Hs late fuel listed j))) (h3 : S n w0 ρ Γ (Ow P (NoPanic Q) q (DrK P ops Q Hs late fuel listed l))) : S n w0 ρ Γ (Dr P ops Q Hs late (fuel + 1) listed) := by
  intro a w ha hs hx
  refine ⟨fun e => (by rw [hr] at e; cases e), fun k hk => ?_⟩
  rw [hr] at hk
  simp only [List.mem_cons, List.not_mem_nil, or_false] at hk
  rcases hk with rfl | rfl | rfl
  · exact S.dr_run hi hg h1 a w ha hs hx
  · exact S.dr_run hj hg' h2 a w ha hs hx
  · exact S.dr_run hl hg'' h3 a w ha hs hx
/-- Behind an operation that is not late. -/
theorem S.dr_k {i : Nat} (hl : late.contains i = false) (hH : Ent Γ Hs) (h : S n w0 ρ Γ (Dr P ops Q Hs late fuel (listed.setIfInBounds i true))) : S n w0 ρ Γ (DrK P ops Q Hs late fuel listed i) := by
  intro a w ha hs hx
  unfold DrK
  rw [hl, if_neg (by simp)]
  exact ⟨hs.ent hH, h a w ha hs hx⟩
/-- Behind a late one: new cells to be held, if any. -/
theorem S.dr_late {i : Nat} (Hs' : List Assn) (late' : List Nat) (hl : late.contains i = true) (h : S n w0 ρ Γ (Dr P ops Q Hs' late' fuel (listed.setIfInBounds i true))) : S n w0 ρ Γ (DrK P ops Q Hs late fuel listed i) := by
  intro a w ha hs hx
  unfold DrK
  rw [hl, if_pos rfl]
  exact wpAny_of_wpT _ _ _ _ (h a w ha hs hx)
theorem S.dr_done (hr : Region.ready .any ops listed = []) (h : S n w0 ρ Γ (Q .normal)) : S n w0 ρ Γ (Dr P ops Q Hs late fuel listed) := by
  intro a w ha hs hx
  cases fuel with
  | zero => exact ⟨hr, h a w ha hs hx⟩
  | succ fuel => exact ⟨fun _ => h a w ha hs hx, by rw [hr]; simp⟩
theorem S.dr_doneK (hr : Region.ready .any ops listed = []) (h : S n w0 ρ Γ K) : S n w0 ρ Γ (Dr P ops (Exit.then K Q) Hs late fuel listed) := S.dr_done hr h
/-! Guarded operations in a region that draws no order. -/
def wpG (P : Program) (ops : Array Oper) (Q : Exit → Act → World → Prop) : List Oper → Act → World → Prop
  | [], a, w => Q .normal a w
  | o :: rest, a, w => if Region.wanted o (yielded ops a.tmps) then o.wp P a w (wpG P ops Q rest) Q else wpG P ops Q rest (a.put o.dst undef) w
theorem wpG_sound : ∀ (l : List Oper), ∀ a w, wpG P ops Q l a w → wpList P ops Q l a w := by
  intro l
  induction l with
  | nil => intro a w h; exact h
  | cons o l ih =>
    intro a w h
    unfold wpList
    unfold wpG at h
    split
    · rename_i hw
      rw [if_pos hw] at h
      exact .inl (Oper.wp_mono ih h)
    · rename_i hw
      rw [if_neg hw] at h
      exact ih _ _ h
theorem S.regionG {id : Nat} {l : List Oper} (h : S n w0 ρ Γ (wpG P l.toArray Q l)) : S n w0 ρ Γ ((Code.region id l.toArray false).wp P Q) :=
  fun a w ha hs hx => wp_region_lit (wpG_sound l a w (h a w ha hs hx))
theorem S.g_nil (h : S n w0 ρ Γ (Q .normal)) : S n w0 ρ Γ (wpG P ops Q []) := h
theorem S.g_nilK (h : S n w0 ρ Γ K) : S n w0 ρ Γ (wpG P ops (Exit.then K Q) []) := h
theorem S.g_op {o : Oper} {rest : List Oper} (hg : o.guard = none) (h : S n w0 ρ Γ (Ow P Q o (wpG P ops Q rest))) : S n w0 ρ Γ (wpG P ops Q (o :: rest)) := by
  intro a w ha hs hx
  unfold wpG
  rw [if_pos (by simp [Region.wanted, hg])]
  exact h a w ha hs hx
theorem yielded_env {a : Act} (ha : EnvOk n ρ a) {g t : Nat} {b : Bool} (hd : (ops[g]?).bind (·.dst) = some t) (hb : Env.get ρ t = some (.bool b)) : yielded ops a.tmps g = some b := by
  have h := ha.get t _ hb
  unfold yielded
  rw [hd]
  cases ht : a.tmps[t]? with
  | none => simp [Array.getD, undef] at h; rw [Array.getElem?_eq_none_iff] at ht; rw [dif_neg (by omega)] at h; cases h
  | some v =>
    have : a.tmps.getD t undef = v := by simp [Array.getD_eq_getD_getElem?, ht]
    rw [this] at h
    subst h
    simp [ht]
theorem S.g_yes {o : Oper} {rest : List Oper} {g t : Nat} {b want : Bool} (hg : o.guard = some (g, want)) (hd : (ops[g]?).bind (·.dst) = some t) (hb : Env.get ρ t = some (.bool b)) (hw : b = want) (h : S n w0 ρ Γ (Ow P Q o (wpG P ops Q rest))) : S n w0 ρ Γ (wpG P ops Q (o :: rest)) := by
  intro a w ha hs hx
  unfold wpG
  rw [if_pos (by simp [Region.wanted, hg, yielded_env ha hd hb, hw])]
  exact h a w ha hs hx
theorem S.g_no {o : Oper} {rest : List Oper} {g t : Nat} {b want : Bool} (hg : o.guard = some (g, want)) (hd : (ops[g]?).bind (·.dst) = some t) (hb : Env.get ρ t = some (.bool b)) (hw : b = !want) (hds : o.dst = some d) (hn : Nat.blt d n = true)
    (h : S n w0 ((d, undef) :: ρ) Γ (wpG P ops Q rest)) : S n w0 ρ Γ (wpG P ops Q (o :: rest)) := by
  intro a w ha hs hx
  unfold wpG
  rw [if_neg (by simp [Region.wanted, hg, yielded_env ha hd hb, hw])]
  rw [hds]
  exact h _ _ (ha.put hn _) hs hx
theorem q_pickT {ds : Option Tmp} {ty : TypeId} {pos : String} {af : Array Edge} {gd : Option (Nat × Bool)} {c x y : Operand} {v : Value} {b : Bool} (hc : ev ρ c = some (.bool b)) (hb : b = true) (hx : ev ρ x = some v) : Qv P n ρ Γ ⟨ds, .pick c x y, ty, pos, af, gd⟩ v := fun a w ha _ => by
  subst hb
  simp [execOp, ha.ev hc, ha.ev hx, asBool]
theorem q_pickF {ds : Option Tmp} {ty : TypeId} {pos : String} {af : Array Edge} {gd : Option (Nat × Bool)} {c x y : Operand} {v : Value} {b : Bool} (hc : ev ρ c = some (.bool b)) (hb : b = false) (hy : ev ρ y = some v) : Qv P n ρ Γ ⟨ds, .pick c x y, ty, pos, af, gd⟩ v := fun a w ha _ => by
  subst hb
  simp [execOp, ha.ev hc, ha.ev hy, asBool]
/-! Guarded operations in a drawn region. -/
theorem S.dr_takeY {o : Oper} {v : Value} {g t : Nat} {b want : Bool} (i : Nat) (D : List Nat) (hi : ops[i]? = some o) (hok : takeOk ops listed i late D = true) (hg : o.guard = some (g, want)) (hgd : (ops[g]?).bind (·.dst) = some t) (hb : Env.get ρ t = some (.bool b)) (hw : b = want) (hd : o.dst = some d) (hn : Nat.blt d n = true) (hy : Qv P n ρ Hs o v) (hH : Ent Γ Hs)
    (k : S n w0 ((d, v) :: ρ) Γ (Dr P ops Q Hs late fuel (listed.setIfInBounds i true))) : S n w0 ρ Γ (Dr P ops Q Hs late (fuel + 1) listed) := by
  intro a w ha hs hx
  unfold takeOk at hok
  simp only [Bool.and_eq_true, List.all_eq_true] at hok
  obtain ⟨⟨⟨⟨h1, h2⟩, h3⟩, h4⟩, h5⟩ := hok
  have hY : YieldsIf P ops (fun w => Sat w Hs) o v a := .inl ⟨by simp [Region.wanted, hg, yielded_env ha hgd hb, hw], fun w hw => hy a w ha hw⟩
  unfold Dr
  refine wpT_first (D := D) hi (Region.noSelect_spec h1) (fun _ _ _ h => h) (fun j hj => by simpa using h4 j (by simpa using hj)) (fun j hj o ho => ?_) fuel listed a w (Region.free_spec hi h2) (fun j hj => ?_) (by simpa using h3) hY (hs.ent hH) ?_
  · have := h5 j hj
    simp only [ho] at this
    obtain ⟨e, he, hb⟩ := Array.any_eq_true'.1 this.2
    simp only [Bool.and_eq_true, Bool.or_eq_true, beq_iff_eq, List.contains_iff_mem] at hb
    exact ⟨e, he, hb.1, hb.2⟩
  · have := h5 j hj
    simp only [bne_iff_ne, ne_eq, Bool.not_eq_true'] at this
    exact ⟨this.1.1, this.1.2⟩
  · rw [hd]
    exact k _ _ (ha.put hn v) hs hx
theorem S.dr_takeN {o : Oper} {g t : Nat} {b want : Bool} (i : Nat) (D : List Nat) (hi : ops[i]? = some o) (hok : takeOk ops listed i late D = true) (hg : o.guard = some (g, want)) (hgd : (ops[g]?).bind (·.dst) = some t) (hb : Env.get ρ t = some (.bool b)) (hw : b = !want) (hd : o.dst = some d) (hn : Nat.blt d n = true) (hH : Ent Γ Hs)
    (k : S n w0 ((d, undef) :: ρ) Γ (Dr P ops Q Hs late fuel (listed.setIfInBounds i true))) : S n w0 ρ Γ (Dr P ops Q Hs late (fuel + 1) listed) := by
  intro a w ha hs hx
  unfold takeOk at hok
  simp only [Bool.and_eq_true, List.all_eq_true] at hok
  obtain ⟨⟨⟨⟨h1, h2⟩, h3⟩, h4⟩, h5⟩ := hok
  have hY : YieldsIf P ops (fun w => Sat w Hs) o undef a := .inr ⟨by simp [Region.wanted, hg, yielded_env ha hgd hb, hw], rfl⟩
  unfold Dr
  refine wpT_first (D := D) hi (Region.noSelect_spec h1) (fun _ _ _ h => h) (fun j hj => by simpa using h4 j (by simpa using hj)) (fun j hj o ho => ?_) fuel listed a w (Region.free_spec hi h2) (fun j hj => ?_) (by simpa using h3) hY (hs.ent hH) ?_
  · have := h5 j hj
    simp only [ho] at this
    obtain ⟨e, he, hb⟩ := Array.any_eq_true'.1 this.2
    simp only [Bool.and_eq_true, Bool.or_eq_true, beq_iff_eq, List.contains_iff_mem] at hb
    exact ⟨e, he, hb.1, hb.2⟩
  · have := h5 j hj
    simp only [bne_iff_ne, ne_eq, Bool.not_eq_true'] at this
    exact ⟨this.1.1, this.1.2⟩
  · rw [hd]
    exact k _ _ (ha.put hn _) hs hx
theorem S.dr_1Y {i g t : Nat} {b want : Bool} {o : Oper} (hr : Region.ready .any ops listed = [i]) (hi : ops[i]? = some o) (hg : o.guard = some (g, want)) (hgd : (ops[g]?).bind (·.dst) = some t) (hb : Env.get ρ t = some (.bool b)) (hw : b = want) (h : S n w0 ρ Γ (Ow P (NoPanic Q) o (DrK P ops Q Hs late fuel listed i))) : S n w0 ρ Γ (Dr P ops Q Hs late (fuel + 1) listed) := by
  intro a w ha hs hx
  refine ⟨fun e => (by rw [hr] at e; cases e), fun j hj => ?_⟩
  rw [hr] at hj
  obtain rfl := List.mem_singleton.1 hj
  unfold wpOp
  simp only [hi]
  rw [if_pos (by simp [Region.wanted, hg, yielded_env ha hgd hb, hw])]
  exact .inl (h a w ha hs hx)
/-! Cuts. -/
def Cut {md : Bool} (n : Nat) (w0 : WM md) (I : Env → List Assn → Prop) : Act → World → Prop := fun a w => ∃ ρ Γ, I ρ Γ ∧ EnvOk n ρ a ∧ Sat w Γ ∧ Ext w0 w
theorem S.cut {x : Code} (I : Env → List Assn → Prop) (h : S n w0 ρ Γ (x.wp P (Exit.then (Cut n w0 I) Q))) (k : ∀ ρ Γ, I ρ Γ → S n w0 ρ Γ K) : S n w0 ρ Γ (x.wp P (Exit.then K Q)) := by
  intro a w ha hs hx
  refine Code.wp_mono (fun e a w hq => ?_) (h a w ha hs hx)
  cases e with
  | normal => obtain ⟨ρ, Γ, hI, h1, h2, h3⟩ := hq; exact k ρ Γ hI a w h1 h2 h3
  | _ => exact hq
theorem S.meet {I : Env → List Assn → Prop} {ρ' : Env} {Γ' : List Assn} (hI : I ρ' Γ') (hρ : EnvSub ρ' ρ) (hΓ : Ent Γ Γ') : S n w0 ρ Γ (Cut n w0 I) := fun _ _ ha hs hx => ⟨ρ', Γ', hI, ha.sub hρ, hs.ent hΓ, hx⟩
theorem S.noGoto_r (h : S n w0 ρ Γ (Q .ret)) : S n w0 ρ Γ (Exit.noGoto Q .ret) := h
theorem S.noGoto_n (h : S n w0 ρ Γ (Q .normal)) : S n w0 ρ Γ (Exit.noGoto Q .normal) := h
theorem S.noGoto_x {i : Nat} (h : S n w0 ρ Γ (Q (.exit i))) : S n w0 ρ Γ (Exit.noGoto Q (.exit i)) := h
end
end Go.Proofs.YtegjmmocnffpiaaDoor
/- Closed facts on the program's types and functions. -/
namespace Go.Proofs.YtegjmmocnffpiaaDoor
theorem Tryd.at3 : atomT Tryd.prog 3 = true := by kernel_rfl
theorem Tryd.at4 : atomT Tryd.prog 4 = true := by kernel_rfl
theorem Tryd.at5 : atomT Tryd.prog 5 = true := by kernel_rfl
theorem Tryd.at23 : atomT Tryd.prog 23 = true := by kernel_rfl
theorem Tryd.at25 : atomT Tryd.prog 25 = true := by kernel_rfl
theorem Tryd.at28 : atomT Tryd.prog 28 = true := by kernel_rfl
theorem Tryd.at31 : atomT Tryd.prog 31 = true := by kernel_rfl
theorem Tryd.at52 : atomT Tryd.prog 52 = true := by kernel_rfl
theorem Tryd.at53 : atomT Tryd.prog 53 = true := by kernel_rfl
theorem Tryd.at68 : atomT Tryd.prog 68 = true := by kernel_rfl
theorem Tryd.at69 : atomT Tryd.prog 69 = true := by kernel_rfl
theorem Tryd.at120 : atomT Tryd.prog 120 = true := by kernel_rfl
theorem Tryd.at121 : atomT Tryd.prog 121 = true := by kernel_rfl
theorem Tryd.at122 : atomT Tryd.prog 122 = true := by kernel_rfl
theorem Tryd.at182 : atomT Tryd.prog 182 = true := by kernel_rfl
theorem Tryd.ag33 : aggT Tryd.prog 33 = some 2 := by kernel_rfl
theorem Tryd.ag71 : aggT Tryd.prog 71 = some 5 := by kernel_rfl
theorem Tryd.ag86 : aggT Tryd.prog 86 = some 2 := by kernel_rfl
theorem Tryd.ag88 : aggT Tryd.prog 88 = some 4 := by kernel_rfl
theorem Tryd.ag89 : aggT Tryd.prog 89 = some 2 := by kernel_rfl
theorem Tryd.ag99 : aggT Tryd.prog 99 = some 1 := by kernel_rfl
theorem Tryd.ag107 : aggT Tryd.prog 107 = some 3 := by kernel_rfl
theorem Tryd.ag110 : aggT Tryd.prog 110 = some 2 := by kernel_rfl
theorem Tryd.ag113 : aggT Tryd.prog 113 = some 3 := by kernel_rfl
theorem Tryd.ag124 : aggT Tryd.prog 124 = some 5 := by kernel_rfl
theorem Tryd.ag127 : aggT Tryd.prog 127 = some 2 := by kernel_rfl
theorem Tryd.ag153 : aggT Tryd.prog 153 = some 0 := by kernel_rfl
theorem Tryd.ag161 : aggT Tryd.prog 161 = some 32 := by kernel_rfl
theorem Tryd.z3 : zeroT Tryd.prog 3 = some [.int .i64 0] := by kernel_rfl
theorem Tryd.z25 : zeroT Tryd.prog 25 = some [.pointer none] := by kernel_rfl
theorem Tryd.z31 : zeroT Tryd.prog 31 = some [.slice none 0 0] := by kernel_rfl
theorem Tryd.z33 : zeroT Tryd.prog 33 = some [.int .i64 0, .slice none 0 0] := by kernel_rfl
theorem Tryd.z55 : zeroT Tryd.prog 55 = some [.slice none 0 0, .slice none 0 0] := by kernel_rfl
theorem Tryd.z69 : zeroT Tryd.prog 69 = some [.slice none 0 0] := by kernel_rfl
theorem Tryd.z71 : zeroT Tryd.prog 71 = some [.int .u8 0, .int .u32 0, .int .i64 0, .slice none 0 0, .bool false] := by kernel_rfl
theorem Tryd.z86 : zeroT Tryd.prog 86 = some [.int .u32 0, .int .u8 0] := by kernel_rfl
theorem Tryd.z88 : zeroT Tryd.prog 88 = some [.int .u8 0, .int .u16 0, .int .u8 0, .bool false] := by kernel_rfl
theorem Tryd.z89 : zeroT Tryd.prog 89 = some [.int .u32 0, .int .u8 0] := by kernel_rfl
theorem Tryd.z99 : zeroT Tryd.prog 99 = some [.slice none 0 0] := by kernel_rfl
theorem Tryd.z107 : zeroT Tryd.prog 107 = some [.int .u32 0, .int .i64 0, .int .i64 0] := by kernel_rfl
theorem Tryd.z110 : zeroT Tryd.prog 110 = some [.int .u8 0, .int .u16 0] := by kernel_rfl
theorem Tryd.z113 : zeroT Tryd.prog 113 = some [.int .u32 0, .int .i64 0, .int .i64 0] := by kernel_rfl
theorem Tryd.z121 : zeroT Tryd.prog 121 = some [.map none] := by kernel_rfl
theorem Tryd.z124 : zeroT Tryd.prog 124 = some [.int .i64 0, .int .i64 0, .int .u16 0, .map none, .slice none 0 0] := by kernel_rfl
theorem Tryd.z127 : zeroT Tryd.prog 127 = some [.int .i64 0, .int .u16 0] := by kernel_rfl
theorem Tryd.z153 : zeroT Tryd.prog 153 = some [] := by kernel_rfl
theorem Tryd.z161 : zeroT Tryd.prog 161 = some [.int .u8 0, .int .u8 0, .int .u8 0, .int .u8 0, .int .u8 0, .int .u8 0, .int .u8 0, .int .u8 0, .int .u8 0, .int .u8 0, .int .u8 0, .int .u8 0, .int .u8 0, .int .u8 0, .int .u8 0, .int .u8 0, .int .u8 0, .int .u8 0, .int .u8 0, .int .u8 0, .int .u8 0, .int .u8 0, .int .u8 0, .int .u8 0, .int .u8 0, .int .u8 0, .int .u8 0, .int .u8 0, .int .u8 0, .int .u8 0, .int .u8 0, .int .u8 0] := by kernel_rfl
theorem Tryd.z182 : zeroT Tryd.prog 182 = some [.int .u64 0] := by kernel_rfl
theorem Tryd.p33 : partsT Tryd.prog 33 = some [(0, 1), (1, 1)] := by kernel_rfl
theorem Tryd.p55 : partsT Tryd.prog 55 = some [(0, 1), (1, 1)] := by kernel_rfl
theorem Tryd.p86 : partsT Tryd.prog 86 = some [(0, 1), (1, 1)] := by kernel_rfl
theorem Tryd.p89 : partsT Tryd.prog 89 = some [(0, 1), (1, 1)] := by kernel_rfl
theorem Tryd.p99 : partsT Tryd.prog 99 = some [(0, 1)] := by kernel_rfl
theorem Tryd.p107 : partsT Tryd.prog 107 = some [(0, 1), (1, 1), (2, 1)] := by kernel_rfl
theorem Tryd.p113 : partsT Tryd.prog 113 = some [(0, 1), (1, 1), (2, 1)] := by kernel_rfl
theorem Tryd.p124 : partsT Tryd.prog 124 = some [(0, 1), (1, 1), (2, 1), (3, 1), (4, 1)] := by kernel_rfl
theorem Tryd.p127 : partsT Tryd.prog 127 = some [(0, 1), (1, 1)] := by kernel_rfl
theorem Tryd.p153 : partsT Tryd.prog 153 = some [] := by kernel_rfl
theorem Tryd.fo33_0 : fieldT Tryd.prog 33 0 = some 0 := by kernel_rfl
theorem Tryd.fo33_1 : fieldT Tryd.prog 33 1 = some 1 := by kernel_rfl
theorem Tryd.fo55_0 : fieldT Tryd.prog 55 0 = some 0 := by kernel_rfl
theorem Tryd.fo55_1 : fieldT Tryd.prog 55 1 = some 1 := by kernel_rfl
theorem Tryd.fo71_0 : fieldT Tryd.prog 71 0 = some 0 := by kernel_rfl
theorem Tryd.fo71_1 : fieldT Tryd.prog 71 1 = some 1 := by kernel_rfl
theorem Tryd.fo71_2 : fieldT Tryd.prog 71 2 = some 2 := by kernel_rfl
theorem Tryd.fo71_3 : fieldT Tryd.prog 71 3 = some 3 := by kernel_rfl
theorem Tryd.fo71_4 : fieldT Tryd.prog 71 4 = some 4 := by kernel_rfl
theorem Tryd.fo86_0 : fieldT Tryd.prog 86 0 = some 0 := by kernel_rfl
theorem Tryd.fo86_1 : fieldT Tryd.prog 86 1 = some 1 := by kernel_rfl
theorem Tryd.fo88_0 : fieldT Tryd.prog 88 0 = some 0 := by kernel_rfl
theorem Tryd.fo88_1 : fieldT Tryd.prog 88 1 = some 1 := by kernel_rfl
theorem Tryd.fo88_2 : fieldT Tryd.prog 88 2 = some 2 := by kernel_rfl
theorem Tryd.fo88_3 : fieldT Tryd.prog 88 3 = some 3 := by kernel_rfl
theorem Tryd.fo89_0 : fieldT Tryd.prog 89 0 = some 0 := by kernel_rfl
theorem Tryd.fo89_1 : fieldT Tryd.prog 89 1 = some 1 := by kernel_rfl
theorem Tryd.fo99_0 : fieldT Tryd.prog 99 0 = some 0 := by kernel_rfl
theorem Tryd.fo107_0 : fieldT Tryd.prog 107 0 = some 0 := by kernel_rfl
theorem Tryd.fo110_0 : fieldT Tryd.prog 110 0 = some 0 := by kernel_rfl
theorem Tryd.fo110_1 : fieldT Tryd.prog 110 1 = some 1 := by kernel_rfl
theorem Tryd.fo124_0 : fieldT Tryd.prog 124 0 = some 0 := by kernel_rfl
theorem Tryd.fo124_1 : fieldT Tryd.prog 124 1 = some 1 := by kernel_rfl
theorem Tryd.fo124_2 : fieldT Tryd.prog 124 2 = some 2 := by kernel_rfl
theorem Tryd.fo124_3 : fieldT Tryd.prog 124 3 = some 3 := by kernel_rfl
theorem Tryd.fo124_4 : fieldT Tryd.prog 124 4 = some 4 := by kernel_rfl
theorem Tryd.fo127_0 : fieldT Tryd.prog 127 0 = some 0 := by kernel_rfl
theorem Tryd.fo127_1 : fieldT Tryd.prog 127 1 = some 1 := by kernel_rfl
theorem Tryd.el22 : elemT Tryd.prog 22 = some (88, 4) := by kernel_rfl
theorem Tryd.inf88 : infoT Tryd.prog 88 = some ([.int .u8 0, .int .u16 0, .int .u8 0, .bool false], 4, 6) := by kernel_rfl
theorem Tryd.el27 : elemT Tryd.prog 27 = some (86, 2) := by kernel_rfl
theorem Tryd.inf86 : infoT Tryd.prog 86 = some ([.int .u32 0, .int .u8 0], 2, 8) := by kernel_rfl
theorem Tryd.el28 : elemT Tryd.prog 28 = some (89, 2) := by kernel_rfl
theorem Tryd.inf89 : infoT Tryd.prog 89 = some ([.int .u32 0, .int .u8 0], 2, 8) := by kernel_rfl
theorem Tryd.el31 : elemT Tryd.prog 31 = some (68, 1) := by kernel_rfl
theorem Tryd.inf68 : infoT Tryd.prog 68 = some ([.int .u32 0], 1, 4) := by kernel_rfl
theorem Tryd.el43 : elemT Tryd.prog 43 = some (110, 2) := by kernel_rfl
theorem Tryd.inf110 : infoT Tryd.prog 110 = some ([.int .u8 0, .int .u16 0], 2, 4) := by kernel_rfl
theorem Tryd.el46 : elemT Tryd.prog 46 = some (107, 3) := by kernel_rfl
theorem Tryd.inf107 : infoT Tryd.prog 107 = some ([.int .u32 0, .int .i64 0, .int .i64 0], 3, 24) := by kernel_rfl
theorem Tryd.el49 : elemT Tryd.prog 49 = some (113, 3) := by kernel_rfl
theorem Tryd.inf113 : infoT Tryd.prog 113 = some ([.int .u32 0, .int .i64 0, .int .i64 0], 3, 24) := by kernel_rfl
theorem Tryd.el52 : elemT Tryd.prog 52 = some (31, 1) := by kernel_rfl
theorem Tryd.inf31 : infoT Tryd.prog 31 = some ([.slice none 0 0], 1, 24) := by kernel_rfl
theorem Tryd.el53 : elemT Tryd.prog 53 = some (4, 1) := by kernel_rfl
theorem Tryd.inf4 : infoT Tryd.prog 4 = some ([.bool false], 1, 1) := by kernel_rfl
theorem Tryd.el60 : elemT Tryd.prog 60 = some (71, 5) := by kernel_rfl
theorem Tryd.inf71 : infoT Tryd.prog 71 = some ([.int .u8 0, .int .u32 0, .int .i64 0, .slice none 0 0, .bool false], 5, 48) := by kernel_rfl
theorem Tryd.el69 : elemT Tryd.prog 69 = some (3, 1) := by kernel_rfl
theorem Tryd.inf3 : infoT Tryd.prog 3 = some ([.int .i64 0], 1, 8) := by kernel_rfl
theorem Tryd.el122 : elemT Tryd.prog 122 = some (120, 1) := by kernel_rfl
theorem Tryd.inf120 : infoT Tryd.prog 120 = some ([.int .u16 0], 1, 2) := by kernel_rfl
theorem Tryd.ar161 : arrT Tryd.prog 161 = some (32, 1) := by kernel_rfl
theorem Tryd.it3 : intT Tryd.prog 3 = some .i64 := by kernel_rfl
theorem Tryd.it5 : intT Tryd.prog 5 = some .u8 := by kernel_rfl
theorem Tryd.it68 : intT Tryd.prog 68 = some .u32 := by kernel_rfl
theorem Tryd.it160 : intT Tryd.prog 160 = some .u64 := by kernel_rfl
theorem Tryd.it182 : intT Tryd.prog 182 = some .u64 := by kernel_rfl
theorem Tryd.zv127 : (Tryd.prog.info? 127).bind (·.zero) = some (.agg #[.int .i64 0, .int .u16 0]) := by kernel_rfl
theorem Tryd.zv153 : (Tryd.prog.info? 153).bind (·.zero) = some (.agg #[]) := by kernel_rfl
theorem Tryd.en6 : enterT Tryd.prog 6 = true := by kernel_rfl
theorem Tryd.en7 : enterT Tryd.prog 7 = true := by kernel_rfl
theorem Tryd.en8 : enterT Tryd.prog 8 = true := by kernel_rfl
theorem Tryd.en9 : enterT Tryd.prog 9 = true := by kernel_rfl
theorem Tryd.en10 : enterT Tryd.prog 10 = true := by kernel_rfl
theorem Tryd.en11 : enterT Tryd.prog 11 = true := by kernel_rfl
theorem Tryd.en12 : enterT Tryd.prog 12 = true := by kernel_rfl
theorem Tryd.en13 : enterT Tryd.prog 13 = true := by kernel_rfl
theorem Tryd.en14 : enterT Tryd.prog 14 = true := by kernel_rfl
theorem Tryd.en15 : enterT Tryd.prog 15 = true := by kernel_rfl
theorem Tryd.en16 : enterT Tryd.prog 16 = true := by kernel_rfl
theorem Tryd.en17 : enterT Tryd.prog 17 = true := by kernel_rfl
theorem Tryd.en18 : enterT Tryd.prog 18 = true := by kernel_rfl
theorem Tryd.en19 : enterT Tryd.prog 19 = true := by kernel_rfl
theorem Tryd.en20 : enterT Tryd.prog 20 = true := by kernel_rfl
theorem Tryd.en21 : enterT Tryd.prog 21 = true := by kernel_rfl
theorem Tryd.en22 : enterT Tryd.prog 22 = true := by kernel_rfl
theorem Tryd.en23 : enterT Tryd.prog 23 = true := by kernel_rfl
theorem Tryd.en24 : enterT Tryd.prog 24 = true := by kernel_rfl
theorem Tryd.en25 : enterT Tryd.prog 25 = true := by kernel_rfl
theorem Tryd.en26 : enterT Tryd.prog 26 = true := by kernel_rfl
theorem Tryd.en27 : enterT Tryd.prog 27 = true := by kernel_rfl
theorem Tryd.en28 : enterT Tryd.prog 28 = true := by kernel_rfl
theorem Tryd.en29 : enterT Tryd.prog 29 = true := by kernel_rfl
theorem Tryd.en30 : enterT Tryd.prog 30 = true := by kernel_rfl
theorem Tryd.en31 : enterT Tryd.prog 31 = true := by kernel_rfl
theorem Tryd.en32 : enterT Tryd.prog 32 = true := by kernel_rfl
theorem Tryd.en33 : enterT Tryd.prog 33 = true := by kernel_rfl
theorem Tryd.en34 : enterT Tryd.prog 34 = true := by kernel_rfl
theorem Tryd.en35 : enterT Tryd.prog 35 = true := by kernel_rfl
theorem Tryd.en36 : enterT Tryd.prog 36 = true := by kernel_rfl
theorem Tryd.en37 : enterT Tryd.prog 37 = true := by kernel_rfl
theorem Tryd.en38 : enterT Tryd.prog 38 = true := by kernel_rfl
theorem Tryd.en39 : enterT Tryd.prog 39 = true := by kernel_rfl
theorem Tryd.en40 : enterT Tryd.prog 40 = true := by kernel_rfl
theorem Tryd.en41 : enterT Tryd.prog 41 = true := by kernel_rfl
theorem Tryd.en42 : enterT Tryd.prog 42 = true := by kernel_rfl
theorem Tryd.en43 : enterT Tryd.prog 43 = true := by kernel_rfl
theorem Tryd.en44 : enterT Tryd.prog 44 = true := by kernel_rfl
theorem Tryd.en45 : enterT Tryd.prog 45 = true := by kernel_rfl
theorem Tryd.en46 : enterT Tryd.prog 46 = true := by kernel_rfl
theorem Tryd.en47 : enterT Tryd.prog 47 = true := by kernel_rfl
theorem Tryd.en48 : enterT Tryd.prog 48 = true := by kernel_rfl
theorem Tryd.en49 : enterT Tryd.prog 49 = true := by kernel_rfl
theorem Tryd.en50 : enterT Tryd.prog 50 = true := by kernel_rfl
theorem Tryd.en51 : enterT Tryd.prog 51 = true := by kernel_rfl
theorem Tryd.en52 : enterT Tryd.prog 52 = true := by kernel_rfl
theorem Tryd.en53 : enterT Tryd.prog 53 = true := by kernel_rfl
theorem Tryd.en54 : enterT Tryd.prog 54 = true := by kernel_rfl
theorem Tryd.en55 : enterT Tryd.prog 55 = true := by kernel_rfl
theorem Tryd.en56 : enterT Tryd.prog 56 = true := by kernel_rfl
theorem Tryd.en57 : enterT Tryd.prog 57 = true := by kernel_rfl
theorem Tryd.en58 : enterT Tryd.prog 58 = true := by kernel_rfl
theorem Tryd.en59 : enterT Tryd.prog 59 = true := by kernel_rfl
theorem Tryd.en60 : enterT Tryd.prog 60 = true := by kernel_rfl
theorem Tryd.en61 : enterT Tryd.prog 61 = true := by kernel_rfl
theorem Tryd.en62 : enterT Tryd.prog 62 = true := by kernel_rfl
theorem Tryd.en63 : enterT Tryd.prog 63 = true := by kernel_rfl
theorem Tryd.en64 : enterT Tryd.prog 64 = true := by kernel_rfl
theorem Tryd.en65 : enterT Tryd.prog 65 = true := by kernel_rfl
theorem Tryd.en66 : enterT Tryd.prog 66 = true := by kernel_rfl
theorem Tryd.en67 : enterT Tryd.prog 67 = true := by kernel_rfl
theorem Tryd.en68 : enterT Tryd.prog 68 = true := by kernel_rfl
theorem Tryd.en69 : enterT Tryd.prog 69 = true := by kernel_rfl
theorem Tryd.en70 : enterT Tryd.prog 70 = true := by kernel_rfl
theorem Tryd.en71 : enterT Tryd.prog 71 = true := by kernel_rfl
theorem Tryd.en72 : enterT Tryd.prog 72 = true := by kernel_rfl
theorem Tryd.en73 : enterT Tryd.prog 73 = true := by kernel_rfl
theorem Tryd.en74 : enterT Tryd.prog 74 = true := by kernel_rfl
theorem Tryd.en75 : enterT Tryd.prog 75 = true := by kernel_rfl
theorem Tryd.en76 : enterT Tryd.prog 76 = true := by kernel_rfl
theorem Tryd.en77 : enterT Tryd.prog 77 = true := by kernel_rfl
theorem Tryd.en78 : enterT Tryd.prog 78 = true := by kernel_rfl
theorem Tryd.en80 : enterT Tryd.prog 80 = true := by kernel_rfl
theorem Tryd.en81 : enterT Tryd.prog 81 = true := by kernel_rfl
theorem Tryd.en82 : enterT Tryd.prog 82 = true := by kernel_rfl
theorem Tryd.en83 : enterT Tryd.prog 83 = true := by kernel_rfl
theorem Tryd.en84 : enterT Tryd.prog 84 = true := by kernel_rfl
theorem Tryd.en85 : enterT Tryd.prog 85 = true := by kernel_rfl
theorem Tryd.en86 : enterT Tryd.prog 86 = true := by kernel_rfl
theorem Tryd.en87 : enterT Tryd.prog 87 = true := by kernel_rfl
theorem Tryd.en88 : enterT Tryd.prog 88 = true := by kernel_rfl
theorem Tryd.en89 : enterT Tryd.prog 89 = true := by kernel_rfl
theorem Tryd.en90 : enterT Tryd.prog 90 = true := by kernel_rfl
theorem Tryd.en91 : enterT Tryd.prog 91 = true := by kernel_rfl
theorem Tryd.en92 : enterT Tryd.prog 92 = true := by kernel_rfl
theorem Tryd.en93 : enterT Tryd.prog 93 = true := by kernel_rfl
theorem Tryd.en94 : enterT Tryd.prog 94 = true := by kernel_rfl
theorem Tryd.en95 : enterT Tryd.prog 95 = true := by kernel_rfl
theorem Tryd.en96 : enterT Tryd.prog 96 = true := by kernel_rfl
theorem Tryd.en97 : enterT Tryd.prog 97 = true := by kernel_rfl
theorem Tryd.en98 : enterT Tryd.prog 98 = true := by kernel_rfl
theorem Tryd.en99 : enterT Tryd.prog 99 = true := by kernel_rfl
theorem Tryd.en100 : enterT Tryd.prog 100 = true := by kernel_rfl
theorem Tryd.en101 : enterT Tryd.prog 101 = true := by kernel_rfl
theorem Tryd.en102 : enterT Tryd.prog 102 = true := by kernel_rfl
theorem Tryd.en103 : enterT Tryd.prog 103 = true := by kernel_rfl
theorem Tryd.en104 : enterT Tryd.prog 104 = true := by kernel_rfl
theorem Tryd.en105 : enterT Tryd.prog 105 = true := by kernel_rfl
theorem Tryd.en106 : enterT Tryd.prog 106 = true := by kernel_rfl
theorem Tryd.en107 : enterT Tryd.prog 107 = true := by kernel_rfl
theorem Tryd.en108 : enterT Tryd.prog 108 = true := by kernel_rfl
theorem Tryd.en109 : enterT Tryd.prog 109 = true := by kernel_rfl
theorem Tryd.en110 : enterT Tryd.prog 110 = true := by kernel_rfl
theorem Tryd.en111 : enterT Tryd.prog 111 = true := by kernel_rfl
theorem Tryd.en112 : enterT Tryd.prog 112 = true := by kernel_rfl
theorem Tryd.en113 : enterT Tryd.prog 113 = true := by kernel_rfl
theorem Tryd.en114 : enterT Tryd.prog 114 = true := by kernel_rfl
theorem Tryd.en115 : enterT Tryd.prog 115 = true := by kernel_rfl
theorem Tryd.en116 : enterT Tryd.prog 116 = true := by kernel_rfl
theorem Tryd.en117 : enterT Tryd.prog 117 = true := by kernel_rfl
theorem Tryd.en118 : enterT Tryd.prog 118 = true := by kernel_rfl
theorem Tryd.en119 : enterT Tryd.prog 119 = true := by kernel_rfl
theorem Tryd.en120 : enterT Tryd.prog 120 = true := by kernel_rfl
theorem Tryd.en121 : enterT Tryd.prog 121 = true := by kernel_rfl
theorem Tryd.en122 : enterT Tryd.prog 122 = true := by kernel_rfl
theorem Tryd.en123 : enterT Tryd.prog 123 = true := by kernel_rfl
theorem Tryd.en124 : enterT Tryd.prog 124 = true := by kernel_rfl
theorem Tryd.en125 : enterT Tryd.prog 125 = true := by kernel_rfl
theorem Tryd.en126 : enterT Tryd.prog 126 = true := by kernel_rfl
theorem Tryd.en127 : enterT Tryd.prog 127 = true := by kernel_rfl
theorem Tryd.en128 : enterT Tryd.prog 128 = true := by kernel_rfl
theorem Tryd.en129 : enterT Tryd.prog 129 = true := by kernel_rfl
theorem Tryd.en130 : enterT Tryd.prog 130 = true := by kernel_rfl
theorem Tryd.en131 : enterT Tryd.prog 131 = true := by kernel_rfl
theorem Tryd.en132 : enterT Tryd.prog 132 = true := by kernel_rfl
theorem Tryd.en133 : enterT Tryd.prog 133 = true := by kernel_rfl
theorem Tryd.en134 : enterT Tryd.prog 134 = true := by kernel_rfl
theorem Tryd.en135 : enterT Tryd.prog 135 = true := by kernel_rfl
theorem Tryd.en136 : enterT Tryd.prog 136 = true := by kernel_rfl
theorem Tryd.en137 : enterT Tryd.prog 137 = true := by kernel_rfl
theorem Tryd.en138 : enterT Tryd.prog 138 = true := by kernel_rfl
theorem Tryd.mixed : Tryd.prog.follows .mixedOrders = true := by kernel_rfl
end Go.Proofs.YtegjmmocnffpiaaDoor
/- From a walk to a row, once for all laws: the call returns true and below the heap's first new block nothing has changed. -/
set_option maxRecDepth 20000
namespace Go.Proofs.YtegjmmocnffpiaaDoor
open Go.ChangeShapes Go.WideShapes Go.ChangeAt Go.RowKit
theorem ownKnob0 : ownKnob Tryd.prog.godebug = none := by kernel_rfl
theorem laidOut : laidOutB Tryd.prog = true := by kernel_rfl
section
variable {H : Type} {enc : TypeId × Value → H}
theorem below_trodAll {W W' : World} (hb : Below W.heap.size W W') : ∀ (ts : List TypeId) (vs : List Value) (ds : List (DataW H)) (ps : List MemPlace),
    (∀ t, t ∈ ts → Tryd.prog.readableRec t = true ∧ t < Tryd.prog.types.size) → DataW.TrodAll enc Tryd.prog W 0 (fun _ => true) true ts vs ds ps → (∀ p ∈ ps, p.block < W.heap.size) →
    DataW.TrodAll enc Tryd.prog W' 0 (fun b => decide (b < W.heap.size)) true ts vs ds ps := by
  intro ts
  induction ts with
  | nil =>
    intro vs ds ps _ h _
    obtain ⟨rfl, rfl, rfl⟩ := trodAll_nil h
    exact trodAll_mk0
  | cons t ts ih =>
    intro vs ds ps hr h hp
    obtain ⟨v, vs', d, ds', p, q, rfl, rfl, rfl, h1, h2⟩ := trodAll_cons h
    obtain ⟨r1, r2⟩ := hr t (by simp)
    exact trodAll_cons_mk (Below.trod laidOut r1 r2 h1 hb (fun x hx => hp x (by simp [hx]))) (ih _ _ _ (fun t ht => hr t (by simp [ht])) h2 (fun x hx => hp x (by simp [hx])))
theorem trodAll_length {W : World} : ∀ (ts : List TypeId) (vs : List Value) (ds : List (DataW H)) (ps : List MemPlace), DataW.TrodAll enc Tryd.prog W 0 (fun _ => true) true ts vs ds ps → ds.length = ts.length := by
  intro ts
  induction ts with
  | nil => intro vs ds ps h; obtain ⟨rfl, rfl, rfl⟩ := trodAll_nil h; rfl
  | cons t ts ih => intro vs ds ps h; obtain ⟨v, vs', d, ds', p, q, rfl, rfl, rfl, h1, h2⟩ := trodAll_cons h; simp [ih _ _ _ h2]
/-- What a law's walk owes. -/
def LawWalk (enc : TypeId × Value → H) (f : FuncId) (fn : Func) : Prop :=
  ∀ (W : World) (base : Nat) (args : Array Value) (ds : List (DataW H)) (before : List MemPlace),
    (∀ (j : Nat) t v, fn.params[j]? = some t → args[j]? = some v → Value.okWide Tryd.prog W .any base t v) →
    DataW.TrodAll enc Tryd.prog W 0 (fun _ => true) true fn.params.toList args.toList ds before →
    (∀ p ∈ before, p.block < W.heap.size) →
    (DataW.weightsEach Tryd.prog (fn.params.toList ++ []) (ds ++ [])).all (· ≤ reachBytes) = true →
    Calls Tryd.prog f args W fun e W' => e = .returned (.bool true) ∧ Below W.heap.size W W'
theorem lift_true {os : Os} (started : os.Started) {f : FuncId} {fn : Func} {s : ChangeSpec} (hfn : Tryd.prog.funcs[f]? = some fn) (noInit : Tryd.prog.inits.idxOf? f = none)
    (witness : ∃ (w : World) (tape : Tape) (i : Input), w.os = os ∧ (w.forCall tape i).Shaped Tryd.prog ∧ i.vars = [] ∧ Input.okWide Tryd.prog (w.forCall tape i) .any w.heap.size f i ∧
      s.pre6 enc Tryd.prog fn [] false (w.forCall tape i).memory i.args ∧ ({} : Assume).holds Tryd.prog (lone (Frame.enter Tryd.prog f i.args .normal) [] (w.forCall tape i)))
    (hvars : s.vars = []) (hrt : fn.resultTypes = #[4]) (hreadB : fn.params.toList.all (fun t => Tryd.prog.readableRec t && decide (t < Tryd.prog.types.size)) = true)
    (hres : ∀ ds : List (DataW H), ds.length = fn.params.toList.length → s.fn H (ds ++ []) = { results := [.lit (.bool true)], args := ds })
    (walk : LawWalk enc f fn) :
    ReturnsInHanded {} Tryd.checked os f .any (s.pre6 enc Tryd.prog fn [] false) (s.post enc Tryd.prog fn false true false false) := by
  have hread : ∀ t, t ∈ fn.params.toList → Tryd.prog.readableRec t = true ∧ t < Tryd.prog.types.size := fun t ht => by
    have := List.all_eq_true.1 hreadB t ht
    simpa using this
  refine returnsInHanded_of_change_sized (C := Tryd.checked) ownKnob0 started noInit hfn witness ?_
  intro W base args ds gs before hval hW _ hz _
  have hW' := hW
  have hlt := hW.lt
  obtain ⟨p, q, hA, hV, rfl, hfz, hnd⟩ := hW
  rw [hvars] at hV
  obtain ⟨rfl, rfl⟩ := trodVars_none hV
  simp only [List.append_nil] at hlt hW'
  have hpv : s.plain.varTypes Tryd.checked.prog = [] := by simp [ChangeSpec.plain, DataSpec.varTypes, hvars]
  rw [hpv] at hz
  refine (walk W base args ds p hval hA hlt hz).mono fun e W' ⟨he, hb⟩ => ?_
  subst he
  refine ⟨_, rfl, ds, [], p, [], p, [], hW', ?_, ?_, ?_, hb.frame _, fun h => by cases h⟩
  · have hlen := trodAll_length _ _ _ _ hA
    rw [hres ds hlen, hrt]
    exact trodAll_cons_mk (shut_bool Tryd.underlying4 _) trodAll_mk0
  · have hlen := trodAll_length _ _ _ _ hA
    rw [hres ds hlen]
    exact below_trodAll hb _ _ _ _ hread hA hlt
  · rw [hvars]
    have hlen := trodAll_length _ _ _ _ hA
    rw [hres ds hlen]
    rfl
end
end Go.Proofs.YtegjmmocnffpiaaDoor
/- Regions that draw their order: an operation that looks at no memory may be taken at any time. Of no program. -/
namespace Go.Proofs.YtegjmmocnffpiaaDoor
open Go.RowKit
section
variable {P : Program} {ops : Array Oper} {Q : Exit → Act → World → Prop} {H : World → Prop} {late : Nat → Bool}
theorem wpT_firstP {i : Nat} {oi : Oper} {v : Value} (hi : ops[i]? = some oi) (hsel : ∀ (j : Nat) (o : Oper) cs b, ops[j]? = some o → o.op ≠ .select cs b)
    (hQ : ∀ c a w, Q (.panic c) (a.put oi.dst v) w → Q (.panic c) a w) (hni : late i ≠ true) :
    ∀ (fuel : Nat) (listed : Array Bool) (a : Act) (w : World),
      (∀ j oj, ops[j]? = some oj → j ≠ i → listed.getD j true = false → (∀ e ∈ oj.after, Region.binds .any e = true → e.on ≠ i) → oi.apart ops oj = true) →
      i ∈ Region.ready .any ops listed → Yields P ops oi v a → H w →
      wpT P ops Q H late fuel (listed.setIfInBounds i true) (a.put oi.dst v) w → wpT P ops Q H late (fuel + 1) listed a w := by
  have yes : ∀ (fuel : Nat) (listed : Array Bool) (a : Act) (w : World), Yields P ops oi v a → H w → wpT P ops Q H late fuel (listed.setIfInBounds i true) (a.put oi.dst v) w →
      wpOp P ops Q i (fun a' w' => if late i = true then wpAny P .any ops Q fuel (listed.setIfInBounds i true) a' w' else H w' ∧ wpT P ops Q H late fuel (listed.setIfInBounds i true) a' w') a w := by
    intro fuel listed a w hy hS hh
    refine hy.wpOp hi ?_
    simp only [hni]
    exact ⟨hS, hh⟩
  intro fuel
  induction fuel with
  | zero =>
    intro listed a w _ hr hy hS hh
    refine ⟨fun h => (by rw [h] at hr; cases hr), fun j hj => ?_⟩
    by_cases hji : j = i
    · subst hji; exact yes 0 listed a w hy hS hh
    · have := ready_mono hj hji
      rw [hh.1] at this
      cases this
  | succ fuel ih =>
    intro listed a w hfree hr hy hS hh
    refine ⟨fun h => (by rw [h] at hr; cases hr), fun j hj => ?_⟩
    by_cases hji : j = i
    · subst hji; exact yes (fuel + 1) listed a w hy hS hh
    · have h1 := hh.2 j (ready_mono hj hji)
      obtain ⟨hjun, oj, hoj, hall⟩ := mem_ready.1 hj
      have hnot : ∀ e ∈ oj.after, Region.binds .any e = true → e.on ≠ i := fun e he hb heq => by
        have h1 := hall e he hb
        have h0 := (mem_ready.1 hr).1
        rw [heq] at h1
        rcases Nat.lt_or_ge i listed.size with h' | h'
        · simp [h'] at h0 h1; rw [h0] at h1; cases h1
        · simp [Array.getElem?_eq_none h'] at h1
      have h2 := wpOp_put hoj (hfree j oj hoj hji hjun hnot) (fun cs b => hsel i oi cs b hi) (fun cs b => hsel j oj cs b hoj) hQ hy h1
      have hfree' : ∀ k ok, ops[k]? = some ok → k ≠ i → (listed.setIfInBounds j true).getD k true = false →
          (∀ e ∈ ok.after, Region.binds .any e = true → e.on ≠ i) → oi.apart ops ok = true := fun k ok hk hki hun hno => by
        refine hfree k ok hk hki ?_ hno
        by_cases hjk : j = k
        · subst hjk; exact hjun
        · rw [getD_set_ne true hjk] at hun; exact hun
      refine wpOp_mono (fun a' w' h3 => ?_) h2
      obtain ⟨h3, h4⟩ := h3
      by_cases hl : late j = true
      · rw [if_pos hl] at h4 ⊢
        refine wpAny_first hi hsel hQ fuel (listed.setIfInBounds j true) a' w' hfree' (ready_mono hr (Ne.symm hji)) h3 ?_
        rw [Array.setIfInBounds_comm _ _ hji]
        exact h4
      · rw [if_neg hl] at h4 ⊢
        refine ⟨h4.1, ih (listed.setIfInBounds j true) a' w' hfree' (ready_mono hr (Ne.symm hji)) h3 h4.1 ?_⟩
        rw [Array.setIfInBounds_comm _ _ hji]
        exact h4.2
end
def takeOkP (ops : Array Oper) (listed : Array Bool) (i : Nat) (late : List Nat) : Bool :=
  Region.noSelect ops && Region.free .any ops listed i && (Region.ready .any ops listed).contains i && !late.contains i
section
variable {P : Program} {n : Nat} {md : Bool} {w0 : WM md} {ρ : Env} {Γ : List Assn} {Q : Exit → Act → World → Prop} {ops : Array Oper} {d : Nat} {Hs : List Assn} {late : List Nat} {fuel : Nat} {listed : Array Bool}
theorem S.dr_takeP {o : Oper} {v : Value} (i : Nat) (hi : ops[i]? = some o) (hok : takeOkP ops listed i late = true) (hg : o.guard = none) (hd : o.dst = some d) (hn : Nat.blt d n = true) (hy : Qv P n ρ [] o v) (hH : Ent Γ Hs)
    (k : S n w0 ((d, v) :: ρ) Γ (Dr P ops Q Hs late fuel (listed.setIfInBounds i true))) : S n w0 ρ Γ (Dr P ops Q Hs late (fuel + 1) listed) := by
  intro a w ha hs hx
  unfold takeOkP at hok
  simp only [Bool.and_eq_true] at hok
  obtain ⟨⟨⟨h1, h2⟩, h3⟩, h4⟩ := hok
  have hY : Yields P ops o v a := .inl ⟨by simp [Region.wanted, hg], fun w => hy a w ha ⟨HL.emp, HL.emp_le _, trivial⟩⟩
  unfold Dr
  refine wpT_firstP hi (Region.noSelect_spec h1) (fun _ _ _ h => h) (by simpa using h4) fuel listed a w (Region.free_spec hi h2) (by simpa using h3) hY (hs.ent hH) ?_
  rw [hd]
  exact k _ _ (ha.put hn v) hs hx
end
section
variable {P : Program} {n : Nat} {md : Bool} {w0 : WM md} {ρ : Env} {Γ : List Assn} {Q : Exit → Act → World → Prop} {rest : List Oper}
/-- What follows, hidden: so that nobody reckons it ahead of its time. -/
theorem S.opH {o : Oper} (h : ∀ K : Act → World → Prop, (∀ ρ Γ, S n w0 ρ Γ (wpL P Q rest) → S n w0 ρ Γ K) → S n w0 ρ Γ (Ow P Q o K)) : S n w0 ρ Γ (wpL P Q (o :: rest)) := h _ fun _ _ h => h
end
end Go.Proofs.YtegjmmocnffpiaaDoor
/- More rules in the states of XSep: ranges of integers, slice literals, memory that was there. Of no program. -/
namespace Go.Proofs.YtegjmmocnffpiaaDoor
open Go.RowKit
theorem inI64 {x : Int} (h1 : -9223372036854775808 ≤ x) (h2 : x ≤ 9223372036854775807) : IntKind.i64.min ≤ x ∧ x ≤ IntKind.i64.max := by
  rw [show IntKind.i64.min = -9223372036854775808 by decide, show IntKind.i64.max = 9223372036854775807 by decide]; exact ⟨h1, h2⟩
theorem inI32 {x : Int} (h1 : -2147483648 ≤ x) (h2 : x ≤ 2147483647) : IntKind.i32.min ≤ x ∧ x ≤ IntKind.i32.max := by
  rw [show IntKind.i32.min = -2147483648 by decide, show IntKind.i32.max = 2147483647 by decide]; exact ⟨h1, h2⟩
theorem inU64 {x : Int} (h1 : 0 ≤ x) (h2 : x ≤ 18446744073709551615) : IntKind.u64.min ≤ x ∧ x ≤ IntKind.u64.max := by
  rw [show IntKind.u64.min = 0 by decide, show IntKind.u64.max = 18446744073709551615 by decide]; exact ⟨h1, h2⟩
theorem inU32 {x : Int} (h1 : 0 ≤ x) (h2 : x ≤ 4294967295) : IntKind.u32.min ≤ x ∧ x ≤ IntKind.u32.max := by
  rw [show IntKind.u32.min = 0 by decide, show IntKind.u32.max = 4294967295 by decide]; exact ⟨h1, h2⟩
theorem inU16 {x : Int} (h1 : 0 ≤ x) (h2 : x ≤ 65535) : IntKind.u16.min ≤ x ∧ x ≤ IntKind.u16.max := by
  rw [show IntKind.u16.min = 0 by decide, show IntKind.u16.max = 65535 by decide]; exact ⟨h1, h2⟩
theorem inU8 {x : Int} (h1 : 0 ≤ x) (h2 : x ≤ 255) : IntKind.u8.min ≤ x ∧ x ≤ IntKind.u8.max := by
  rw [show IntKind.u8.min = 0 by decide, show IntKind.u8.max = 255 by decide]; exact ⟨h1, h2⟩
section
variable {P : Program} {n : Nat} {md : Bool} {w0 : WM md} {ρ : Env} {Γ : List Assn} {Q : Exit → Act → World → Prop} {K : Act → World → Prop} {ty : TypeId} {pos : String} {af : Array Edge} {gd : Option (Nat × Bool)} {d : Nat} {ds : Option Tmp}
/-- What a literal holds where nothing is written. -/
def zeroRow (zs : List Value) : Nat → List Value
  | 0 => []
  | k + 1 => zs ++ zeroRow zs k
theorem zeroRow_length (zs : List Value) (k : Nat) : (zeroRow zs k).length = k * zs.length := by
  induction k with
  | zero => simp [zeroRow]
  | succ k ih => simp [zeroRow, ih, Nat.succ_mul]; omega
theorem zeroRow_get (zs : List Value) (k : Nat) : ∀ i, i < k * zs.length → (zeroRow zs k)[i]? = zs[i % zs.length]? := by
  induction k with
  | zero => intro i h; omega
  | succ k ih =>
    intro i h
    rw [Nat.succ_mul] at h
    unfold zeroRow
    by_cases hi : i < zs.length
    · rw [List.getElem?_append_left hi, Nat.mod_eq_of_lt hi]
    · rw [List.getElem?_append_right (by omega), ih (i - zs.length) (by omega)]
      congr 1
      rw [← Nat.mod_eq_sub_mod (by omega)]
theorem zeroRow_range (zs : List Value) (hz : 0 < zs.length) (k : Nat) : (Array.range (k * zs.length)).map (fun i => zs.toArray[i % zs.toArray.size]!) = (zeroRow zs k).toArray := by
  apply Array.toList_inj.1
  apply List.ext_getElem?
  intro i
  by_cases h : i < k * zs.length
  · rw [zeroRow_get zs k i h]
    have hm : i % zs.length < zs.length := Nat.mod_lt _ hz
    simp [h, hm]
  · rw [List.getElem?_eq_none (by simp; omega), List.getElem?_eq_none (by rw [zeroRow_length]; omega)]
theorem S.buildSlice {t e sz by_ len : Nat} {xs : List (Nat × Operand)} {pvs : List (Nat × Value)} {zs : List Value} (vs : List Value) (hu : P.underlying t = some (.slice e)) (hi : infoT P e = some (zs, sz, by_)) (hsz : Nat.beq zs.length sz = true) (hpos : (Nat.blt 0 (len * sz) && Nat.ble (len * sz) 16777216) = true) (he : EvP ρ xs pvs)
    (hf : fillL (fun i => some (i * sz, sz)) (zeroRow zs len) pvs = some vs) (hn : Nat.blt d n = true) (k : ∀ b, S n w0 ((d, .slice (some ⟨b, 0, none⟩) len len) :: ρ) (blk b e vs.toArray :: Γ) K) :
    S n w0 ρ Γ (Ow P Q ⟨some d, .buildSlice t len xs.toArray, ty, pos, af, gd⟩ K) := by
  intro a w ha hs hx
  unfold infoT at hi
  split at hi
  case h_2 => cases hi
  rename_i i hi'
  split at hi
  case h_2 => cases hi
  rename_i z hz
  simp only [Option.some.injEq, Prod.mk.injEq] at hi
  obtain ⟨rfl, rfl, rfl⟩ := hi
  have hzs : z.cells.size = i.size := by simpa using Nat.eq_of_beq_eq_true hsz
  simp only [Bool.and_eq_true] at hpos
  have h1 : 0 < len * i.size := by have := hpos.1; simp [Nat.blt] at this; exact Nat.pos_of_ne_zero (by omega)
  have h2 : len * i.size ≤ 16777216 := Nat.le_of_ble_eq_true hpos.2
  have hz0 : 0 < z.cells.toList.length := by
    rw [Array.length_toList, hzs]
    exact Nat.pos_of_ne_zero fun e => by rw [e] at h1; omega
  have hm : (xs.toArray.map fun x : Nat × Operand => (x.1, a.eval x.2)).toList = pvs := by
    have := he.map ha
    simpa using this
  have hfill := fillL_fill _ pvs _ vs hf
  have hrow := zeroRow_range z.cells.toList hz0 len
  rw [Array.length_toList, hzs] at hrow
  simp only [Array.toArray_toList] at hrow
  rw [← hrow] at hfill
  have hr := run_buildSlice (P := P) w t e len (xs.toArray.map fun x : Nat × Operand => (x.1, a.eval x.2)) vs.toArray i z hu hi' hz (by omega) (by omega) (by rw [hm, hzs]; exact hfill)
  unfold Ow Oper.wp
  have hr' : (execOp a.eval ⟨some d, .buildSlice t len xs.toArray, ty, pos, af, gd⟩).run P w = .ok (.value (.slice (some ⟨w.heap.size, 0, none⟩) len len)) (w.alloc (.cells vs.toArray e)) := by
    simp only [execOp, Sem.run_bind, hr, Result.andThen_ok, Sem.run_pure]
  rw [hr', Oper.upon_value]
  exact k w.heap.size _ _ (ha.put hn _) (hs.alloc _ _) (hx.alloc _)
/-- A slice over a whole block reads as its cells. -/
theorem blk_slAt {b : Nat} {e : TypeId} {cs : List Value} {Δ : List Assn} {m sz : Nat} [h : HasB Γ b e cs.toArray Δ] (hl : cs.length = m * sz) (hm : m ≤ maxLen) : ∀ w, Sat w Γ → SlAt w (.slice (some ⟨b, 0, none⟩) m m) m sz cs := fun w hs =>
  SlAt.block cs.toArray cs (by simp) (h.blk hs) hl hm
/-! Memory that was there. -/
def old (W : World) : Assn := fun h => ∀ (b : Nat) (o : Obj), W.heap[b]? = some o → h b = some o
class HasOld (Γ : List Assn) (W : outParam World) : Prop where
  sat : ∀ (w : World), Sat w Γ → ∀ (b : Nat) (o : Obj), W.heap[b]? = some o → w.heap[b]? = some o
instance (priority := high) HasOld.head {W : World} : HasOld (old W :: Γ) W := ⟨fun w hs b o h => by obtain ⟨x, l, p⟩ := hs.head; exact l b o (p b o h)⟩
instance HasOld.tail {A : Assn} {W : World} [h : HasOld Γ W] : HasOld (A :: Γ) W := ⟨fun w hs => h.sat w (hs.ent (Ent.drop A Γ))⟩
theorem HasOld.cell {W : World} (h : HasOld Γ W) {w : World} (hs : Sat w Γ) {a : Addr} {v : Value} (hc : W.cell? a = some v) : w.cell? a = some v := by
  unfold World.cell? at hc ⊢
  cases hb : W.heap[a.block]? with
  | none => rw [hb] at hc; cases hc
  | some o => rw [hb] at hc; rw [h.sat w hs _ _ hb]; exact hc
theorem HasOld.slAt {W : World} (h : HasOld Γ W) {w : World} (hs : Sat w Γ) {v : Value} {m sz : Nat} {xs : List Value} (hv : SlAt W v m sz xs) : SlAt w v m sz xs := by
  obtain ⟨h0, ao, c, h1, h2, h3, h4, h5⟩ := hv
  refine ⟨h0, ao, c, h1, h2, h3, h4, fun a ha hm => ?_⟩
  obtain ⟨g1, g2, g3⟩ := h5 a ha hm
  obtain ⟨o, ho⟩ : ∃ o, W.heap[a.block]? = some o := ⟨_, Array.getElem?_eq_getElem g2⟩
  exact ⟨g1, (Array.getElem?_eq_some_iff.1 (h.sat w hs _ _ ho)).1, fun j u hu => h.cell hs (g3 j u hu)⟩
theorem q_loadW {t : TypeId} {x : Operand} {p : Addr} {W : World} {v : Value} [h : HasOld Γ W] (ht : atomT P t = true) (hx : ev ρ x = some (.pointer (some p))) (hv : W.cell? p = some v) : Qv P n ρ Γ ⟨ds, .load t x, ty, pos, af, gd⟩ v := by
  intro a w ha hs
  have hc := h.cell hs hv
  have hl : (loadVar t p).run P w = .ok v w := by
    unfold loadVar
    rw [Sem.run_bind, (run_isAgg_atom ht w).1]
    exact run_load_at hc
  simp only [execOp, ha.ev hx, Instr.loadAt, Instr.sureAddr, Sem.run_bind, Sem.run_pure, Result.andThen_ok, hl]
/-- A contract of the elder kind, of a function that only computes. -/
theorem Spec.of_calls {f : FuncId} {args : List Value} {v : Value} (h : ∀ w, Calls P f args.toArray w fun e w' => e = .returned v ∧ w' = w) : Spec P f args [] fun Γ r Θ => r = v ∧ Θ = Γ := by
  intro Γ w hs
  refine (h w).mono ?_
  rintro e w' ⟨rfl, rfl⟩
  exact ⟨v, Γ, rfl, ⟨rfl, rfl⟩, hs, Ext.refl _⟩
theorem Spec.mono {f : FuncId} {args : List Value} {pre : List Assn} {post post' : List Assn → Value → List Assn → Prop} (h : Spec P f args pre post) (hp : ∀ Γ v Θ, post Γ v Θ → post' Γ v Θ) : Spec P f args pre post' := fun Γ w hs =>
  (h Γ w hs).mono fun _ _ ⟨v, Θ, h1, h2, h3, h4⟩ => ⟨v, Θ, h1, hp _ _ _ h2, h3, h4⟩
end
/-- What a contract of the elder kind has made. -/
theorem Sat.addOwn {w w' : World} {Γ : List Assn} {e : TypeId} {sz m c : Nat} {ao : Option Addr} {xs : List Value} {g : Option Nat} (hs : Sat w Γ) (ow : Own w' e sz (.slice ao m c) m xs g)
    (hb : ∀ k, k < w.heap.size → w'.heap[k]? = w.heap[k]?) (hg : ∀ b, g = some b → w.heap.size ≤ b) : Sat w' (own ⟨ao, m, c⟩ e sz xs :: Γ) := by
  have h' : Sat w ((fun _ => True : Assn) :: Γ) := by
    obtain ⟨x, l, s⟩ := hs
    exact ⟨x, l, HL.emp, x, HL.emp_disj _, HL.emp_le _, HL.le.refl _, trivial, s⟩
  obtain ⟨hg', ow'⟩ := own.ofOwn (s := ⟨ao, m, c⟩) ow
  have hlt : ∀ b : Nat, w.heap[b]? ≠ none → b < w.heap.size := fun b hb => by
    rcases Nat.lt_or_ge b w.heap.size with h | h
    · exact h
    · simp [Array.getElem?_eq_none h] at hb
  refine h'.upd fun x _ _ => ?_
  rcases ow'.2 with ⟨h1, h2, h3⟩ | ⟨b, off, cur, h1, h2, r⟩
  · exact ⟨HL.emp, HL.emp_le _, ⟨ow'.1, .inl ⟨h1, h2, h3⟩⟩, fun b _ hw => ⟨rfl, hb b (hlt b hw)⟩⟩
  · refine ⟨HL.one b (.cells cur e), HL.one_le h2, ⟨ow'.1, .inr ⟨b, off, cur, h1, HL.one_self _ _, r⟩⟩, fun c' _ hw => ⟨HL.one_none fun e1 => ?_, hb c' (hlt c' hw)⟩⟩
    subst e1
    simp only at h1
    rw [h1] at hg'
    have := hg c' (by simpa using hg')
    have := hlt c' hw
    omega
end Go.Proofs.YtegjmmocnffpiaaDoor
/- Owned slices whose value stays a name; lists of records in their cells. Of no program. -/
namespace Go.Proofs.YtegjmmocnffpiaaDoor
open Go.RowKit
/-- An owned slice among the assertions. -/
class HasOw (Γ : List Assn) (s : SV) (e : outParam TypeId) (sz : outParam Nat) (xs : outParam (List Value)) (Δ : outParam (List Assn)) : Prop where
  ent : Ent Γ (own s e sz xs :: Δ)
instance (priority := high) HasOw.head {Γ : List Assn} {s : SV} {e : TypeId} {sz : Nat} {xs : List Value} : HasOw (own s e sz xs :: Γ) s e sz xs Γ := ⟨Ent.refl _⟩
instance HasOw.tail {A : Assn} {Γ Δ : List Assn} {s : SV} {e : TypeId} {sz : Nat} {xs : List Value} [h : HasOw Γ s e sz xs Δ] : HasOw (A :: Γ) s e sz xs (A :: Δ) := ⟨(h.ent.cons A).trans (Ent.swap _ _ _)⟩
theorem HasOw.own {Γ Δ : List Assn} {s : SV} {e : TypeId} {sz : Nat} {xs : List Value} (h : HasOw Γ s e sz xs Δ) {w : World} (hs : Sat w Γ) : Own w e sz s.v s.n xs (s.a.map (·.block)) := by
  obtain ⟨x, l, p⟩ := (hs.ent h.ent).head
  exact (p.mono l).toOwn
theorem HasOw.slAt {Γ Δ : List Assn} {s : SV} {e : TypeId} {sz : Nat} {xs : List Value} (h : HasOw Γ s e sz xs Δ) {w : World} (hs : Sat w Γ) : SlAt w s.v s.n sz xs := (h.own hs).sl
theorem HasOw.hasO {Γ Δ : List Assn} {s : SV} {e : TypeId} {sz : Nat} {xs : List Value} (h : HasOw Γ s e sz xs Δ) {b off : Nat} (hp : s.a = some ⟨b, off, none⟩) : HasO Γ b off s.n s.c e sz xs Δ :=
  ⟨by have := h.ent; obtain ⟨sa, sn, sc⟩ := s; simp only at hp; subst hp; exact this⟩
section
variable {P : Program} {n : Nat} {md : Bool} {w0 : WM md} {ρ : Env} {Γ : List Assn} {Q : Exit → Act → World → Prop} {K : Act → World → Prop} {ty : TypeId} {pos : String} {af : Array Edge} {gd : Option (Nat × Bool)} {d : Nat} {ds : Option Tmp}
theorem S.ownLen {φ : Act → World → Prop} (s : SV) {e : TypeId} {sz : Nat} {xs : List Value} {Δ : List Assn} [h : HasOw Γ s e sz xs Δ] (k : xs.length = s.n * sz → s.n ≤ s.c → s.c ≤ maxLen → S n w0 ρ Γ φ) : S n w0 ρ Γ φ := by
  intro a w ha hs hx
  obtain ⟨x, _, p1, p2⟩ := (hs.ent h.ent).head
  rcases p2 with ⟨_, e2, e3⟩ | ⟨b, off, cur, e1, _, h3, h4, _⟩
  · exact k p1 (by omega) (by rw [e3]; exact Nat.zero_le _) a w ha hs hx
  · exact k p1 h3 h4 a w ha hs hx
theorem S.ownSome {φ : Act → World → Prop} (s : SV) {e : TypeId} {sz : Nat} {xs : List Value} {Δ : List Assn} [h : HasOw Γ s e sz xs Δ] (hn : 0 < s.n) (k : ∀ b off, s.a = some ⟨b, off, none⟩ → xs.length = s.n * sz → s.n ≤ s.c → s.c ≤ maxLen → S n w0 ρ Γ φ) : S n w0 ρ Γ φ := by
  intro a w ha hs hx
  obtain ⟨x, _, p1, p2⟩ := (hs.ent h.ent).head
  rcases p2 with ⟨_, e2, _⟩ | ⟨b, off, cur, e1, _, h3, h4, _⟩
  · omega
  · exact k b off e1 p1 h3 h4 a w ha hs hx
theorem q_indexO {t : TypeId} {x y : Operand} {e sz b o l c : Nat} {k : IntKind} {z : Int} {p : Option Addr} (i : Nat) (ht : elemT P t = some (e, sz)) (hx : ev ρ x = some (.slice p l c)) (hp : p = some ⟨b, o, none⟩) (hy : ev ρ y = some (.int k z)) (hz : z = ((i : Nat) : Int)) (h : i < l) : Qv P n ρ Γ ⟨ds, .indexAddr t x y, ty, pos, af, gd⟩ (.pointer (some ⟨b, o + i * sz, none⟩)) := by
  subst hp hz
  exact q_index (i := (i : Int)) ht hx hy ⟨by omega, by omega⟩
theorem q_loadOw {t b o : Nat} {x : Operand} {e : TypeId} {sz : Nat} {xs : List Value} {v : Value} {Δ : List Assn} (s : SV) {off : Nat} (j : Nat) (ht : atomT P t = true) (hx : ev ρ x = some (.pointer (some ⟨b, o, none⟩))) [h : HasOw Γ s e sz xs Δ] (hp : s.a = some ⟨b, off, none⟩) (ho : o = off + j) (hv : xs[j]? = some v) :
    Qv P n ρ Γ ⟨ds, .load t x, ty, pos, af, gd⟩ v := by
  have := h.hasO hp
  exact q_loadO j ht hx ho hv
theorem q_loadOwS {t b o k : Nat} {x : Operand} {e : TypeId} {sz : Nat} {xs : List Value} {Δ : List Assn} (s : SV) {off : Nat} (j : Nat) (vs : List Value) (ht : aggT P t = some k) (hx : ev ρ x = some (.pointer (some ⟨b, o, none⟩))) [h : HasOw Γ s e sz xs Δ] (hp : s.a = some ⟨b, off, none⟩) (ho : o = off + j) (hk : vs.length = k) (hv : ∀ i u, vs[i]? = some u → xs[j + i]? = some u) :
    Qv P n ρ Γ ⟨ds, .load t x, ty, pos, af, gd⟩ (.agg vs.toArray) := by
  have := h.hasO hp
  exact q_loadOS j vs ht hx ho hk hv
theorem S.storeOw {t b o : Nat} {x y : Operand} {e : TypeId} {sz : Nat} {xs xs' : List Value} {v : Value} {Δ : List Assn} (s : SV) {off : Nat} (j : Nat) (ht : atomT P t = true) (hx : ev ρ x = some (.pointer (some ⟨b, o, none⟩))) (hy : ev ρ y = some v) (hv : v.oneCell' = true) [h : HasOw Γ s e sz xs Δ] (hp : s.a = some ⟨b, off, none⟩) (ho : o = off + j) (hj : j < xs.length) (hxs : xs.set j v = xs')
    (k : S n w0 ρ (own s e sz xs' :: Δ) K) : S n w0 ρ Γ (Ow P Q ⟨none, .store t x y, ty, pos, af, gd⟩ K) := by
  have := h.hasO hp
  subst hxs
  refine S.storeO j ht hx hy hv ho hj ?_
  obtain ⟨sa, sn, sc⟩ := s
  simp only at hp
  subst hp
  exact k
/-- x[k:] -/
theorem S.sliceDrop {t e sz : Nat} {x y : Operand} {s : SV} {xs : List Value} {kk : IntKind} {z : Int} {Δ : List Assn} (m : Nat) (ht : elemT P t = some (e, sz)) (hx : ev ρ x = some s.v) [h : HasOw Γ s e sz xs Δ] (hy : ev ρ y = some (.int kk z)) (hz : z = ((m : Nat) : Int)) (hm : m ≤ s.n) (hn : Nat.blt d n = true)
    (k : ∀ s' : SV, s'.n = s.n - m → S n w0 ((d, s'.v) :: ρ) (own s' e sz (xs.drop (m * sz)) :: Δ) K) : S n w0 ρ Γ (Ow P Q ⟨some d, .slice t x (some y) none none, ty, pos, af, gd⟩ K) := by
  intro a w ha hs hxt
  subst hz
  obtain ⟨hu, i, hi, rfl⟩ := elemT_info ht
  have hO := h.own hs
  obtain ⟨x0, l0, p0⟩ := (hs.ent h.ent).head
  -- the value
  have hnc : s.n ≤ s.c := by
    rcases p0.2 with ⟨_, e2, e3⟩ | ⟨_, _, _, _, _, h3, _⟩
    · omega
    · exact h3
  have hr : (execOp a.eval ⟨some d, .slice t x (some y) none none, ty, pos, af, gd⟩).run P w = .ok (.value (.slice (if s.c = m then s.a else s.a.map (·.add (m * i.size))) (s.n - m) (s.c - m))) w := by
    have hmi : (m : Int) ≤ (s.n : Int) := by omega
    simp [execOp, ha.ev hx, ha.ev hy, Instr.sliceAt, Instr.slice, run_underlying hu, Instr.sliceBounds, Instr.sliceBound, asIntOf, hm, sizeOf, typeInfo, hi]
  unfold Ow Oper.wp
  rw [hr, Oper.upon_value]
  have hmul : (s.n - m) * i.size + m * i.size = s.n * i.size := by rw [← Nat.add_mul]; congr 1; omega
  refine k ⟨if s.c = m then s.a else s.a.map (·.add (m * i.size)), s.n - m, s.c - m⟩ rfl _ _ (ha.put hn _) ?_ hxt
  refine (hs.ent h.ent).upd fun q l p => ⟨q, l, ?_, fun b hb _ => ⟨hb, rfl⟩⟩
  refine ⟨by rw [List.length_drop, p.1]; simp only; omega, ?_⟩
  rcases p.2 with ⟨e1, e2, e3⟩ | ⟨b, off, cur, e1, e2, e3, e4, e5, e6⟩
  · exact .inl ⟨by simp [e1], by simp only; omega, by simp only; omega⟩
  · by_cases hc : s.c = m
    · refine .inr ⟨b, off, cur, by simp [hc, e1], e2, by simp only; omega, by simp only; omega, ?_, ?_⟩
      · simp only [hc, Nat.sub_self, Nat.zero_mul]; have : 0 ≤ s.c * i.size := Nat.zero_le _; omega
      · have h0 : s.n - m = 0 := by omega
        simp only [h0, Nat.zero_mul, List.take_zero]
        rw [List.drop_eq_nil_of_le (by rw [p.1]; exact Nat.mul_le_mul_right _ (by omega))]
    · have hcm : (s.c - m) * i.size + m * i.size = s.c * i.size := by rw [← Nat.add_mul]; congr 1; omega
      refine .inr ⟨b, off + m * i.size, cur, by simp [hc, e1, Addr.add_lit], e2, by simp only; omega, by simp only; omega, by simp only; omega, ?_⟩
      rw [← e6, List.drop_take, List.drop_drop]
      congr 1
      simp only
      omega
/-- append, onto a slice that is named. -/
theorem S.appendOw {t e sz by_ : Nat} {x y : Operand} {s : SV} {xs zs : List Value} {yv : Value} {Δ : List Assn} (m : Nat) (news : List Value) (hu : P.underlying t = some (.slice e)) (hi : infoT P e = some (zs, sz, by_)) (hzl : Nat.beq zs.length sz = true) (hx : ev ρ x = some s.v) [h : HasOw Γ s e sz xs Δ]
    (hy : ev ρ y = some yv) (hsrc : ∀ w, Sat w Γ → SlAt w yv m sz news) (h1 : allOne news = true) (hby : (s.n + m) * by_ ≤ 140737488355328 ∧ s.n + m ≤ 140737488355328) (hn : Nat.blt d n = true)
    (k : ∀ s' : SV, s'.n = s.n + m → S n w0 ((d, s'.v) :: ρ) (own s' e sz (xs ++ news) :: Δ) K) :
    S n w0 ρ Γ (Ow P Q ⟨some d, .call { callee := .builtin .append, args := #[x, y], argTypes := #[t, t] }, ty, pos, af, gd⟩ K) := by
  have hent := h.ent
  have : Pick (own s e sz xs) Γ Δ := ⟨hent⟩
  exact S.append hu hi hzl hx hy hsrc h1 (by unfold maxLen; omega) hby.1 hn k
end
/-- What holds of anything. -/
theorem S.addTrue {n : Nat} {md : Bool} {w0 : WM md} {ρ : Env} {Γ : List Assn} {φ : Act → World → Prop} (k : S n w0 ρ ((fun _ => True) :: Γ) φ) : S n w0 ρ Γ φ :=
  S.ent (Δ := (fun _ => True) :: Γ) (fun h hs => ⟨HL.emp, h, HL.emp_disj _, HL.emp_le _, HL.le.refl _, trivial, hs⟩) k
/-- Something among the assertions, turned. -/
theorem S.conv {n : Nat} {md : Bool} {w0 : WM md} {ρ : Env} {Γ : List Assn} {φ : Act → World → Prop} (A : Assn) {Δ Θ : List Assn} [p : Pick A Γ Δ] (h : Ent (A :: Δ) Θ) (k : S n w0 ρ Θ φ) : S n w0 ρ Γ φ := S.ent (p.ent.trans h) k
theorem S.conv2 {n : Nat} {md : Bool} {w0 : WM md} {ρ : Env} {Γ : List Assn} {φ : Act → World → Prop} (A B : Assn) {Δ Δ' Θ : List Assn} [p : Pick A Γ Δ] [q : Pick B Δ Δ'] (h : Ent (A :: B :: Δ') Θ) (k : S n w0 ρ Θ φ) : S n w0 ρ Γ φ := S.ent ((p.ent.trans (q.ent.cons A)).trans h) k
theorem S.conv3 {n : Nat} {md : Bool} {w0 : WM md} {ρ : Env} {Γ : List Assn} {φ : Act → World → Prop} (A B C : Assn) {Δ Δ' Δ'' Θ : List Assn} [p : Pick A Γ Δ] [q : Pick B Δ Δ'] [r : Pick C Δ' Δ''] (h : Ent (A :: B :: C :: Δ'') Θ) (k : S n w0 ρ Θ φ) : S n w0 ρ Γ φ := S.ent ((p.ent.trans ((q.ent.trans (r.ent.cons B)).cons A)).trans h) k
/-! Records in their cells. -/
theorem flat_length {α : Type} {enc : α → List Value} {sz : Nat} (he : ∀ x, (enc x).length = sz) : ∀ (os : List α), (os.flatMap enc).length = os.length * sz
  | [] => by simp
  | x :: os => by rw [List.flatMap_cons, List.length_append, he, flat_length he os, List.length_cons, Nat.succ_mul]; omega
theorem flat_get {α : Type} {enc : α → List Value} {sz : Nat} (he : ∀ x, (enc x).length = sz) : ∀ {os : List α} {i k : Nat} {x : α} {v : Value}, os[i]? = some x → (enc x)[k]? = some v → (os.flatMap enc)[i * sz + k]? = some v
  | [], _, _, _, _, h, _ => by simp at h
  | y :: os, 0, k, x, v, h, hv => by
    simp only [List.getElem?_cons_zero, Option.some.injEq] at h
    subst h
    rw [List.flatMap_cons, Nat.zero_mul, Nat.zero_add, List.getElem?_append_left (List.getElem?_eq_some_iff.1 hv).1]
    exact hv
  | y :: os, i + 1, k, x, v, h, hv => by
    rw [List.flatMap_cons, List.getElem?_append_right (by rw [he, Nat.succ_mul]; omega), he]
    have := flat_get he (os := os) (i := i) (k := k) (by simpa using h) hv
    rwa [show (i + 1) * sz + k - sz = i * sz + k by rw [Nat.succ_mul]; omega]
theorem flat_set {α : Type} {enc : α → List Value} {sz : Nat} (he : ∀ x, (enc x).length = sz) : ∀ {os : List α} {i k : Nat} {x x' : α} {v : Value}, os[i]? = some x → k < sz → enc x' = (enc x).set k v → (os.flatMap enc).set (i * sz + k) v = (os.set i x').flatMap enc
  | [], _, _, _, _, _, h, _, _ => by simp at h
  | y :: os, 0, k, x, x', v, h, hk, hv => by
    simp only [List.getElem?_cons_zero, Option.some.injEq] at h
    subst h
    rw [List.flatMap_cons, Nat.zero_mul, Nat.zero_add, List.set_append_left _ _ (by rw [he]; exact hk), List.set_cons_zero, List.flatMap_cons, hv]
  | y :: os, i + 1, k, x, x', v, h, hk, hv => by
    rw [List.flatMap_cons, List.set_append_right _ _ (by rw [he, Nat.succ_mul]; omega), he, List.set_cons_succ, List.flatMap_cons]
    have := flat_set he (os := os) (i := i) (k := k) (by simpa using h) hk hv
    rw [show (i + 1) * sz + k - sz = i * sz + k by rw [Nat.succ_mul]; omega, this]
theorem flat_snoc {α : Type} (enc : α → List Value) (os : List α) (x : α) : os.flatMap enc ++ enc x = (os ++ [x]).flatMap enc := by simp
theorem flat_drop {α : Type} {enc : α → List Value} {sz : Nat} (he : ∀ x, (enc x).length = sz) (os : List α) (k : Nat) : (os.flatMap enc).drop (k * sz) = (os.drop k).flatMap enc := by
  induction k generalizing os with
  | zero => simp
  | succ k ih =>
    cases os with
    | nil => simp
    | cons x os =>
      rw [List.flatMap_cons, List.drop_succ_cons, ← ih os, Nat.succ_mul, Nat.add_comm, ← List.drop_drop, List.drop_append_of_le_length (by rw [he]; exact Nat.le_refl _), (List.drop_eq_nil_of_le (by rw [he x]; exact Nat.le_refl _) : (enc x).drop sz = []), List.nil_append]
theorem flat_seg {α : Type} {enc : α → List Value} {sz : Nat} (he : ∀ x, (enc x).length = sz) {os : List α} {i : Nat} {x : α} (h : os[i]? = some x) : ∀ k v, (enc x)[k]? = some v → (os.flatMap enc)[i * sz + k]? = some v := fun _ _ hv => flat_get he h hv
/-! Families of assertions. -/
def alls {α : Type} (os : List α) (F : α → Assn) : Assn := stars (os.map F)
theorem Ent.allsNil {α : Type} (F : α → Assn) (Γ : List Assn) : Ent Γ (alls [] F :: Γ) := fun h hs => ⟨HL.emp, h, HL.emp_disj _, HL.emp_le _, HL.le.refl _, trivial, hs⟩
theorem Ent.allsCons {α : Type} (F : α → Assn) (x : α) (os : List α) (Γ : List Assn) : Ent (F x :: alls os F :: Γ) (alls (x :: os) F :: Γ) := fun _ hs => (stars_append (Γ := (x :: os).map F) (Δ := Γ)).1 (by
  obtain ⟨h1, h2, d, l1, l2, p, s⟩ := hs
  exact ⟨h1, h2, d, l1, l2, p, stars_append.2 s⟩)
theorem Ent.allsUncons {α : Type} (F : α → Assn) (x : α) (os : List α) (Γ : List Assn) : Ent (alls (x :: os) F :: Γ) (F x :: alls os F :: Γ) := fun _ hs => by
  obtain ⟨h1, h2, d, l1, l2, p, s⟩ := (stars_append (Γ := (x :: os).map F) (Δ := Γ)).2 hs
  exact ⟨h1, h2, d, l1, l2, p, stars_append.1 s⟩
theorem Ent.allsAppend {α : Type} (F : α → Assn) (os ps : List α) (Γ : List Assn) : Ent (alls os F :: alls ps F :: Γ) (alls (os ++ ps) F :: Γ) := fun _ hs => by
  have h1 := (stars_append (Γ := os.map F)).2 hs
  have h2 : Ent (os.map F ++ (alls ps F :: Γ)) (os.map F ++ (ps.map F ++ Γ)) := Ent.append _ fun _ h => stars_append.2 h
  refine (stars_append (Γ := (os ++ ps).map F)).1 ?_
  rw [List.map_append, List.append_assoc]
  exact h2 _ h1
theorem Ent.allsSplit {α : Type} (F : α → Assn) (os ps : List α) (Γ : List Assn) : Ent (alls (os ++ ps) F :: Γ) (alls os F :: alls ps F :: Γ) := fun _ hs => by
  have h1 := (stars_append (Γ := (os ++ ps).map F)).2 hs
  rw [List.map_append, List.append_assoc] at h1
  have h2 : Ent (os.map F ++ (ps.map F ++ Γ)) (os.map F ++ (alls ps F :: Γ)) := Ent.append _ fun _ h => stars_append.1 h
  exact (stars_append (Γ := os.map F)).1 (h2 _ h1)
theorem Ent.allsOne {α : Type} (F : α → Assn) (x : α) (Γ : List Assn) : Ent (F x :: Γ) (alls [x] F :: Γ) := ((Ent.allsNil F Γ).cons (F x)).trans (Ent.allsCons F x [] Γ)
theorem Ent.allsSnoc {α : Type} (F : α → Assn) (os : List α) (x : α) (Γ : List Assn) : Ent (F x :: alls os F :: Γ) (alls (os ++ [x]) F :: Γ) := ((Ent.swap _ _ _).trans ((Ent.allsOne F x Γ).cons _)).trans (Ent.allsAppend F os [x] Γ)
theorem Ent.allsDrop {α : Type} (F : α → Assn) (os : List α) (k : Nat) (Γ : List Assn) : Ent (alls os F :: Γ) (alls (os.drop k) F :: Γ) := by
  have h := Ent.allsSplit F (os.take k) (os.drop k) Γ
  rw [List.take_append_drop] at h
  exact h.trans (Ent.drop _ _)
theorem Ent.allsCongr {α β : Type} {F : α → Assn} {G : β → Assn} {os : List α} {ps : List β} (h : os.map F = ps.map G) (Γ : List Assn) : Ent (alls os F :: Γ) (alls ps G :: Γ) := by
  unfold alls
  rw [h]
  exact Ent.refl _
/-- One of them, and the others. -/
theorem Ent.allsAt {α : Type} (F : α → Assn) {os : List α} {i : Nat} {x : α} (hx : os[i]? = some x) (Γ : List Assn) : Ent (alls os F :: Γ) (F x :: alls (os.take i) F :: alls (os.drop (i + 1)) F :: Γ) := by
  obtain ⟨hi, rfl⟩ := List.getElem?_eq_some_iff.1 hx
  have h := Ent.allsSplit F (os.take i) (os.drop i) Γ
  rw [List.take_append_drop, List.drop_eq_getElem_cons hi] at h
  exact (h.trans ((Ent.allsUncons F _ _ Γ).cons _)).trans (Ent.swap _ _ _)
theorem Ent.allsBack {α : Type} (F : α → Assn) {os : List α} {i : Nat} {x x' : α} (hx : os[i]? = some x) (Γ : List Assn) : Ent (F x' :: alls (os.take i) F :: alls (os.drop (i + 1)) F :: Γ) (alls (os.set i x') F :: Γ) := by
  obtain ⟨hi, rfl⟩ := List.getElem?_eq_some_iff.1 hx
  have h : os.set i x' = os.take i ++ (x' :: os.drop (i + 1)) := by
    rw [List.set_eq_take_append_cons_drop, if_pos hi]
  rw [h]
  exact ((Ent.swap _ _ _).trans ((Ent.allsCons F x' _ Γ).cons _)).trans (Ent.allsAppend F _ _ Γ)
theorem Ent.allsBack' {α : Type} (F : α → Assn) {os : List α} {i : Nat} {x : α} (hx : os[i]? = some x) (Γ : List Assn) : Ent (F x :: alls (os.take i) F :: alls (os.drop (i + 1)) F :: Γ) (alls os F :: Γ) := by
  have h := Ent.allsBack F (x' := x) hx Γ
  obtain ⟨hi, rfl⟩ := List.getElem?_eq_some_iff.1 hx
  rwa [List.set_getElem_self] at h
/-- The first k done. -/
def bump {α : Type} (f : α → α) (k : Nat) (os : List α) : List α := (os.take k).map f ++ os.drop k
theorem bump_zero {α : Type} (f : α → α) (os : List α) : bump f 0 os = os := by simp [bump]
theorem bump_all {α : Type} (f : α → α) (os : List α) : bump f os.length os = os.map f := by simp [bump]
theorem bump_length {α : Type} (f : α → α) (k : Nat) (os : List α) : (bump f k os).length = os.length := by simp [bump]; omega
theorem bump_get {α : Type} (f : α → α) (k : Nat) (os : List α) (x : α) (hx : os[k]? = some x) : (bump f k os)[k]? = some x := by
  obtain ⟨h, rfl⟩ := List.getElem?_eq_some_iff.1 hx
  rw [bump, List.getElem?_append_right (by simp; omega)]
  simp [Nat.min_eq_left (Nat.le_of_lt h)]
theorem bump_succ {α : Type} (f : α → α) (k : Nat) (os : List α) (x : α) (hx : os[k]? = some x) : bump f (k + 1) os = (bump f k os).set k (f x) := by
  obtain ⟨h, rfl⟩ := List.getElem?_eq_some_iff.1 hx
  rw [bump, bump, List.set_append_right _ _ (by simp; omega), List.take_succ_eq_append_getElem h, List.map_append, List.append_assoc]
  congr 1
  have hl : k - ((os.take k).map f).length = 0 := by simp; omega
  rw [hl, List.drop_eq_getElem_cons h]
  rfl
theorem getE {α : Type} {l : List α} {i : Nat} (h : i < l.length) : ∃ x, l[i]? = some x := ⟨l[i], List.getElem?_eq_getElem h⟩
theorem take_snoc {α β : Type} (f : α → β) (l : List α) (i : Nat) (x : α) (h : l[i]? = some x) : (l.take (i + 1)).map f = (l.take i).map f ++ [f x] := by
  obtain ⟨hi, rfl⟩ := List.getElem?_eq_some_iff.1 h
  rw [List.take_succ_eq_append_getElem hi, List.map_append]
  rfl
end Go.Proofs.YtegjmmocnffpiaaDoor
/- Bytes as cells. Of no program. -/
namespace Go.Proofs.YtegjmmocnffpiaaDoor
open Go.RowKit
def bcells (l : List Int) : List Value := l.map (Value.int .u8)
theorem bcells_length (l : List Int) : (bcells l).length = l.length * 1 := by simp [bcells]
theorem bcells_one (l : List Int) : ∀ u ∈ bcells l, u.oneCell' = true := ints_oneCell .u8 l
theorem bcells_get (l : List Int) (i : Nat) (h : i < l.length) : (bcells l)[i]? = some (.int .u8 (l.getD i 0)) := by simp [bcells, List.getD, h]
/-- A value of bytes. -/
def BytesAt (w : World) (v : Value) (l : List Int) : Prop := SlAt w v l.length 1 (bcells l)
theorem SlAt.cases' {w : World} {v : Value} {n sz : Nat} {xs : List Value} (h : SlAt w v n sz xs) : (v = .slice none 0 0 ∧ n = 0 ∧ xs = []) ∨ ∃ a c, v = .slice (some a) n c ∧ n ≤ c := by
  obtain ⟨h0, ao, c, h1, h2, h3, h4, h5⟩ := h
  cases ao with
  | none =>
    obtain ⟨rfl, rfl⟩ := h4 rfl
    exact .inl ⟨h1, rfl, List.eq_nil_of_length_eq_zero (by simpa using h0)⟩
  | some a => exact .inr ⟨a, c, h1, h2⟩
theorem own_form {w : World} {e : TypeId} {sz : Nat} {v : Value} {n : Nat} {xs : List Value} {g : Option Nat} (h : Own w e sz v n xs g) : ∃ ao c, v = .slice ao n c := by
  obtain ⟨_, ao, c, h1, _⟩ := h.sl
  exact ⟨ao, c, h1⟩
end Go.Proofs.YtegjmmocnffpiaaDoor
/- Arguments that lie in memory: what shape they have, and what they read as. -/
namespace Go.Proofs.YtegjmmocnffpiaaDoor
open Go.RowKit Go.ChangeShapes Go.WideShapes Go.ChangeAt Go.Deep
/-- The shape of a type of plain data. -/
inductive TS where
  | int (k : IntKind)
  | bool
  | string
  | slice (sz : Nat) (e : TS)
  | nil
  | cat (n : Nat) (a b : TS)
/-- Cells of that shape. -/
def Rd (W : World) : TS → List Value → Prop
  | .int k, cs => ∃ n, cs = [.int k n] ∧ (Lit.int k n).wf = true
  | .bool, cs => ∃ b, cs = [.bool b]
  | .string, cs => ∃ s : ByteArray, cs = [.string s] ∧ s.size ≤ maxLen
  | .slice sz e, cs => ∃ s : SV, cs = [s.v] ∧ s.n ≤ s.c ∧ s.c ≤ maxLen ∧ (s.a = none → s.n = 0 ∧ s.c = 0) ∧
      ∀ i, i < s.n → ∃ a cs', s.a = some a ∧ cs'.length = sz ∧ (∀ j, j < sz → W.cell? (a.add (i * sz + j)) = cs'[j]?) ∧ Rd W e cs'
  | .nil, cs => cs = []
  | .cat n a b, cs => ∃ xs ys, cs = xs ++ ys ∧ xs.length = n ∧ Rd W a xs ∧ Rd W b ys
def okFs (P : Program) (rec : TypeId → TS → Bool) : List Field → Nat → TS → Option Nat
  | [], off, .nil => some off
  | f :: fs, off, .cat m a b => if f.offset == off && P.cellsOf f.type == m && rec f.type a then okFs P rec fs (off + m) b else none
  | _, _, _ => none
def tsOk (P : Program) : Nat → TypeId → TS → Bool
  | 0, _, _ => false
  | n + 1, t, s => match P.underlying t, s with
    | some (.int k), .int k' => k == k'
    | some .bool, .bool => true
    | some .string, .string => true
    | some (.slice e), .slice sz e' => P.cellsOf e == sz && tsOk P n e e'
    | some (.struct fs), s => okFs P (tsOk P n) fs.toList 0 s == some (P.cellsOf t)
    | _, _ => false
section
variable {H : Type} {enc : TypeId × Value → H} {P : Program} {W : World}
theorem rd_fields {n fuel base : Nat} {sp : Nat → Bool} {held : Bool} (ih : ∀ (t : TypeId) (s : TS) (cs : List Value) (x : DataW H × List MemPlace), tsOk P n t s = true → DataW.trod enc P W base sp held fuel t cs = some x → Rd W s cs)
    (cs : List Value) : ∀ (fs : List Field) (off : Nat) (s : TS) (tot : Nat), okFs P (tsOk P n) fs off s = some tot → tot = cs.length → (∀ f ∈ fs, ∃ x, DataW.trod enc P W base sp held fuel f.type ((cs.drop f.offset).take (P.cellsOf f.type)) = some x) → Rd W s (cs.drop off) ∧ off ≤ tot := by
  intro fs
  induction fs with
  | nil =>
    intro off s tot h ht _
    cases s <;> simp [okFs] at h
    subst h ht
    exact ⟨by simp [Rd], Nat.le_refl _⟩
  | cons f fs ihf =>
    intro off s tot h ht hx
    cases s <;> simp [okFs] at h
    case cat m a b =>
      obtain ⟨⟨⟨h1, h2⟩, h3⟩, h4⟩ := h
      obtain ⟨g1, g2⟩ := ihf (off + m) b tot h4 ht (fun f' hf' => hx f' (by simp [hf']))
      obtain ⟨x, hx'⟩ := hx f (by simp)
      have := ih _ _ _ _ h3 hx'
      rw [h1, h2] at this
      refine ⟨⟨(cs.drop off).take m, cs.drop (off + m), ?_, ?_, this, g1⟩, by omega⟩
      · rw [← List.drop_drop, List.take_append_drop]
      · rw [List.length_take, List.length_drop]; omega
theorem rd_of_trod {base : Nat} {sp : Nat → Bool} {held : Bool} : ∀ (n fuel : Nat) (t : TypeId) (s : TS) (cs : List Value) (x : DataW H × List MemPlace), tsOk P n t s = true → DataW.trod enc P W base sp held fuel t cs = some x → Rd W s cs := by
  intro n
  induction n with
  | zero => intro fuel t s cs x h; cases h
  | succ n ih =>
    intro fuel t s cs x h ht
    unfold tsOk at h
    cases hu : P.underlying t with
    | none => rw [hu] at h; simp at h
    | some d =>
      rw [hu] at h
      cases d <;> try (simp at h; done)
      case int k =>
        cases s <;> simp at h
        subst h
        obtain ⟨n, h1, _, h3⟩ := DataW.trod_int hu ht
        exact ⟨n, h1, h3⟩
      case bool =>
        cases s <;> simp at h
        obtain ⟨b, h1, _⟩ := DataW.trod_bool hu ht
        exact ⟨b, h1⟩
      case string =>
        cases s <;> simp at h
        cases fuel with
        | zero => simp [DataW.trod] at ht
        | succ f =>
          unfold DataW.trod at ht
          rw [hu] at ht
          split at ht <;> simp_all [Rd]
      case slice e =>
        cases s <;> simp at h
        case slice sz e' =>
          obtain ⟨h1, h2⟩ := h
          rcases open_slice hu ht with ⟨hc, _⟩ | ⟨a, len, cap, m, k, D, Pl, hc, hb, hl, hm, hmm, _, hx⟩
          · exact ⟨SV.nil, hc, Nat.le_refl _, Nat.zero_le _, fun _ => ⟨rfl, rfl⟩, fun i hi => absurd hi (Nat.not_lt_zero _)⟩
          · refine ⟨⟨some a, len, cap⟩, hc, hl, hm, fun h => (by cases h), fun i hi => ?_⟩
            have him : i < m := by rw [hmm]; simp only at hi; split <;> omega
            obtain ⟨cs', g1, g2⟩ := hx i him
            rw [h1] at g1
            obtain ⟨_, gl, gc⟩ := World.cells?_some g1
            refine ⟨a, cs', rfl, gl, fun j hj => ?_, ih _ _ _ _ _ h2 g2⟩
            have := gc j hj
            rwa [Go.Deep.add_add] at this
      case struct fs =>
        obtain ⟨xs, m, rfl, _, hl, hlen, hf⟩ := DataW.trod_struct hu ht
        have h' : okFs P (tsOk P n) fs.toList 0 s = some (P.cellsOf t) := by simpa using h
        have := (rd_fields (W := W) (enc := enc) (base := base) (sp := sp) (held := held) (fun t s cs x => ih m t s cs x) cs fs.toList 0 s _ h' hl.symm ?_).1
        · simpa using this
        · intro f hf'
          obtain ⟨i, hi, rfl⟩ := List.getElem_of_mem hf'
          simp only [Array.length_toList] at hi
          have hfi := hf i fs.toList[i] (by simp [hi])
          rw [List.getElem?_eq_getElem (by omega)] at hfi
          exact ⟨_, hfi⟩
/-- A slice of records. -/
theorem cell_facts {w : World} {a : Addr} {v : Value} (h : w.cell? a = some v) : a.spot = none ∧ a.block < w.heap.size := by
  unfold World.cell? at h
  split at h
  · rename_i c e f hb
    refine ⟨?_, (Array.getElem?_eq_some_iff.1 hb).1⟩
    cases hs : a.spot with
    | none => rfl
    | some s => simp [hs] at h
  · cases h
theorem rd_slice {α : Type} [Inhabited α] {encA : α → List Value} {p : α → Prop} {sz : Nat} {e : TS} {cs : List Value} (h : ∀ cs, Rd W e cs → cs.length = sz → ∃ x, cs = encA x ∧ p x) (hr : Rd W (.slice sz e) cs) (hsz : 0 < sz) :
    ∃ (s : SV) (xs : List α), cs = [s.v] ∧ s.n = xs.length ∧ SlAt W s.v xs.length sz (xs.flatMap encA) ∧ (∀ x ∈ xs, p x) ∧ (∀ x ∈ xs, (encA x).length = sz) := by
  obtain ⟨s, hc, h1, h2, h3, h4⟩ := hr
  have each : ∀ i, i < s.n → ∃ x : α, (∀ a, s.a = some a → ∀ j, j < sz → W.cell? (a.add (i * sz + j)) = (encA x)[j]?) ∧ p x ∧ (encA x).length = sz := by
    intro i hi
    obtain ⟨a, cs', ha, hl, hcell, hrd⟩ := h4 i hi
    obtain ⟨x, rfl, hp⟩ := h cs' hrd hl
    exact ⟨x, fun a' ha' j hj => by rw [ha] at ha'; cases ha'; exact hcell j hj, hp, hl⟩
  obtain ⟨f, hf⟩ := choose_lt each
  have hm : ∀ x ∈ (List.range s.n).map f, ∃ i, i < s.n ∧ f i = x := fun x hx => by
    obtain ⟨i, hi, rfl⟩ := List.mem_map.1 hx
    exact ⟨i, by simpa using hi, rfl⟩
  have hen : ∀ x ∈ (List.range s.n).map f, (encA x).length = sz := fun x hx => by obtain ⟨i, hi, rfl⟩ := hm x hx; exact (hf i hi).2.2
  refine ⟨s, (List.range s.n).map f, hc, by simp, ?_, fun x hx => by obtain ⟨i, hi, rfl⟩ := hm x hx; exact (hf i hi).2.1, hen⟩
  have hlen : ∀ l : List α, (∀ x ∈ l, (encA x).length = sz) → (l.flatMap encA).length = l.length * sz := by
    intro l
    induction l with
    | nil => intro _; simp
    | cons x l ih =>
      intro hl
      rw [List.flatMap_cons, List.length_append, hl x (by simp), ih (fun y hy => hl y (by simp [hy])), List.length_cons, Nat.succ_mul]
      omega
  have hget : ∀ (l : List α), (∀ x ∈ l, (encA x).length = sz) → ∀ (q : Nat) (u : Value), (l.flatMap encA)[q]? = some u → ∃ x, l[q / sz]? = some x ∧ (encA x)[q % sz]? = some u := by
    intro l
    induction l with
    | nil => intro _ q u h; simp at h
    | cons x l ih =>
      intro hl q u hq
      rw [List.flatMap_cons] at hq
      by_cases hlt : q < sz
      · rw [List.getElem?_append_left (by rw [hl x (by simp)]; exact hlt)] at hq
        exact ⟨x, by rw [Nat.div_eq_of_lt hlt]; rfl, by rw [Nat.mod_eq_of_lt hlt]; exact hq⟩
      · rw [List.getElem?_append_right (by rw [hl x (by simp)]; omega), hl x (by simp)] at hq
        obtain ⟨y, hy1, hy2⟩ := ih (fun y hy => hl y (by simp [hy])) _ _ hq
        refine ⟨y, ?_, ?_⟩
        · have : q / sz = (q - sz) / sz + 1 := by
            rw [← Nat.add_div_right _ hsz, Nat.sub_add_cancel (by omega)]
          rw [this]; simpa using hy1
        · rw [Nat.mod_eq_sub_mod (by omega)]; exact hy2
  have hxl : ((List.range s.n).map f).length = s.n := by simp
  rw [hxl]
  refine ⟨by rw [hlen _ hen, hxl], s.a, s.c, rfl, h1, h2, h3, fun a ha h0 => ?_⟩
  have c0 := (hf 0 h0).1 a ha 0 hsz
  obtain ⟨u0, hu0⟩ : ∃ u, (encA (f 0))[0]? = some u := ⟨_, List.getElem?_eq_getElem (by rw [(hf 0 h0).2.2]; exact hsz)⟩
  rw [hu0] at c0
  obtain ⟨g1, g2⟩ := cell_facts c0
  simp only [Nat.zero_mul, Nat.zero_add] at g1 g2
  have hz : a.add 0 = a := by simp [Addr.add]
  rw [hz] at g1 g2
  refine ⟨g1, g2, fun q u hq => ?_⟩
  obtain ⟨x, hx1, hx2⟩ := hget _ hen q u hq
  rw [List.getElem?_map] at hx1
  have hqn : q / sz < s.n := by
    cases hr : (List.range s.n)[q / sz]? with
    | none => rw [hr] at hx1; cases hx1
    | some i => have := List.getElem?_eq_some_iff.1 hr; simpa using this.1
  rw [List.getElem?_range hqn] at hx1
  simp only [Option.map_some, Option.some.injEq] at hx1
  subst hx1
  have := (hf _ hqn).1 a ha (q % sz) (Nat.mod_lt _ hsz)
  rw [hx2, Nat.div_add_mod' q sz] at this
  rwa [show a = (⟨a.block, a.off, none⟩ : Addr) by rw [← g1], Addr.add_lit] at this
theorem flat_one {α β : Type} (f : α → β) : ∀ l : List α, l.flatMap (fun x => [f x]) = l.map f
  | [] => rfl
  | x :: l => by rw [List.flatMap_cons, flat_one f l]; rfl
/-- Bytes that lie in memory. -/
structure BW (W : World) (s : SV) (l : List Int) : Prop where
  at_ : BytesAt W s.v l
  len : s.n = l.length
  rng : ∀ x ∈ l, 0 ≤ x ∧ x ≤ 255
abbrev tsBytes : TS := .slice 1 (.int .u8)
theorem u8_rng {n : Int} (h : (Lit.int .u8 n).wf = true) : 0 ≤ n ∧ n ≤ 255 := by simpa [Lit.wf, IntKind.min, IntKind.max, IntKind.signed, IntKind.bits] using h
theorem u16_rng {n : Int} (h : (Lit.int .u16 n).wf = true) : 0 ≤ n ∧ n ≤ 65535 := by simpa [Lit.wf, IntKind.min, IntKind.max, IntKind.signed, IntKind.bits] using h
theorem u32_rng {n : Int} (h : (Lit.int .u32 n).wf = true) : 0 ≤ n ∧ n ≤ 4294967295 := by simpa [Lit.wf, IntKind.min, IntKind.max, IntKind.signed, IntKind.bits] using h
theorem i64_rng {n : Int} (h : (Lit.int .i64 n).wf = true) : -9223372036854775808 ≤ n ∧ n ≤ 9223372036854775807 := by simpa [Lit.wf, IntKind.min, IntKind.max, IntKind.signed, IntKind.bits] using h
theorem rd_bytes {cs : List Value} (h : Rd W tsBytes cs) : ∃ s l, cs = [SV.v s] ∧ BW W s l := by
  obtain ⟨s, l, h1, h2, h3, h4, _⟩ := rd_slice (α := Int) (encA := fun x => [Value.int .u8 x]) (p := fun x => 0 ≤ x ∧ x ≤ 255) (fun cs hr _ => by obtain ⟨n, rfl, hw⟩ := hr; exact ⟨n, rfl, u8_rng hw⟩) h (by omega)
  refine ⟨s, l, h1, ?_, h2, h4⟩
  rw [flat_one] at h3
  exact h3
/-- A slice that lies in memory and has something in it. -/
theorem slAt_some {s : SV} {m sz : Nat} {xs : List Value} (h : SlAt W s.v m sz xs) (hm : 0 < m) : ∃ b off, s.a = some ⟨b, off, none⟩ ∧ ∀ j u, xs[j]? = some u → W.cell? ⟨b, off + j, none⟩ = some u := by
  obtain ⟨_, ao, c, h1, _, _, h4, h5⟩ := h
  simp only [SV.v, Value.slice.injEq] at h1
  obtain ⟨rfl, _, rfl⟩ := h1
  cases ha : s.a with
  | none => have := (h4 ha).1; omega
  | some a =>
    obtain ⟨g1, _, g3⟩ := h5 a ha hm
    exact ⟨a.block, a.off, by rw [← g1], g3⟩
theorem slAt_cap {s : SV} {m sz : Nat} {xs : List Value} (h : SlAt W s.v m sz xs) : s.n = m ∧ s.n ≤ s.c ∧ s.c ≤ maxLen := by
  obtain ⟨_, ao, c, h1, h2, h3, _⟩ := h
  simp only [SV.v, Value.slice.injEq] at h1
  obtain ⟨_, rfl, rfl⟩ := h1
  exact ⟨rfl, h2, h3⟩
theorem BytesAt.take {s : SV} {l : List Int} (h : BytesAt W s.v l) (k : Nat) (hk : k ≤ l.length) : BytesAt W (SV.v ⟨s.a, k, s.c⟩) (l.take k) := by
  obtain ⟨_, ao, c, h1, h2, h3, h4, h5⟩ := h
  simp only [SV.v, Value.slice.injEq] at h1
  obtain ⟨rfl, _, rfl⟩ := h1
  have hl : (l.take k).length = k := by rw [List.length_take]; omega
  unfold BytesAt
  rw [hl]
  refine ⟨by rw [bcells_length, hl], s.a, s.c, rfl, by omega, h3, fun e => ?_, fun a ha h0 => ?_⟩
  · have := h4 e; omega
  · obtain ⟨g1, g2, g3⟩ := h5 a ha (by omega)
    refine ⟨g1, g2, fun j u hu => g3 j u ?_⟩
    have hj : j < k := by have := (List.getElem?_eq_some_iff.1 hu).1; rwa [bcells_length, hl, Nat.mul_one] at this
    unfold bcells at hu ⊢
    rw [List.map_take, List.getElem?_take, if_pos hj] at hu
    exact hu
theorem BW.take {s : SV} {l : List Int} (h : BW W s l) (k : Nat) (hk : k ≤ l.length) : BW W ⟨s.a, k, s.c⟩ (l.take k) :=
  ⟨h.at_.take k hk, by simp only [List.length_take]; omega, fun x hx => h.rng x (List.mem_of_mem_take hx)⟩
theorem BW.old {s : SV} {l : List Int} (h : BW W s l) {Γ : List Assn} {w : World} (hs : Sat w (old W :: Γ)) : BytesAt w s.v l := (HasOld.head (Γ := Γ) (W := W)).slAt hs h.at_
/-- A row of bytes in memory. -/
structure BR where
  v : SV
  l : List Int
instance : Inhabited BR := ⟨⟨SV.nil, []⟩⟩
theorem rd_rows {cs : List Value} (h : Rd W (.slice 1 tsBytes) cs) : ∃ (s : SV) (rs : List BR), cs = [s.v] ∧ s.n = rs.length ∧ SlAt W s.v rs.length 1 (rs.flatMap fun r => [r.v.v]) ∧ ∀ r ∈ rs, BW W r.v r.l := by
  obtain ⟨s, rs, h1, h2, h3, h4, _⟩ := rd_slice (α := BR) (encA := fun r => [r.v.v]) (p := fun r => BW W r.v r.l) (fun cs hr _ => by obtain ⟨s, l, h1, h2⟩ := rd_bytes hr; exact ⟨⟨s, l⟩, h1, h2⟩) h (by omega)
  exact ⟨s, rs, h1, h2, h3, h4⟩
theorem rows_get {rs : List BR} {k : Nat} {r : BR} (h : rs[k]? = some r) : (rs.flatMap fun r => [r.v.v])[k * 1]? = some r.v.v := flat_get (enc := fun r : BR => [r.v.v]) (sz := 1) (k := 0) (fun _ => rfl) h rfl
end
end Go.Proofs.YtegjmmocnffpiaaDoor
/- Rules for builtins, slice expressions, literals of bytes, strings. Of no program. -/
namespace Go.Proofs.YtegjmmocnffpiaaDoor
open Go.RowKit
section
variable {P : Program} {n : Nat} {md : Bool} {w0 : WM md} {ρ : Env} {Γ : List Assn} {Q : Exit → Act → World → Prop} {K : Act → World → Prop} {ty : TypeId} {pos : String} {af : Array Edge} {gd : Option (Nat × Bool)} {d : Nat} {ds : Option Tmp}
theorem q_min {x y : Operand} {ts : Array TypeId} {k : IntKind} {p q : Int} (r : Int) (hx : ev ρ x = some (.int k p)) (hy : ev ρ y = some (.int k q)) (h : r ≤ p ∧ r ≤ q ∧ (r = p ∨ r = q)) : Qv P n ρ Γ ⟨ds, .call { callee := .builtin .min, args := #[x, y], argTypes := ts }, ty, pos, af, gd⟩ (.int k r) := fun a w ha _ => by
  have e : (if q < p then q else p) = r := by split <;> omega
  simp [execOp, ha.ev hx, ha.ev hy, resolve, invoke, builtin, run_min_int2, e]
theorem q_max {x y : Operand} {ts : Array TypeId} {k : IntKind} {p q : Int} (r : Int) (hx : ev ρ x = some (.int k p)) (hy : ev ρ y = some (.int k q)) (h : p ≤ r ∧ q ≤ r ∧ (r = p ∨ r = q)) : Qv P n ρ Γ ⟨ds, .call { callee := .builtin .max, args := #[x, y], argTypes := ts }, ty, pos, af, gd⟩ (.int k r) := fun a w ha _ => by
  have e : (if p < q then q else p) = r := by split <;> omega
  simp [execOp, ha.ev hx, ha.ev hy, resolve, invoke, builtin, run_max_int2, e]
theorem addZero (p : Option Addr) : p.map (fun x => x.add 0) = p := by cases p <;> simp [Addr.add]
/-- x[:k] -/
theorem q_sliceTo {t e sz : Nat} {x y : Operand} {p : Option Addr} {l c : Nat} {kk : IntKind} {z : Int} (m : Nat) (ht : elemT P t = some (e, sz)) (hx : ev ρ x = some (.slice p l c)) (hy : ev ρ y = some (.int kk z)) (hz : z = ((m : Nat) : Int)) (hm : m ≤ c) : Qv P n ρ Γ ⟨ds, .slice t x none (some y) none, ty, pos, af, gd⟩ (.slice p m c) := by
  intro a w ha _
  subst hz
  obtain ⟨hu, i, hi, rfl⟩ := elemT_info ht
  simp [execOp, ha.ev hx, ha.ev hy, Instr.sliceAt, Instr.slice, run_underlying hu, Instr.sliceBounds, Instr.sliceBound, asIntOf, hm, sizeOf, typeInfo, hi, addZero]
theorem allOne_bcells (l : List Int) : allOne (bcells l) = true := List.all_eq_true.2 (bcells_one l)
/-- `[]T{}` -/
theorem S.buildSlice0 {t e sz by_ : Nat} {zs : List Value} (hu : P.underlying t = some (.slice e)) (hi : infoT P e = some (zs, sz, by_)) (hn : Nat.blt d n = true) (k : ∀ s : SV, s.n = 0 → S n w0 ((d, s.v) :: ρ) (own s e sz [] :: Γ) K) :
    S n w0 ρ Γ (Ow P Q ⟨some d, .buildSlice t 0 #[], ty, pos, af, gd⟩ K) := by
  intro a w ha hs hx
  unfold infoT at hi
  split at hi
  case h_2 => cases hi
  rename_i i hi'
  split at hi
  case h_2 => cases hi
  simp only [Option.some.injEq, Prod.mk.injEq] at hi
  obtain ⟨_, rfl, rfl⟩ := hi
  have hr : (execOp a.eval ⟨some d, .buildSlice t 0 #[], ty, pos, af, gd⟩).run P w = .ok (.value (.slice (some ⟨w.heap.size, 0, none⟩) 0 0)) (w.alloc (.cells #[] e)) := by
    simp [execOp, Instr.buildSlice, run_underlying hu, sizeOf, typeInfo, hi', Instr.fill, newRow, Array.range_zero']
  unfold Ow Oper.wp
  rw [hr, Oper.upon_value]
  refine k ⟨some ⟨w.heap.size, 0, none⟩, 0, 0⟩ rfl _ _ (ha.put hn _) ?_ (hx.alloc _)
  refine (hs.alloc e #[]).ent (Ent.mono1 _ fun x hx => ⟨by simp, .inr ⟨w.heap.size, 0, #[], rfl, hx, Nat.le_refl _, Nat.zero_le _, by simp, by simp⟩⟩)
/-- A block that is known whole, whatever of it is frozen. -/
def rblk (b : Nat) (e : TypeId) (cs : Array Value) : Assn := fun h => ∃ fr, h b = some (.cells cs e fr)
theorem rblk_slAt {b : Nat} {e : TypeId} {cs : List Value} {m sz : Nat} (hl : cs.length = m * sz) (hm : m ≤ maxLen) {w : World} {Γ : List Assn} (hs : Sat w (rblk b e cs.toArray :: Γ)) : SlAt w (.slice (some ⟨b, 0, none⟩) m m) m sz cs := by
  obtain ⟨x, l, fr, p⟩ := hs.head
  exact SlAt.block cs.toArray cs (by simp) (l b _ p) hl hm
/-- The mark on a literal of bytes. -/
theorem S.convBytes {t e : Nat} {x : Operand} {b l c : Nat} {e' : TypeId} {cs : Array Value} {Δ : List Assn} (hu : P.underlying t = some (.slice e)) (hi : intT P e = some .u8) (hx : ev ρ x = some (.slice (some ⟨b, 0, none⟩) l c)) [hb : HasB Γ b e' cs Δ] (hn : Nat.blt d n = true)
    (k : S n w0 ((d, .slice (some ⟨b, 0, none⟩) l c) :: ρ) (rblk b e' cs :: Δ) K) : S n w0 ρ Γ (Ow P Q ⟨some d, .convert t t x, ty, pos, af, gd⟩ K) := by
  intro a w ha hs hxt
  have he : P.underlying e = some (.int .u8) := by
    unfold intT at hi
    split at hi
    · rename_i k hk; cases hi; exact hk
    · cases hi
  have hB := hb.blk hs
  have hsh : w.shape? b = some (e', cs.size) := by unfold World.shape?; rw [show w.heap[b]? = _ from hB]
  have hr : ∃ w', (execOp a.eval ⟨some d, .convert t t x, ty, pos, af, gd⟩).run P w = .ok (.value (.slice (some ⟨b, 0, none⟩) l c)) w' ∧ w' = w.freeze ⟨b, cs.size, none⟩ 1 := by
    refine ⟨_, ?_, rfl⟩
    simp [execOp, ha.ev hx, convert, run_underlying hu, run_underlying he, markStringish, shape, freeze, Sem.run, hsh]
  obtain ⟨w', hr, hw'⟩ := hr
  unfold Ow Oper.wp
  rw [hr, Oper.upon_value]
  subst hw'
  have hheap : (w.freeze ⟨b, cs.size, none⟩ 1).heap = w.heap.modify b fun
      | .cells c elem (lo, hi) => .cells c elem (if lo == hi then (cs.size, cs.size + 1) else (min lo cs.size, max hi (cs.size + 1)))
      | o => o := by simp [World.freeze]; rfl
  refine k _ _ (ha.put hn _) ?_ (hxt.trans ⟨by simp [World.freeze], by simp [World.freeze], by simp [World.freeze], by rw [hheap]; simp, by simp [World.freeze]⟩)
  refine (hs.ent hb.ent).upd fun y ly p => ?_
  have hbl : w.heap[b]? = some (.cells cs e' (0, 0)) := hB
  refine ⟨HL.one b (.cells cs e' (cs.size, cs.size + 1)), HL.one_le ?_, ⟨_, HL.one_self _ _⟩, fun c' hc hw => ?_⟩
  · unfold HL.of
    rw [hheap, Array.getElem?_modify, if_pos rfl, hbl]
    rfl
  · have hne : c' ≠ b := fun e => by subst e; rw [p] at hc; cases hc
    refine ⟨HL.one_none hne, ?_⟩
    rw [hheap, Array.getElem?_modify, if_neg (Ne.symm hne)]
/-- string(bytes) -/
theorem q_bytesStr {s t e : Nat} {x : Operand} {p : Option Addr} {l c : Nat} {xs : List Int} (hs : P.underlying s = some (.slice e)) (he : intT P e = some .u8) (ht : P.underlying t = some .string) (hx : ev ρ x = some (.slice p l c)) (hb : ∀ w, Sat w Γ → BytesAt w (.slice p l c) xs) :
    Qv P n ρ Γ ⟨ds, .convert s t x, ty, pos, af, gd⟩ (.string (strOfNums xs)) := by
  intro a w ha hsat
  have he' : P.underlying e = some (.int .u8) := by
    unfold intT at he
    split at he
    · rename_i k hk; cases he; exact hk
    · cases he
  obtain ⟨h0, ao, c', h1, h2, h3, h4, h5⟩ := hb w hsat
  simp only [Value.slice.injEq] at h1
  obtain ⟨rfl, rfl, rfl⟩ := h1
  have hc := run_convert_bytes_string (P := P) w s t e p xs.length c hs he' ht
  have hr : (convert s t (.slice p xs.length c)).run P w = .ok (.string (strOfNums xs)) w := by
    rw [hc]
    cases p with
    | none =>
      obtain ⟨hn, _⟩ := h4 rfl
      have hx0 : xs = [] := List.eq_nil_of_length_eq_zero hn
      subst hx0
      simp [Conv.bytesToString]
      rfl
    | some ad =>
      have hl : (loadCells ad xs.length).run P w = .ok (xs.map (Value.int .u8)).toArray w := by
        have hcs : ∀ j u, (bcells xs)[j]? = some u → w.cell? (ad.add j) = some u := by
          intro j u hu
          have hj : j < xs.length := by have := (List.getElem?_eq_some_iff.1 hu).1; simpa [bcells] using this
          obtain ⟨g1, g2, g3⟩ := h5 ad rfl (by omega)
          rw [show ad = (⟨ad.block, ad.off, none⟩ : Addr) by rw [← g1], Addr.add_lit]
          exact g3 j u hu
        have := run_loadCells_list (P := P) (w := w) ad (bcells xs) hcs
        simpa [bcells] using this
      rw [run_bytesToString w ad xs.length c xs hl, foldl_push_bytes]
      simp [strOfNums, ByteArray.empty, ByteArray.emptyWithCapacity]
      rfl
  simp only [execOp, ha.ev hx, hr, Sem.run_bind, Result.andThen_ok, Sem.run_pure]
theorem q_eqStr {t yt : TypeId} {x y : Operand} {p q : ByteArray} (hx : ev ρ x = some (.string p)) (hy : ev ρ y = some (.string q)) : Qv P n ρ Γ ⟨ds, .binOp .eql t x y yt, ty, pos, af, gd⟩ (.bool (p.toList == q.toList)) :=
  q_binR hx hy (fun w => by simp [eqGuard]) (fun w => by simp [binOp, Op.stringOp])
theorem q_neStr {t yt : TypeId} {x y : Operand} {p q : ByteArray} (hx : ev ρ x = some (.string p)) (hy : ev ρ y = some (.string q)) : Qv P n ρ Γ ⟨ds, .binOp .neq t x y yt, ty, pos, af, gd⟩ (.bool (!(p.toList == q.toList))) :=
  q_binR hx hy (fun w => by simp [eqGuard]) (fun w => by simp [binOp, Op.stringOp])
theorem zeroRow_take (zs : List Value) : ∀ {l c : Nat}, l ≤ c → (zeroRow zs c).take (l * zs.length) = zeroRow zs l
  | 0, _, _ => by simp [zeroRow]
  | l + 1, 0, h => by omega
  | l + 1, c + 1, h => by
    have ih := zeroRow_take zs (l := l) (c := c) (by omega)
    unfold zeroRow
    rw [Nat.succ_mul, Nat.add_comm, List.take_append, List.take_of_length_le (by omega), Nat.add_sub_cancel_left, ih]
/-- make([]T, l, c) -/
theorem S.makeSlice {t e sz by_ : Nat} {x y : Operand} {zs : List Value} {kx ky : IntKind} {p q : Int} (l c : Nat) (hu : P.underlying t = some (.slice e)) (hi : infoT P e = some (zs, sz, by_)) (hzl : (Nat.beq zs.length sz && Nat.blt 0 sz) = true) (hx : ev ρ x = some (.int kx p)) (hp : p = ((l : Nat) : Int)) (hy : ev ρ y = some (.int ky q)) (hq : q = ((c : Nat) : Int)) (hlc : l ≤ c)
    (hc : by_ * c ≤ 140737488355328 ∧ c ≤ 140737488355328) (hn : Nat.blt d n = true) (k : ∀ s : SV, s.n = l → S n w0 ((d, s.v) :: ρ) (own s e sz (zeroRow zs l) :: Γ) K) :
    S n w0 ρ Γ (Ow P Q ⟨some d, .makeSlice t x y, ty, pos, af, gd⟩ K) := by
  intro a w ha hs hxt
  subst hp hq
  unfold infoT at hi
  split at hi
  case h_2 => cases hi
  rename_i i hi'
  split at hi
  case h_2 => cases hi
  rename_i z hz
  simp only [Option.some.injEq, Prod.mk.injEq] at hi
  obtain ⟨rfl, rfl, rfl⟩ := hi
  simp only [Bool.and_eq_true] at hzl
  have hzs : z.cells.toList.length = i.size := Nat.eq_of_beq_eq_true hzl.1
  have hpos : 0 < z.cells.toList.length := by rw [hzs]; have := hzl.2; simp [Nat.blt] at this; omega
  have hw1 : IntKind.i64.wrap (l : Int) = l := wrap_in (inI64 (by omega) (by omega))
  have hw2 : IntKind.i64.wrap (c : Int) = c := wrap_in (inI64 (by omega) (by omega))
  have hrow := zeroRow_range z.cells.toList hpos c
  rw [hzs] at hrow
  have hb1 : ¬ ((i.bytes : Int) * (c : Int) > 2 ^ 48) := by
    have := hc.1
    have h1 : ((i.bytes * c : Nat) : Int) ≤ 140737488355328 := by omega
    rw [Int.natCast_mul] at h1
    omega
  have hr : (execOp a.eval ⟨some d, .makeSlice t x y, ty, pos, af, gd⟩).run P w = .ok (.value (.slice (some ⟨w.heap.size, 0, none⟩) l c)) (w.alloc (.cells (zeroRow z.cells.toList c).toArray e)) := by
    have ht : (decide ((c : Int) < 0) || decide ((i.bytes : Int) * (c : Int) > 2 ^ 48)) = false := by simp; omega
    have hl0 : ¬ ((l : Int) < 0) := by omega
    have hlc' : ¬ ((l : Int) > (c : Int)) := by omega
    have hroom : ¬ (c * i.bytes > 140737488355328) := by rw [Nat.mul_comm]; omega
    have hz0 : (zeroValue e).run P w = .ok z w := by simp [zeroValue, typeInfo, hi', hz]
    by_cases h0 : c * i.size = 0
    · have : c = 0 := by
        rcases Nat.mul_eq_zero.1 h0 with h | h
        · exact h
        · rw [Array.length_toList] at hpos hzs; omega
      subst this
      have : l = 0 := by omega
      subst this
      have hw0 : IntKind.i64.wrap 0 = 0 := by decide
      simp [execOp, ha.ev hx, ha.ev hy, Instr.makeSlice, run_underlying hu, asInt, asIntOf, typeInfo, hi', hw0, askRoom, roomBytes, sizeOf, newRow, zeroRow, Array.range_zero']
    · have hti : (typeInfo e).run P w = .ok i w := by simp [typeInfo, hi']
      have hsz : (sizeOf e).run P w = .ok i.size w := by simp [sizeOf, typeInfo, hi']
      have hc0 : ¬ ((c : Int) < 0) := by omega
      have hb2 : ¬ (281474976710656 < (i.bytes : Int) * (c : Int)) := by simpa using hb1
      simp only [Array.toArray_toList] at hrow
      simp [execOp, ha.ev hx, ha.ev hy, Instr.makeSlice, run_underlying hu, asInt, asIntOf, hti, hsz, hw1, hw2, askRoom, roomBytes, newRow, hc0, hb2, hl0, h0, hz0, hrow]
      intro h
      omega
  unfold Ow Oper.wp
  rw [hr, Oper.upon_value]
  refine k ⟨some ⟨w.heap.size, 0, none⟩, l, c⟩ rfl _ _ (ha.put hn _) ?_ (hxt.alloc _)
  refine (hs.alloc e _).ent (Ent.mono1 _ fun x hx => ⟨by rw [zeroRow_length, hzs], .inr ⟨w.heap.size, 0, _, rfl, hx, hlc, by unfold maxLen; simp only; omega, by simp [zeroRow_length, hzs], by rw [← hzs]; simpa using zeroRow_take z.cells.toList hlc⟩⟩)
end
end Go.Proofs.YtegjmmocnffpiaaDoor
/- From a contract over memory that was there to what a law owes. -/
namespace Go.Proofs.YtegjmmocnffpiaaDoor
open Go.RowKit Go.ChangeShapes Go.WideShapes Go.ChangeAt Go.Deep
/-- A law, as a contract. -/
def LawS (f : FuncId) (args : List Value) (W : World) : Prop := Spec Tryd.prog f args [old W] fun Γ v Θ => v = .bool true ∧ Θ = old W :: Γ
theorem law_run {f : FuncId} {args : List Value} {W : World} (h : LawS f args W) : Calls Tryd.prog f args.toArray W fun e W' => e = .returned (.bool true) ∧ Below W.heap.size W W' := by
  have hs : Sat W ([old W] ++ []) := ⟨HL.of W, HL.le.refl _, HL.of W, HL.emp, fun b => .inr rfl, HL.le.refl _, HL.emp_le _, fun _ _ h => h, trivial⟩
  refine (h [] W hs).mono ?_
  rintro e w' ⟨v, Θ, rfl, ⟨rfl, rfl⟩, hs', hx⟩
  refine ⟨rfl, hx.os, hx.tape, hx.output, hx.size, fun k hk => ?_⟩
  have ho : HasOld [old W] W := inferInstance
  have := ho.sat w' hs' k W.heap[k] (Array.getElem?_eq_getElem hk)
  rw [this, Array.getElem?_eq_getElem hk]
theorem Spec.weaken {P : Program} {f : FuncId} {args : List Value} {pre pre' : List Assn} {post post' : List Assn → Value → List Assn → Prop} (h : Spec P f args pre post) (hpre : ∀ Γ, ∃ Δ, Ent (pre' ++ Γ) (pre ++ Δ) ∧ ∀ v Θ, post Δ v Θ → ∃ Ξ, post' Γ v Ξ ∧ Ent Θ Ξ) : Spec P f args pre' post' := by
  intro Γ w hs
  obtain ⟨Δ, h1, h2⟩ := hpre Γ
  refine (h Δ w (hs.ent h1)).mono ?_
  rintro e w' ⟨v, Θ, rfl, hp, hs', hx⟩
  obtain ⟨Ξ, h3, h4⟩ := h2 v Θ hp
  exact ⟨v, Ξ, rfl, h3, hs'.ent h4, hx⟩
section
variable {H : Type} {enc : TypeId × Value → H} {P : Program} {W : World} {b0 : Nat} {r : Reach} {sp : Nat → Bool} {held : Bool} {base : Nat}
theorem arg_int {t : TypeId} {k : IntKind} {v : Value} {d : DataW H} {ps : List MemPlace} (ht : P.underlying t = some (.int k)) (hval : Value.okWide P W r b0 t v) (hd : DataW.Trod enc P W base sp held t v d ps) : ∃ n, v = .int k n ∧ (Lit.int k n).wf = true := by
  obtain ⟨n, h1, _, _, h2⟩ := open_int ht hval hd
  exact ⟨n, h1, h2⟩
theorem arg_bool {t : TypeId} {v : Value} (ht : P.underlying t = some .bool) (hval : Value.okWide P W r b0 t v) : ∃ b, v = .bool b := okWide_bool ht hval
theorem arg_slice {t e : TypeId} {s : TS} {v : Value} {d : DataW H} {ps : List MemPlace} (n : Nat) (ht : P.underlying t = some (.slice e)) (hok : tsOk P n t s = true) (hval : Value.okWide P W r b0 t v) (hd : DataW.Trod enc P W base sp held t v d ps) : Rd W s [v] := by
  obtain ⟨a, l, c, rfl⟩ := okWide_slice ht hval
  obtain ⟨fuel, hf⟩ := hd
  exact rd_of_trod n fuel t s _ _ hok hf
theorem arg_struct {t : TypeId} {fs : Array Field} {s : TS} {v : Value} {d : DataW H} {ps : List MemPlace} (n : Nat) (ht : P.underlying t = some (.struct fs)) (hok : tsOk P n t s = true) (hval : Value.okWide P W r b0 t v) (hd : DataW.Trod enc P W base sp held t v d ps) : ∃ cs : List Value, v = .agg cs.toArray ∧ Rd W s cs := by
  obtain ⟨cs, rfl, _⟩ := okWide_struct ht hval
  obtain ⟨fuel, hf⟩ := hd
  exact ⟨cs.toList, by simp, rd_of_trod n fuel t s _ _ hok hf⟩
end
end Go.Proofs.YtegjmmocnffpiaaDoor
/- Contracts of functions that only read (and make). -/
namespace Go.Proofs.YtegjmmocnffpiaaDoor
open Go.RowKit
/-- At memory W the call returns v and changes nothing that was there. -/
def PureS (P : Program) (f : FuncId) (args : List Value) (W : World) (v : Value) : Prop := Spec P f args [old W] (fun Γ r Θ => r = v ∧ Θ = old W :: Γ) true
theorem pure_run {P : Program} {f : FuncId} {args : List Value} {W : World} {v : Value} (h : PureS P f args W v) : Calls P f args.toArray W fun e W' => e = .returned v ∧ Below W.heap.size W W' ∧ W.drawn ≤ W'.drawn := by
  have hs : Sat W ([old W] ++ []) := ⟨HL.of W, HL.le.refl _, HL.of W, HL.emp, fun b => .inr rfl, HL.le.refl _, HL.emp_le _, fun _ _ h => h, trivial⟩
  refine (h [] W hs).mono ?_
  rintro e w' ⟨v, Θ, rfl, ⟨rfl, rfl⟩, hs', hx⟩
  refine ⟨rfl, ⟨hx.os, hx.tape, hx.output, hx.size, fun k hk => ?_⟩, hx.drawn rfl⟩
  have ho : HasOld [old W] W := inferInstance
  have := ho.sat w' hs' k W.heap[k] (Array.getElem?_eq_getElem hk)
  rw [this, Array.getElem?_eq_getElem hk]
theorem Sat.belowP {w w' : World} {Γ : List Assn} (h : Sat w Γ) (hb : Below w.heap.size w w') : Sat w' Γ := by
  obtain ⟨x, l, s⟩ := h
  refine ⟨x, fun b o e => ?_, s⟩
  have h1 := l b o e
  unfold HL.of at h1 ⊢
  rw [hb.block b (Array.getElem?_eq_some_iff.1 h1).1]
  exact h1
section
variable {P : Program} {n : Nat} {md : Bool} {w0 : WM md} {ρ : Env} {Γ : List Assn} {Q : Exit → Act → World → Prop} {K : Act → World → Prop} {ty : TypeId} {pos : String} {af : Array Edge} {gd : Option (Nat × Bool)} {d : Nat}
theorem S.callP {f : FuncId} {xs : List Operand} {ats : Array TypeId} {vs : List Value} {v : Value} (he : enterT P f = true) (hargs : EvL ρ xs vs) (h : ∀ w, Sat w Γ → PureS P f vs w v) (hn : Nat.blt d n = true)
    (k : S n w0 ((d, v) :: ρ) Γ K) : S n w0 ρ Γ (Ow P Q ⟨some d, .call { callee := .value (.func f), args := xs.toArray, argTypes := ats }, ty, pos, af, gd⟩ K) := by
  intro a w ha hsat hx
  have hr := run_enter (ty := ty) (pos := pos) (af := af) (gd := gd) (c := { callee := .value (.func f), args := xs.toArray, argTypes := ats }) (a := a) (ds := some d) (vs := vs) he rfl ⟨_, rfl⟩ (by simp [hargs.map ha]) w
  unfold Ow Oper.wp
  rw [hr, Oper.upon_enter]
  refine (pure_run (h w hsat)).mono ?_
  rintro e w' ⟨rfl, hb, hdr⟩
  exact k _ _ (ha.put hn v) (hsat.belowP hb) (hx.trans ⟨hb.os, hb.tape, hb.output, hb.size, hdr⟩)
end
/-! Bytes as strings. -/
theorem u8_inj {a b : Int} (ha : 0 ≤ a ∧ a ≤ 255) (hb : 0 ≤ b ∧ b ≤ 255) (h : UInt8.ofNat a.toNat = UInt8.ofNat b.toNat) : a = b := by
  have := congrArg UInt8.toNat h
  simp at this
  omega
def Rng (l : List Int) : Prop := ∀ x ∈ l, 0 ≤ x ∧ x ≤ 255
theorem Rng.nil : Rng [] := fun _ h => by cases h
theorem strOfNums_inj {l m : List Int} (hl : Rng l) (hm : Rng m) (h : strOfNums l = strOfNums m) : l = m := by
  replace h : (l.map fun n => UInt8.ofNat n.toNat) = (m.map fun n => UInt8.ofNat n.toNat) := by
    have := congrArg (fun s => s.data.toList) h
    simpa [strOfNums] using this
  induction l generalizing m with
  | nil => cases m <;> simp_all
  | cons a l ih =>
    cases m with
    | nil => simp at h
    | cons b m =>
      simp only [List.map_cons, List.cons.injEq] at h
      rw [u8_inj (hl a (by simp)) (hm b (by simp)) h.1, ih (fun x hx => hl x (by simp [hx])) (fun x hx => hm x (by simp [hx])) h.2]
theorem str_eq {l m : List Int} (hl : Rng l) (hm : Rng m) : ((strOfNums l).toList == (strOfNums m).toList) = decide (l = m) := by
  by_cases h : l = m
  · subst h; simp
  · rw [decide_eq_false h]
    have : strOfNums l ≠ strOfNums m := fun e => h (strOfNums_inj hl hm e)
    rw [beq_eq_false_iff_ne]
    intro e
    apply this
    have h1 : (strOfNums l).data.toList = (strOfNums m).data.toList := by
      rw [← ByteArray.toList_eq, ← ByteArray.toList_eq]; exact e
    cases hs : strOfNums l with
    | mk d => cases hs' : strOfNums m with
      | mk d' => rw [hs, hs'] at h1; simp at h1; rw [h1]
theorem take_at {R : Assn} {Γ Δ : List Assn} {s : SV} {l : List Int} [p : Pick R Γ Δ] (hR : ∀ Γ w, Sat w (R :: Γ) → BytesAt w s.v l) {w : World} (hs : Sat w Γ) (k : Nat) (hk : k ≤ l.length) : SlAt w (SV.v ⟨s.a, k, s.c⟩) k 1 (bcells (l.take k)) := by
  have h := (hR _ w (hs.ent p.ent)).take k hk
  unfold BytesAt at h
  rwa [List.length_take, Nat.min_eq_left hk] at h
end Go.Proofs.YtegjmmocnffpiaaDoor
