/- Facts on memory that are of no program: slices whose cells are known, append from whatever source, what is kept. -/
import Derived.WalkKit
import Derived.ProofKit
import Derived.OpenShut
import Derived.Lib.Hide
import Derived.Handy
import Derived.WalkSmall
import Derived.Maps.AppendAt
import Derived.Deep.RegionHeld3
import Derived.Deep.RegionWith
import Derived.Deep.QuietTactic
import Derived.BigQuiet
import Derived.Deep.LoopGhost
import Derived.Deep.DeepCutAuto
import Derived.Deep.DeepMust
import Derived.Deep.RegionLaw
namespace Go.Proofs.YtbhnbnecaejjiaaDoor
open Go.RowKit
theorem ret_int {k : IntKind} {a b : Int} (h : a = b) : Ending.returned (.int k a) = .returned (.int k b) := by rw [h]
theorem val_int {k : IntKind} {a b : Int} (h : a = b) : Value.int k a = .int k b := by rw [h]
theorem ret_bool {a b : Bool} (h : a = b) : Ending.returned (.bool a) = .returned (.bool b) := by rw [h]
theorem lt_add' {b n k : Nat} (h : b < n) : b < n + k := by omega
theorem lt_add'2 {b n : Nat} (h : b < n) : b < n + 1 + 1 := by omega
theorem lt_add'3 {b n : Nat} (h : b < n) : b < n + 1 + 1 + 1 := by omega
theorem lt_add'4 {b n : Nat} (h : b < n) : b < n + 1 + 1 + 1 + 1 := by omega
theorem lt_add'5 {b n : Nat} (h : b < n) : b < n + 1 + 1 + 1 + 1 + 1 := by omega
theorem lt_add'6 {b n : Nat} (h : b < n) : b < n + 1 + 1 + 1 + 1 + 1 + 1 := by omega
theorem lt_add'7 {b n : Nat} (h : b < n) : b < n + 1 + 1 + 1 + 1 + 1 + 1 + 1 := by omega
theorem lt_add'8 {b n : Nat} (h : b < n) : b < n + 1 + 1 + 1 + 1 + 1 + 1 + 1 + 1 := by omega
theorem lt_add'9 {b n : Nat} (h : b < n) : b < n + 1 + 1 + 1 + 1 + 1 + 1 + 1 + 1 + 1 := by omega
theorem lt_add'10 {b n : Nat} (h : b < n) : b < n + 1 + 1 + 1 + 1 + 1 + 1 + 1 + 1 + 1 + 1 := by omega
theorem lt_add'11 {b n : Nat} (h : b < n) : b < n + 1 + 1 + 1 + 1 + 1 + 1 + 1 + 1 + 1 + 1 + 1 := by omega
theorem lt_add'12 {b n : Nat} (h : b < n) : b < n + 1 + 1 + 1 + 1 + 1 + 1 + 1 + 1 + 1 + 1 + 1 + 1 := by omega
attribute [go_sem] lt_add' lt_add'2 lt_add'3 lt_add'4 lt_add'5 lt_add'6 lt_add'7 lt_add'8 lt_add'9 lt_add'10 lt_add'11 lt_add'12
/-- A slice value of n elements, sz cells each, whose cells are xs. -/
def SlAt (w : World) (v : Value) (n sz : Nat) (xs : List Value) : Prop :=
  xs.length = n * sz ∧ ∃ ao c, v = .slice ao n c ∧ n ≤ c ∧ c ≤ maxLen ∧ (ao = none → n = 0 ∧ c = 0) ∧
    ∀ a, ao = some a → 0 < n → a.spot = none ∧ a.block < w.heap.size ∧ ∀ j u, xs[j]? = some u → w.cell? ⟨a.block, a.off + j, none⟩ = some u
theorem SlAt.nil (w : World) (sz : Nat) : SlAt w (.slice none 0 0) 0 sz [] :=
  ⟨by simp, none, 0, rfl, Nat.le_refl _, Nat.zero_le _, fun _ => ⟨rfl, rfl⟩, fun a h => by cases h⟩
theorem SlAt.mk (w : World) (b off n c sz : Nat) (xs : List Value) (hx : xs.length = n * sz) (hn : n ≤ c) (hc : c ≤ maxLen) (hb : b < w.heap.size) (h : ∀ j u, xs[j]? = some u → w.cell? ⟨b, off + j, none⟩ = some u) :
    SlAt w (.slice (some ⟨b, off, none⟩) n c) n sz xs :=
  ⟨hx, some ⟨b, off, none⟩, c, rfl, hn, hc, fun h => (by cases h), fun a ha _ => by cases ha; exact ⟨rfl, hb, h⟩⟩
theorem SlAt.of {w W : World} {v : Value} {n sz : Nat} {xs : List Value} (h : SlAt w v n sz xs) (hs : w.heap.size ≤ W.heap.size) (hk : ∀ k, k < w.heap.size → W.heap[k]? = w.heap[k]?) : SlAt W v n sz xs := by
  obtain ⟨h0, ao, c, h1, h2, h3, h4, h5⟩ := h
  refine ⟨h0, ao, c, h1, h2, h3, h4, fun a ha hn => ?_⟩
  obtain ⟨g1, g2, g3⟩ := h5 a ha hn
  refine ⟨g1, Nat.lt_of_lt_of_le g2 hs, fun j u hu => ?_⟩
  rw [World.cell?_of_block (w := w) (a := ⟨a.block, a.off + j, none⟩) (hk a.block g2)]
  exact g3 j u hu
theorem SlAt.below {w W : World} {v : Value} {n sz : Nat} {xs : List Value} (h : SlAt w v n sz xs) (hb : Below w.heap.size w W) : SlAt W v n sz xs := h.of hb.size hb.block
theorem SlAt.alloc {w : World} {v : Value} {n sz : Nat} {xs : List Value} (h : SlAt w v n sz xs) (o : Obj) : SlAt (w.alloc o) v n sz xs := h.below ((Below.refl _ _).alloc (Nat.le_refl _) _)
theorem SlAt.drew {w : World} {v : Value} {n sz : Nat} {xs : List Value} (h : SlAt w v n sz xs) : SlAt w.drew v n sz xs := h
theorem SlAt.ofOwn {w : World} {base : Nat} {e : TypeId} {v : Value} {n sz : Nat} {xs : List Value} (h : w.ownsRow base e sz v n xs) : SlAt w v n sz xs := by
  refine ⟨h.1, ?_⟩
  rcases h.2 with ⟨rfl, rfl⟩ | ⟨g, cap, cur, rfl, hb, hg, hn, hc, hs, htk⟩
  · exact ⟨none, 0, rfl, Nat.le_refl _, Nat.zero_le _, fun _ => ⟨rfl, rfl⟩, fun a h => by cases h⟩
  · refine ⟨some ⟨g, 0, none⟩, cap, rfl, hn, hc, fun h => (by cases h), fun a ha _ => ?_⟩
    cases ha
    refine ⟨rfl, (Array.getElem?_eq_some_iff.1 hg).1, fun j u hu => ?_⟩
    rw [Nat.zero_add, cell_of_row w g j cur e (0, 0) hg]
    rw [← htk, List.getElem?_take] at hu
    split at hu
    · simpa using hu
    · cases hu
theorem grown_refl (w : World) (r : Option Nat) : w.grownBy w r := ⟨rfl, rfl, rfl, Nat.le_refl _, fun _ _ _ => rfl⟩
/-! What a block is, step by step back through a world that is written out. -/
theorem hx_new {w : World} {o : Obj} {g : Nat} (h : g = w.heap.size) : (w.alloc o).heap[g]? = some o := by subst h; exact heap_alloc_new w o
theorem hx_alloc {w : World} {o x : Obj} {g : Nat} (h : w.heap[g]? = some x) : (w.alloc o).heap[g]? = some x := by
  rw [Below.heap_alloc w o g (Array.getElem?_eq_some_iff.1 h).1]; exact h
theorem hx_drew {w : World} {x : Obj} {g : Nat} (h : w.heap[g]? = some x) : w.drew.heap[g]? = some x := h
theorem hx_set {w : World} {x : Obj} {g : Nat} {a : Addr} {v : Value} (h : w.heap[g]? = some x) (hne : g ≠ a.block) : (w.setCell a v).heap[g]? = some x := by
  rw [Below.heap_setCell _ _ _ _ hne]; exact h
theorem hx_grown {w w' : World} {x : Obj} {g : Nat} {r : Option Nat} (hg : w.grownBy w' r) (h : w.heap[g]? = some x) (hne : some g ≠ r) : w'.heap[g]? = some x := by
  rw [hg.block g (Array.getElem?_eq_some_iff.1 h).1 hne]; exact h
theorem hx_below {w w' : World} {x : Obj} {g B : Nat} (hb : Below B w w') (h : w.heap[g]? = some x) (hne : g < B) : w'.heap[g]? = some x := by
  rw [hb.block g hne]; exact h
/-- An empty row that lies anywhere from base on. -/
theorem own_empty {W : World} {base g : Nat} {e : TypeId} {sz : Nat} (hb : base ≤ g) (hg : W.heap[g]? = some (.cells #[] e (0, 0))) : W.ownsRow base e sz (.slice (some ⟨g, 0, none⟩) 0 0) 0 [] :=
  ⟨by simp, .inr ⟨g, 0, #[], rfl, hb, hg, Nat.le_refl _, Nat.zero_le _, by simp, by simp⟩⟩
/-- A slice over a block that is known whole. -/
theorem SlAt.block {W : World} {g n sz : Nat} {e : TypeId} {fr : Nat × Nat} (cs : Array Value) (xs : List Value) (hx : cs.toList = xs) (hg : W.heap[g]? = some (.cells cs e fr)) (hn : xs.length = n * sz) (hc : n ≤ maxLen) : SlAt W (.slice (some ⟨g, 0, none⟩) n n) n sz xs := by
  refine SlAt.mk W g 0 n n sz xs hn (Nat.le_refl _) hc (Array.getElem?_eq_some_iff.1 hg).1 (fun j u hu => ?_)
  rw [Nat.zero_add, cell_of_row W g j cs e fr hg]
  rw [← hx] at hu
  simpa using hu
theorem Below.grown' {B : Nat} {a w w' : World} {e : TypeId} {sz base n : Nat} {xs : List Value} {v : Value} (h : Below B a w) (hg : w.grownBy w' v.ownBlock) (hB : B ≤ w.heap.size) (ho : w.ownsRow base e sz v n xs) (hb : B ≤ base) : Below B a w' :=
  h.grown hg hB (fun k hk => Nat.le_trans hb (ho.lt k hk).1)
/-- append onto a slice that the call owns, of whatever source. -/
theorem wp_append_src {P : Program} {w : World} {o : Oper} {a : Act} {K : Act → World → Prop} {Q : Exit → Act → World → Prop} (s x : Operand) (t : TypeId)
    (ho : o.op = .call { callee := .builtin .append, args := #[s, x], argTypes := #[t, t] })
    (base : Nat) (e : TypeId) (i : TypeInfo) (z : Value) (size bytes : Nat) (ht : P.underlying t = some (.slice e)) (hi : P.info? e = some i) (hz : i.zero = some z)
    (hsize : i.size = size) (hby : i.bytes = bytes) (hzs : z.cells.size = size) (hsz : 0 < size)
    (v : Value) (n : Nat) (xs : List Value) (hown : w.ownsRow base e size v n xs) (hs : a.eval s = v)
    (xv : Value) (m : Nat) (news : List Value) (hx : a.eval x = xv) (hsrc : SlAt w xv m size news) (h1 : ∀ u ∈ news, u.oneCell' = true)
    (h63 : n + m ≤ maxLen) (hbytes : (n + m) * bytes ≤ 140737488355328) (hbase : base ≤ w.heap.size)
    (h : ∀ v' w', w'.ownsRow base e size v' (n + m) (xs ++ news) → w.grownBy w' v.ownBlock → (v'.ownBlock = v.ownBlock ∨ v'.ownBlock = some w.heap.size) → K (a.put o.dst v') w') : o.wp P a w K Q := by
  obtain ⟨hl, ao, c, rfl, hmc, hcm, hnone, hsome⟩ := hsrc
  cases ao with
  | none =>
    obtain ⟨rfl, rfl⟩ := hnone rfl
    have hnews : news = [] := List.eq_nil_of_length_eq_zero (by simpa using hl)
    subst hnews
    have hrun := run_append_owned_none (P := P) w base t o.type e i size ht hi v n xs hown
    unfold Oper.wp
    simp [execOp, ho, resolve, invoke, builtin, hs, hx, hrun, Result.andThen]
    exact h v w (by simpa using hown) (grown_refl w _) (Or.inl rfl)
  | some ad =>
    have hcell : ∀ j u, news[j]? = some u → w.cell? (ad.add j) = some u := by
      intro j u hu
      have hm0 : 0 < m := by
        rcases Nat.eq_zero_or_pos m with h0 | h0
        · subst h0
          have hn : news = [] := List.eq_nil_of_length_eq_zero (by simpa using hl)
          rw [hn] at hu
          simp at hu
        · exact h0
      obtain ⟨g1, g2, g3⟩ := hsome ad rfl hm0
      have := g3 j u hu
      have e : ad = ⟨ad.block, ad.off, none⟩ := by rw [← g1]
      rw [e, Addr.add_lit]
      exact this
    obtain ⟨v', w', hr, h2, h3, _, h5⟩ := run_append_own_at (P := P) w base t o.type e i z size bytes ht hi hz hsize hby hzs hsz v n xs hown ad m c news hl hcell h1 h63 hbytes hbase
    unfold Oper.wp execOp
    simp only [ho, resolve, invoke, builtin, Sem.run_bind, Sem.run_pure, Result.andThen_ok, List.map_toArray, List.map_cons, List.map_nil, hs, hx, hr]
    exact h v' w' h2 h3 h5
/-- The same at a list of operations. -/
theorem wpList_append_src {P : Program} {w : World} {ops : Array Oper} {rest : List Oper} {o : Oper} {a : Act} {Q : Exit → Act → World → Prop} (hgd : Region.wanted o (yielded ops a.tmps) = true) (s x : Operand) (t : TypeId)
    (ho : o.op = .call { callee := .builtin .append, args := #[s, x], argTypes := #[t, t] })
    (base : Nat) (e : TypeId) (i : TypeInfo) (z : Value) (size bytes : Nat) (ht : P.underlying t = some (.slice e)) (hi : P.info? e = some i) (hz : i.zero = some z)
    (hsize : i.size = size) (hby : i.bytes = bytes) (hzs : z.cells.size = size) (hsz : 0 < size)
    (v : Value) (n : Nat) (xs : List Value) (hown : w.ownsRow base e size v n xs) (hs : a.eval s = v)
    (xv : Value) (m : Nat) (news : List Value) (hx : a.eval x = xv) (hsrc : SlAt w xv m size news) (h1 : ∀ u ∈ news, u.oneCell' = true)
    (h63 : n + m ≤ maxLen) (hbytes : (n + m) * bytes ≤ 140737488355328) (hbase : base ≤ w.heap.size)
    (h : ∀ v' w', w'.ownsRow base e size v' (n + m) (xs ++ news) → w.grownBy w' v.ownBlock → (v'.ownBlock = v.ownBlock ∨ v'.ownBlock = some w.heap.size) → wpList P ops Q rest (a.put o.dst v') w') : wpList P ops Q (o :: rest) a w :=
  wpList_step fun K hK => by
    rw [if_pos hgd]
    exact wp_append_src s x t ho base e i z size bytes ht hi hz hsize hby hzs hsz v n xs hown hs xv m news hx hsrc h1 h63 hbytes hbase fun v' w' h2 h3 h4 => hK _ _ (h v' w' h2 h3 h4)
/-- The same at a step of a region that draws its order. -/
theorem step_append_src {P : Program} {w : World} {ops : Array Oper} {o : Oper} {a : Act} {K : Act → World → Prop} {Q : Exit → Act → World → Prop} {E : Prop} (hgd : Region.wanted o (yielded ops a.tmps) = true) (s x : Operand) (t : TypeId)
    (ho : o.op = .call { callee := .builtin .append, args := #[s, x], argTypes := #[t, t] })
    (base : Nat) (e : TypeId) (i : TypeInfo) (z : Value) (size bytes : Nat) (ht : P.underlying t = some (.slice e)) (hi : P.info? e = some i) (hz : i.zero = some z)
    (hsize : i.size = size) (hby : i.bytes = bytes) (hzs : z.cells.size = size) (hsz : 0 < size)
    (v : Value) (n : Nat) (xs : List Value) (hown : w.ownsRow base e size v n xs) (hs : a.eval s = v)
    (xv : Value) (m : Nat) (news : List Value) (hx : a.eval x = xv) (hsrc : SlAt w xv m size news) (h1 : ∀ u ∈ news, u.oneCell' = true)
    (h63 : n + m ≤ maxLen) (hbytes : (n + m) * bytes ≤ 140737488355328) (hbase : base ≤ w.heap.size)
    (h : ∀ v' w', w'.ownsRow base e size v' (n + m) (xs ++ news) → w.grownBy w' v.ownBlock → (v'.ownBlock = v.ownBlock ∨ v'.ownBlock = some w.heap.size) → K (a.put o.dst v') w') :
    if Region.wanted o (yielded ops a.tmps) = true then Oper.wp P o a w K Q else E := by
  rw [if_pos hgd]
  exact wp_append_src s x t ho base e i z size bytes ht hi hz hsize hby hzs hsz v n xs hown hs xv m news hx hsrc h1 h63 hbytes hbase h
end Go.Proofs.YtbhnbnecaejjiaaDoor
