/- The matrix as plain data: jobs by number, each in a row, at nodes. Of no program. -/
import Derived.Test.YtbhnbnecaejjiaaDoorSetP
import Derived.Test.YtbhnbnecaejjiaaDoorMap
namespace Go.Proofs.YtbhnbnecaejjiaaDoor
open Go.RowKit
structure Jb where
  id : Nat
  row : Nat
  ns : Bs
structure Mx where
  R : Nat
  N : Nat
  up : Bs
  js : List Jb
/-- The nodes that are taken in a row. -/
def tk (js : List Jb) (r : Nat) : Bs := (js.filter fun x => decide (x.row = r)).foldr (fun x s => x.ns ||| s) 0#16
theorem tk_bit (js : List Jb) (r i : Nat) : (tk js r).getLsbD i = true ↔ ∃ x ∈ js, x.row = r ∧ x.ns.getLsbD i = true := by
  unfold tk
  induction js with
  | nil => simp
  | cons x js ih =>
    by_cases h : x.row = r
    · rw [List.filter_cons_of_pos (by simpa using h), List.foldr_cons, BitVec.getLsbD_or, Bool.or_eq_true, ih]
      constructor
      · rintro (h1 | ⟨y, h1, h2, h3⟩)
        · exact ⟨x, List.mem_cons_self, h, h1⟩
        · exact ⟨y, List.mem_cons_of_mem _ h1, h2, h3⟩
      · rintro ⟨y, h1, h2, h3⟩
        rcases List.mem_cons.1 h1 with rfl | h1
        · exact .inl h3
        · exact .inr ⟨y, h1, h2, h3⟩
    · rw [List.filter_cons_of_neg (by simpa using h), ih]
      constructor
      · rintro ⟨y, h1, h2, h3⟩
        exact ⟨y, List.mem_cons_of_mem _ h1, h2, h3⟩
      · rintro ⟨y, h1, h2, h3⟩
        rcases List.mem_cons.1 h1 with rfl | h1
        · exact absurd h2 h
        · exact ⟨y, h1, h2, h3⟩
theorem tk_congr {js js' : List Jb} (h : ∀ x, x ∈ js ↔ x ∈ js') (r : Nat) : tk js r = tk js' r := lst_ext fun i => by
  rw [tk_bit, tk_bit]
  exact ⟨fun ⟨x, h1, h2⟩ => ⟨x, (h x).1 h1, h2⟩, fun ⟨x, h1, h2⟩ => ⟨x, (h x).2 h1, h2⟩⟩
/-- A matrix that may be. -/
structure MxOk (m : Mx) : Prop where
  R1 : 1 ≤ m.R
  R8 : m.R ≤ 8
  N1 : 1 ≤ m.N
  N16 : m.N ≤ 16
  up : ∀ i, m.up.getLsbD i = true → i < m.N
  srt : m.js.Pairwise (fun a b => a.id < b.id)
  id1 : ∀ x ∈ m.js, 1 ≤ x.id
  id2 : ∀ x ∈ m.js, x.id ≤ 4294967295
  row : ∀ x ∈ m.js, x.row < m.R
  some : ∀ x ∈ m.js, x.ns ≠ 0#16
  ns : ∀ x ∈ m.js, ∀ i, x.ns.getLsbD i = true → i < m.N
  dis : ∀ x ∈ m.js, ∀ y ∈ m.js, x.id ≠ y.id → x.row = y.row → ∀ i, x.ns.getLsbD i = true → y.ns.getLsbD i = true → False
def look (js : List Jb) (j : Nat) : Option Jb := js.find? fun x => decide (x.id = j)
theorem look_some {js : List Jb} {j : Nat} {x : Jb} (h : look js j = some x) : x ∈ js ∧ x.id = j := ⟨List.mem_of_find?_eq_some h, by simpa using List.find?_some h⟩
theorem look_none {js : List Jb} {j : Nat} (h : look js j = none) : ∀ x ∈ js, x.id ≠ j := fun x hx => by simpa using List.find?_eq_none.1 h x hx
theorem id_inj {js : List Jb} (hs : js.Pairwise (fun a b => a.id < b.id)) {x y : Jb} (hx : x ∈ js) (hy : y ∈ js) (h : x.id = y.id) : x = y := by
  induction js with
  | nil => cases hx
  | cons z js ih =>
    rw [List.pairwise_cons] at hs
    rcases List.mem_cons.1 hx with e1 | h1
    · rcases List.mem_cons.1 hy with e2 | h2
      · rw [e1, e2]
      · have := hs.1 y h2; rw [← e1] at this; omega
    · rcases List.mem_cons.1 hy with e2 | h2
      · have := hs.1 x h1; rw [← e2] at this; omega
      · exact ih hs.2 h1 h2
theorem look_mem {js : List Jb} (hs : js.Pairwise (fun a b => a.id < b.id)) {x : Jb} (hx : x ∈ js) : look js x.id = some x := by
  cases h : look js x.id with
  | none => exact absurd rfl (look_none h x hx)
  | some y =>
    obtain ⟨h1, h2⟩ := look_some h
    rw [id_inj hs h1 hx h2]
/-- A job more. -/
def addJ (x : Jb) : List Jb → List Jb
  | [] => [x]
  | y :: l => if x.id < y.id then x :: y :: l else y :: addJ x l
theorem addJ_perm (x : Jb) : ∀ l, (addJ x l).Perm (x :: l)
  | [] => .refl _
  | y :: l => by
    unfold addJ
    split
    · exact .refl _
    · exact ((addJ_perm x l).cons y).trans (.swap _ _ _)
theorem mem_addJ {x y : Jb} {l : List Jb} : y ∈ addJ x l ↔ y = x ∨ y ∈ l := by rw [(addJ_perm x l).mem_iff, List.mem_cons]
theorem addJ_srt {x : Jb} : ∀ {l : List Jb}, l.Pairwise (fun a b => a.id < b.id) → (∀ y ∈ l, y.id ≠ x.id) → (addJ x l).Pairwise (fun a b => a.id < b.id)
  | [], _, _ => List.pairwise_singleton _ _
  | y :: l, h, hn => by
    rw [List.pairwise_cons] at h
    unfold addJ
    have hne := hn y List.mem_cons_self
    split
    · rename_i hlt
      refine List.pairwise_cons.2 ⟨fun z hz => ?_, List.pairwise_cons.2 h⟩
      rcases List.mem_cons.1 hz with rfl | hz
      · exact hlt
      · have := h.1 z hz; omega
    · rename_i hlt
      refine List.pairwise_cons.2 ⟨fun z hz => ?_, addJ_srt h.2 fun z hz => hn z (List.mem_cons_of_mem _ hz)⟩
      rcases mem_addJ.1 hz with rfl | hz
      · omega
      · exact h.1 z hz
/-- A job fewer. -/
def delJ (j : Nat) (l : List Jb) : List Jb := l.filter fun x => decide (x.id ≠ j)
theorem mem_delJ {j : Nat} {y : Jb} {l : List Jb} : y ∈ delJ j l ↔ y ∈ l ∧ y.id ≠ j := by simp [delJ]
theorem delJ_srt {j : Nat} {l : List Jb} (h : l.Pairwise (fun a b => a.id < b.id)) : (delJ j l).Pairwise (fun a b => a.id < b.id) := h.filter _
theorem srt_ext {l m : List Jb} (hl : l.Pairwise (fun a b => a.id < b.id)) (hm : m.Pairwise (fun a b => a.id < b.id)) (h : ∀ x, x ∈ l ↔ x ∈ m) : l = m := by
  refine List.Perm.eq_of_pairwise (le := fun a b : Jb => a.id < b.id) (fun a b _ _ h1 h2 => by omega) hl hm ?_
  exact (List.perm_ext_iff_of_nodup (hl.imp fun h e => by rw [e] at h; omega) (hm.imp fun h e => by rw [e] at h; omega)).2 h
theorem delJ_addJ {x : Jb} {l : List Jb} (hs : l.Pairwise (fun a b => a.id < b.id)) (hn : ∀ y ∈ l, y.id ≠ x.id) : delJ x.id (addJ x l) = l :=
  srt_ext (delJ_srt (addJ_srt hs hn)) hs fun y => by
    rw [mem_delJ, mem_addJ]
    constructor
    · rintro ⟨rfl | h1, h2⟩
      · exact absurd rfl h2
      · exact h1
    · exact fun h => ⟨.inr h, hn y h⟩
theorem tk_addJ (x : Jb) (l : List Jb) (r : Nat) : tk (addJ x l) r = if x.row = r then tk l r ||| x.ns else tk l r := lst_ext fun i => by
  have e : (tk (addJ x l) r).getLsbD i = true ↔ (x.row = r ∧ x.ns.getLsbD i = true) ∨ (tk l r).getLsbD i = true := by
    rw [tk_bit, tk_bit]
    constructor
    · rintro ⟨y, h1, h2, h3⟩
      rcases mem_addJ.1 h1 with rfl | h1
      · exact .inl ⟨h2, h3⟩
      · exact .inr ⟨y, h1, h2, h3⟩
    · rintro (⟨h2, h3⟩ | ⟨y, h1, h2, h3⟩)
      · exact ⟨x, mem_addJ.2 (.inl rfl), h2, h3⟩
      · exact ⟨y, mem_addJ.2 (.inr h1), h2, h3⟩
  rw [e]
  by_cases h : x.row = r
  · rw [if_pos h, BitVec.getLsbD_or, Bool.or_eq_true]
    constructor
    · rintro (⟨_, h3⟩ | h3)
      · exact .inr h3
      · exact .inl h3
    · rintro (h3 | h3)
      · exact .inr h3
      · exact .inl ⟨h, h3⟩
  · rw [if_neg h]
    constructor
    · rintro (⟨h3, _⟩ | h3)
      · exact absurd h3 h
      · exact h3
    · exact .inr
theorem tk_delJ {m : Mx} (hm : MxOk m) {x : Jb} (hx : x ∈ m.js) (r : Nat) : tk (delJ x.id m.js) r = if x.row = r then tk m.js r &&& ~~~x.ns else tk m.js r := lst_ext fun i => by
  rw [tk_bit]
  by_cases h : x.row = r
  · rw [if_pos h, BitVec.getLsbD_and, BitVec.getLsbD_not, Bool.and_eq_true, tk_bit]
    constructor
    · rintro ⟨y, h1, h2, h3⟩
      rw [mem_delJ] at h1
      have hi := BitVec.lt_of_getLsbD h3
      refine ⟨⟨y, h1.1, h2, h3⟩, ?_⟩
      cases hb : x.ns.getLsbD i with
      | false => simp [hi]
      | true => exact (hm.dis y h1.1 x hx h1.2 (h2.trans h.symm) i h3 hb).elim
    · rintro ⟨⟨y, h1, h2, h3⟩, h4⟩
      refine ⟨y, mem_delJ.2 ⟨h1, fun e => ?_⟩, h2, h3⟩
      obtain rfl := id_inj hm.srt h1 hx e
      rw [h3] at h4
      simp at h4
  · rw [if_neg h, tk_bit]
    constructor
    · rintro ⟨y, h1, h2⟩
      exact ⟨y, (mem_delJ.1 h1).1, h2⟩
    · rintro ⟨y, h1, h2, h3⟩
      refine ⟨y, mem_delJ.2 ⟨h1, fun e => ?_⟩, h2, h3⟩
      obtain rfl := id_inj hm.srt h1 hx e
      exact h h2
def Mx.free (m : Mx) (r : Nat) : Bs := m.up &&& ~~~(tk m.js r)
def Mx.add (m : Mx) (x : Jb) : Mx := { m with js := addJ x m.js }
def Mx.del (m : Mx) (j : Nat) : Mx := { m with js := delJ j m.js }
theorem MxOk.del {m : Mx} (h : MxOk m) (j : Nat) : MxOk (m.del j) where
  R1 := h.R1
  R8 := h.R8
  N1 := h.N1
  N16 := h.N16
  up := h.up
  srt := delJ_srt h.srt
  id1 := fun x hx => h.id1 x (mem_delJ.1 hx).1
  id2 := fun x hx => h.id2 x (mem_delJ.1 hx).1
  row := fun x hx => h.row x (mem_delJ.1 hx).1
  some := fun x hx => h.some x (mem_delJ.1 hx).1
  ns := fun x hx => h.ns x (mem_delJ.1 hx).1
  dis := fun x hx y hy => h.dis x (mem_delJ.1 hx).1 y (mem_delJ.1 hy).1
theorem MxOk.add {m : Mx} (h : MxOk m) {x : Jb} (hn : ∀ y ∈ m.js, y.id ≠ x.id) (h1 : 1 ≤ x.id) (h2 : x.id ≤ 4294967295) (h3 : x.row < m.R) (h4 : x.ns ≠ 0#16) (h5 : ∀ i, x.ns.getLsbD i = true → i < m.N)
    (h6 : tk m.js x.row &&& x.ns = 0#16) : MxOk (m.add x) := by
  have hd : ∀ y ∈ m.js, y.row = x.row → ∀ i, y.ns.getLsbD i = true → x.ns.getLsbD i = true → False := fun y hy hr i b1 b2 => by
    have hb : (tk m.js x.row &&& x.ns).getLsbD i = true := by
      rw [BitVec.getLsbD_and, b2, Bool.and_true, tk_bit]
      exact ⟨y, hy, hr, b1⟩
    rw [h6] at hb
    simp at hb
  refine ⟨h.R1, h.R8, h.N1, h.N16, h.up, addJ_srt h.srt hn, ?_, ?_, ?_, ?_, ?_, ?_⟩
  · exact fun y hy => by rcases mem_addJ.1 hy with rfl | hy <;> first | exact h1 | exact h.id1 y hy
  · exact fun y hy => by rcases mem_addJ.1 hy with rfl | hy <;> first | exact h2 | exact h.id2 y hy
  · exact fun y hy => by rcases mem_addJ.1 hy with rfl | hy <;> first | exact h3 | exact h.row y hy
  · exact fun y hy => by rcases mem_addJ.1 hy with rfl | hy <;> first | exact h4 | exact h.some y hy
  · exact fun y hy => by rcases mem_addJ.1 hy with rfl | hy <;> first | exact h5 | exact h.ns y hy
  · intro y hy z hz hne hr i b1 b2
    rcases mem_addJ.1 hy with e1 | h7
    · rcases mem_addJ.1 hz with e2 | h8
      · exact hne (by rw [e1, e2])
      · exact hd z h8 (by rw [← hr, e1]) i b2 (e1 ▸ b1)
    · rcases mem_addJ.1 hz with e2 | h8
      · exact hd y h7 (by rw [hr, e2]) i b1 (e2 ▸ b2)
      · exact h.dis y h7 z h8 hne hr i b1 b2
/-! How many there may be. -/
theorem nodup_lt : ∀ {n : Nat} {l : List Nat}, l.Nodup → (∀ z ∈ l, z < n) → l.length ≤ n
  | 0, [], _, _ => Nat.le_refl _
  | 0, z :: l, _, h => absurd (h z List.mem_cons_self) (by omega)
  | n + 1, l, hn, h => by
    have h1 := nodup_lt (n := n) (l := l.filter fun z => decide (z ≠ n)) (hn.filter _) fun z hz => by
      obtain ⟨h1, h2⟩ := List.mem_filter.1 hz
      have := h z h1
      have h2 : z ≠ n := by simpa using h2
      omega
    have h2 : l.length ≤ (l.filter fun z => decide (z ≠ n)).length + 1 := by
      have e := List.length_eq_countP_add_countP (fun z => decide (z ≠ n)) (l := l)
      rw [← List.countP_eq_length_filter]
      have h3 : l.countP (fun a => decide (¬ (decide (a ≠ n) = true))) ≤ 1 := by
        have e3 : l.countP (fun a => decide (¬ (decide (a ≠ n) = true))) = l.count n := by
          rw [List.count_eq_countP]
          refine List.countP_congr fun x _ => ?_
          simp
        rw [e3]
        exact List.nodup_iff_count.1 hn n
      omega
    omega
theorem sum_lens (m : Mx) (hm : MxOk m) : m.js.length ≤ 128 := by
  -- each job has a place of its own: its row and its least node
  have hinj : ((m.js.map fun x => x.row * 16 + tz x.ns)).Nodup := by
    refine List.pairwise_map.2 (hm.srt.imp_of_mem ?_)
    intro x y hx hy hlt e
    have tx := lst_lt (tz_mem (hm.some x hx))
    have ty := lst_lt (tz_mem (hm.some y hy))
    have e1 : x.row = y.row := by omega
    have e2 : tz x.ns = tz y.ns := by omega
    exact hm.dis x hx y hy (by omega) e1 (tz x.ns) (mem_lst.1 (tz_mem (hm.some x hx))) (e2 ▸ mem_lst.1 (tz_mem (hm.some y hy)))
  have hlt : ∀ z ∈ (m.js.map fun x => x.row * 16 + tz x.ns), z < 128 := fun z hz => by
    obtain ⟨x, hx, rfl⟩ := List.mem_map.1 hz
    have := lst_lt (tz_mem (hm.some x hx))
    have := hm.row x hx
    have := hm.R8
    omega
  have := nodup_lt hinj hlt
  simpa using this
end Go.Proofs.YtbhnbnecaejjiaaDoor
