/- Arguments that lie in memory: what shape they have, and what they read as. -/
import Derived.Test.YtbhnbnecaejjiaaDoorLift
import Derived.Test.YtbhnbnecaejjiaaDoorOw
import Derived.Test.YtbhnbnecaejjiaaDoorBytes
import Derived.Deep.Slices
namespace Go.Proofs.YtbhnbnecaejjiaaDoor
open Go.RowKit Go.ChangeShapes Go.WideShapes Go.ChangeAt Go.Deep
/-- The shape of a type of plain data. -/
inductive TS where
  | int (k : IntKind)
  | bool
  | string
  | slice (sz : Nat) (e : TS)
  | nil
  | cat (n : Nat) (a b : TS)
/-- Cells of that shape. -/
def Rd (W : World) : TS → List Value → Prop
  | .int k, cs => ∃ n, cs = [.int k n] ∧ (Lit.int k n).wf = true
  | .bool, cs => ∃ b, cs = [.bool b]
  | .string, cs => ∃ s : ByteArray, cs = [.string s] ∧ s.size ≤ maxLen
  | .slice sz e, cs => ∃ s : SV, cs = [s.v] ∧ s.n ≤ s.c ∧ s.c ≤ maxLen ∧ (s.a = none → s.n = 0 ∧ s.c = 0) ∧
      ∀ i, i < s.n → ∃ a cs', s.a = some a ∧ cs'.length = sz ∧ (∀ j, j < sz → W.cell? (a.add (i * sz + j)) = cs'[j]?) ∧ Rd W e cs'
  | .nil, cs => cs = []
  | .cat n a b, cs => ∃ xs ys, cs = xs ++ ys ∧ xs.length = n ∧ Rd W a xs ∧ Rd W b ys
def okFs (P : Program) (rec : TypeId → TS → Bool) : List Field → Nat → TS → Option Nat
  | [], off, .nil => some off
  | f :: fs, off, .cat m a b => if f.offset == off && P.cellsOf f.type == m && rec f.type a then okFs P rec fs (off + m) b else none
  | _, _, _ => none
def tsOk (P : Program) : Nat → TypeId → TS → Bool
  | 0, _, _ => false
  | n + 1, t, s => match P.underlying t, s with
    | some (.int k), .int k' => k == k'
    | some .bool, .bool => true
    | some .string, .string => true
    | some (.slice e), .slice sz e' => P.cellsOf e == sz && tsOk P n e e'
    | some (.struct fs), s => okFs P (tsOk P n) fs.toList 0 s == some (P.cellsOf t)
    | _, _ => false
section
variable {H : Type} {enc : TypeId × Value → H} {P : Program} {W : World}
theorem rd_fields {n fuel base : Nat} {sp : Nat → Bool} {held : Bool} (ih : ∀ (t : TypeId) (s : TS) (cs : List Value) (x : DataW H × List MemPlace), tsOk P n t s = true → DataW.trod enc P W base sp held fuel t cs = some x → Rd W s cs)
    (cs : List Value) : ∀ (fs : List Field) (off : Nat) (s : TS) (tot : Nat), okFs P (tsOk P n) fs off s = some tot → tot = cs.length → (∀ f ∈ fs, ∃ x, DataW.trod enc P W base sp held fuel f.type ((cs.drop f.offset).take (P.cellsOf f.type)) = some x) → Rd W s (cs.drop off) ∧ off ≤ tot := by
  intro fs
  induction fs with
  | nil =>
    intro off s tot h ht _
    cases s <;> simp [okFs] at h
    subst h ht
    exact ⟨by simp [Rd], Nat.le_refl _⟩
  | cons f fs ihf =>
    intro off s tot h ht hx
    cases s <;> simp [okFs] at h
    case cat m a b =>
      obtain ⟨⟨⟨h1, h2⟩, h3⟩, h4⟩ := h
      obtain ⟨g1, g2⟩ := ihf (off + m) b tot h4 ht (fun f' hf' => hx f' (by simp [hf']))
      obtain ⟨x, hx'⟩ := hx f (by simp)
      have := ih _ _ _ _ h3 hx'
      rw [h1, h2] at this
      refine ⟨⟨(cs.drop off).take m, cs.drop (off + m), ?_, ?_, this, g1⟩, by omega⟩
      · rw [← List.drop_drop, List.take_append_drop]
      · rw [List.length_take, List.length_drop]; omega
theorem rd_of_trod {base : Nat} {sp : Nat → Bool} {held : Bool} : ∀ (n fuel : Nat) (t : TypeId) (s : TS) (cs : List Value) (x : DataW H × List MemPlace), tsOk P n t s = true → DataW.trod enc P W base sp held fuel t cs = some x → Rd W s cs := by
  intro n
  induction n with
  | zero => intro fuel t s cs x h; cases h
  | succ n ih =>
    intro fuel t s cs x h ht
    unfold tsOk at h
    cases hu : P.underlying t with
    | none => rw [hu] at h; simp at h
    | some d =>
      rw [hu] at h
      cases d <;> try (simp at h; done)
      case int k =>
        cases s <;> simp at h
        subst h
        obtain ⟨n, h1, _, h3⟩ := DataW.trod_int hu ht
        exact ⟨n, h1, h3⟩
      case bool =>
        cases s <;> simp at h
        obtain ⟨b, h1, _⟩ := DataW.trod_bool hu ht
        exact ⟨b, h1⟩
      case string =>
        cases s <;> simp at h
        cases fuel with
        | zero => simp [DataW.trod] at ht
        | succ f =>
          unfold DataW.trod at ht
          rw [hu] at ht
          split at ht <;> simp_all [Rd]
      case slice e =>
        cases s <;> simp at h
        case slice sz e' =>
          obtain ⟨h1, h2⟩ := h
          rcases open_slice hu ht with ⟨hc, _⟩ | ⟨a, len, cap, m, k, D, Pl, hc, hb, hl, hm, hmm, _, hx⟩
          · exact ⟨SV.nil, hc, Nat.le_refl _, Nat.zero_le _, fun _ => ⟨rfl, rfl⟩, fun i hi => absurd hi (Nat.not_lt_zero _)⟩
          · refine ⟨⟨some a, len, cap⟩, hc, hl, hm, fun h => (by cases h), fun i hi => ?_⟩
            have him : i < m := by rw [hmm]; simp only at hi; split <;> omega
            obtain ⟨cs', g1, g2⟩ := hx i him
            rw [h1] at g1
            obtain ⟨_, gl, gc⟩ := World.cells?_some g1
            refine ⟨a, cs', rfl, gl, fun j hj => ?_, ih _ _ _ _ _ h2 g2⟩
            have := gc j hj
            rwa [Go.Deep.add_add] at this
      case struct fs =>
        obtain ⟨xs, m, rfl, _, hl, hlen, hf⟩ := DataW.trod_struct hu ht
        have h' : okFs P (tsOk P n) fs.toList 0 s = some (P.cellsOf t) := by simpa using h
        have := (rd_fields (W := W) (enc := enc) (base := base) (sp := sp) (held := held) (fun t s cs x => ih m t s cs x) cs fs.toList 0 s _ h' hl.symm ?_).1
        · simpa using this
        · intro f hf'
          obtain ⟨i, hi, rfl⟩ := List.getElem_of_mem hf'
          simp only [Array.length_toList] at hi
          have hfi := hf i fs.toList[i] (by simp [hi])
          rw [List.getElem?_eq_getElem (by omega)] at hfi
          exact ⟨_, hfi⟩
/-- A slice of records. -/
theorem cell_facts {w : World} {a : Addr} {v : Value} (h : w.cell? a = some v) : a.spot = none ∧ a.block < w.heap.size := by
  unfold World.cell? at h
  split at h
  · rename_i c e f hb
    refine ⟨?_, (Array.getElem?_eq_some_iff.1 hb).1⟩
    cases hs : a.spot with
    | none => rfl
    | some s => simp [hs] at h
  · cases h
theorem rd_slice {α : Type} [Inhabited α] {encA : α → List Value} {p : α → Prop} {sz : Nat} {e : TS} {cs : List Value} (h : ∀ cs, Rd W e cs → cs.length = sz → ∃ x, cs = encA x ∧ p x) (hr : Rd W (.slice sz e) cs) (hsz : 0 < sz) :
    ∃ (s : SV) (xs : List α), cs = [s.v] ∧ s.n = xs.length ∧ SlAt W s.v xs.length sz (xs.flatMap encA) ∧ (∀ x ∈ xs, p x) ∧ (∀ x ∈ xs, (encA x).length = sz) := by
  obtain ⟨s, hc, h1, h2, h3, h4⟩ := hr
  have each : ∀ i, i < s.n → ∃ x : α, (∀ a, s.a = some a → ∀ j, j < sz → W.cell? (a.add (i * sz + j)) = (encA x)[j]?) ∧ p x ∧ (encA x).length = sz := by
    intro i hi
    obtain ⟨a, cs', ha, hl, hcell, hrd⟩ := h4 i hi
    obtain ⟨x, rfl, hp⟩ := h cs' hrd hl
    exact ⟨x, fun a' ha' j hj => by rw [ha] at ha'; cases ha'; exact hcell j hj, hp, hl⟩
  obtain ⟨f, hf⟩ := choose_lt each
  have hm : ∀ x ∈ (List.range s.n).map f, ∃ i, i < s.n ∧ f i = x := fun x hx => by
    obtain ⟨i, hi, rfl⟩ := List.mem_map.1 hx
    exact ⟨i, by simpa using hi, rfl⟩
  have hen : ∀ x ∈ (List.range s.n).map f, (encA x).length = sz := fun x hx => by obtain ⟨i, hi, rfl⟩ := hm x hx; exact (hf i hi).2.2
  refine ⟨s, (List.range s.n).map f, hc, by simp, ?_, fun x hx => by obtain ⟨i, hi, rfl⟩ := hm x hx; exact (hf i hi).2.1, hen⟩
  have hlen : ∀ l : List α, (∀ x ∈ l, (encA x).length = sz) → (l.flatMap encA).length = l.length * sz := by
    intro l
    induction l with
    | nil => intro _; simp
    | cons x l ih =>
      intro hl
      rw [List.flatMap_cons, List.length_append, hl x (by simp), ih (fun y hy => hl y (by simp [hy])), List.length_cons, Nat.succ_mul]
      omega
  have hget : ∀ (l : List α), (∀ x ∈ l, (encA x).length = sz) → ∀ (q : Nat) (u : Value), (l.flatMap encA)[q]? = some u → ∃ x, l[q / sz]? = some x ∧ (encA x)[q % sz]? = some u := by
    intro l
    induction l with
    | nil => intro _ q u h; simp at h
    | cons x l ih =>
      intro hl q u hq
      rw [List.flatMap_cons] at hq
      by_cases hlt : q < sz
      · rw [List.getElem?_append_left (by rw [hl x (by simp)]; exact hlt)] at hq
        exact ⟨x, by rw [Nat.div_eq_of_lt hlt]; rfl, by rw [Nat.mod_eq_of_lt hlt]; exact hq⟩
      · rw [List.getElem?_append_right (by rw [hl x (by simp)]; omega), hl x (by simp)] at hq
        obtain ⟨y, hy1, hy2⟩ := ih (fun y hy => hl y (by simp [hy])) _ _ hq
        refine ⟨y, ?_, ?_⟩
        · have : q / sz = (q - sz) / sz + 1 := by
            rw [← Nat.add_div_right _ hsz, Nat.sub_add_cancel (by omega)]
          rw [this]; simpa using hy1
        · rw [Nat.mod_eq_sub_mod (by omega)]; exact hy2
  have hxl : ((List.range s.n).map f).length = s.n := by simp
  rw [hxl]
  refine ⟨by rw [hlen _ hen, hxl], s.a, s.c, rfl, h1, h2, h3, fun a ha h0 => ?_⟩
  have c0 := (hf 0 h0).1 a ha 0 hsz
  obtain ⟨u0, hu0⟩ : ∃ u, (encA (f 0))[0]? = some u := ⟨_, List.getElem?_eq_getElem (by rw [(hf 0 h0).2.2]; exact hsz)⟩
  rw [hu0] at c0
  obtain ⟨g1, g2⟩ := cell_facts c0
  simp only [Nat.zero_mul, Nat.zero_add] at g1 g2
  have hz : a.add 0 = a := by simp [Addr.add]
  rw [hz] at g1 g2
  refine ⟨g1, g2, fun q u hq => ?_⟩
  obtain ⟨x, hx1, hx2⟩ := hget _ hen q u hq
  rw [List.getElem?_map] at hx1
  have hqn : q / sz < s.n := by
    cases hr : (List.range s.n)[q / sz]? with
    | none => rw [hr] at hx1; cases hx1
    | some i => have := List.getElem?_eq_some_iff.1 hr; simpa using this.1
  rw [List.getElem?_range hqn] at hx1
  simp only [Option.map_some, Option.some.injEq] at hx1
  subst hx1
  have := (hf _ hqn).1 a ha (q % sz) (Nat.mod_lt _ hsz)
  rw [hx2, Nat.div_add_mod' q sz] at this
  rwa [show a = (⟨a.block, a.off, none⟩ : Addr) by rw [← g1], Addr.add_lit] at this
theorem flat_one {α β : Type} (f : α → β) : ∀ l : List α, l.flatMap (fun x => [f x]) = l.map f
  | [] => rfl
  | x :: l => by rw [List.flatMap_cons, flat_one f l]; rfl
/-- Bytes that lie in memory. -/
structure BW (W : World) (s : SV) (l : List Int) : Prop where
  at_ : BytesAt W s.v l
  len : s.n = l.length
  rng : ∀ x ∈ l, 0 ≤ x ∧ x ≤ 255
abbrev tsBytes : TS := .slice 1 (.int .u8)
theorem u8_rng {n : Int} (h : (Lit.int .u8 n).wf = true) : 0 ≤ n ∧ n ≤ 255 := by simpa [Lit.wf, IntKind.min, IntKind.max, IntKind.signed, IntKind.bits] using h
theorem u16_rng {n : Int} (h : (Lit.int .u16 n).wf = true) : 0 ≤ n ∧ n ≤ 65535 := by simpa [Lit.wf, IntKind.min, IntKind.max, IntKind.signed, IntKind.bits] using h
theorem u32_rng {n : Int} (h : (Lit.int .u32 n).wf = true) : 0 ≤ n ∧ n ≤ 4294967295 := by simpa [Lit.wf, IntKind.min, IntKind.max, IntKind.signed, IntKind.bits] using h
theorem i64_rng {n : Int} (h : (Lit.int .i64 n).wf = true) : -9223372036854775808 ≤ n ∧ n ≤ 9223372036854775807 := by simpa [Lit.wf, IntKind.min, IntKind.max, IntKind.signed, IntKind.bits] using h
theorem rd_bytes {cs : List Value} (h : Rd W tsBytes cs) : ∃ s l, cs = [SV.v s] ∧ BW W s l := by
  obtain ⟨s, l, h1, h2, h3, h4, _⟩ := rd_slice (α := Int) (encA := fun x => [Value.int .u8 x]) (p := fun x => 0 ≤ x ∧ x ≤ 255) (fun cs hr _ => by obtain ⟨n, rfl, hw⟩ := hr; exact ⟨n, rfl, u8_rng hw⟩) h (by omega)
  refine ⟨s, l, h1, ?_, h2, h4⟩
  rw [flat_one] at h3
  exact h3
/-- A slice that lies in memory and has something in it. -/
theorem slAt_some {s : SV} {m sz : Nat} {xs : List Value} (h : SlAt W s.v m sz xs) (hm : 0 < m) : ∃ b off, s.a = some ⟨b, off, none⟩ ∧ ∀ j u, xs[j]? = some u → W.cell? ⟨b, off + j, none⟩ = some u := by
  obtain ⟨_, ao, c, h1, _, _, h4, h5⟩ := h
  simp only [SV.v, Value.slice.injEq] at h1
  obtain ⟨rfl, _, rfl⟩ := h1
  cases ha : s.a with
  | none => have := (h4 ha).1; omega
  | some a =>
    obtain ⟨g1, _, g3⟩ := h5 a ha hm
    exact ⟨a.block, a.off, by rw [← g1], g3⟩
theorem slAt_cap {s : SV} {m sz : Nat} {xs : List Value} (h : SlAt W s.v m sz xs) : s.n = m ∧ s.n ≤ s.c ∧ s.c ≤ maxLen := by
  obtain ⟨_, ao, c, h1, h2, h3, _⟩ := h
  simp only [SV.v, Value.slice.injEq] at h1
  obtain ⟨_, rfl, rfl⟩ := h1
  exact ⟨rfl, h2, h3⟩
theorem BytesAt.take {s : SV} {l : List Int} (h : BytesAt W s.v l) (k : Nat) (hk : k ≤ l.length) : BytesAt W (SV.v ⟨s.a, k, s.c⟩) (l.take k) := by
  obtain ⟨_, ao, c, h1, h2, h3, h4, h5⟩ := h
  simp only [SV.v, Value.slice.injEq] at h1
  obtain ⟨rfl, _, rfl⟩ := h1
  have hl : (l.take k).length = k := by rw [List.length_take]; omega
  unfold BytesAt
  rw [hl]
  refine ⟨by rw [bcells_length, hl], s.a, s.c, rfl, by omega, h3, fun e => ?_, fun a ha h0 => ?_⟩
  · have := h4 e; omega
  · obtain ⟨g1, g2, g3⟩ := h5 a ha (by omega)
    refine ⟨g1, g2, fun j u hu => g3 j u ?_⟩
    have hj : j < k := by have := (List.getElem?_eq_some_iff.1 hu).1; rwa [bcells_length, hl, Nat.mul_one] at this
    unfold bcells at hu ⊢
    rw [List.map_take, List.getElem?_take, if_pos hj] at hu
    exact hu
theorem BW.take {s : SV} {l : List Int} (h : BW W s l) (k : Nat) (hk : k ≤ l.length) : BW W ⟨s.a, k, s.c⟩ (l.take k) :=
  ⟨h.at_.take k hk, by simp only [List.length_take]; omega, fun x hx => h.rng x (List.mem_of_mem_take hx)⟩
theorem BW.old {s : SV} {l : List Int} (h : BW W s l) {Γ : List Assn} {w : World} (hs : Sat w (old W :: Γ)) : BytesAt w s.v l := (HasOld.head (Γ := Γ) (W := W)).slAt hs h.at_
/-- A row of bytes in memory. -/
structure BR where
  v : SV
  l : List Int
instance : Inhabited BR := ⟨⟨SV.nil, []⟩⟩
theorem rd_rows {cs : List Value} (h : Rd W (.slice 1 tsBytes) cs) : ∃ (s : SV) (rs : List BR), cs = [s.v] ∧ s.n = rs.length ∧ SlAt W s.v rs.length 1 (rs.flatMap fun r => [r.v.v]) ∧ ∀ r ∈ rs, BW W r.v r.l := by
  obtain ⟨s, rs, h1, h2, h3, h4, _⟩ := rd_slice (α := BR) (encA := fun r => [r.v.v]) (p := fun r => BW W r.v r.l) (fun cs hr _ => by obtain ⟨s, l, h1, h2⟩ := rd_bytes hr; exact ⟨⟨s, l⟩, h1, h2⟩) h (by omega)
  exact ⟨s, rs, h1, h2, h3, h4⟩
theorem rows_get {rs : List BR} {k : Nat} {r : BR} (h : rs[k]? = some r) : (rs.flatMap fun r => [r.v.v])[k * 1]? = some r.v.v := flat_get (enc := fun r : BR => [r.v.v]) (sz := 1) (k := 0) (fun _ => rfl) h rfl
end
end Go.Proofs.YtbhnbnecaejjiaaDoor
