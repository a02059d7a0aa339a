/- More rules in the states of XSep: ranges of integers, slice literals, memory that was there. Of no program. -/
import Derived.Test.YtbhnbnecaejjiaaDoorDraw
namespace Go.Proofs.YtbhnbnecaejjiaaDoor
open Go.RowKit
theorem inI64 {x : Int} (h1 : -9223372036854775808 ≤ x) (h2 : x ≤ 9223372036854775807) : IntKind.i64.min ≤ x ∧ x ≤ IntKind.i64.max := by
  rw [show IntKind.i64.min = -9223372036854775808 by decide, show IntKind.i64.max = 9223372036854775807 by decide]; exact ⟨h1, h2⟩
theorem inI32 {x : Int} (h1 : -2147483648 ≤ x) (h2 : x ≤ 2147483647) : IntKind.i32.min ≤ x ∧ x ≤ IntKind.i32.max := by
  rw [show IntKind.i32.min = -2147483648 by decide, show IntKind.i32.max = 2147483647 by decide]; exact ⟨h1, h2⟩
theorem inU64 {x : Int} (h1 : 0 ≤ x) (h2 : x ≤ 18446744073709551615) : IntKind.u64.min ≤ x ∧ x ≤ IntKind.u64.max := by
  rw [show IntKind.u64.min = 0 by decide, show IntKind.u64.max = 18446744073709551615 by decide]; exact ⟨h1, h2⟩
theorem inU32 {x : Int} (h1 : 0 ≤ x) (h2 : x ≤ 4294967295) : IntKind.u32.min ≤ x ∧ x ≤ IntKind.u32.max := by
  rw [show IntKind.u32.min = 0 by decide, show IntKind.u32.max = 4294967295 by decide]; exact ⟨h1, h2⟩
theorem inU16 {x : Int} (h1 : 0 ≤ x) (h2 : x ≤ 65535) : IntKind.u16.min ≤ x ∧ x ≤ IntKind.u16.max := by
  rw [show IntKind.u16.min = 0 by decide, show IntKind.u16.max = 65535 by decide]; exact ⟨h1, h2⟩
theorem inU8 {x : Int} (h1 : 0 ≤ x) (h2 : x ≤ 255) : IntKind.u8.min ≤ x ∧ x ≤ IntKind.u8.max := by
  rw [show IntKind.u8.min = 0 by decide, show IntKind.u8.max = 255 by decide]; exact ⟨h1, h2⟩
section
variable {P : Program} {n : Nat} {md : Bool} {w0 : WM md} {ρ : Env} {Γ : List Assn} {Q : Exit → Act → World → Prop} {K : Act → World → Prop} {ty : TypeId} {pos : String} {af : Array Edge} {gd : Option (Nat × Bool)} {d : Nat} {ds : Option Tmp}
/-- What a literal holds where nothing is written. -/
def zeroRow (zs : List Value) : Nat → List Value
  | 0 => []
  | k + 1 => zs ++ zeroRow zs k
theorem zeroRow_length (zs : List Value) (k : Nat) : (zeroRow zs k).length = k * zs.length := by
  induction k with
  | zero => simp [zeroRow]
  | succ k ih => simp [zeroRow, ih, Nat.succ_mul]; omega
theorem zeroRow_get (zs : List Value) (k : Nat) : ∀ i, i < k * zs.length → (zeroRow zs k)[i]? = zs[i % zs.length]? := by
  induction k with
  | zero => intro i h; omega
  | succ k ih =>
    intro i h
    rw [Nat.succ_mul] at h
    unfold zeroRow
    by_cases hi : i < zs.length
    · rw [List.getElem?_append_left hi, Nat.mod_eq_of_lt hi]
    · rw [List.getElem?_append_right (by omega), ih (i - zs.length) (by omega)]
      congr 1
      rw [← Nat.mod_eq_sub_mod (by omega)]
theorem zeroRow_range (zs : List Value) (hz : 0 < zs.length) (k : Nat) : (Array.range (k * zs.length)).map (fun i => zs.toArray[i % zs.toArray.size]!) = (zeroRow zs k).toArray := by
  apply Array.toList_inj.1
  apply List.ext_getElem?
  intro i
  by_cases h : i < k * zs.length
  · rw [zeroRow_get zs k i h]
    have hm : i % zs.length < zs.length := Nat.mod_lt _ hz
    simp [h, hm]
  · rw [List.getElem?_eq_none (by simp; omega), List.getElem?_eq_none (by rw [zeroRow_length]; omega)]
theorem S.buildSlice {t e sz by_ len : Nat} {xs : List (Nat × Operand)} {pvs : List (Nat × Value)} {zs : List Value} (vs : List Value) (hu : P.underlying t = some (.slice e)) (hi : infoT P e = some (zs, sz, by_)) (hsz : Nat.beq zs.length sz = true) (hpos : (Nat.blt 0 (len * sz) && Nat.ble (len * sz) 16777216) = true) (he : EvP ρ xs pvs)
    (hf : fillL (fun i => some (i * sz, sz)) (zeroRow zs len) pvs = some vs) (hn : Nat.blt d n = true) (k : ∀ b, S n w0 ((d, .slice (some ⟨b, 0, none⟩) len len) :: ρ) (blk b e vs.toArray :: Γ) K) :
    S n w0 ρ Γ (Ow P Q ⟨some d, .buildSlice t len xs.toArray, ty, pos, af, gd⟩ K) := by
  intro a w ha hs hx
  unfold infoT at hi
  split at hi
  case h_2 => cases hi
  rename_i i hi'
  split at hi
  case h_2 => cases hi
  rename_i z hz
  simp only [Option.some.injEq, Prod.mk.injEq] at hi
  obtain ⟨rfl, rfl, rfl⟩ := hi
  have hzs : z.cells.size = i.size := by simpa using Nat.eq_of_beq_eq_true hsz
  simp only [Bool.and_eq_true] at hpos
  have h1 : 0 < len * i.size := by have := hpos.1; simp [Nat.blt] at this; exact Nat.pos_of_ne_zero (by omega)
  have h2 : len * i.size ≤ 16777216 := Nat.le_of_ble_eq_true hpos.2
  have hz0 : 0 < z.cells.toList.length := by
    rw [Array.length_toList, hzs]
    exact Nat.pos_of_ne_zero fun e => by rw [e] at h1; omega
  have hm : (xs.toArray.map fun x : Nat × Operand => (x.1, a.eval x.2)).toList = pvs := by
    have := he.map ha
    simpa using this
  have hfill := fillL_fill _ pvs _ vs hf
  have hrow := zeroRow_range z.cells.toList hz0 len
  rw [Array.length_toList, hzs] at hrow
  simp only [Array.toArray_toList] at hrow
  rw [← hrow] at hfill
  have hr := run_buildSlice (P := P) w t e len (xs.toArray.map fun x : Nat × Operand => (x.1, a.eval x.2)) vs.toArray i z hu hi' hz (by omega) (by omega) (by rw [hm, hzs]; exact hfill)
  unfold Ow Oper.wp
  have hr' : (execOp a.eval ⟨some d, .buildSlice t len xs.toArray, ty, pos, af, gd⟩).run P w = .ok (.value (.slice (some ⟨w.heap.size, 0, none⟩) len len)) (w.alloc (.cells vs.toArray e)) := by
    simp only [execOp, Sem.run_bind, hr, Result.andThen_ok, Sem.run_pure]
  rw [hr', Oper.upon_value]
  exact k w.heap.size _ _ (ha.put hn _) (hs.alloc _ _) (hx.alloc _)
/-- A slice over a whole block reads as its cells. -/
theorem blk_slAt {b : Nat} {e : TypeId} {cs : List Value} {Δ : List Assn} {m sz : Nat} [h : HasB Γ b e cs.toArray Δ] (hl : cs.length = m * sz) (hm : m ≤ maxLen) : ∀ w, Sat w Γ → SlAt w (.slice (some ⟨b, 0, none⟩) m m) m sz cs := fun w hs =>
  SlAt.block cs.toArray cs (by simp) (h.blk hs) hl hm
/-! Memory that was there. -/
def old (W : World) : Assn := fun h => ∀ (b : Nat) (o : Obj), W.heap[b]? = some o → h b = some o
class HasOld (Γ : List Assn) (W : outParam World) : Prop where
  sat : ∀ (w : World), Sat w Γ → ∀ (b : Nat) (o : Obj), W.heap[b]? = some o → w.heap[b]? = some o
instance (priority := high) HasOld.head {W : World} : HasOld (old W :: Γ) W := ⟨fun w hs b o h => by obtain ⟨x, l, p⟩ := hs.head; exact l b o (p b o h)⟩
instance HasOld.tail {A : Assn} {W : World} [h : HasOld Γ W] : HasOld (A :: Γ) W := ⟨fun w hs => h.sat w (hs.ent (Ent.drop A Γ))⟩
theorem HasOld.cell {W : World} (h : HasOld Γ W) {w : World} (hs : Sat w Γ) {a : Addr} {v : Value} (hc : W.cell? a = some v) : w.cell? a = some v := by
  unfold World.cell? at hc ⊢
  cases hb : W.heap[a.block]? with
  | none => rw [hb] at hc; cases hc
  | some o => rw [hb] at hc; rw [h.sat w hs _ _ hb]; exact hc
theorem HasOld.slAt {W : World} (h : HasOld Γ W) {w : World} (hs : Sat w Γ) {v : Value} {m sz : Nat} {xs : List Value} (hv : SlAt W v m sz xs) : SlAt w v m sz xs := by
  obtain ⟨h0, ao, c, h1, h2, h3, h4, h5⟩ := hv
  refine ⟨h0, ao, c, h1, h2, h3, h4, fun a ha hm => ?_⟩
  obtain ⟨g1, g2, g3⟩ := h5 a ha hm
  obtain ⟨o, ho⟩ : ∃ o, W.heap[a.block]? = some o := ⟨_, Array.getElem?_eq_getElem g2⟩
  exact ⟨g1, (Array.getElem?_eq_some_iff.1 (h.sat w hs _ _ ho)).1, fun j u hu => h.cell hs (g3 j u hu)⟩
theorem q_loadW {t : TypeId} {x : Operand} {p : Addr} {W : World} {v : Value} [h : HasOld Γ W] (ht : atomT P t = true) (hx : ev ρ x = some (.pointer (some p))) (hv : W.cell? p = some v) : Qv P n ρ Γ ⟨ds, .load t x, ty, pos, af, gd⟩ v := by
  intro a w ha hs
  have hc := h.cell hs hv
  have hl : (loadVar t p).run P w = .ok v w := by
    unfold loadVar
    rw [Sem.run_bind, (run_isAgg_atom ht w).1]
    exact run_load_at hc
  simp only [execOp, ha.ev hx, Instr.loadAt, Instr.sureAddr, Sem.run_bind, Sem.run_pure, Result.andThen_ok, hl]
/-- A contract of the elder kind, of a function that only computes. -/
theorem Spec.of_calls {f : FuncId} {args : List Value} {v : Value} (h : ∀ w, Calls P f args.toArray w fun e w' => e = .returned v ∧ w' = w) : Spec P f args [] fun Γ r Θ => r = v ∧ Θ = Γ := by
  intro Γ w hs
  refine (h w).mono ?_
  rintro e w' ⟨rfl, rfl⟩
  exact ⟨v, Γ, rfl, ⟨rfl, rfl⟩, hs, Ext.refl _⟩
theorem Spec.mono {f : FuncId} {args : List Value} {pre : List Assn} {post post' : List Assn → Value → List Assn → Prop} (h : Spec P f args pre post) (hp : ∀ Γ v Θ, post Γ v Θ → post' Γ v Θ) : Spec P f args pre post' := fun Γ w hs =>
  (h Γ w hs).mono fun _ _ ⟨v, Θ, h1, h2, h3, h4⟩ => ⟨v, Θ, h1, hp _ _ _ h2, h3, h4⟩
end
/-- What a contract of the elder kind has made. -/
theorem Sat.addOwn {w w' : World} {Γ : List Assn} {e : TypeId} {sz m c : Nat} {ao : Option Addr} {xs : List Value} {g : Option Nat} (hs : Sat w Γ) (ow : Own w' e sz (.slice ao m c) m xs g)
    (hb : ∀ k, k < w.heap.size → w'.heap[k]? = w.heap[k]?) (hg : ∀ b, g = some b → w.heap.size ≤ b) : Sat w' (own ⟨ao, m, c⟩ e sz xs :: Γ) := by
  have h' : Sat w ((fun _ => True : Assn) :: Γ) := by
    obtain ⟨x, l, s⟩ := hs
    exact ⟨x, l, HL.emp, x, HL.emp_disj _, HL.emp_le _, HL.le.refl _, trivial, s⟩
  obtain ⟨hg', ow'⟩ := own.ofOwn (s := ⟨ao, m, c⟩) ow
  have hlt : ∀ b : Nat, w.heap[b]? ≠ none → b < w.heap.size := fun b hb => by
    rcases Nat.lt_or_ge b w.heap.size with h | h
    · exact h
    · simp [Array.getElem?_eq_none h] at hb
  refine h'.upd fun x _ _ => ?_
  rcases ow'.2 with ⟨h1, h2, h3⟩ | ⟨b, off, cur, h1, h2, r⟩
  · exact ⟨HL.emp, HL.emp_le _, ⟨ow'.1, .inl ⟨h1, h2, h3⟩⟩, fun b _ hw => ⟨rfl, hb b (hlt b hw)⟩⟩
  · refine ⟨HL.one b (.cells cur e), HL.one_le h2, ⟨ow'.1, .inr ⟨b, off, cur, h1, HL.one_self _ _, r⟩⟩, fun c' _ hw => ⟨HL.one_none fun e1 => ?_, hb c' (hlt c' hw)⟩⟩
    subst e1
    simp only at h1
    rw [h1] at hg'
    have := hg c' (by simpa using hg')
    have := hlt c' hw
    omega
end Go.Proofs.YtbhnbnecaejjiaaDoor
