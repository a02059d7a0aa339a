/- Ranging over a function: rules in the states of XSep, at the wide fence, for bodies that go on every time. Of no program. -/
import Derived.Test.YtbhnbnecaejjiaaDoorRd
import Derived.Test.YtbhnbnecaejjiaaDoorMap
import Derived.RangeFuncIn
import Derived.RangeFuncRecord
import Derived.RangeFuncLeaves
import Derived.RangeFuncSeq
import Derived.OwnWalkIn
namespace Go.Proofs.YtbhnbnecaejjiaaDoor
open Go.RowKit
def isDefer : Op → Bool
  | .defer _ => true
  | _ => false
theorem not_defer {op : Op} (h : isDefer op = false) : ∀ c, op ≠ .defer c := fun c e => by rw [e] at h; cases h
theorem rows_in {P : Program} {m : Nat} {ro : Option Nat} {row : String} {args : Array Value} {w : World} {R : Value → World → Prop} (h : Rows P row args w R) : RowsIn { Fence.wide with round := ro } m P row args w R :=
  fun c cs _ => let ⟨v, w', r, s⟩ := h c cs; ⟨v, w', r, (stepsIn_wide.2 s : StepsIn (Machine.fenced P Fence.wide) P _ _)⟩
/-- What is done in a function's own frame is done in a round's. -/
theorem oper_in {P : Program} {m : Nat} {ro : Option Nat} {o : Oper} {a : Act} {w : World} {next : Act → World → Prop} {Q : Exit → Act → World → Prop} (hd : isDefer o.op = false)
    (h : o.wp P a w next Q) : o.wpIn { Fence.wide with round := ro } m P a w next Q := by
  unfold Oper.wpIn
  refine ⟨fun _ _ => trivial, ?_⟩
  rw [Oper.semAt_plain _ _ _ (not_defer hd)]
  unfold Oper.wp at h
  cases hr : (execOp a.eval o).run P w with
  | ok nx w' =>
    rw [hr] at h
    cases nx with
    | enter f args => exact ⟨fun hd => by simp [Fence.wide] at hd, (callsIn_wide.2 h : CallsIn Fence.wide (m - 1) P f args w' _)⟩
    | row row args => exact ⟨fun hd => by simp [Fence.wide] at hd, rows_in h⟩
    | round => exact h.elim
    | _ => exact h
  | halt x w' => rw [hr] at h; cases x <;> exact h
/-- Operations, one behind the other, in whatever frame. -/
def wpLI (F : Fence) (m : Nat) (P : Program) (Q : Exit → Act → World → Prop) : List Oper → Act → World → Prop
  | [], a, w => Q .normal a w
  | o :: rest, a, w => o.wpIn F m P a w (wpLI F m P Q rest) Q
theorem Oper.wpIn_mono' {F : Fence} {m : Nat} {P : Program} {o : Oper} {a : Act} {w : World} {k k' : Act → World → Prop} {Q : Exit → Act → World → Prop} (hk : ∀ a w, k a w → k' a w) (h : o.wpIn F m P a w k Q) : o.wpIn F m P a w k' Q := by
  obtain ⟨h1, h2⟩ := h
  refine ⟨h1, ?_⟩
  cases hr : (o.semAt F.round a.eval).run P w with
  | ok nx w' =>
    rw [hr] at h2
    cases nx with
    | value v => exact hk _ _ h2
    | skip => exact hk _ _ h2
    | defer d => exact hk _ _ h2
    | enter f args =>
      refine ⟨h2.1, h2.2.1, fun cs hc => ?_⟩
      obtain ⟨e, w2, fr, r, s, x⟩ := h2.2.2 cs hc
      refine ⟨e, w2, fr, ?_, s, x⟩
      cases e <;> first | exact hk _ _ r | exact r
    | row row args => exact ⟨h2.1, h2.2.mono fun v w2 r => hk _ _ r⟩
    | round l f tmps assign body =>
      refine ⟨h2.1, h2.2.mono fun e w2 r => ?_⟩
      cases e <;> first | exact hk _ _ r | exact r
    | _ => exact h2
  | halt x w' => rw [hr] at h2; cases x <;> exact h2
theorem wpLI_sound {F : Fence} {m : Nat} {P : Program} {Q : Exit → Act → World → Prop} {ops : Array Oper} : ∀ (l : List Oper), (l.all fun o => o.guard.isNone) = true → ∀ a w, wpLI F m P Q l a w → wpListIn F m P ops Q l a w := by
  intro l
  induction l with
  | nil => intro _ a w h; exact h
  | cons o l ih =>
    intro hg a w h
    simp only [List.all_cons, Bool.and_eq_true, Option.isNone_iff_eq_none] at hg
    unfold wpListIn
    rw [if_pos (by simp [Region.wanted, hg.1])]
    exact Oper.wpIn_mono' (ih hg.2) h
/-- A record of a loop; the block for what its rounds defer. -/
def loopA (l : Nat) (r : Loop) : Assn := fun h => h l = some (.loop r)
def defA (D : Nat) : Assn := fun h => h D = some (.deferred (some []))
theorem Sat.isLoop {w : World} {l : Nat} {r : Loop} {Γ : List Assn} (h : Sat w (loopA l r :: Γ)) : w.heap[l]? = some (.loop r) := by
  obtain ⟨x, le, p⟩ := h.head
  exact le l _ p
theorem Sat.isDef {w : World} {D : Nat} {Γ : List Assn} (h : Sat w (defA D :: Γ)) : w.heap[D]? = some (.deferred (some [])) := by
  obtain ⟨x, le, p⟩ := h.head
  exact le D _ p
theorem Sat.putLoop {w : World} {l : Nat} {r : Loop} {Γ : List Assn} (h : Sat w (loopA l r :: Γ)) (r' : Loop) : Sat (w.putObj l (.loop r')) (loopA l r' :: Γ) :=
  Sat.setObj h (.loop r') (fun _ p => ⟨_, p⟩) (HL.one_self _ _)
theorem Sat.newObj {w : World} {Γ : List Assn} (h : Sat w Γ) (o : Obj) (A : Nat → Assn) (hA : ∀ b, A b (HL.one b o)) : Sat (w.alloc o) (A w.heap.size :: Γ) := by
  have h0 : Sat w ((fun _ => True : Assn) :: Γ) := by
    obtain ⟨y, l, s⟩ := h
    exact ⟨y, l, HL.emp, y, HL.emp_disj _, HL.emp_le _, HL.le.refl _, trivial, s⟩
  refine h0.upd fun y _ _ => ⟨HL.one w.heap.size o, HL.one_le (hx_new rfl), hA _, fun c _ hc => ?_⟩
  have hlt : c < w.heap.size := by
    rcases Nat.lt_or_ge c w.heap.size with h | h
    · exact h
    · simp [Array.getElem?_eq_none h] at hc
  exact ⟨HL.one_none (by omega), Below.heap_alloc _ _ _ hlt⟩
/-- An iterator's contract: what it may hand out behind what came (G), what has come in all (E); yield answers true. -/
def SeqS {α : Type} (P : Program) (gf : FuncId) (fs cs : List Value) (enc : α → Value) (G : List α → α → Prop) (E : List α → Prop) (pre : List Assn) : Prop :=
  ∀ (l : Nat) (w0 : WM false) (J : List α → List Assn),
    (∀ (done : List α) (x : α) (Γ : List Assn) (w : World), G done x → Sat w (J done ++ Γ) → Ext w0 w → YieldAt Fence.wide 0 P l #[enc x] w fun e w' => e = .returned (.bool true) ∧ Sat w' (J (done ++ [x]) ++ Γ) ∧ Ext w0 w') →
    ∀ (Γ : List Assn) (w : World), Sat w (pre ++ (J [] ++ Γ)) → Ext w0 w →
      CallsIn Fence.wide 0 P gf (fs.toArray ++ #[.func (.yield l) #[] #[]] ++ cs.toArray) w fun e w' => (∃ v, e = .returned v) ∧ ∃ xs, E xs ∧ Sat w' (pre ++ (J xs ++ Γ)) ∧ Ext w0 w'
/-- for x := range g { body } -/
theorem rangeS {α : Type} {P : Program} {g : Operand} {p : Tmp} {assign body : Code} {Q : Exit → Act → World → Prop} {a : Act} {w : World} {w0 : WM false} {gf : FuncId} {fs cs : List Value} {enc : α → Value} {G : List α → α → Prop} {E : List α → Prop} {pre : List Assn}
    (hg : a.eval g = .func (.func gf) fs.toArray cs.toArray) (he : enterT P gf = true) (hseq : SeqS P gf fs cs enc G E pre) (I : List α → List Assn) {Γ : List Assn} (hs : Sat w (pre ++ (I [] ++ Γ))) (hx : Ext w0 w)
    (a₁ : α → Act) (hassign : ∀ (l : Nat) (x : α) (W : World) (K : Act → World → Prop), K (a₁ x) W → assign.wpIn (Fence.wide.inRound l) 0 P (Exit.then K (fun _ _ _ => False)) { tmps := a.tmps.setIfInBounds p (enc x), defers := [] } W)
    (hbody : ∀ (l : Nat) (done : List α) (x : α) (Θ : List Assn) (W : World), G done x → Sat W (I done ++ Θ) → Ext w0 W →
      body.wpIn (Fence.wide.inRound l) 0 P (fun e _ W' => e = .normal ∧ Sat W' (I (done ++ [x]) ++ Θ) ∧ Ext w0 W') (a₁ x) W)
    (hdone : ∀ (D : Nat) (xs : List α) (W : World), E xs → Sat W (defA D :: (pre ++ (I xs ++ Γ))) → Ext w0 W → Q .normal { a with defers := { target := .collected D, args := #[] } :: a.defers } W) :
    (Code.rangeFunc g #[p] assign body).wpIn Fence.wide 0 P Q a w := by
  refine wpIn_rangeFunc fun fn _ => ?_
  obtain ⟨rec, hrec⟩ : ∃ rec : LoopState → Loop, rec = fun st => { state := st, pending := none, fn, tmps := a.tmps, params := #[p], assign, body, defers := w.heap.size } := ⟨_, rfl⟩
  obtain ⟨W1, hW1⟩ : ∃ W1, (w.alloc (.deferred (some []))).alloc (.loop (rec .ready)) = W1 := ⟨_, rfl⟩
  have hs1 : Sat W1 (loopA (w.heap.size + 1) (rec .ready) :: defA w.heap.size :: (pre ++ (I [] ++ Γ))) := by
    have h1 := hs.newObj (.deferred (some [])) defA fun b => HL.one_self _ _
    have h2 := h1.newObj (.loop (rec .ready)) (fun b => loopA b (rec .ready)) fun b => HL.one_self _ _
    rw [World.size_alloc, hW1] at h2
    exact h2
  have hx1 : Ext w0 W1 := by rw [← hW1]; exact (hx.alloc _).alloc _
  refine ⟨w.heap.size + 1, [{ target := .collected w.heap.size, args := #[] }], W1, { target := .fn (.func gf) cs.toArray, args := fs.toArray ++ #[.func (.yield (w.heap.size + 1)) #[] #[]] }, W1, gf,
    fs.toArray ++ #[.func (.yield (w.heap.size + 1)) #[] #[]] ++ cs.toArray, W1, ?_, ?_, fun _ _ => trivial, ?_, fun h => by simp [Fence.wide] at h, ?_⟩
  · rw [← hW1, hrec]; exact run_enterLoop_outer _ _ _ _ _
  · simp only [resolve, hg]
    simp [go_sem]
  · have hcf : ∀ args w, (callFunc gf args).run P w = .ok (.enter gf args) w := fun args w => by
      unfold enterT at he
      split at he
      · rename_i f hf
        simp only [Bool.and_eq_true, bne_iff_ne, ne_eq] at he
        obtain ⟨h1, h2⟩ := he
        have h2' : ¬ f.body = none := by cases hb : f.body <;> simp [hb] at h2 ⊢
        simp [callFunc, hf, h1, h2']
      · cases he
    simp [invoke, go_sem, hcf]
  · have hent : ∀ (st : LoopState) (done : List α), Ent (loopA (w.heap.size + 1) (rec st) :: defA w.heap.size :: (pre ++ (I done ++ Γ))) (pre ++ ((loopA (w.heap.size + 1) (rec st) :: I done) ++ (defA w.heap.size :: Γ))) := fun st done =>
      ((Ent.cons _ (Ent.cons _ (Ent.pack pre _))).trans ((Ent.cons _ (Ent.swap _ _ _)).trans (Ent.swap _ _ _))).trans ((Ent.cons (stars pre) ((Ent.cons _ ((Ent.cons _ (Ent.pack (I done) Γ)).trans ((Ent.swap _ _ _).trans (Ent.unpack (I done) _)))))).trans (Ent.unpack pre _))
    have hback : ∀ (st : LoopState) (done : List α), Ent (pre ++ ((loopA (w.heap.size + 1) (rec st) :: I done) ++ (defA w.heap.size :: Γ))) (loopA (w.heap.size + 1) (rec st) :: defA w.heap.size :: (pre ++ (I done ++ Γ))) := fun st done =>
      (Ent.pack pre _).trans ((Ent.cons _ (Ent.cons _ ((Ent.pack (I done) _).trans ((Ent.swap _ _ _).trans (Ent.cons _ (Ent.unpack (I done) Γ)))))).trans ((Ent.swap _ _ _).trans (Ent.cons _ ((Ent.swap _ _ _).trans (Ent.cons _ (Ent.unpack pre _))))))
    have hcall := hseq (w.heap.size + 1) w0 (fun done => loopA (w.heap.size + 1) (rec .ready) :: I done) ?_ (defA w.heap.size :: Γ) W1 (hs1.ent (hent _ _)) hx1
    · obtain ⟨hc1, hc2⟩ := hcall
      refine ⟨trivial, fun fr hr => ?_⟩
      obtain ⟨e, w', f', ⟨⟨v, rfl⟩, xs, hE, hs', hx'⟩, st, rest⟩ := hc2 fr hr
      refine ⟨_, w', f', ?_, st, rest⟩
      have hs2 := hs'.ent (hback _ _)
      have hl2 := hs2.isLoop
      have hend := run_endLoop (P := P) hl2 (by rw [hrec]; simp)
      have hp : (rec .ready).pending = none := by rw [hrec]
      obtain ⟨W2, hW2⟩ : ∃ W2, W2 = w'.putObj (w.heap.size + 1) (.loop { rec .ready with state := .exhausted }) := ⟨_, rfl⟩
      rw [← hW2, hp] at hend
      refine ⟨none, W2, hend, ?_⟩
      rw [hW2]
      refine hdone w.heap.size xs _ hE ?_ ?_
      · have := hs2.putLoop ({ rec .ready with state := .exhausted })
        exact (this.ent (Ent.drop _ _))
      · exact hx'.setObj _ _
    · intro done x Θ W hxs hsat hext
      have hl := (show Sat W (loopA (w.heap.size + 1) (rec .ready) :: (I done ++ Θ)) from hsat).isLoop
      have hy : (Instr.yield (w.heap.size + 1) #[enc x]).run P W = .ok (.round (w.heap.size + 1) fn (a.tmps.setIfInBounds p (enc x)) assign body) W := by
        have := run_yield (P := P) (args := #[enc x]) hl (by rw [hrec]; rfl)
        rw [hrec] at this
        simpa using this
      refine ⟨fn, _, assign, body, hy, roundIn_of_wpIn (F := Fence.wide) trivial ?_⟩
      have hsB := (show Sat W (loopA (w.heap.size + 1) (rec .ready) :: (I done ++ Θ)) from hsat).putLoop { rec .ready with state := .busy }
      refine hassign (w.heap.size + 1) x W _ ?_
      refine ⟨_, run_beginRound hl (by rw [hrec]), ?_⟩
      have hsB' : Sat (W.putObj (w.heap.size + 1) (.loop { rec .ready with state := .busy })) (I done ++ (loopA (w.heap.size + 1) { rec .ready with state := .busy } :: Θ)) := hsB.ent (((Ent.cons _ (Ent.pack (I done) Θ)).trans (Ent.swap _ _ _)).trans (Ent.unpack (I done) _))
      refine wpIn_mono (hbody (w.heap.size + 1) done x _ _ hxs hsB' (hext.setObj _ _)) ?_
      rintro e a3 W3 ⟨rfl, hs3, hx3⟩
      have hs4 : Sat W3 (loopA (w.heap.size + 1) { rec .ready with state := .busy } :: (I (done ++ [x]) ++ Θ)) := hs3.ent ((Ent.pack (I (done ++ [x])) _).trans ((Ent.swap _ _ _).trans (Ent.cons _ (Ent.unpack (I (done ++ [x])) Θ))))
      have hl3 := hs4.isLoop
      have hend := run_endRound (P := P) none hl3
      refine ⟨_, _, hend, rfl, ?_, hx3.setObj _ _⟩
      have := hs4.putLoop ({ rec .ready with state := .ready })
      rw [hrec] at this ⊢
      exact this
/-! The states. -/
section
variable {P : Program} {n : Nat} {md : Bool} {w0 : WM md} {ρ : Env} {Γ : List Assn} {Q : Exit → Act → World → Prop} {K : Act → World → Prop} {ty : TypeId} {pos : String} {af : Array Edge} {gd : Option (Nat × Bool)} {d : Nat} {ds : Option Tmp}
theorem S.regionR {ro : Option Nat} {id : Nat} {l : List Oper} (hg : (l.all fun o => o.guard.isNone) = true) (h : S n w0 ρ Γ (wpLI { Fence.wide with round := ro } 0 P Q l)) : S n w0 ρ Γ ((Code.region id l.toArray false).wpIn { Fence.wide with round := ro } 0 P Q) :=
  fun a w ha hs hx => wpIn_region_lit (wpLI_sound l hg a w (h a w ha hs hx))
theorem S.regionW {id : Nat} {l : List Oper} (hg : (l.all fun o => o.guard.isNone) = true) (h : S n w0 ρ Γ (wpLI { Fence.wide with round := none } 0 P Q l)) : S n w0 ρ Γ ((Code.region id l.toArray false).wp P Q) :=
  fun a w ha hs hx => wpIn_wide.1 (S.regionR (ro := none) hg h a w ha hs hx : (Code.region id l.toArray false).wpIn Fence.wide 0 P Q a w)
theorem S.opI {ro : Option Nat} {o : Oper} {rest : List Oper} (hd : isDefer o.op = false) (h : S n w0 ρ Γ (Ow P Q o (wpLI { Fence.wide with round := ro } 0 P Q rest))) : S n w0 ρ Γ (wpLI { Fence.wide with round := ro } 0 P Q (o :: rest)) :=
  fun a w ha hs hx => oper_in hd (h a w ha hs hx)
theorem S.nilI {F : Fence} (h : S n w0 ρ Γ (Q .normal)) : S n w0 ρ Γ (wpLI F 0 P Q []) := h
/-- yield(u) -/
theorem S.yieldI {x y : Operand} {ats : Array TypeId} {l : Nat} {u : Value} {rest : List Oper} {Γ' : List Assn} {w0 : WM false} (hx : ev ρ x = some (.func (.yield l) #[] #[])) (hy : ev ρ y = some u)
    (hY : ∀ w, Sat w Γ → Ext w0 w → YieldAt Fence.wide 0 P l #[u] w fun e w' => e = .returned (.bool true) ∧ Sat w' Γ' ∧ Ext w0 w') (hn : Nat.blt d n = true)
    (k : S n w0 ((d, .bool true) :: ρ) Γ' (wpLI { Fence.wide with round := none } 0 P Q rest)) : S n w0 ρ Γ (wpLI { Fence.wide with round := none } 0 P Q (⟨some d, .call { callee := .value x, args := #[y], argTypes := ats }, ty, pos, af, gd⟩ :: rest)) := by
  intro a w ha hs hx'
  obtain ⟨fn, tmps, assign, body, hy1, hR⟩ := hY w hs hx'
  refine ⟨fun _ _ => trivial, ?_⟩
  rw [Oper.semAt_plain _ _ _ (not_defer rfl)]
  have hr : (execOp a.eval ⟨some d, .call { callee := .value x, args := #[y], argTypes := ats }, ty, pos, af, gd⟩).run P w = .ok (.round l fn tmps assign body) w := by
    simp [execOp, resolve, ha.ev hx, ha.ev hy, Deferred.ofValue, invoke, hy1]
  rw [hr]
  refine ⟨fun h => by simp [Fence.wide] at h, ?_⟩
  refine RoundIn.mono (show RoundIn Fence.wide 0 P l fn tmps assign body w _ from hR) ?_
  rintro e w' ⟨rfl, hs', hx2⟩
  exact k _ _ (ha.put hn _) hs' hx2
/-- A call, from a walk of its body at any beginning. -/
theorem calls_of_S {f : FuncId} {fn : Func} {c : Code} {l : List Value} {R : Ending → World → Prop} (hf : P.funcs[f]? = some fn) (hb : fn.body = some c) (hn : fn.ntmps = n) (hl : Nat.ble l.length n = true)
    (h : S n w0 (argEnv 0 l) Γ (c.wp P (bodyPost P fn R))) {w : World} (hs : Sat w Γ) (hx : Ext w0 w) : Calls P f l.toArray w R := by
  refine calls_of_wp hf hb (h _ w ⟨?_, rfl, fun t v hv => ?_⟩ hs hx)
  · have := Nat.le_of_ble_eq_true hl
    simp [hn]; omega
  · obtain ⟨_, h2⟩ := argEnv_get l 0 t v hv
    simp only [Nat.sub_zero] at h2
    have hlt : t < l.length := (List.getElem?_eq_some_iff.1 h2).1
    have := (List.getElem?_eq_some_iff.1 h2).2
    simp [Array.getElem?_append_left, hlt, this]
/-- A body's end, where nothing is kept. -/
theorem S.finR {fn : Func} {R : Ending → World → Prop} (hr : fn.results = #[]) (h : ∀ v w, Sat w Γ → Ext w0 w → R (.returned v) w) : S n w0 ρ Γ (bodyPost P fn R .normal) := by
  intro a w ha hs hx
  exact ⟨ha.defers, _, results_none hr _ _ _, h _ w hs hx⟩
/-! Behind a range over a function: the mark. -/
def withD (ds : List Deferred) (φ : Act → World → Prop) : Act → World → Prop := fun a w => φ { a with defers := ds } w
theorem S.regionD {id : Nat} {l : List Oper} {df : List Deferred} (hg : (l.all fun o => o.guard.isNone) = true) (h : S n w0 ρ Γ (withD df (wpL P Q l))) : S n w0 ρ Γ (withD df ((Code.region id l.toArray false).wp P Q)) :=
  fun a w ha hs hx => wp_region_lit (wpL_sound l hg _ w (h a w ha hs hx))
theorem S.qD {o : Oper} {v : Value} {rest : List Oper} {df : List Deferred} (h : Qv P n ρ Γ o v) (hd : o.dst = some d) (hn : Nat.blt d n = true) (k : S n w0 ((d, v) :: ρ) Γ (withD df (wpL P Q rest))) : S n w0 ρ Γ (withD df (wpL P Q (o :: rest))) := by
  intro a w ha hs hx
  show o.wp P { a with defers := df } w _ _
  have hr : (execOp ({ a with defers := df } : Act).eval o).run P w = .ok (.value v) w := h a w ha hs
  unfold Oper.wp
  rw [hr, Oper.upon_value, hd]
  exact k _ _ (ha.put hn v) hs hx
theorem S.nilD {df : List Deferred} (h : S n w0 ρ Γ (withD df (Q .normal))) : S n w0 ρ Γ (withD df (wpL P Q [])) := h
theorem S.seqD {x y : Code} {df : List Deferred} (h : S n w0 ρ Γ (withD df (x.wp P (Exit.then (y.wp P Q) Q)))) : S n w0 ρ Γ (withD df ((Code.seq x y).wp P Q)) := fun a w ha hs hx => wp_seq (h a w ha hs hx)
theorem S.seq1 {x y : Code} (h : S n w0 ρ Γ (x.wp P (Exit.then (y.wp P Q) Q))) : S n w0 ρ Γ ((Code.seq x y).wp P Q) := fun a w ha hs hx => wp_seq (h a w ha hs hx)
theorem S.retD {df : List Deferred} (h : S n w0 ρ Γ (withD df (Q .ret))) : S n w0 ρ Γ (withD df (Code.ret.wp P Q)) := fun a w ha hs hx => wp_ret (h a w ha hs hx)
/-- The end of a body that held one range over a function. -/
def FinM (P : Program) (fn : Func) (post : List Assn → Value → List Assn → Prop) (Γ : List Assn) (w0 : WM false) : Exit → Act → World → Prop :=
  bodyPostM Fence.wide 0 P fn fun e w' => ∃ v Θ, e = .returned v ∧ post Γ v Θ ∧ Sat w' Θ ∧ Ext w0 w'
theorem Spec.of_bodyM {f : FuncId} {fn : Func} {c : Code} {l : List Value} {pre : List Assn} {post : List Assn → Value → List Assn → Prop} (hf : P.funcs[f]? = some fn) (hb : fn.body = some c) (hn : fn.ntmps = n) (hl : Nat.ble l.length n = true)
    (h : ∀ (w0 : WM false) Γ, S n w0 (argEnv 0 l) (pre ++ Γ) (c.wp P (FinM P fn post Γ w0))) : Spec P f l pre post := by
  intro Γ w hs
  have h1 : c.wp P (FinM P fn post Γ ⟨w⟩) { tmps := l.toArray ++ Array.replicate (fn.ntmps - l.toArray.size) undef, defers := [] } w := by
    refine h ⟨w⟩ Γ _ w ⟨?_, rfl, fun t v hv => ?_⟩ hs (Ext.refl _)
    · have := Nat.le_of_ble_eq_true hl
      simp [hn]; omega
    · obtain ⟨_, h2⟩ := argEnv_get l 0 t v hv
      simp only [Nat.sub_zero] at h2
      have hlt : t < l.length := (List.getElem?_eq_some_iff.1 h2).1
      have := (List.getElem?_eq_some_iff.1 h2).2
      simp [Array.getElem?_append_left, hlt, this]
  exact callsIn_wide.1 (callsIn_of_wp_marks (F := Fence.wide) (n := 0) hf hb trivial (wpIn_wide.2 h1) rfl)
theorem S.finM {fn : Func} {post : List Assn → Value → List Assn → Prop} {Γf Θ : List Assn} {rs : List ResultVar} {vs : List Value} {D : Nat} {w0 : WM false} (hr : fn.results = rs.toArray) (hl : ResL P ρ Θ rs vs) (hp : post Γf (resV vs) Θ) (he : Ent Γ (defA D :: Θ)) :
    S n w0 ρ Γ (withD [{ target := .collected D, args := #[] }] (FinM P fn post Γf w0 .ret)) := by
  intro a w ha hs hx
  have hs1 := hs.ent he
  have hk := hs1.isDef
  refine ⟨(by simp), .inl ⟨D, _, rfl, run_takeDeferred hk, ?_⟩⟩
  have hs2 : Sat (w.putObj D (.deferred none)) Θ := by
    have : Sat (w.putObj D (.deferred none)) ((fun h => h D = some (.deferred none)) :: Θ) := Sat.setObj hs1 (.deferred none) (fun _ p => ⟨_, p⟩) (HL.one_self _ _)
    exact this.ent (Ent.drop _ _)
  exact ⟨_, (run_results hr hl ha hs2 : (results fn a.tmps).run P _ = _), _, Θ, rfl, hp, hs2, hx.setObj _ _⟩
/-- for x := range g { body } -/
theorem S.rangeF {α : Type} {g : Operand} {p q : Nat} {id : Nat} {body : Code} {w0 : WM false} {gf : FuncId} {fs cs : List Value} {enc : α → Value} {G : List α → α → Prop} {E : List α → Prop} {pre Γ' : List Assn} {t1 : TypeId} {s1 : String} {af1 : Array Edge}
    (hg : ev ρ g = some (.func (.func gf) fs.toArray cs.toArray)) (he : enterT P gf = true) (hseq : SeqS P gf fs cs enc G E pre) (I : List α → List Assn) (hI : Ent Γ (pre ++ (I [] ++ Γ'))) (hp : Nat.blt p n = true) (hq : Nat.blt q n = true)
    (hbody : ∀ (l : Nat) (done : List α) (x : α) (Θ : List Assn), G done x →
      S n w0 ((q, enc x) :: (p, enc x) :: ρ) (I done ++ Θ) (body.wpIn { Fence.wide with round := some l } 0 P fun e _ W' => e = .normal ∧ Sat W' (I (done ++ [x]) ++ Θ) ∧ Ext w0 W'))
    (hdone : ∀ D xs, E xs → S n w0 ρ (defA D :: (pre ++ (I xs ++ Γ'))) (withD [{ target := .collected D, args := #[] }] (Q .normal))) :
    S n w0 ρ Γ ((Code.rangeFunc g #[p] (.region id #[⟨some q, .assign (.tmp p), t1, s1, af1, none⟩] false) body).wp P Q) := by
  intro a w ha hs hx
  refine (wpIn_wide (n := 0)).1 (rangeS (ha.ev hg) he hseq I (hs.ent hI) hx (fun x => { tmps := (a.tmps.setIfInBounds p (enc x)).setIfInBounds q (enc x), defers := [] }) ?_ ?_ ?_)
  · intro l x W K hK
    have hps : p < a.tmps.size := by rw [ha.size]; have := hp; simp [Nat.blt] at this; omega
    refine wpIn_region_lit (l := [⟨some q, .assign (.tmp p), t1, s1, af1, none⟩]) (wpLI_sound _ rfl _ _ (oper_in (ro := some l) rfl ?_))
    unfold Oper.wp
    have hv : ({ tmps := a.tmps.setIfInBounds p (enc x), defers := [] } : Act).eval (.tmp p) = enc x := by simp [Act.eval, hps]
    have hr : (execOp ({ tmps := a.tmps.setIfInBounds p (enc x), defers := [] } : Act).eval ⟨some q, .assign (.tmp p), t1, s1, af1, none⟩).run P W = .ok (.value (enc x)) W := by
      simp only [execOp, hv, Sem.run_pure]
    rw [hr, Oper.upon_value]
    exact hK
  · intro l done x Θ W hxs hsW hxW
    have ha2 : EnvOk n ((q, enc x) :: (p, enc x) :: ρ) { tmps := (a.tmps.setIfInBounds p (enc x)).setIfInBounds q (enc x), defers := [] } := by
      have h1 := (ha.put hp (enc x)).put hq (enc x)
      exact ⟨h1.size, rfl, h1.get⟩
    exact hbody l done x Θ hxs _ W ha2 hsW hxW
  · intro D xs W hE hsW hxW
    have := hdone D xs hE a W ha hsW hxW
    rw [ha.defers]
    exact this
theorem S.blockR {F : Fence} {id : Nat} {c : Code} (h : S n w0 ρ Γ (c.wpIn F 0 P (Exit.inBlock id Q))) : S n w0 ρ Γ ((Code.block id c).wpIn F 0 P Q) := fun a w ha hs hx => wpIn_block (h a w ha hs hx)
theorem S.endR {Δ : List Assn} (he : Ent Γ Δ) : S n w0 ρ Γ (fun _ W' => Exit.normal = Exit.normal ∧ Sat W' Δ ∧ Ext w0 W') := fun _ _ _ hs hx => ⟨rfl, hs.ent he, hx⟩
/-- A variable in a block of its own, that holds an owned slice. -/
def outA (b : Nat) (T E : TypeId) (done : List Value) : Assn := fun h => ∃ sv : SV, sv.n = done.length ∧ stars [blk b T #[sv.v], own sv E 1 done] h
theorem Ent.outA {b : Nat} {T E : TypeId} {done : List Value} (sv : SV) (hn : sv.n = done.length) (Γ : List Assn) : Ent (blk b T #[sv.v] :: own sv E 1 done :: Γ) (outA b T E done :: Γ) :=
  (Ent.pack [blk b T #[sv.v], own sv E 1 done] Γ).trans (Ent.mono1 Γ fun _ p => ⟨sv, hn, p⟩)
theorem S.outA {φ : Act → World → Prop} {b : Nat} {T E : TypeId} {done : List Value} {Δ : List Assn} [p : Pick (outA b T E done) Γ Δ] (k : ∀ sv : SV, sv.n = done.length → S n w0 ρ (blk b T #[sv.v] :: own sv E 1 done :: Δ) φ) : S n w0 ρ Γ φ := by
  intro a w ha hs hx
  obtain ⟨h0, l, h1, h2, d, l1, l2, ⟨sv, hn, q⟩, s⟩ := hs.ent p.ent
  exact k sv hn a w ha ⟨h0, l, (Ent.unpack [blk b T #[sv.v], own sv E 1 done] Δ) _ ⟨h1, h2, d, l1, l2, q, s⟩⟩ hx
end
end Go.Proofs.YtbhnbnecaejjiaaDoor
