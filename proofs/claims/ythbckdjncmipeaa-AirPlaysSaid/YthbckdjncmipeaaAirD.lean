/- Air, in the whole: what an air is, be it nil or not; contracts of its functions at any state. -/
import Derived.Test.YthbckdjncmipeaaAirC
namespace Go.Proofs.Ythbckdjncmipeaa
open Go.RowKit
structure Fl where
  id : Int
  dst : Int
  data : List Int
def fl (x : Flt) : Fl := ⟨x.id, x.dst, x.data⟩
abbrev St := Option (Int × List Fl)
/-- An air at pa: the next number, what flies. -/
def AI (T F : TypeId) (cells : Int → SV → List Value) (pa : Option Addr) : St → Assn
  | none => fun _ => pa = none
  | some (q, L) => fun h => ∃ t lv os, pa = some ⟨t, 0, none⟩ ∧ os.map fl = L ∧ lv.n = os.length ∧ stars [blk t T (cells q lv).toArray, own lv F 3 (os.flatMap fltC), alls os fltB] h
section
variable {T F : TypeId} {cells : Int → SV → List Value} {pa : Option Addr} {q : Int} {L : List Fl}
theorem Ent.closeAI {t : Nat} {lv : SV} {os : List Flt} (hL : os.map fl = L) (hn : lv.n = os.length) (Γ : List Assn) : Ent (blk t T (cells q lv).toArray :: own lv F 3 (os.flatMap fltC) :: alls os fltB :: Γ) (AI T F cells (some ⟨t, 0, none⟩) (some (q, L)) :: Γ) := fun h hs => by
  have := (stars_append (Γ := [blk t T (cells q lv).toArray, own lv F 3 (os.flatMap fltC), alls os fltB]) (Δ := Γ)).1 hs
  exact Ent.mono1 Γ (fun x hx => ⟨t, lv, os, rfl, hL, hn, hx⟩) h this
theorem Ent.closeNone (Γ : List Assn) : Ent Γ (AI T F cells none none :: Γ) := fun h hs => ⟨HL.emp, h, HL.emp_disj _, HL.emp_le _, HL.le.refl _, rfl, hs⟩
theorem Sat.openAI {w : World} {Γ : List Assn} (hs : Sat w (AI T F cells pa (some (q, L)) :: Γ)) : ∃ t lv os, pa = some ⟨t, 0, none⟩ ∧ os.map fl = L ∧ lv.n = os.length ∧ Sat w (blk t T (cells q lv).toArray :: own lv F 3 (os.flatMap fltC) :: alls os fltB :: Γ) := by
  obtain ⟨h, l, h1, h2, d, l1, l2, ⟨t, lv, os, e1, e2, e3, e4⟩, s⟩ := hs
  exact ⟨t, lv, os, e1, e2, e3, h, l, (stars_append (Γ := [blk t T (cells q lv).toArray, own lv F 3 (os.flatMap fltC), alls os fltB]) (Δ := Γ)).2 ⟨h1, h2, d, l1, l2, e4, s⟩⟩
theorem Spec.openAI {P : Program} {f : FuncId} {args : List Value} {pre : List Assn} {post : List Assn → Value → List Assn → Prop} (h : ∀ t lv os, pa = some ⟨t, 0, none⟩ → os.map fl = L → lv.n = os.length → Spec P f args (blk t T (cells q lv).toArray :: own lv F 3 (os.flatMap fltC) :: alls os fltB :: pre) post) : Spec P f args (AI T F cells pa (some (q, L)) :: pre) post := by
  intro Γ w hs
  obtain ⟨t, lv, os, e1, e2, e3, hs'⟩ := Sat.openAI hs
  exact h t lv os e1 e2 e3 Γ w hs'
theorem Spec.openNone {P : Program} {f : FuncId} {args : List Value} {pre : List Assn} {post : List Assn → Value → List Assn → Prop} (h : pa = none → Spec P f args pre post) : Spec P f args (AI T F cells pa none :: pre) post := by
  intro Γ w hs
  have e : pa = none := by obtain ⟨x, _, p⟩ := hs.head; exact p
  exact h e Γ w (hs.ent (Ent.drop _ _))
theorem S.aiSome {n : Nat} {w0 : World} {ρ : Env} {Γ Δ : List Assn} {φ : Act → World → Prop} (st : St) [p : Pick (AI T F cells pa st) Γ Δ] (hp : pa.isNone = false) (k : ∀ t lv os q L, pa = some ⟨t, 0, none⟩ → st = some (q, L) → os.map fl = L → lv.n = os.length → S n w0 ρ (blk t T (cells q lv).toArray :: own lv F 3 (os.flatMap fltC) :: alls os fltB :: Δ) φ) : S n w0 ρ Γ φ := by
  intro a w ha hs hx
  have hs1 := hs.ent p.ent
  cases st with
  | none => obtain ⟨x, _, e⟩ := hs1.head; simp only [AI] at e; rw [e] at hp; cases hp
  | some z =>
    obtain ⟨q, L⟩ := z
    obtain ⟨t, lv, os, e1, e2, e3, hs'⟩ := Sat.openAI hs1
    exact k t lv os q L e1 rfl e2 e3 a w ha hs' hx
theorem S.aiNone {n : Nat} {w0 : World} {ρ : Env} {Γ Δ : List Assn} {φ : Act → World → Prop} (st : St) [p : Pick (AI T F cells pa st) Γ Δ] (hp : pa.isNone = true) (k : pa = none → st = none → S n w0 ρ Γ φ) : S n w0 ρ Γ φ := by
  intro a w ha hs hx
  have hs1 := hs.ent p.ent
  cases st with
  | none => obtain ⟨x, _, e⟩ := hs1.head; exact k e rfl a w ha hs hx
  | some z =>
    obtain ⟨q, L⟩ := z
    obtain ⟨t, lv, os, e1, e2, e3, hs'⟩ := Sat.openAI hs1
    rw [e1] at hp; cases hp
end
/-- What is asked of a state behind m calls: n is the room. -/
def Ok (n : Int) (m : Nat) : St → Prop
  | none => True
  | some (q, L) => 1 ≤ n ∧ n ≤ 2048 ∧ 1 ≤ q ∧ q ≤ m + 1 ∧ (L.length : Int) ≤ n ∧ L.length ≤ m ∧ L.Pairwise (fun a b => a.id < b.id) ∧ ∀ f ∈ L, f.id < q ∧ Rng f.data ∧ f.data.length ≤ 40
theorem Ok.mono {n : Int} {m : Nat} {st : St} (h : Ok n m st) : Ok n (m + 1) st := by
  cases st with
  | none => trivial
  | some z => obtain ⟨q, L⟩ := z; obtain ⟨h1, h2, h3, h4, h5, h6, h7⟩ := h; exact ⟨h1, h2, h3, by omega, h5, by omega, h7⟩
def flyR (n : Int) (d : Int) (b : List Int) : St → Int × Int × St
  | none => (0, 6, none)
  | some (q, L) => if (L.length : Int) < n then (q, 0, some (q + 1, L ++ [⟨q, d, b⟩])) else (0, 8, some (q, L))
theorem flyR_ok {n : Int} {m : Nat} {st : St} (h : Ok n m st) (d : Int) {b : List Int} (hb : Rng b) (hl : b.length ≤ 40) : Ok n (m + 1) (flyR n d b st).2.2 := by
  cases st with
  | none => trivial
  | some z =>
    obtain ⟨q, L⟩ := z
    obtain ⟨h1, h2, h3, h4, h5, h6, h7, h8⟩ := h
    simp only [flyR]
    split
    · refine ⟨h1, h2, by omega, by omega, by simp; omega, by simp; omega, ?_, fun f hf => ?_⟩
      · refine List.pairwise_append.2 ⟨h7, by simp, fun a ha b hb => ?_⟩
        simp at hb; subst hb; exact (h8 a ha).1
      · rcases List.mem_append.1 hf with hf | hf
        · have := h8 f hf; exact ⟨by omega, this.2⟩
        · simp at hf; subst hf; exact ⟨by simp only; omega, hb, hl⟩
    · exact ⟨h1, h2, h3, by omega, h5, by omega, h7, h8⟩
/-- Where a number stands. -/
def idx (y : Int) : List Fl → Option Nat
  | [] => none
  | f :: L => if f.id = y then some 0 else (idx y L).map (· + 1)
theorem idx_none {y : Int} : ∀ {L : List Fl}, idx y L = none → ∀ f ∈ L, f.id ≠ y
  | [], _, _, h => by cases h
  | g :: L, h, f, hf => by
    unfold idx at h
    split at h
    · cases h
    · rename_i hne
      simp at h
      rcases List.mem_cons.1 hf with e | hf
      · subst e; exact hne
      · exact idx_none h f hf
theorem idx_some {y : Int} : ∀ {L : List Fl} {i : Nat}, idx y L = some i → ∃ f, L[i]? = some f ∧ f.id = y
  | [], _, h => by cases h
  | g :: L, i, h => by
    unfold idx at h
    split at h
    · rename_i e; cases h; exact ⟨g, rfl, e⟩
    · simp at h
      obtain ⟨j, hj, rfl⟩ := h
      obtain ⟨f, h1, h2⟩ := idx_some hj
      exact ⟨f, by simpa using h1, h2⟩
def landR (y : Int) : St → Int × List Int × Int × St
  | none => (0, [], 6, none)
  | some (q, L) => match idx y L with
    | none => (0, [], 6, some (q, L))
    | some i => match L[i]? with
      | none => (0, [], 6, some (q, L))
      | some f => (f.dst, f.data, 0, some (q, L.eraseIdx i))
theorem landR_ok {n : Int} {m : Nat} {st : St} (h : Ok n m st) (y : Int) : Ok n (m + 1) (landR y st).2.2.2 ∧ Rng (landR y st).2.1 := by
  cases st with
  | none => exact ⟨trivial, Rng.nil⟩
  | some z =>
    obtain ⟨q, L⟩ := z
    have h0 := h.mono
    obtain ⟨h1, h2, h3, h4, h5, h6, h7, h8⟩ := h
    simp only [landR]
    cases hi : idx y L with
    | none => exact ⟨h0, Rng.nil⟩
    | some i =>
      cases hf : L[i]? with
      | none => simp only [hf]; exact ⟨h0, Rng.nil⟩
      | some f =>
        simp only [hf]
        refine ⟨⟨h1, h2, h3, by omega, ?_, ?_, h7.sublist (List.eraseIdx_sublist _ _), fun g hg => h8 g (List.mem_of_mem_eraseIdx hg)⟩, (h8 f (List.mem_of_getElem? hf)).2.1⟩
        · have := List.length_eraseIdx_le L i; omega
        · have := List.length_eraseIdx_le L i; omega
def echoR (n : Int) (y : Int) : St → Int × Int × St
  | none => (0, 6, none)
  | some (q, L) => match idx y L with
    | none => (0, 6, some (q, L))
    | some i => match L[i]? with
      | none => (0, 6, some (q, L))
      | some f => flyR n f.dst f.data (some (q, L))
theorem echoR_ok {n : Int} {m : Nat} {st : St} (h : Ok n m st) (y : Int) : Ok n (m + 1) (echoR n y st).2.2 := by
  cases st with
  | none => trivial
  | some z =>
    obtain ⟨q, L⟩ := z
    have h0 := h.mono
    simp only [echoR]
    cases hi : idx y L with
    | none => exact h0
    | some i =>
      cases hf : L[i]? with
      | none => simp only [hf]; exact h0
      | some f =>
        simp only [hf]
        have h8 := h.2.2.2.2.2.2.2 f (List.mem_of_getElem? hf)
        exact flyR_ok h f.dst h8.2.1 h8.2.2
def oldR : St → Int × Bool
  | none => (0, false)
  | some (_, []) => (0, false)
  | some (_, f :: _) => (f.id, true)
def lenR : St → Nat
  | none => 0
  | some (_, L) => L.length
def atR (k : Int) : St → Int × Bool
  | none => (0, false)
  | some (_, L) => if 0 ≤ k then match L[k.toNat]? with
    | none => (0, false)
    | some f => (f.id, true) else (0, false)
theorem map_asc {os : List Flt} {L : List Fl} (h : os.map fl = L) (ha : L.Pairwise fun a b => a.id < b.id) : os.Pairwise fun a b => a.id < b.id := by
  subst h
  exact List.Pairwise.of_map fl (fun _ _ h => h) ha
theorem map_at {os : List Flt} {L : List Fl} (h : os.map fl = L) {i : Nat} {f : Fl} (hf : L[i]? = some f) : ∃ x, os[i]? = some x ∧ fl x = f := by
  subst h
  rw [List.getElem?_map] at hf
  cases hx : os[i]? with
  | none => rw [hx] at hf; cases hf
  | some x => rw [hx] at hf; simp at hf; exact ⟨x, rfl, hf⟩
theorem map_mem {os : List Flt} {L : List Fl} (h : os.map fl = L) {y : Int} (hf : ∀ f ∈ L, f.id ≠ y) : ∀ x ∈ os, x.id ≠ y := fun x hx => hf (fl x) (by subst h; exact List.mem_map_of_mem hx)
abbrev AirI (n : Int) (pa : Option Addr) (st : St) : Assn := AI 67 70 (airC n) pa st
theorem AFly (n : Int) (pa : Option Addr) (st : St) (m : Nat) (hm : m ≤ 80) (ok : Ok n m st) (d : Int) (dv : SV) (l : List Int) (R : Assn) (hR : ∀ Γ w, Sat w (R :: Γ) → BytesAt w dv.v l) (hl : l.length ≤ 40) :
    Spec Try.prog 9 [.pointer pa, .agg #[.int .i64 d, dv.v]] [AirI n pa st, R] fun Γ v Θ =>
      v = .tuple #[.int .u64 (flyR n d l st).1, .int .i64 (flyR n d l st).2.1] ∧ Θ = AirI n pa (flyR n d l st).2.2 :: R :: Γ := by
  cases st with
  | none =>
    refine Spec.openNone fun e => ?_
    subst e
    refine (FlyNil_S d dv).weaken fun Γ => ⟨R :: Γ, Ent.refl _, ?_⟩
    rintro v Θ ⟨rfl, rfl⟩
    exact ⟨_, ⟨rfl, rfl⟩, Ent.closeNone _⟩
  | some z =>
    obtain ⟨q, L⟩ := z
    obtain ⟨h1, h2, h3, h4, h5, h6, h7, h8⟩ := ok
    refine Spec.openAI fun t lv os e1 e2 e3 => ?_
    subst e1
    have hlen : os.length = L.length := by rw [← e2, List.length_map]
    simp only [flyR]
    split
    · refine (FlyD_S t n q lv os d dv l R hR (by omega) e3 h2 (by omega) (by omega) (by omega)).weaken fun Γ => ⟨Γ, Ent.refl _, ?_⟩
      rintro v Θ ⟨u, lv', rfl, hlv', rfl⟩
      exact ⟨_, ⟨rfl, rfl⟩, Ent.closeAI (by rw [List.map_append, e2]; rfl) (by simp; omega) _⟩
    · refine (FlyFull_S t n q lv d dv (by omega)).weaken fun Γ => ⟨own lv 70 3 (os.flatMap fltC) :: alls os fltB :: R :: Γ, Ent.refl _, ?_⟩
      rintro v Θ ⟨rfl, rfl⟩
      exact ⟨_, ⟨rfl, rfl⟩, Ent.closeAI e2 e3 _⟩
theorem ALand (n : Int) (pa : Option Addr) (st : St) (m : Nat) (ok : Ok n m st) (y : Int) :
    Spec Try.prog 12 [.pointer pa, .int .u64 y] [AirI n pa st] fun Γ v Θ =>
      ∃ dv, v = .tuple #[.agg #[.int .i64 (landR y st).1, dv.v], .int .i64 (landR y st).2.2.1] ∧ Θ = obytes dv (landR y st).2.1 :: AirI n pa (landR y st).2.2.2 :: Γ := by
  cases st with
  | none =>
    refine Spec.openNone fun e => ?_
    subst e
    refine (LandNil_S y).weaken fun Γ => ⟨Γ, Ent.refl _, ?_⟩
    rintro v Θ ⟨rfl, rfl⟩
    exact ⟨_, ⟨SV.nil, rfl, rfl⟩, (Ent.closeNone _).trans (Ent.ownNil _ _)⟩
  | some z =>
    obtain ⟨q, L⟩ := z
    obtain ⟨h1, h2, h3, h4, h5, h6, h7, h8⟩ := ok
    refine Spec.openAI fun t lv os e1 e2 e3 => ?_
    subst e1
    have hlen : os.length = L.length := by rw [← e2, List.length_map]
    cases hi : idx y L with
    | none =>
      simp only [landR, hi]
      refine (LandNo_S t n q lv os e3 (by omega) (map_asc e2 h7) y (map_mem e2 (idx_none hi))).weaken fun Γ => ⟨alls os fltB :: Γ, Ent.refl _, ?_⟩
      rintro v Θ ⟨rfl, rfl⟩
      exact ⟨_, ⟨SV.nil, rfl, rfl⟩, (Ent.closeAI e2 e3 _).trans (Ent.ownNil _ _)⟩
    | some i =>
      obtain ⟨f, hf, hfy⟩ := idx_some hi
      obtain ⟨x, hx, rfl⟩ := map_at e2 hf
      simp only [landR, hi, hf]
      refine (Land_S t n q lv os e3 (by omega) (map_asc e2 h7) i x hx y hfy).weaken fun Γ => ⟨Γ, Ent.refl _, ?_⟩
      rintro v Θ ⟨lv', rfl, hlv', rfl⟩
      exact ⟨_, ⟨x.v, rfl, rfl⟩, (Ent.closeAI (by rw [List.eraseIdx_eq_take_drop_succ, List.map_append, List.map_take, List.map_drop, e2, ← List.eraseIdx_eq_take_drop_succ]) hlv' _).cons _⟩
theorem AEcho (n : Int) (pa : Option Addr) (st : St) (m : Nat) (hm : m ≤ 80) (ok : Ok n m st) (y : Int) :
    Spec Try.prog 10 [.pointer pa, .int .u64 y] [AirI n pa st] fun Γ v Θ =>
      v = .tuple #[.int .u64 (echoR n y st).1, .int .i64 (echoR n y st).2.1] ∧ Θ = AirI n pa (echoR n y st).2.2 :: Γ := by
  cases st with
  | none =>
    refine Spec.openNone fun e => ?_
    subst e
    refine (EchoNil_S y).weaken fun Γ => ⟨Γ, Ent.refl _, ?_⟩
    rintro v Θ ⟨rfl, rfl⟩
    exact ⟨_, ⟨rfl, rfl⟩, Ent.closeNone _⟩
  | some z =>
    obtain ⟨q, L⟩ := z
    obtain ⟨h1, h2, h3, h4, h5, h6, h7, h8⟩ := ok
    refine Spec.openAI fun t lv os e1 e2 e3 => ?_
    subst e1
    have hlen : os.length = L.length := by rw [← e2, List.length_map]
    cases hi : idx y L with
    | none =>
      simp only [echoR, hi]
      refine (EchoNo_S t n q lv os e3 (by omega) (map_asc e2 h7) y (map_mem e2 (idx_none hi))).weaken fun Γ => ⟨alls os fltB :: Γ, Ent.refl _, ?_⟩
      rintro v Θ ⟨rfl, rfl⟩
      exact ⟨_, ⟨rfl, rfl⟩, Ent.closeAI e2 e3 _⟩
    | some i =>
      obtain ⟨f, hf, hfy⟩ := idx_some hi
      have hd := (h8 f (List.mem_of_getElem? hf)).2.2
      obtain ⟨x, hx, rfl⟩ := map_at e2 hf
      simp only [echoR, hi, hf, flyR]
      split
      · refine (Echo_S t n q lv os e3 (map_asc e2 h7) i x hx y hfy (by simp only [fl] at hd; omega) h2 (by omega) (by omega) (by omega)).weaken fun Γ => ⟨Γ, Ent.refl _, ?_⟩
        rintro v Θ ⟨u, lv', rfl, hlv', rfl⟩
        exact ⟨_, ⟨rfl, rfl⟩, Ent.closeAI (by rw [List.map_append, e2]; rfl) (by simp; omega) _⟩
      · refine (EchoFull_S t n q lv os e3 (by omega) (map_asc e2 h7) i x hx y hfy (by omega)).weaken fun Γ => ⟨alls os fltB :: Γ, Ent.refl _, ?_⟩
        rintro v Θ ⟨rfl, rfl⟩
        exact ⟨_, ⟨rfl, rfl⟩, Ent.closeAI e2 e3 _⟩
theorem ALose (n : Int) (pa : Option Addr) (st : St) (m : Nat) (ok : Ok n m st) (y : Int) :
    Spec Try.prog 15 [.pointer pa, .int .u64 y] [AirI n pa st] fun Γ v Θ =>
      v = .int .i64 (landR y st).2.2.1 ∧ Θ = AirI n pa (landR y st).2.2.2 :: Γ := by
  refine Spec.of_body Try.func15 rfl Try.ntmps15 rfl ?_
  intro w0 Γ
  show S _ w0 [(0, .pointer pa), (1, .int .u64 y)] (AirI n pa st :: Γ) _
  refine S.seq fun K1 hK1 => ?_
  refine S.region rfl ?_
  refine S.op (S.q (q_assign rfl) rfl rfl ?_)
  first | with_reducible refine S.nilK ?_ | refine S.nil ?_
  refine hK1 _ _ ?_
  refine S.seq fun K2 hK2 => ?_
  refine S.region rfl ?_
  refine S.op (S.q (q_move rfl) rfl rfl ?_)
  refine S.op (S.q (q_move rfl) rfl rfl ?_)
  refine S.op (S.call Try.en12 (vs := [_, _]) ⟨rfl, rfl, trivial⟩ (ALand n pa st m ok y) rfl ?_)
  rintro v Θ ⟨dv, rfl, rfl⟩
  refine S.op (S.q (q_move rfl) rfl rfl ?_)
  refine S.op (S.q (q_extract rfl rfl) rfl rfl ?_)
  refine S.op (S.q (q_extract rfl rfl) rfl rfl ?_)
  refine S.op (S.alloc Try.z34 rfl ?_)
  intro b5
  refine S.op (S.storeS (cs' := [_, _]) Try.ag34 rfl rfl rfl rfl rfl rfl ?_)
  refine S.op (S.q (q_assign rfl) rfl rfl ?_)
  first | with_reducible refine S.nilK ?_ | refine S.nil ?_
  refine hK2 _ _ ?_
  refine S.seq fun K3 hK3 => ?_
  refine S.region rfl ?_
  refine S.op (S.q (q_move rfl) rfl rfl ?_)
  refine S.op (S.q (q_assign rfl) rfl rfl ?_)
  first | with_reducible refine S.nilK ?_ | refine S.nil ?_
  refine hK3 _ _ ?_
  refine S.ret ?_
  with_reducible repeat (first | refine S.then_n ?_ | refine S.then_x ?_ | refine S.then_r ?_ | refine S.inBlock_n ?_ | refine S.inBlock_r ?_ | refine S.inBlock_x rfl ?_ | refine S.noGoto_r ?_ | refine S.noGoto_n ?_ | refine S.noGoto_x ?_)
  exact S.fin (rs := [_]) (vs := [_]) Try.results15 (⟨rfl, trivial⟩)  (⟨rfl, rfl⟩) Sub.ent
theorem ALen (n : Int) (pa : Option Addr) (st : St) :
    Spec Try.prog 14 [.pointer pa] [AirI n pa st] fun Γ v Θ => v = .int .i64 (lenR st) ∧ Θ = AirI n pa st :: Γ := by
  cases st with
  | none =>
    refine Spec.openNone fun e => ?_
    subst e
    refine LenNil_S.weaken fun Γ => ⟨Γ, Ent.refl _, ?_⟩
    rintro v Θ ⟨rfl, rfl⟩
    exact ⟨_, ⟨rfl, rfl⟩, Ent.closeNone _⟩
  | some z =>
    obtain ⟨q, L⟩ := z
    refine Spec.openAI fun t lv os e1 e2 e3 => ?_
    subst e1
    have hlen : os.length = L.length := by rw [← e2, List.length_map]
    refine (Len_S t n q lv).weaken fun Γ => ⟨own lv 70 3 (os.flatMap fltC) :: alls os fltB :: Γ, Ent.refl _, ?_⟩
    rintro v Θ ⟨rfl, rfl⟩
    exact ⟨_, ⟨by rw [e3, hlen]; rfl, rfl⟩, Ent.closeAI e2 e3 _⟩
theorem AAt (n : Int) (pa : Option Addr) (st : St) (k : Int) :
    Spec Try.prog 22 [.pointer pa, .int .i64 k] [AirI n pa st] fun Γ v Θ => v = .tuple #[.int .u64 (atR k st).1, .bool (atR k st).2] ∧ Θ = AirI n pa st :: Γ := by
  cases st with
  | none =>
    refine Spec.openNone fun e => ?_
    subst e
    refine (AtNil_S k).weaken fun Γ => ⟨Γ, Ent.refl _, ?_⟩
    rintro v Θ ⟨rfl, rfl⟩
    exact ⟨_, ⟨rfl, rfl⟩, Ent.closeNone _⟩
  | some z =>
    obtain ⟨q, L⟩ := z
    refine Spec.openAI fun t lv os e1 e2 e3 => ?_
    subst e1
    have hlen : os.length = L.length := by rw [← e2, List.length_map]
    by_cases hk : 0 ≤ k
    · cases hf : L[k.toNat]? with
      | none =>
        have := List.getElem?_eq_none_iff.1 hf
        refine (AtNo_S t n q lv k (.inr (by omega))).weaken fun Γ => ⟨own lv 70 3 (os.flatMap fltC) :: alls os fltB :: Γ, Ent.refl _, ?_⟩
        rintro v Θ ⟨rfl, rfl⟩
        exact ⟨_, ⟨by simp only [atR, if_pos hk, hf], rfl⟩, Ent.closeAI e2 e3 _⟩
      | some f =>
        obtain ⟨x, hx, rfl⟩ := map_at e2 hf
        have h := At_S t n q lv os e3 k.toNat x hx
        rw [Int.toNat_of_nonneg hk] at h
        refine h.weaken fun Γ => ⟨alls os fltB :: Γ, Ent.refl _, ?_⟩
        rintro v Θ ⟨rfl, rfl⟩
        exact ⟨_, ⟨by simp only [atR, if_pos hk, hf]; rfl, rfl⟩, Ent.closeAI e2 e3 _⟩
    · refine (AtNo_S t n q lv k (.inl (by omega))).weaken fun Γ => ⟨own lv 70 3 (os.flatMap fltC) :: alls os fltB :: Γ, Ent.refl _, ?_⟩
      rintro v Θ ⟨rfl, rfl⟩
      exact ⟨_, ⟨by simp only [atR, if_neg hk], rfl⟩, Ent.closeAI e2 e3 _⟩
theorem AOldest (n : Int) (pa : Option Addr) (st : St) :
    Spec Try.prog 11 [.pointer pa] [AirI n pa st] fun Γ v Θ => v = .tuple #[.int .u64 (atR 0 st).1, .bool (atR 0 st).2] ∧ Θ = AirI n pa st :: Γ := by
  refine Spec.of_body Try.func11 rfl Try.ntmps11 rfl ?_
  intro w0 Γ
  show S _ w0 [(0, .pointer pa)] (AirI n pa st :: Γ) _
  refine S.seq fun K1 hK1 => ?_
  refine S.region rfl ?_
  refine S.op (S.q (q_assign rfl) rfl rfl ?_)
  refine S.op (S.q (q_assign rfl) rfl rfl ?_)
  first | with_reducible refine S.nilK ?_ | refine S.nil ?_
  refine hK1 _ _ ?_
  refine S.seq fun K2 hK2 => ?_
  refine S.region rfl ?_
  refine S.op (S.q (q_move rfl) rfl rfl ?_)
  refine S.op (S.call Try.en22 (vs := [_, _]) ⟨rfl, rfl, trivial⟩ (AAt n pa st 0) rfl ?_)
  rintro v Θ ⟨rfl, rfl⟩
  refine S.op (S.q (q_extract rfl rfl) rfl rfl ?_)
  refine S.op (S.q (q_extract rfl rfl) rfl rfl ?_)
  refine S.op (S.q (q_assign rfl) rfl rfl ?_)
  refine S.op (S.q (q_assign rfl) rfl rfl ?_)
  first | with_reducible refine S.nilK ?_ | refine S.nil ?_
  refine hK2 _ _ ?_
  refine S.ret ?_
  with_reducible repeat (first | refine S.then_n ?_ | refine S.then_x ?_ | refine S.then_r ?_ | refine S.inBlock_n ?_ | refine S.inBlock_r ?_ | refine S.inBlock_x rfl ?_ | refine S.noGoto_r ?_ | refine S.noGoto_n ?_ | refine S.noGoto_x ?_)
  exact S.fin (rs := [_, _]) (vs := [_, _]) Try.results11 (⟨rfl, rfl, trivial⟩)  (⟨rfl, rfl⟩) Sub.ent
def clearR : St → St
  | none => none
  | some (q, _) => some (q, [])
theorem clearR_ok {n : Int} {m : Nat} {st : St} (h : Ok n m st) : Ok n (m + 1) (clearR st) := by
  cases st with
  | none => trivial
  | some z => obtain ⟨q, L⟩ := z; obtain ⟨h1, h2, h3, h4, _⟩ := h; exact ⟨h1, h2, h3, by omega, by simp; omega, by simp, by simp, by simp⟩
theorem AClear (n : Int) (pa : Option Addr) (st : St) :
    Spec Try.prog 21 [.pointer pa] [AirI n pa st] fun Γ _ Θ => Θ = AirI n pa (clearR st) :: Γ := by
  cases st with
  | none =>
    refine Spec.openNone fun e => ?_
    subst e
    refine ClearNil_S.weaken fun Γ => ⟨Γ, Ent.refl _, ?_⟩
    rintro v Θ rfl
    exact ⟨_, rfl, Ent.closeNone _⟩
  | some z =>
    obtain ⟨q, L⟩ := z
    refine Spec.openAI fun t lv os e1 e2 e3 => ?_
    subst e1
    refine (Clear_S t n q lv).weaken fun Γ => ⟨own lv 70 3 (os.flatMap fltC) :: alls os fltB :: Γ, Ent.refl _, ?_⟩
    rintro v Θ rfl
    refine ⟨_, rfl, ((Sub.ent : Ent _ (blk t 67 (airC n q SV.nil).toArray :: own SV.nil 70 3 [] :: Γ)).trans (Ent.allsNil fltB _)).trans ((Sub.ent : Ent _ (blk t 67 (airC n q SV.nil).toArray :: own SV.nil 70 3 [] :: alls [] fltB :: Γ)).trans ?_)⟩
    exact Ent.closeAI (os := []) rfl rfl _
end Go.Proofs.Ythbckdjncmipeaa
