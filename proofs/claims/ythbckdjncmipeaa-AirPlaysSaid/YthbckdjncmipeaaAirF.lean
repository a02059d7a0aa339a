/- Air: the document's answer at any state; alike; what a script reads as. -/
import Derived.Test.YthbckdjncmipeaaAirE
namespace Go.Proofs.Ythbckdjncmipeaa
open Go.RowKit
theorem flt_sv {os : List Flt} {i : Nat} {x : Flt} (hx : os[i]? = some x) {Γ : List Assn} {w : World} (hs : Sat w (alls os fltB :: Γ)) : x.v.n = x.data.length := by
  obtain ⟨y, _, p⟩ := (hs.ent (Ent.allsAt fltB hx Γ)).head
  exact obytes_len p
theorem Spec.know {P : Program} {f : FuncId} {args : List Value} {A : Assn} {pre : List Assn} {post : List Assn → Value → List Assn → Prop} {φ : Prop} (hk : ∀ Γ w, Sat w (A :: Γ) → φ) (h : φ → Spec P f args (A :: pre) post) : Spec P f args (A :: pre) post := fun Γ w hs => h (hk _ w hs) Γ w hs
theorem rFlyOf (t : Nat) (n q : Int) (lv : SV) (os : List Flt) (i : Nat) (x : Flt) (hx : os[i]? = some x) (hn : lv.n = os.length) (hd : x.data.length ≤ 1000) (hm : os.length ≤ 2048) (hos : (os.length : Int) ≤ n) (h0 : 1 ≤ q) (h1' : q < 18446744073709551615) :
    Spec Try.prog 17 [.pointer (some ⟨t, 0, none⟩), .agg #[.int .i64 x.dst, x.v.v]] [alls os fltB, blk t 62 (refC n q lv).toArray, own lv 59 3 (os.flatMap fltC)] fun Γ v Θ =>
      v = .tuple #[.int .u64 (flyR n x.dst x.data (some (q, os.map fl))).1, .int .i64 (flyR n x.dst x.data (some (q, os.map fl))).2.1] ∧ Θ = RefI n (some ⟨t, 0, none⟩) (flyR n x.dst x.data (some (q, os.map fl))).2.2 :: Γ := by
  refine Spec.know (fun Γ w hs => flt_sv hx hs) fun hxn => ?_
  simp only [flyR, List.length_map]
  split
  · refine (rFly_S t n q lv os x.dst x.v x.data (alls os fltB) (fun Γ w h => alls_bytes h hx) hxn hd hn hm (by omega) h0 h1').weaken fun Γ => ⟨Γ, by simp only [List.cons_append, List.nil_append]; exact Sub.ent, ?_⟩
    rintro v Θ ⟨u, lv', rfl, hlv', rfl⟩
    refine ⟨_, ⟨rfl, rfl⟩, ((Sub.ent : Ent _ (obytes u x.data :: alls os fltB :: blk t 62 (refC n (q + 1) lv').toArray :: own lv' 59 3 ((os ++ [(⟨q, x.dst, u, x.data⟩ : Flt)]).flatMap fltC) :: Γ)).trans (Ent.allsSnoc fltB os (⟨q, x.dst, u, x.data⟩ : Flt) _)).trans ((Sub.ent : Ent _ (blk t 62 (refC n (q + 1) lv').toArray :: own lv' 59 3 ((os ++ [(⟨q, x.dst, u, x.data⟩ : Flt)]).flatMap fltC) :: alls (os ++ [(⟨q, x.dst, u, x.data⟩ : Flt)]) fltB :: Γ)).trans ?_)⟩
    exact Ent.closeAI (by rw [List.map_append]; rfl) (by simp; omega) _
  · refine (rFlyFull_S t n q lv x.dst x.v (by omega)).weaken fun Γ => ⟨own lv 59 3 (os.flatMap fltC) :: alls os fltB :: Γ, by simp only [List.cons_append, List.nil_append]; exact Sub.ent, ?_⟩
    rintro v Θ ⟨rfl, rfl⟩
    exact ⟨_, ⟨rfl, rfl⟩, Ent.closeAI rfl hn _⟩
theorem RFly (n : Int) (pa : Option Addr) (st : St) (m : Nat) (hm : m ≤ 80) (ok : Ok n m st) (d : Int) (dv : SV) (l : List Int) (R : Assn) (hR : ∀ Γ w, Sat w (R :: Γ) → BytesAt w dv.v l) (hdn : dv.n = l.length) (hl : l.length ≤ 40) :
    Spec Try.prog 17 [.pointer pa, .agg #[.int .i64 d, dv.v]] [RefI n pa st, R] fun Γ v Θ =>
      v = .tuple #[.int .u64 (flyR n d l st).1, .int .i64 (flyR n d l st).2.1] ∧ Θ = RefI n pa (flyR n d l st).2.2 :: R :: Γ := by
  cases st with
  | none =>
    refine Spec.openNone fun e => ?_
    subst e
    refine (rFlyNil_S d dv).weaken fun Γ => ⟨R :: Γ, Ent.refl _, ?_⟩
    rintro v Θ ⟨rfl, rfl⟩
    exact ⟨_, ⟨rfl, rfl⟩, Ent.closeNone _⟩
  | some z =>
    obtain ⟨q, L⟩ := z
    obtain ⟨h1, h2, h3, h4, h5, h6, h7, h8⟩ := ok
    refine Spec.openAI fun t lv os e1 e2 e3 => ?_
    subst e1
    have hlen : os.length = L.length := by rw [← e2, List.length_map]
    simp only [flyR]
    split
    · refine (rFly_S t n q lv os d dv l R hR hdn (by omega) e3 (by omega) (by omega) h3 (by omega)).weaken fun Γ => ⟨alls os fltB :: Γ, by simp only [List.cons_append, List.nil_append]; exact Sub.ent, ?_⟩
      rintro v Θ ⟨u, lv', rfl, hlv', rfl⟩
      refine ⟨_, ⟨rfl, rfl⟩, ((Sub.ent : Ent _ (obytes u l :: alls os fltB :: blk t 62 (refC n (q + 1) lv').toArray :: own lv' 59 3 ((os ++ [(⟨q, d, u, l⟩ : Flt)]).flatMap fltC) :: R :: Γ)).trans (Ent.allsSnoc fltB os (⟨q, d, u, l⟩ : Flt) _)).trans ((Sub.ent : Ent _ (blk t 62 (refC n (q + 1) lv').toArray :: own lv' 59 3 ((os ++ [(⟨q, d, u, l⟩ : Flt)]).flatMap fltC) :: alls (os ++ [(⟨q, d, u, l⟩ : Flt)]) fltB :: R :: Γ)).trans ?_)⟩
      exact Ent.closeAI (by rw [List.map_append, e2]; rfl) (by simp; omega) _
    · refine (rFlyFull_S t n q lv d dv (by omega)).weaken fun Γ => ⟨own lv 59 3 (os.flatMap fltC) :: alls os fltB :: R :: Γ, Ent.refl _, ?_⟩
      rintro v Θ ⟨rfl, rfl⟩
      exact ⟨_, ⟨rfl, rfl⟩, Ent.closeAI e2 e3 _⟩
theorem RFind (n : Int) (pa : Option Addr) (st : St) (m : Nat) (ok : Ok n m st) (y : Int) :
    Spec Try.prog 20 [.pointer pa, .int .u64 y] [RefI n pa st] fun Γ v Θ => v = .int .i64 (findR y st) ∧ Θ = RefI n pa st :: Γ := by
  cases st with
  | none =>
    refine Spec.openNone fun e => ?_
    subst e
    refine (rFindNil_S y).weaken fun Γ => ⟨Γ, Ent.refl _, ?_⟩
    rintro v Θ ⟨rfl, rfl⟩
    exact ⟨_, ⟨rfl, rfl⟩, Ent.closeNone _⟩
  | some z =>
    obtain ⟨q, L⟩ := z
    obtain ⟨h1, h2, h3, h4, h5, h6, h7, h8⟩ := ok
    refine Spec.openAI fun t lv os e1 e2 e3 => ?_
    subst e1
    have hlen : os.length = L.length := by rw [← e2, List.length_map]
    refine (rFind_S t n q lv os e3 (by omega) y).weaken fun Γ => ⟨alls os fltB :: Γ, Ent.refl _, ?_⟩
    rintro v Θ ⟨rfl, rfl⟩
    exact ⟨_, ⟨by rw [e2], rfl⟩, Ent.closeAI e2 e3 _⟩
theorem RLand (n : Int) (pa : Option Addr) (st : St) (m : Nat) (ok : Ok n m st) (y : Int) :
    Spec Try.prog 18 [.pointer pa, .int .u64 y] [RefI n pa st] fun Γ v Θ =>
      ∃ dv, v = .tuple #[.agg #[.int .i64 (landR y st).1, dv.v], .int .i64 (landR y st).2.2.1] ∧ Θ = obytes dv (landR y st).2.1 :: RefI n pa (landR y st).2.2.2 :: Γ := by
  cases st with
  | none =>
    refine Spec.openNone fun e => ?_
    subst e
    refine (rLandNil_S y).weaken fun Γ => ⟨Γ, Ent.refl _, ?_⟩
    rintro v Θ ⟨rfl, rfl⟩
    exact ⟨_, ⟨SV.nil, rfl, rfl⟩, (Ent.closeNone _).trans (Ent.ownNil _ _)⟩
  | some z =>
    obtain ⟨q, L⟩ := z
    obtain ⟨h1, h2, h3, h4, h5, h6, h7, h8⟩ := ok
    refine Spec.openAI fun t lv os e1 e2 e3 => ?_
    subst e1
    have hlen : os.length = L.length := by rw [← e2, List.length_map]
    cases hi : idx y L with
    | none =>
      simp only [landR, hi]
      refine (rLandNo_S t n q lv os e3 (by omega) y (by rw [e2]; exact hi)).weaken fun Γ => ⟨alls os fltB :: Γ, Ent.refl _, ?_⟩
      rintro v Θ ⟨rfl, rfl⟩
      exact ⟨_, ⟨SV.nil, rfl, rfl⟩, (Ent.closeAI e2 e3 _).trans (Ent.ownNil _ _)⟩
    | some i =>
      obtain ⟨f, hf, hfy⟩ := idx_some hi
      obtain ⟨x, hx, rfl⟩ := map_at e2 hf
      simp only [landR, hi, hf]
      refine (rLand_S t n q lv os e3 (by omega) i x hx y (by rw [e2]; exact hi)).weaken fun Γ => ⟨Γ, Ent.refl _, ?_⟩
      rintro v Θ ⟨lv', rfl, hlv', rfl⟩
      exact ⟨_, ⟨x.v, rfl, rfl⟩, (Ent.closeAI (by rw [List.eraseIdx_eq_take_drop_succ, List.map_append, List.map_take, List.map_drop, e2, ← List.eraseIdx_eq_take_drop_succ]) hlv' _).cons _⟩
theorem same_P (d d' : Int) (a b : SV) (la lb : List Int) (W : World) (ha : BytesAt W a.v la) (hb : BytesAt W b.v lb) (ra : Rng la) (rb : Rng lb) : PureS Try.prog 19 [.agg #[.int .i64 d, a.v], .agg #[.int .i64 d', b.v]] W (.bool (decide (d = d') && decide (la = lb))) := by
  refine Spec.of_body Try.func19 rfl Try.ntmps19 rfl ?_
  intro w0 Γ
  show S _ w0 [(0, .agg #[.int .i64 d, a.v]), (1, .agg #[.int .i64 d', b.v])] (old W :: Γ) _
  refine S.seq fun K1 hK1 => ?_
  refine S.region rfl ?_
  refine S.op (S.box (cs := [_, _]) rfl rfl rfl ?_)
  intro b2
  refine S.op (S.box (cs := [_, _]) rfl rfl rfl ?_)
  intro b3
  refine S.op (S.q (q_assign rfl) rfl rfl ?_)
  first | with_reducible refine S.nilK ?_ | refine S.nil ?_
  refine hK1 _ _ ?_
  refine S.seq fun K2 hK2 => ?_
  refine S.regionG ?_
  refine S.g_op rfl (S.q (q_field Try.fo34_0 rfl) rfl rfl ?_)
  refine S.g_op rfl (S.q (q_load Try.at3 rfl rfl) rfl rfl ?_)
  refine S.g_op rfl (S.q (q_field Try.fo34_0 rfl) rfl rfl ?_)
  refine S.g_op rfl (S.q (q_load Try.at3 rfl rfl) rfl rfl ?_)
  refine S.g_op rfl (S.q (q_eq rfl rfl) rfl rfl ?_)
  refine S.g_op rfl (S.q (q_move rfl) rfl rfl ?_)
  by_cases hg1_5 : d = d'
  · refine S.g_yes rfl rfl rfl (decide_eq_true hg1_5) (S.q (q_field Try.fo34_1 rfl) rfl rfl ?_)
    refine S.g_yes rfl rfl rfl (decide_eq_true hg1_5) (S.q (q_load Try.at29 rfl rfl) rfl rfl ?_)
    refine S.g_yes rfl rfl rfl (decide_eq_true hg1_5) (S.q (q_field Try.fo34_1 rfl) rfl rfl ?_)
    refine S.g_yes rfl rfl rfl (decide_eq_true hg1_5) (S.q (q_load Try.at29 rfl rfl) rfl rfl ?_)
    refine S.g_yes rfl rfl rfl (decide_eq_true hg1_5) (S.callP Try.en13 (vs := [_, _]) ⟨rfl, rfl, trivial⟩ (fun w hs => Same_P a b la lb w (HasOld.slAt inferInstance hs ha) (HasOld.slAt inferInstance hs hb) ra rb) rfl ?_)
    refine S.g_op rfl (S.q (q_pickT rfl (decide_eq_true hg1_5) rfl) rfl rfl ?_)
    refine S.g_op rfl (S.q (q_assign rfl) rfl rfl ?_)
    first | with_reducible refine S.g_nilK ?_ | refine S.g_nil ?_
    refine hK2 _ _ ?_
    refine S.ret ?_
    with_reducible repeat (first | refine S.then_n ?_ | refine S.then_x ?_ | refine S.then_r ?_ | refine S.inBlock_n ?_ | refine S.inBlock_r ?_ | refine S.inBlock_x rfl ?_ | refine S.noGoto_r ?_ | refine S.noGoto_n ?_ | refine S.noGoto_x ?_)
    exact S.fin (rs := [_]) (vs := [_]) Try.results19 (⟨rfl, trivial⟩)  (⟨by simp only [resV, *]; simp [*], rfl⟩) Sub.ent
  · refine S.g_no rfl rfl rfl (decide_eq_false hg1_5) rfl rfl ?_
    refine S.g_no rfl rfl rfl (decide_eq_false hg1_5) rfl rfl ?_
    refine S.g_no rfl rfl rfl (decide_eq_false hg1_5) rfl rfl ?_
    refine S.g_no rfl rfl rfl (decide_eq_false hg1_5) rfl rfl ?_
    refine S.g_no rfl rfl rfl (decide_eq_false hg1_5) rfl rfl ?_
    refine S.g_op rfl (S.q (q_pickF rfl (decide_eq_false hg1_5) rfl) rfl rfl ?_)
    refine S.g_op rfl (S.q (q_assign rfl) rfl rfl ?_)
    first | with_reducible refine S.g_nilK ?_ | refine S.g_nil ?_
    refine hK2 _ _ ?_
    refine S.ret ?_
    with_reducible repeat (first | refine S.then_n ?_ | refine S.then_x ?_ | refine S.then_r ?_ | refine S.inBlock_n ?_ | refine S.inBlock_r ?_ | refine S.inBlock_x rfl ?_ | refine S.noGoto_r ?_ | refine S.noGoto_n ?_ | refine S.noGoto_x ?_)
    exact S.fin (rs := [_]) (vs := [_]) Try.results19 (⟨rfl, trivial⟩)  (⟨by simp only [resV, *]; simp [*], rfl⟩) Sub.ent
/-- A step of a script. -/
structure Opr where
  od : Int
  id : Int
  dst : Int
  v : SV
  l : List Int
instance : Inhabited Opr := ⟨⟨0, 0, 0, SV.nil, []⟩⟩
abbrev oprC (x : Opr) : List Value := [.int .u8 x.od, .int .u64 x.id, .int .i64 x.dst, x.v.v]
open Go.ChangeShapes Go.WideShapes Go.ChangeAt in
theorem rd_oprs {W : World} {cs : List Value} (h : Rd W (.slice 4 (.cat 1 (.int .u8) (.cat 1 (.int .u64) (.cat 2 (.cat 1 (.int .i64) (.cat 1 tsBytes .nil)) .nil)))) cs) :
    ∃ (s : SV) (rs : List Opr), cs = [s.v] ∧ s.n = rs.length ∧ SlAt W s.v rs.length 4 (rs.flatMap oprC) ∧ ∀ r ∈ rs, BW W r.v r.l := by
  obtain ⟨s, rs, h1, h2, h3, h4, _⟩ := rd_slice (α := Opr) (encA := oprC) (p := fun r => BW W r.v r.l) (fun cs hr _ => by
    obtain ⟨_, _, rfl, _, ⟨od, rfl, _⟩, _, _, rfl, _, ⟨id, rfl, _⟩, _, _, rfl, _, ⟨_, _, rfl, _, ⟨dst, rfl, _⟩, _, _, rfl, _, h7, rfl⟩, rfl⟩ := hr
    obtain ⟨dv, ld, rfl, hb⟩ := rd_bytes h7
    exact ⟨⟨od, id, dst, dv, ld⟩, rfl, hb⟩) h (by omega)
  exact ⟨s, rs, h1, h2, h3, h4⟩
theorem bcells_set (l : List Int) (j : Nat) (r : Int) : (bcells l).set j (.int .u8 r) = bcells (l.set j r) := by unfold bcells; rw [List.map_set]
theorem findR_some {y : Int} {st : St} (h : 0 ≤ findR y st) : ∃ q L i f, st = some (q, L) ∧ idx y L = some i ∧ L[i]? = some f ∧ findR y st = (i : Int) := by
  cases st with
  | none => simp [findR] at h
  | some z =>
    obtain ⟨q, L⟩ := z
    cases hi : idx y L with
    | none => simp [findR, hi] at h
    | some i =>
      obtain ⟨f, hf, _⟩ := idx_some hi
      exact ⟨q, L, i, f, rfl, hi, hf, by simp [findR, hi]⟩
theorem findR_none {n : Int} {y : Int} {st : St} (h : ¬ 0 ≤ findR y st) : echoR n y st = (0, 6, st) := by
  cases st with
  | none => rfl
  | some z =>
    obtain ⟨q, L⟩ := z
    cases hi : idx y L with
    | none => simp [echoR, hi]
    | some i => simp [findR, hi] at h
theorem S.aiOpen {T F : TypeId} {cells : Int → SV → List Value} {pa : Option Addr} {q : Int} {L : List Fl} {n : Nat} {w0 : World} {ρ : Env} {Γ Δ : List Assn} {φ : Act → World → Prop} (hp : Pick (AI T F cells pa (some (q, L))) Γ Δ) (k : ∀ t lv os, pa = some ⟨t, 0, none⟩ → os.map fl = L → lv.n = os.length → S n w0 ρ (blk t T (cells q lv).toArray :: own lv F 3 (os.flatMap fltC) :: alls os fltB :: Δ) φ) : S n w0 ρ Γ φ := by
  intro a w ha hs hx
  obtain ⟨t, lv, os, e1, e2, e3, hs'⟩ := Sat.openAI (hs.ent hp.ent)
  exact k t lv os e1 e2 e3 a w ha hs' hx
theorem lenR_some {st : St} (h : 0 < lenR st) : ∃ q f L, st = some (q, f :: L) := by
  cases st with
  | none => simp [lenR] at h
  | some z => obtain ⟨q, L⟩ := z; cases L with
    | nil => simp [lenR] at h
    | cons f L => exact ⟨q, f, L, rfl⟩
theorem atR_lt {st : St} {j : Nat} (h : j < lenR st) : ∃ q L f, st = some (q, L) ∧ L[j]? = some f ∧ atR (j : Int) st = (f.id, true) := by
  cases st with
  | none => simp [lenR] at h
  | some z =>
    obtain ⟨q, L⟩ := z
    refine ⟨q, L, L[j]'h, rfl, List.getElem?_eq_getElem (l := L) h, ?_⟩
    have h' : j < L.length := h
    simp only [atR]
    rw [if_pos (by omega), Int.toNat_natCast, List.getElem?_eq_getElem h']
    rfl
theorem atR_out {st : St} {k : Int} (h : k < 0 ∨ (lenR st : Int) ≤ k) : atR k st = (0, false) := by
  cases st with
  | none => rfl
  | some z =>
    obtain ⟨q, L⟩ := z
    simp only [lenR] at h
    simp only [atR]
    split
    · rw [List.getElem?_eq_none (by omega)]
    · rfl
theorem atR_flag (st : St) (k : Int) : (atR k st).2 = (decide (0 ≤ k) && decide (k < (lenR st : Int))) := by
  by_cases h : k < 0 ∨ (lenR st : Int) ≤ k
  · rw [atR_out h]
    rcases h with h | h
    · rw [decide_eq_false (by omega)]; rfl
    · rw [decide_eq_false (p := k < _) (by omega), Bool.and_false]
  · obtain ⟨q, L, f, _, _, h3⟩ := atR_lt (st := st) (j := k.toNat) (by omega)
    rw [Int.toNat_of_nonneg (by omega)] at h3
    rw [h3, decide_eq_true (by omega), decide_eq_true (by omega)]
    rfl
theorem atR_zero {st : St} {k : Int} (h : (atR k st).2 = false) : (atR k st).1 = 0 := by
  by_cases h' : k < 0 ∨ (lenR st : Int) ≤ k
  · rw [atR_out h']
  · obtain ⟨q, L, f, _, _, h3⟩ := atR_lt (st := st) (j := k.toNat) (by omega)
    rw [Int.toNat_of_nonneg (by omega)] at h3
    rw [h3] at h; cases h
def newR (n : Int) : St := if 1 ≤ n ∧ n ≤ 2048 then some (1, []) else none
def newE (n : Int) : Int := if 1 ≤ n ∧ n ≤ 2048 then 0 else 1
theorem newR_ok (n : Int) : Ok n 0 (newR n) := by
  unfold newR
  split
  · rename_i h; exact ⟨h.1, h.2, by omega, by omega, by simp; omega, by simp, by simp, by simp⟩
  · trivial
theorem ANew (n : Int) : Spec Try.prog 8 [.int .i64 n] [] fun Γ v Θ => ∃ pa, v = .tuple #[.pointer pa, .int .i64 (newE n)] ∧ pa.isNone = (newR n).isNone ∧ Θ = AirI n pa (newR n) :: Γ := by
  unfold newR newE
  split
  · rename_i h
    refine (New_S n h).weaken fun Γ => ⟨Γ, Ent.refl _, ?_⟩
    rintro v Θ ⟨t, rfl, rfl⟩
    refine ⟨_, ⟨_, rfl, rfl, rfl⟩, ?_⟩
    have e1 : Ent (blk t 67 (airC n 1 SV.nil).toArray :: Γ) (blk t 67 (airC n 1 SV.nil).toArray :: own SV.nil 70 3 [] :: alls [] fltB :: Γ) := ((Ent.allsNil fltB Γ).trans (Ent.ownNil _ _)).cons _
    exact e1.trans (Ent.closeAI (os := []) rfl rfl _)
  · rename_i h
    refine (NewNo_S n h).weaken fun Γ => ⟨Γ, Ent.refl _, ?_⟩
    rintro v Θ ⟨rfl, rfl⟩
    exact ⟨_, ⟨none, rfl, rfl, rfl⟩, Ent.closeNone _⟩
theorem RNew (n : Int) : Spec Try.prog 16 [.int .i64 n] [] fun Γ v Θ => ∃ pa, v = .tuple #[.pointer pa, .int .i64 (newE n)] ∧ pa.isNone = (newR n).isNone ∧ Θ = RefI n pa (newR n) :: Γ := by
  unfold newR newE
  split
  · rename_i h
    refine (rNew_S n h).weaken fun Γ => ⟨Γ, Ent.refl _, ?_⟩
    rintro v Θ ⟨t, rfl, rfl⟩
    exact ⟨_, ⟨_, rfl, rfl, rfl⟩, Ent.refl _⟩
  · rename_i h
    refine (rNewNo_S n h).weaken fun Γ => ⟨Γ, Ent.refl _, ?_⟩
    rintro v Θ ⟨rfl, rfl⟩
    exact ⟨_, ⟨none, rfl, rfl, rfl⟩, Ent.closeNone _⟩
end Go.Proofs.Ythbckdjncmipeaa
