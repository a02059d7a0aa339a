/- The laws of shuffle: what both sides build; awake. -/
import Derived.Test.YtbhnbnecaejjiaaDoorShufB
import Derived.Test.YtbhnbnecaejjiaaDoorDocC
import Derived.Laws.StructEq
namespace Go.Proofs.YtbhnbnecaejjiaaDoor
open Go.RowKit
set_option maxRecDepth 20000
section
variable {n : Nat} {ρ : Env} {Γ : List Assn} {ty : TypeId} {pos : String} {af : Array Edge} {gd : Option (Nat × Bool)} {ds : Option Tmp}
theorem run_eqMv (t : TypeId) (ht : t = 58 ∨ t = 110) (a b : Mv) (w : World) : (Op.equalIn 10000 t (.agg (mvC a).toArray) (.agg (mvC b).toArray)).run Tryd.prog w = .ok (decide (a = b)) w := by
  have e0 : decide (a = b) = ((a.1 : Int) == (b.1 : Int) && (a.2.1 == b.2.1 && a.2.2 == b.2.2)) := by
    rw [Bool.eq_iff_iff]
    simp only [decide_eq_true_eq, Bool.and_eq_true, beq_iff_eq]
    constructor
    · intro e; subst e; exact ⟨rfl, rfl, rfl⟩
    · obtain ⟨a1, a2, a3⟩ := a
      obtain ⟨b1, b2, b3⟩ := b
      simp only
      rintro ⟨h1, h2, h3⟩
      have h1 : a1 = b1 := by omega
      rw [h1, h2, h3]
  have h32 : ∀ (x y : Int) (w : World), (Op.equalIn 9999 36 (.int .u32 x) (.int .u32 y)).run Tryd.prog w = .ok (x == y) w := fun x y w => run_equalIn_int w 9998 36 .u32 .u32 x y Tryd.underlying36
  have h64 : ∀ (x y : Int) (w : World), (Op.equalIn 9999 3 (.int .i64 x) (.int .i64 y)).run Tryd.prog w = .ok (x == y) w := fun x y w => run_equalIn_int w 9998 3 .i64 .i64 x y Tryd.underlying3
  have p32 : ∀ (xs : Array Value) (o : Nat) (v : Value) (w : World), xs[o]? = some v → (part 36 xs o).run Tryd.prog w = .ok v w := fun xs o v w h => by simp [part, (run_isAgg_atom (P := Tryd.prog) Tryd.at36 w).1, h]
  have p64 : ∀ (xs : Array Value) (o : Nat) (v : Value) (w : World), xs[o]? = some v → (part 3 xs o).run Tryd.prog w = .ok v w := fun xs o v w h => by simp [part, (run_isAgg_atom (P := Tryd.prog) Tryd.at3 w).1, h]
  have key : ∀ (xs ys : Array Value), (∀ w, (part 36 xs 0).run Tryd.prog w = .ok (.int .u32 (a.1 : Int)) w) → (∀ w, (part 3 xs 1).run Tryd.prog w = .ok (.int .i64 a.2.1) w) → (∀ w, (part 3 xs 2).run Tryd.prog w = .ok (.int .i64 a.2.2) w) →
      (∀ w, (part 36 ys 0).run Tryd.prog w = .ok (.int .u32 (b.1 : Int)) w) → (∀ w, (part 3 ys 1).run Tryd.prog w = .ok (.int .i64 b.2.1) w) → (∀ w, (part 3 ys 2).run Tryd.prog w = .ok (.int .i64 b.2.2) w) →
      (Op.eqFields 9999 xs ys (Tryd.prog.fieldsOf t).toList).run Tryd.prog w = .ok (decide (a = b)) w := by
    intro xs ys a0 a1 a2 b0 b1 b2
    rw [e0]
    rcases ht with rfl | rfl
    · rw [Program.fieldsOf, Tryd.underlying58]
      simp only [Op.eqFields]
      cases h1 : ((a.1 : Int) == (b.1 : Int)) <;> cases h2 : (a.2.1 == b.2.1) <;> cases h3 : (a.2.2 == b.2.2) <;> simp [a0, a1, a2, b0, b1, b2, h32, h64, h1, h2, h3, Result.andThen]
    · rw [Program.fieldsOf, Tryd.underlying110]
      simp only [Op.eqFields]
      cases h1 : ((a.1 : Int) == (b.1 : Int)) <;> cases h2 : (a.2.1 == b.2.1) <;> cases h3 : (a.2.2 == b.2.2) <;> simp [a0, a1, a2, b0, b1, b2, h32, h64, h1, h2, h3, Result.andThen]
  rw [run_equalIn_agg w 9999 t _ _ (by rcases ht with rfl | rfl; (rw [Program.fieldsOf, Tryd.underlying58]); (rw [Program.fieldsOf, Tryd.underlying110])) (by rcases ht with rfl | rfl <;> kernel_rfl)]
  exact key _ _ (fun w => p32 _ 0 _ w rfl) (fun w => p64 _ 1 _ w rfl) (fun w => p64 _ 2 _ w rfl) (fun w => p32 _ 0 _ w rfl) (fun w => p64 _ 1 _ w rfl) (fun w => p64 _ 2 _ w rfl)
theorem guardMv (t : TypeId) (ht : t = 58 ∨ t = 110) : Tryd.prog.eqGuardType Tryd.prog.depth t = false := by
  rcases ht with rfl | rfl <;> kernel_rfl
theorem q_neMv {t yt : TypeId} {x y : Operand} (a b : Mv) (ht : t = 58 ∨ t = 110) (hx : ev ρ x = some (.agg (mvC a).toArray)) (hy : ev ρ y = some (.agg (mvC b).toArray)) : Qv Tryd.prog n ρ Γ ⟨ds, .binOp .neq t x y yt, ty, pos, af, gd⟩ (.bool (!decide (a = b))) :=
  q_binR hx hy (fun w => run_eqGuard_agg w _ t x y _ _ (guardMv t ht)) (fun w => by rw [run_neq_struct, run_eqMv t ht]; rfl)
theorem q_eqMv {t yt : TypeId} {x y : Operand} (a b : Mv) (ht : t = 58 ∨ t = 110) (hx : ev ρ x = some (.agg (mvC a).toArray)) (hy : ev ρ y = some (.agg (mvC b).toArray)) : Qv Tryd.prog n ρ Γ ⟨ds, .binOp .eql t x y yt, ty, pos, af, gd⟩ (.bool (decide (a = b))) :=
  q_binR hx hy (fun w => run_eqGuard_agg w _ t x y _ _ (guardMv t ht)) (fun w => by rw [run_eql_struct, run_eqMv t ht]; rfl)
end
def usedUp (m : Mx) : Nat → Nat
  | 0 => 0
  | r + 1 => if 0 < (rowIds m r).length then usedUp m r + 1 else usedUp m r
theorem usedUp_le (m : Mx) : ∀ r, usedUp m r ≤ r
  | 0 => Nat.le_refl _
  | r + 1 => by have := usedUp_le m r; rw [usedUp]; split <;> omega
theorem Used_S (b : Nat) (m : Mx) {W : World} (hW : TabW W) : Spec Tryd.prog 24 [.pointer (some ⟨b, 0, none⟩)] [MI b m, old W] fun Γ v Θ => v = .int .i64 (usedUp m m.R : Nat) ∧ Θ = MI b m :: old W :: Γ := by
  refine Spec.miOk fun hok => ?_
  refine Spec.of_body Tryd.func24 rfl Tryd.ntmps24 rfl ?_
  intro w0 Γ
  show S _ w0 [(0, .pointer (some ⟨b, 0, none⟩))] (MI b m :: old W :: Γ) _
  have hR8 := hok.R8
  refine S.seq fun K1 hK1 => ?_
  refine S.region rfl ?_
  refine S.op (S.q (q_assign rfl) rfl rfl ?_)
  first | with_reducible refine S.nilK ?_ | refine S.nil ?_
  refine hK1 _ _ ?_
  refine S.seq fun K2 hK2 => ?_
  refine S.region rfl ?_
  refine S.op (S.q (q_assign rfl) rfl rfl ?_)
  first | with_reducible refine S.nilK ?_ | refine S.nil ?_
  refine hK2 _ _ ?_
  refine S.seq fun K3 hK3 => ?_
  refine S.seq fun K4 hK4 => ?_
  refine S.region rfl ?_
  refine S.op (S.q (q_move rfl) rfl rfl ?_)
  refine S.op (S.call Tryd.en43 (vs := [_]) ⟨rfl, trivial⟩ (rowsCount_S b m) rfl ?_)
  rintro v Θ ⟨rfl, rfl⟩
  refine S.op (S.q (q_move rfl) rfl rfl ?_)
  first | with_reducible refine S.nilK ?_ | refine S.nil ?_
  refine hK4 _ _ ?_
  refine S.block ?_
  refine S.loop (fun q ρ' Γ' => ∃ r : Nat, q = m.R - r ∧ r ≤ m.R ∧ ρ' = [(0, .pointer (some ⟨b, 0, none⟩)), (3, .int .i64 (usedUp m r : Nat)), (6, .int .i64 (m.R : Int)), (7, .int .i64 (r : Int))] ∧ Γ' = MI b m :: old W :: Γ) (m := _) (ρ0 := _) (Γ0 := _) (⟨0, rfl, by omega, rfl, rfl⟩) (by repeat (first | exact trivial | refine ⟨rfl, ?_⟩)) Sub.ent ?_
  rintro q ρ' Γ' ⟨r, hq, hr, rfl, rfl⟩
  have hle := usedUp_le m r
  refine S.seq fun K5 hK5 => ?_
  refine S.region rfl ?_
  refine S.op (S.q (q_lt rfl rfl) rfl rfl ?_)
  first | with_reducible refine S.nilK ?_ | refine S.nil ?_
  refine hK5 _ _ ?_
  refine S.seq fun K6 hK6 => ?_
  refine S.condD rfl (fun h1 => ?_) (fun h1 => ?_)
  · refine S.skip ?_
    with_reducible repeat (first | refine S.then_n ?_ | refine S.then_x ?_ | refine S.then_r ?_ | refine S.inBlock_n ?_ | refine S.inBlock_r ?_ | refine S.inBlock_x rfl ?_ | refine S.noGoto_r ?_ | refine S.noGoto_n ?_ | refine S.noGoto_x ?_)
    refine hK6 _ _ ?_
    refine S.seq fun K7 hK7 => ?_
    refine S.block ?_
    refine S.seq fun K8 hK8 => ?_
    refine S.region rfl ?_
    refine S.op (S.q (q_move rfl) rfl rfl ?_)
    refine S.op (S.q (q_assign rfl) rfl rfl ?_)
    first | with_reducible refine S.nilK ?_ | refine S.nil ?_
    refine hK8 _ _ ?_
    refine S.seq fun K9 hK9 => ?_
    refine S.region rfl ?_
    refine S.op (S.q (q_move rfl) rfl rfl ?_)
    refine S.op (S.q (q_move rfl) rfl rfl ?_)
    refine S.op (S.call Tryd.en17 (vs := [_, _]) ⟨rfl, rfl, trivial⟩ (Row_S b m r hW) rfl ?_)
    rintro v Θ ⟨rv, rfl, hrv, rfl⟩
    refine S.op (S.q (q_len Tryd.underlying34 rfl) rfl rfl ?_)
    refine S.op (S.q (q_gt rfl rfl) rfl rfl ?_)
    first | with_reducible refine S.nilK ?_ | refine S.nil ?_
    refine hK9 _ _ ?_
    refine S.condD rfl (fun h2 => ?_) (fun h2 => ?_)
    · have hs : usedUp m (r + 1) = usedUp m r + 1 := by rw [usedUp, if_pos (by omega)]
      refine S.region rfl ?_
      refine S.op (S.q (q_move rfl) rfl rfl ?_)
      refine S.op (S.q (q_add rfl rfl (inI64 (by omega) (by omega))) rfl rfl ?_)
      refine S.op (S.q (q_assign rfl) rfl rfl ?_)
      first | with_reducible refine S.nilK ?_ | refine S.nil ?_
      with_reducible repeat (first | refine S.then_n ?_ | refine S.then_x ?_ | refine S.then_r ?_ | refine S.inBlock_n ?_ | refine S.inBlock_r ?_ | refine S.inBlock_x rfl ?_ | refine S.noGoto_r ?_ | refine S.noGoto_n ?_ | refine S.noGoto_x ?_)
      refine hK7 _ _ ?_
      refine S.region rfl ?_
      refine S.op (S.q (q_add rfl rfl (inI64 (by omega) (by omega))) rfl rfl ?_)
      refine S.op (S.q (q_move rfl) rfl rfl ?_)
      first | with_reducible refine S.nilK ?_ | refine S.nil ?_
      with_reducible repeat (first | refine S.then_n ?_ | refine S.then_x ?_ | refine S.then_r ?_ | refine S.inBlock_n ?_ | refine S.inBlock_r ?_ | refine S.inBlock_x rfl ?_ | refine S.noGoto_r ?_ | refine S.noGoto_n ?_ | refine S.noGoto_x ?_)
      first | exact S.next (q - 1) ⟨r + 1, by omega, by omega, by rw [hs], rfl⟩ (by omega) (by repeat (first | exact trivial | refine ⟨rfl, ?_⟩)) Sub.ent
    · have hs : usedUp m (r + 1) = usedUp m r := by rw [usedUp, if_neg (by omega)]
      refine S.skip ?_
      with_reducible repeat (first | refine S.then_n ?_ | refine S.then_x ?_ | refine S.then_r ?_ | refine S.inBlock_n ?_ | refine S.inBlock_r ?_ | refine S.inBlock_x rfl ?_ | refine S.noGoto_r ?_ | refine S.noGoto_n ?_ | refine S.noGoto_x ?_)
      with_reducible repeat (first | refine S.then_n ?_ | refine S.then_x ?_ | refine S.then_r ?_ | refine S.inBlock_n ?_ | refine S.inBlock_r ?_ | refine S.inBlock_x rfl ?_ | refine S.noGoto_r ?_ | refine S.noGoto_n ?_ | refine S.noGoto_x ?_)
      refine hK7 _ _ ?_
      refine S.region rfl ?_
      refine S.op (S.q (q_add rfl rfl (inI64 (by omega) (by omega))) rfl rfl ?_)
      refine S.op (S.q (q_move rfl) rfl rfl ?_)
      first | with_reducible refine S.nilK ?_ | refine S.nil ?_
      with_reducible repeat (first | refine S.then_n ?_ | refine S.then_x ?_ | refine S.then_r ?_ | refine S.inBlock_n ?_ | refine S.inBlock_r ?_ | refine S.inBlock_x rfl ?_ | refine S.noGoto_r ?_ | refine S.noGoto_n ?_ | refine S.noGoto_x ?_)
      first | exact S.next (q - 1) ⟨r + 1, by omega, by omega, by rw [hs], rfl⟩ (by omega) (by repeat (first | exact trivial | refine ⟨rfl, ?_⟩)) Sub.ent
  · rw [show r = m.R by omega]
    refine S.exit ?_
    with_reducible repeat (first | refine S.then_n ?_ | refine S.then_x ?_ | refine S.then_r ?_ | refine S.inBlock_n ?_ | refine S.inBlock_r ?_ | refine S.inBlock_x rfl ?_ | refine S.noGoto_r ?_ | refine S.noGoto_n ?_ | refine S.noGoto_x ?_)
    with_reducible refine S.inBlock_s ?_
    with_reducible repeat (first | refine S.then_n ?_ | refine S.then_x ?_ | refine S.then_r ?_ | refine S.inBlock_n ?_ | refine S.inBlock_r ?_ | refine S.inBlock_x rfl ?_ | refine S.noGoto_r ?_ | refine S.noGoto_n ?_ | refine S.noGoto_x ?_)
    refine hK3 _ _ ?_
    refine S.seq fun K10 hK10 => ?_
    refine S.region rfl ?_
    refine S.op (S.q (q_move rfl) rfl rfl ?_)
    refine S.op (S.q (q_assign rfl) rfl rfl ?_)
    first | with_reducible refine S.nilK ?_ | refine S.nil ?_
    refine hK10 _ _ ?_
    refine S.ret ?_
    with_reducible repeat (first | refine S.then_n ?_ | refine S.then_x ?_ | refine S.then_r ?_ | refine S.inBlock_n ?_ | refine S.inBlock_r ?_ | refine S.inBlock_x rfl ?_ | refine S.noGoto_r ?_ | refine S.noGoto_n ?_ | refine S.noGoto_x ?_)
    exact S.fin (rs := [_]) (vs := [_]) Tryd.results24 (⟨rfl, trivial⟩)  (⟨rfl, rfl⟩) Sub.ent
abbrev Sd := Int × Bs
abbrev sdC (x : Sd) : List Value := [.int .u8 x.1, bsv x.2]
structure SW (W : World) (s : SV) (l : List Sd) : Prop where
  at_ : SlAt W s.v l.length 2 (l.flatMap sdC)
  len : s.n = l.length
  rng : ∀ x ∈ l, 0 ≤ x.1 ∧ x.1 ≤ 255
theorem rd_sd {W : World} {cs : List Value} (h : Rd W (.cat 1 (.int .u8) (.cat 1 (.int .u16) .nil)) cs) : ∃ x : Sd, cs = sdC x ∧ 0 ≤ x.1 ∧ x.1 ≤ 255 := by
  obtain ⟨_, _, rfl, _, ⟨a, rfl, ha⟩, _, _, rfl, _, ⟨b, rfl, hb⟩, rfl⟩ := h
  have h1 := u8_rng ha
  have h2 := u16_rng hb
  refine ⟨(a, BitVec.ofNat 16 b.toNat), ?_, h1⟩
  have e : ((BitVec.ofNat 16 b.toNat).toNat : Int) = b := by
    rw [BitVec.toNat_ofNat, Nat.mod_eq_of_lt (by omega)]
    omega
  show [Value.int .u8 a] ++ ([Value.int .u16 b] ++ []) = _
  simp only [sdC, bsv, e]
  rfl
theorem rd_sds {W : World} {cs : List Value} (h : Rd W (.slice 2 (.cat 1 (.int .u8) (.cat 1 (.int .u16) .nil))) cs) : ∃ (s : SV) (l : List Sd), cs = [s.v] ∧ SW W s l := by
  obtain ⟨s, l, h1, h2, h3, h4, _⟩ := rd_slice (α := Sd) (encA := sdC) (p := fun x => 0 ≤ x.1 ∧ x.1 ≤ 255) (fun cs hr _ => by
    obtain ⟨x, rfl, hx⟩ := rd_sd hr
    exact ⟨x, rfl, hx⟩) h (by omega)
  exact ⟨s, l, h1, h3, h2, h4⟩
/-- The nodes below k of a set. -/
def bitU (s : Bs) : Nat → List Nat
  | 0 => []
  | k + 1 => if s.getLsbD k then bitU s k ++ [k] else bitU s k
theorem mem_bitU {s : Bs} {i : Nat} : ∀ {k : Nat}, i ∈ bitU s k ↔ i < k ∧ s.getLsbD i = true
  | 0 => by simp [bitU]
  | k + 1 => by
    rw [bitU]
    split
    · rename_i h
      rw [List.mem_append, mem_bitU, List.mem_singleton]
      constructor
      · rintro (⟨h1, h2⟩ | rfl)
        · exact ⟨by omega, h2⟩
        · exact ⟨by omega, h⟩
      · rintro ⟨h1, h2⟩
        by_cases e : i = k
        · exact .inr e
        · exact .inl ⟨by omega, h2⟩
    · rename_i h
      rw [mem_bitU]
      constructor
      · rintro ⟨h1, h2⟩; exact ⟨by omega, h2⟩
      · rintro ⟨h1, h2⟩
        by_cases e : i = k
        · subst e; exact absurd h2 h
        · exact ⟨by omega, h2⟩
theorem bitU_rise (s : Bs) : ∀ k, (bitU s k).Pairwise (· < ·)
  | 0 => List.Pairwise.nil
  | k + 1 => by
    rw [bitU]
    split
    · refine List.pairwise_append.2 ⟨bitU_rise s k, List.pairwise_singleton _ _, fun a ha b hb => ?_⟩
      rw [List.mem_singleton] at hb
      have := (mem_bitU.1 ha).1
      omega
    · exact bitU_rise s k
theorem bitU_len (s : Bs) : ∀ k, (bitU s k).length ≤ k
  | 0 => Nat.le_refl _
  | k + 1 => by
    have := bitU_len s k
    rw [bitU]
    split
    · rw [List.length_append, List.length_singleton]; omega
    · omega
theorem bitU_lst (s : Bs) {k : Nat} (hk : k ≤ 16) : bitU s k = lst (s &&& mask k) := rise_ext (bitU_rise s k) (lst_rise _) fun i => by
  rw [mem_bitU, mem_lst, BitVec.getLsbD_and, Bool.and_eq_true, mask_bit hk, And.comm]
theorem bitU_ok {m : Mx} (hm : MxOk m) (s : Bs) : okUp m (casts (bitU s m.N)) (casts (bitU s m.N)).length = true := by
  rw [bitU_lst s hm.N16, List.length_map]
  refine okUp_lst m _ (fun i hi => ?_) _ (Nat.le_refl _)
  rw [BitVec.getLsbD_and, Bool.and_eq_true, mask_bit hm.N16] at hi
  exact hi.2
theorem putR_N (m : Mx) (j : Nat) (z : Int) (l : List Int) : (putR m j z l).2.N = m.N ∧ (putR m j z l).2.up = m.up ∧ (putR m j z l).2.R = m.R := by
  unfold putR
  split
  · exact ⟨rfl, rfl, rfl⟩
  · split
    · exact ⟨rfl, rfl, rfl⟩
    · split <;> exact ⟨rfl, rfl, rfl⟩
def stUp (m : Mx) (l : List Sd) : Nat → Mx
  | 0 => m
  | i + 1 => (putR (stUp m l i) (i + 1) ((l.getD i (0, 0#16)).1 % (m.R : Int)) (casts (bitU (l.getD i (0, 0#16)).2 m.N))).2
def dnUp (m : Mx) (d : Bs) : Nat → Mx
  | 0 => m
  | k + 1 => if d.getLsbD k then (upR (dnUp m d k) k false).2 else dnUp m d k
def stR (r n : Int) (l : List Sd) : Mx := stUp (mx0 (1 + r % 8).toNat (1 + n % 16).toNat) l (min l.length 40)
def bldR (r n : Int) (l : List Sd) (d : Bs) : Mx := dnUp (stR r n l) d (1 + n % 16).toNat
theorem upC_set {m : Mx} {k : Nat} (hN : m.N ≤ 16) (hk : k < m.N) : (upC m).set k (.bool false) = upC (m.setUp k false) := by
  refine List.ext_getElem? fun i => ?_
  show _ = ((List.range m.N).map fun i => Value.bool ((m.setUp k false).up.getLsbD i))[i]?
  by_cases hi : i < m.N
  · rw [List.getElem?_map, List.getElem?_range hi, Option.map_some]
    have e : (m.setUp k false).up.getLsbD i = (m.up.getLsbD i && !decide (k = i)) := by
      simp only [Mx.setUp, Bool.false_eq_true, if_false, BitVec.getLsbD_and, BitVec.getLsbD_not, BitVec.getLsbD_twoPow]
      have h1 : i < 16 := by omega
      have h2 : k < 16 := by omega
      simp [h1, h2]
    rw [e]
    by_cases ek : k = i
    · subst ek
      rw [List.getElem?_set_self (by simp; exact hk)]
      simp
    · rw [List.getElem?_set_ne ek, List.getElem?_map, List.getElem?_range hi, Option.map_some, decide_eq_false ek]
      simp
  · rw [List.getElem?_eq_none (by simp; omega), List.getElem?_eq_none (by simp; omega)]
theorem RiOk.setUp {m : Mx} {cs us : SV} {rs : List Rr} (h : RiOk m cs us rs) {k : Nat} (hk : k < m.N) : RiOk (m.setUp k false) cs us rs := ⟨h.ok.setUp hk false, h.cn, h.un, h.dat, h.len⟩
theorem build_S (r n : Int) (l : List Sd) (d : Bs) (s : SV) (hr : 0 ≤ r ∧ r ≤ 255) (hn : 0 ≤ n ∧ n ≤ 255) {W : World} (hs : SW W s l) : Spec Tryd.prog 14 [.int .u8 r, .int .u8 n, s.v, bsv d] [old W] fun Γ v Θ => ∃ b c, v = .tuple #[.pointer (some ⟨b, 0, none⟩), .pointer (some ⟨c, 0, none⟩)] ∧ Θ = MI b (bldR r n l d) :: RI c (bldR r n l d) :: old W :: Γ := by
  refine Spec.of_body Tryd.func14 rfl Tryd.ntmps14 rfl ?_
  intro w0 Γ
  show S _ w0 [(0, .int .u8 r), (1, .int .u8 n), (2, s.v), (3, bsv d)] (old W :: Γ) _
  have hsl := hs.len
  have hRs : RdS (old W) s s.n 2 (l.flatMap sdC) := by rw [hsl]; exact RdS.old hs.at_
  refine S.rCap hRs fun _ hc1 hc2 => ?_
  obtain ⟨R, hR⟩ : ∃ R : Nat, (R : Int) = 1 + r % 8 := ⟨(1 + r % 8).toNat, by omega⟩
  obtain ⟨N, hN⟩ : ∃ N : Nat, (N : Int) = 1 + n % 16 := ⟨(1 + n % 16).toNat, by omega⟩
  have hsR : stR r n l = stUp (mx0 R N) l (min l.length 40) := by rw [stR, ← hR, ← hN, Int.toNat_natCast, Int.toNat_natCast]
  have hbR : bldR r n l d = dnUp (stUp (mx0 R N) l (min l.length 40)) d N := by rw [bldR, hsR, ← hN, Int.toNat_natCast]
  refine S.seq fun K1 hK1 => ?_
  refine S.region rfl ?_
  refine S.op (S.q (q_assign rfl) rfl rfl ?_)
  refine S.op (S.q (q_assign rfl) rfl rfl ?_)
  first | with_reducible refine S.nilK ?_ | refine S.nil ?_
  refine hK1 _ _ ?_
  refine S.seq fun K2 hK2 => ?_
  refine S.region rfl ?_
  refine S.op (S.q (q_move rfl) rfl rfl ?_)
  refine S.op (S.q (q_rem rfl rfl (⟨by omega, by omega⟩)) rfl rfl ?_)
  refine S.op (S.q (q_conv Tryd.it3 (by rw [Tryd.underlying5]; rfl) rfl (inI64 (by omega) (by omega))) rfl rfl ?_)
  refine S.op (S.q (q_add rfl rfl (inI64 (by omega) (by omega))) rfl rfl ?_)
  refine S.op (S.q (q_move rfl) rfl rfl ?_)
  refine S.op (S.q (q_rem rfl rfl (⟨by omega, by omega⟩)) rfl rfl ?_)
  refine S.op (S.q (q_conv Tryd.it3 (by rw [Tryd.underlying5]; rfl) rfl (inI64 (by omega) (by omega))) rfl rfl ?_)
  refine S.op (S.q (q_add rfl rfl (inI64 (by omega) (by omega))) rfl rfl ?_)
  refine S.op (S.q (q_assign rfl) rfl rfl ?_)
  refine S.op (S.q (q_assign rfl) rfl rfl ?_)
  first | with_reducible refine S.nilK ?_ | refine S.nil ?_
  refine hK2 _ _ ?_
  refine S.seq fun K3 hK3 => ?_
  refine S.region rfl ?_
  rw [← hR, ← hN]
  refine S.op (S.q (q_move rfl) rfl rfl ?_)
  refine S.op (S.q (q_move rfl) rfl rfl ?_)
  refine S.op (S.call Tryd.en38 (vs := [_, _]) ⟨rfl, rfl, trivial⟩ (New_S R N (by omega) (by omega) (by omega) (by omega)) rfl ?_)
  rintro v Θ ⟨b, rfl, rfl⟩
  refine S.op (S.q (q_move rfl) rfl rfl ?_)
  refine S.op (S.q (q_extract rfl rfl) rfl rfl ?_)
  refine S.op (S.q (q_extract rfl rfl) rfl rfl ?_)
  refine S.op (S.q (q_assign rfl) rfl rfl ?_)
  refine S.op (S.q (q_assign rfl) rfl rfl ?_)
  first | with_reducible refine S.nilK ?_ | refine S.nil ?_
  refine hK3 _ _ ?_
  refine S.seq fun K4 hK4 => ?_
  refine S.region rfl ?_
  refine S.op (S.q (q_move rfl) rfl rfl ?_)
  refine S.op (S.q (q_move rfl) rfl rfl ?_)
  refine S.op (S.call Tryd.en39 (vs := [_, _]) ⟨rfl, rfl, trivial⟩ (rNew_S R N (by omega) (by omega) (by omega) (by omega)) rfl ?_)
  rintro v Θ ⟨c, rfl, rfl⟩
  refine S.op (S.q (q_move rfl) rfl rfl ?_)
  refine S.op (S.q (q_extract rfl rfl) rfl rfl ?_)
  refine S.op (S.q (q_extract rfl rfl) rfl rfl ?_)
  refine S.op (S.q (q_assign rfl) rfl rfl ?_)
  refine S.op (S.q (q_assign rfl) rfl rfl ?_)
  first | with_reducible refine S.nilK ?_ | refine S.nil ?_
  refine hK4 _ _ ?_
  refine S.seq fun K5 hK5 => ?_
  refine S.seq fun K6 hK6 => ?_
  refine S.region rfl ?_
  refine S.op (S.q (q_move rfl) rfl rfl ?_)
  refine S.op (S.q (q_len Tryd.underlying22 rfl) rfl rfl ?_)
  refine S.op (S.q (q_move rfl) rfl rfl ?_)
  first | with_reducible refine S.nilK ?_ | refine S.nil ?_
  refine hK6 _ _ ?_
  refine S.cut (fun ρ' Γ' => ∃ mm : Mx, mm = stUp (mx0 R N) l (min l.length 40) ∧ mm.R = R ∧ mm.N = N ∧ ρ' = [(3, bsv d), (11, .int .i64 (N : Int)), (12, .pointer (some ⟨b, 0, none⟩)), (14, .pointer (some ⟨c, 0, none⟩))] ∧ Γ' = MI b mm :: RI c mm :: old W :: Γ) ?_ ?_
  · refine S.block ?_
    refine S.loop (fun q ρ' Γ' => ∃ (i : Nat) (mm : Mx), q = l.length - i ∧ i ≤ l.length ∧ i ≤ 40 ∧ mm = stUp (mx0 R N) l i ∧ mm.R = R ∧ mm.N = N ∧ ρ' = [(3, bsv d), (10, .int .i64 (R : Int)), (11, .int .i64 (N : Int)), (12, .pointer (some ⟨b, 0, none⟩)), (14, .pointer (some ⟨c, 0, none⟩)), (41, s.v), (42, .int .i64 s.n), (43, .int .i64 (i : Int))] ∧ Γ' = MI b mm :: RI c mm :: old W :: Γ) (m := _) (ρ0 := _) (Γ0 := _) (⟨0, mx0 R N, rfl, by omega, by omega, rfl, rfl, rfl, rfl, rfl⟩) (by repeat (first | exact trivial | refine ⟨rfl, ?_⟩)) Sub.ent ?_
    rintro q ρ' Γ' ⟨i, mm, hq, hi, hi40, hmm, hmR, hmN, rfl, rfl⟩
    refine S.seq fun K7 hK7 => ?_
    refine S.region rfl ?_
    refine S.op (S.q (q_lt rfl rfl) rfl rfl ?_)
    first | with_reducible refine S.nilK ?_ | refine S.nil ?_
    refine hK7 _ _ ?_
    refine S.seq fun K8 hK8 => ?_
    refine S.condD rfl (fun h1 => ?_) (fun h1 => ?_)
    · refine S.miOk b mm fun hok => ?_
      obtain ⟨x, hx⟩ := getE (show i < l.length by omega)
      have hxr := hs.rng x (List.mem_of_getElem? hx)
      have hxd : l.getD i (0, 0#16) = x := by simp [List.getD, hx]
      obtain ⟨sb, so, hsa, hcell⟩ := slAt_some hs.at_ (by omega)
      have hN16 := hok.N16
      refine S.skip ?_
      with_reducible repeat (first | refine S.then_n ?_ | refine S.then_x ?_ | refine S.then_r ?_ | refine S.inBlock_n ?_ | refine S.inBlock_r ?_ | refine S.inBlock_x rfl ?_ | refine S.noGoto_r ?_ | refine S.noGoto_n ?_ | refine S.noGoto_x ?_)
      refine hK8 _ _ ?_
      refine S.seq fun K9 hK9 => ?_
      refine S.block ?_
      refine S.seq fun K10 hK10 => ?_
      refine S.region rfl ?_
      refine S.op (S.q (q_move rfl) rfl rfl ?_)
      refine S.op (S.q (q_indexO (i) Tryd.el22 rfl hsa rfl rfl (by omega)) rfl rfl ?_)
      refine S.op (S.q (q_loadWS (sdC x) Tryd.ag90 rfl rfl (fun i u hu => by rw [Nat.add_assoc]; exact hcell _ _ (flat_seg (enc := sdC) (sz := 2) (fun _ => rfl) hx i u hu))) rfl rfl ?_)
      refine S.op (S.alloc Tryd.z90 rfl ?_)
      intro b17
      refine S.op (S.q (q_assign rfl) rfl rfl ?_)
      refine S.op (S.storeS (cs' := [_, _]) Tryd.ag90 rfl rfl rfl rfl rfl rfl ?_)
      first | with_reducible refine S.nilK ?_ | refine S.nil ?_
      refine hK10 _ _ ?_
      refine S.seq fun K11 hK11 => ?_
      refine S.seq fun K12 hK12 => ?_
      refine S.region rfl ?_
      refine S.op (S.q (q_move rfl) rfl rfl ?_)
      refine S.op (S.q (q_ge rfl rfl) rfl rfl ?_)
      first | with_reducible refine S.nilK ?_ | refine S.nil ?_
      refine hK12 _ _ ?_
      refine S.condD rfl (fun h2 => ?_) (fun h2 => ?_)
      · have hmin : min l.length 40 = i := by omega
        refine S.exit ?_
        with_reducible repeat (first | refine S.then_n ?_ | refine S.then_x ?_ | refine S.then_r ?_ | refine S.inBlock_n ?_ | refine S.inBlock_r ?_ | refine S.inBlock_x rfl ?_ | refine S.noGoto_r ?_ | refine S.noGoto_n ?_ | refine S.noGoto_x ?_)
        with_reducible refine S.inBlock_s ?_
        with_reducible repeat (first | refine S.then_n ?_ | refine S.then_x ?_ | refine S.then_r ?_ | refine S.inBlock_n ?_ | refine S.inBlock_r ?_ | refine S.inBlock_x rfl ?_ | refine S.noGoto_r ?_ | refine S.noGoto_n ?_ | refine S.noGoto_x ?_)
        with_reducible repeat (first | refine S.then_n ?_ | refine S.then_x ?_ | refine S.then_r ?_ | refine S.inBlock_n ?_ | refine S.inBlock_r ?_ | refine S.inBlock_x rfl ?_ | refine S.noGoto_r ?_ | refine S.noGoto_n ?_ | refine S.noGoto_x ?_)
        exact S.meet ⟨mm, by rw [hmin]; exact hmm, hmR, hmN, rfl, rfl⟩ ⟨rfl, rfl, rfl, rfl, trivial⟩ Sub.ent
      · refine S.skip ?_
        with_reducible repeat (first | refine S.then_n ?_ | refine S.then_x ?_ | refine S.then_r ?_ | refine S.inBlock_n ?_ | refine S.inBlock_r ?_ | refine S.inBlock_x rfl ?_ | refine S.noGoto_r ?_ | refine S.noGoto_n ?_ | refine S.noGoto_x ?_)
        refine hK11 _ _ ?_
        refine S.seq fun K13 hK13 => ?_
        refine S.region rfl ?_
        refine S.op (S.q (q_assign rfl) rfl rfl ?_)
        first | with_reducible refine S.nilK ?_ | refine S.nil ?_
        refine hK13 _ _ ?_
        refine S.seq fun K14 hK14 => ?_
        refine S.seq fun K15 hK15 => ?_
        refine S.region rfl ?_
        refine S.ent (Ent.ownNil 3 1) ?_
        show S _ w0 _ (own SV.nil 3 1 (nds (bitU x.2 0)) :: _) _
        refine S.op (S.q (q_move rfl) rfl rfl ?_)
        refine S.op (S.q (q_move rfl) rfl rfl ?_)
        first | with_reducible refine S.nilK ?_ | refine S.nil ?_
        refine hK15 _ _ ?_
        refine S.block ?_
        refine S.loop (fun q2 ρ' Γ' => ∃ (k : Nat) (sv : SV) (nl : List Nat), q2 = N - k ∧ k ≤ N ∧ nl = bitU x.2 k ∧ sv.n = nl.length ∧ ρ' = [(3, bsv d), (10, .int .i64 (R : Int)), (11, .int .i64 (N : Int)), (12, .pointer (some ⟨b, 0, none⟩)), (14, .pointer (some ⟨c, 0, none⟩)), (16, .int .i64 (i : Int)), (17, .pointer (some ⟨b17, 0, none⟩)), (18, sv.v), (41, s.v), (42, .int .i64 s.n), (43, .int .i64 (i : Int)), (50, .int .i64 (N : Int)), (51, .int .i64 (k : Int))] ∧   Γ' = own sv 3 1 (nds nl) :: blk b17 90 #[.int .u8 x.1, bsv x.2] :: MI b mm :: RI c mm :: old W :: Γ) (m := _) (ρ0 := _) (Γ0 := _) (⟨0, SV.nil, bitU x.2 0, rfl, by omega, rfl, rfl, rfl, rfl⟩) (by repeat (first | exact trivial | refine ⟨rfl, ?_⟩)) Sub.ent ?_
        rintro q2 ρ' Γ' ⟨k, sv, nl, hq2, hk, hnl, hsv, rfl, rfl⟩
        have hnlen := bitU_len x.2 k
        rw [← hnl] at hnlen
        refine S.seq fun K16 hK16 => ?_
        refine S.region rfl ?_
        refine S.op (S.q (q_lt rfl rfl) rfl rfl ?_)
        first | with_reducible refine S.nilK ?_ | refine S.nil ?_
        refine hK16 _ _ ?_
        refine S.seq fun K17 hK17 => ?_
        refine S.condD rfl (fun h3 => ?_) (fun h3 => ?_)
        · refine S.skip ?_
          with_reducible repeat (first | refine S.then_n ?_ | refine S.then_x ?_ | refine S.then_r ?_ | refine S.inBlock_n ?_ | refine S.inBlock_r ?_ | refine S.inBlock_x rfl ?_ | refine S.noGoto_r ?_ | refine S.noGoto_n ?_ | refine S.noGoto_x ?_)
          refine hK17 _ _ ?_
          refine S.seq fun K18 hK18 => ?_
          refine S.block ?_
          refine S.seq fun K19 hK19 => ?_
          refine S.region rfl ?_
          refine S.op (S.q (q_move rfl) rfl rfl ?_)
          refine S.op (S.q (q_assign rfl) rfl rfl ?_)
          first | with_reducible refine S.nilK ?_ | refine S.nil ?_
          refine hK19 _ _ ?_
          refine S.seq fun K20 hK20 => ?_
          refine S.region rfl ?_
          refine S.op (S.q (q_field Tryd.fo90_1 rfl) rfl rfl ?_)
          refine S.op (S.q (q_load Tryd.at28 rfl rfl) rfl rfl ?_)
          refine S.op (S.q (q_move rfl) rfl rfl ?_)
          refine S.op (S.q (q_shrB (x.2) (k) rfl rfl rfl (rfl) (by omega)) rfl rfl ?_)
          refine S.op (S.q (q_andB (x.2 >>> k) (1#16) rfl rfl (rfl) (rfl)) rfl rfl ?_)
          refine S.op (S.q (q_eq rfl rfl) rfl rfl ?_)
          first | with_reducible refine S.nilK ?_ | refine S.nil ?_
          refine hK20 _ _ ?_
          refine S.condD rfl (fun h4 => ?_) (fun h4 => ?_)
          · have hb4 : x.2.getLsbD k = true := by rw [← has_bit]; exact decide_eq_true h4
            have hnl2 : nl ++ [k] = bitU x.2 (k + 1) := by rw [bitU, if_pos hb4, hnl]
            have hd4 : nds nl ++ [.int .i64 (k : Int)] = nds (nl ++ [k]) := by simp
            refine S.region rfl ?_
            refine S.op (S.q (q_move rfl) rfl rfl ?_)
            refine S.op (S.q (q_move rfl) rfl rfl ?_)
            refine S.op (S.buildSlice (pvs := [(_, _)]) [_] Tryd.underlying52 Tryd.inf3 rfl rfl ⟨⟨rfl, rfl⟩, trivial⟩ rfl rfl ?_)
            intro b62
            refine S.op (S.appendOw (s := sv) (1) ([.int .i64 (k : Int)]) Tryd.underlying52 Tryd.inf3 rfl rfl rfl (blk_slAt (b := b62) rfl (by unfold maxLen; omega)) (by first | rfl | exact allOne_bcells _) (⟨by omega, by omega⟩) rfl ?_)
            intro sv2 hsv2
            refine S.op (S.q (q_assign rfl) rfl rfl ?_)
            first | with_reducible refine S.nilK ?_ | refine S.nil ?_
            with_reducible repeat (first | refine S.then_n ?_ | refine S.then_x ?_ | refine S.then_r ?_ | refine S.inBlock_n ?_ | refine S.inBlock_r ?_ | refine S.inBlock_x rfl ?_ | refine S.noGoto_r ?_ | refine S.noGoto_n ?_ | refine S.noGoto_x ?_)
            refine hK18 _ _ ?_
            refine S.region rfl ?_
            refine S.op (S.q (q_add rfl rfl (inI64 (by omega) (by omega))) rfl rfl ?_)
            refine S.op (S.q (q_move rfl) rfl rfl ?_)
            first | with_reducible refine S.nilK ?_ | refine S.nil ?_
            with_reducible repeat (first | refine S.then_n ?_ | refine S.then_x ?_ | refine S.then_r ?_ | refine S.inBlock_n ?_ | refine S.inBlock_r ?_ | refine S.inBlock_x rfl ?_ | refine S.noGoto_r ?_ | refine S.noGoto_n ?_ | refine S.noGoto_x ?_)
            first | (rw [hd4]; exact S.next (q2 - 1) ⟨k + 1, sv2, nl ++ [k], by omega, by omega, hnl2, by rw [List.length_append, List.length_singleton]; omega, rfl, rfl⟩ (by omega) (by repeat (first | exact trivial | refine ⟨rfl, ?_⟩)) Sub.ent) | exact S.next (q2 - 1) ⟨k + 1, sv, nl, by omega, by omega, hnl2, hsv, rfl, rfl⟩ (by omega) (by repeat (first | exact trivial | refine ⟨rfl, ?_⟩)) Sub.ent
          · have hb4 : x.2.getLsbD k = false := by rw [← has_bit]; exact decide_eq_false h4
            have hnl2 : nl = bitU x.2 (k + 1) := by rw [bitU, if_neg (by rw [hb4]; simp), hnl]
            refine S.skip ?_
            with_reducible repeat (first | refine S.then_n ?_ | refine S.then_x ?_ | refine S.then_r ?_ | refine S.inBlock_n ?_ | refine S.inBlock_r ?_ | refine S.inBlock_x rfl ?_ | refine S.noGoto_r ?_ | refine S.noGoto_n ?_ | refine S.noGoto_x ?_)
            with_reducible repeat (first | refine S.then_n ?_ | refine S.then_x ?_ | refine S.then_r ?_ | refine S.inBlock_n ?_ | refine S.inBlock_r ?_ | refine S.inBlock_x rfl ?_ | refine S.noGoto_r ?_ | refine S.noGoto_n ?_ | refine S.noGoto_x ?_)
            refine hK18 _ _ ?_
            refine S.region rfl ?_
            refine S.op (S.q (q_add rfl rfl (inI64 (by omega) (by omega))) rfl rfl ?_)
            refine S.op (S.q (q_move rfl) rfl rfl ?_)
            first | with_reducible refine S.nilK ?_ | refine S.nil ?_
            with_reducible repeat (first | refine S.then_n ?_ | refine S.then_x ?_ | refine S.then_r ?_ | refine S.inBlock_n ?_ | refine S.inBlock_r ?_ | refine S.inBlock_x rfl ?_ | refine S.noGoto_r ?_ | refine S.noGoto_n ?_ | refine S.noGoto_x ?_)
            first | (rw [hd4]; exact S.next (q2 - 1) ⟨k + 1, sv2, nl ++ [k], by omega, by omega, hnl2, by rw [List.length_append, List.length_singleton]; omega, rfl, rfl⟩ (by omega) (by repeat (first | exact trivial | refine ⟨rfl, ?_⟩)) Sub.ent) | exact S.next (q2 - 1) ⟨k + 1, sv, nl, by omega, by omega, hnl2, hsv, rfl, rfl⟩ (by omega) (by repeat (first | exact trivial | refine ⟨rfl, ?_⟩)) Sub.ent
        · have hkN : k = N := by omega
          obtain ⟨t, ht⟩ : ∃ t : Nat, (t : Int) = x.1 % (R : Int) := ⟨(x.1 % (R : Int)).toNat, Int.toNat_of_nonneg (Int.emod_nonneg _ (by omega))⟩
          have htR : t < R := by have := Int.emod_lt_of_pos x.1 (show (0 : Int) < R by omega); omega
          have hup := bitU_ok hok x.2
          rw [hmN, ← hkN, ← hnl] at hup
          have hst : stUp (mx0 R N) l (i + 1) = (putR mm (i + 1) (x.1 % (R : Int)) (casts nl)).2 := by
            rw [stUp, hxd, ← hmm, hnl, hkN]
            rfl
          obtain ⟨n1, _, n3⟩ := putR_N mm (i + 1) (x.1 % (R : Int)) (casts nl)
          refine S.exit ?_
          with_reducible repeat (first | refine S.then_n ?_ | refine S.then_x ?_ | refine S.then_r ?_ | refine S.inBlock_n ?_ | refine S.inBlock_r ?_ | refine S.inBlock_x rfl ?_ | refine S.noGoto_r ?_ | refine S.noGoto_n ?_ | refine S.noGoto_x ?_)
          with_reducible refine S.inBlock_s ?_
          with_reducible repeat (first | refine S.then_n ?_ | refine S.then_x ?_ | refine S.then_r ?_ | refine S.inBlock_n ?_ | refine S.inBlock_r ?_ | refine S.inBlock_x rfl ?_ | refine S.noGoto_r ?_ | refine S.noGoto_n ?_ | refine S.noGoto_x ?_)
          refine hK14 _ _ ?_
          refine S.seq fun K21 hK21 => ?_
          refine S.region rfl ?_
          refine S.op (S.q (q_move rfl) rfl rfl ?_)
          refine S.op (S.q (q_move rfl) rfl rfl ?_)
          refine S.op (S.q (q_add rfl rfl (inI64 (by omega) (by omega))) rfl rfl ?_)
          refine S.op (S.q (q_conv Tryd.it36 (by rw [Tryd.underlying3]; rfl) rfl (inU32 (by omega) (by omega))) rfl rfl ?_)
          refine S.op (S.q (q_field Tryd.fo90_0 rfl) rfl rfl ?_)
          refine S.op (S.q (q_load Tryd.at5 rfl rfl) rfl rfl ?_)
          refine S.op (S.q (q_conv Tryd.it3 (by rw [Tryd.underlying5]; rfl) rfl (inI64 (by omega) (by omega))) rfl rfl ?_)
          refine S.op (S.q (q_move rfl) rfl rfl ?_)
          refine S.op (S.q (q_rem rfl rfl (⟨by omega, by omega⟩)) rfl rfl ?_)
          refine S.op (S.q (q_move rfl) rfl rfl ?_)
          refine S.op (S.call Tryd.en30 (vs := [_, _, _, _]) ⟨rfl, rfl, rfl, rfl, trivial⟩ (Put_S b mm (i + 1) (x.1 % (R : Int)) (own sv 3 1 (nds nl)) sv (casts nl) (by rw [hsv, List.length_map]) (rdNds sv 3 nl) (by omega)) rfl ?_)
          rintro v Θ ⟨rfl, rfl⟩
          first | with_reducible refine S.nilK ?_ | refine S.nil ?_
          refine hK21 _ _ ?_
          refine S.region rfl ?_
          refine S.op (S.q (q_move rfl) rfl rfl ?_)
          refine S.op (S.q (q_move rfl) rfl rfl ?_)
          refine S.op (S.q (q_add rfl rfl (inI64 (by omega) (by omega))) rfl rfl ?_)
          refine S.op (S.q (q_conv Tryd.it36 (by rw [Tryd.underlying3]; rfl) rfl (inU32 (by omega) (by omega))) rfl rfl ?_)
          refine S.op (S.q (q_field Tryd.fo90_0 rfl) rfl rfl ?_)
          refine S.op (S.q (q_load Tryd.at5 rfl rfl) rfl rfl ?_)
          refine S.op (S.q (q_conv Tryd.it3 (by rw [Tryd.underlying5]; rfl) rfl (inI64 (by omega) (by omega))) rfl rfl ?_)
          refine S.op (S.q (q_move rfl) rfl rfl ?_)
          refine S.op (S.q (q_rem rfl rfl (⟨by omega, by omega⟩)) rfl rfl ?_)
          refine S.op (S.q (q_move rfl) rfl rfl ?_)
          refine S.op (S.call Tryd.en40 (vs := [_, _, _, _]) ⟨rfl, rfl, rfl, rfl, trivial⟩ ((by rw [← ht]; exact rPut_S c mm (i + 1) t (own sv 3 1 (nds nl)) sv (casts nl) (by rw [hsv, List.length_map]) (rdNds sv 3 nl) (by omega) (by omega) (by omega) hup)) rfl ?_)
          rintro v Θ ⟨rfl, rfl⟩
          rw [ht]
          first | with_reducible refine S.nilK ?_ | refine S.nil ?_
          with_reducible repeat (first | refine S.then_n ?_ | refine S.then_x ?_ | refine S.then_r ?_ | refine S.inBlock_n ?_ | refine S.inBlock_r ?_ | refine S.inBlock_x rfl ?_ | refine S.noGoto_r ?_ | refine S.noGoto_n ?_ | refine S.noGoto_x ?_)
          refine hK9 _ _ ?_
          refine S.region rfl ?_
          refine S.op (S.q (q_add rfl rfl (inI64 (by omega) (by omega))) rfl rfl ?_)
          refine S.op (S.q (q_move rfl) rfl rfl ?_)
          first | with_reducible refine S.nilK ?_ | refine S.nil ?_
          with_reducible repeat (first | refine S.then_n ?_ | refine S.then_x ?_ | refine S.then_r ?_ | refine S.inBlock_n ?_ | refine S.inBlock_r ?_ | refine S.inBlock_x rfl ?_ | refine S.noGoto_r ?_ | refine S.noGoto_n ?_ | refine S.noGoto_x ?_)
          exact S.next (q - 1) (⟨i + 1, (putR mm (i + 1) (x.1 % (R : Int)) (casts nl)).2, by omega, by omega, by omega, hst.symm, by omega, by omega, rfl, rfl⟩) (by omega) (by repeat (first | exact trivial | refine ⟨rfl, ?_⟩)) Sub.ent
    · have hmin : min l.length 40 = i := by omega
      refine S.exit ?_
      with_reducible repeat (first | refine S.then_n ?_ | refine S.then_x ?_ | refine S.then_r ?_ | refine S.inBlock_n ?_ | refine S.inBlock_r ?_ | refine S.inBlock_x rfl ?_ | refine S.noGoto_r ?_ | refine S.noGoto_n ?_ | refine S.noGoto_x ?_)
      with_reducible refine S.inBlock_s ?_
      with_reducible repeat (first | refine S.then_n ?_ | refine S.then_x ?_ | refine S.then_r ?_ | refine S.inBlock_n ?_ | refine S.inBlock_r ?_ | refine S.inBlock_x rfl ?_ | refine S.noGoto_r ?_ | refine S.noGoto_n ?_ | refine S.noGoto_x ?_)
      with_reducible repeat (first | refine S.then_n ?_ | refine S.then_x ?_ | refine S.then_r ?_ | refine S.inBlock_n ?_ | refine S.inBlock_r ?_ | refine S.inBlock_x rfl ?_ | refine S.noGoto_r ?_ | refine S.noGoto_n ?_ | refine S.noGoto_x ?_)
      exact S.meet ⟨mm, by rw [hmin]; exact hmm, hmR, hmN, rfl, rfl⟩ ⟨rfl, rfl, rfl, rfl, trivial⟩ Sub.ent
  · rintro ρ' Γ' ⟨mm, hmm, hmR, hmN, rfl, rfl⟩
    refine hK5 _ _ ?_
    refine S.seq fun K22 hK22 => ?_
    refine S.seq fun K23 hK23 => ?_
    refine S.region rfl ?_
    refine S.op (S.q (q_move rfl) rfl rfl ?_)
    refine S.op (S.q (q_move rfl) rfl rfl ?_)
    first | with_reducible refine S.nilK ?_ | refine S.nil ?_
    refine hK23 _ _ ?_
    refine S.block ?_
    refine S.loop (fun q ρ' Γ' => ∃ (k : Nat) (m2 : Mx), q = N - k ∧ k ≤ N ∧ m2 = dnUp mm d k ∧ m2.N = N ∧ ρ' = [(3, bsv d), (12, .pointer (some ⟨b, 0, none⟩)), (14, .pointer (some ⟨c, 0, none⟩)), (88, .int .i64 (N : Int)), (89, .int .i64 (k : Int))] ∧ Γ' = MI b m2 :: RI c m2 :: old W :: Γ) (m := _) (ρ0 := _) (Γ0 := _) (⟨0, mm, rfl, by omega, rfl, hmN, rfl, rfl⟩) (by repeat (first | exact trivial | refine ⟨rfl, ?_⟩)) Sub.ent ?_
    rintro q ρ' Γ' ⟨k, m2, hq, hk, hm2, hm2N, rfl, rfl⟩
    refine S.miOk b m2 fun hok => ?_
    have hN16 := hok.N16
    refine S.seq fun K24 hK24 => ?_
    refine S.region rfl ?_
    refine S.op (S.q (q_lt rfl rfl) rfl rfl ?_)
    first | with_reducible refine S.nilK ?_ | refine S.nil ?_
    refine hK24 _ _ ?_
    refine S.seq fun K25 hK25 => ?_
    refine S.condD rfl (fun h5 => ?_) (fun h5 => ?_)
    · refine S.skip ?_
      with_reducible repeat (first | refine S.then_n ?_ | refine S.then_x ?_ | refine S.then_r ?_ | refine S.inBlock_n ?_ | refine S.inBlock_r ?_ | refine S.inBlock_x rfl ?_ | refine S.noGoto_r ?_ | refine S.noGoto_n ?_ | refine S.noGoto_x ?_)
      refine hK25 _ _ ?_
      refine S.seq fun K26 hK26 => ?_
      refine S.block ?_
      refine S.seq fun K27 hK27 => ?_
      refine S.region rfl ?_
      refine S.op (S.q (q_move rfl) rfl rfl ?_)
      refine S.op (S.q (q_assign rfl) rfl rfl ?_)
      first | with_reducible refine S.nilK ?_ | refine S.nil ?_
      refine hK27 _ _ ?_
      refine S.seq fun K28 hK28 => ?_
      refine S.region rfl ?_
      refine S.op (S.q (q_move rfl) rfl rfl ?_)
      refine S.op (S.q (q_move rfl) rfl rfl ?_)
      refine S.op (S.q (q_shrB (d) (k) rfl rfl rfl (rfl) (by omega)) rfl rfl ?_)
      refine S.op (S.q (q_andB (d >>> k) (1#16) rfl rfl (rfl) (rfl)) rfl rfl ?_)
      refine S.op (S.q (q_eq rfl rfl) rfl rfl ?_)
      first | with_reducible refine S.nilK ?_ | refine S.nil ?_
      refine hK28 _ _ ?_
      refine S.condD rfl (fun h6 => ?_) (fun h6 => ?_)
      · have hb6 : d.getLsbD k = true := by rw [← has_bit]; exact decide_eq_true h6
        have hur : upR m2 k false = (0, m2.setUp k false) := by rw [upR, if_pos (nodeB_iff.2 ⟨by omega, by omega⟩), Int.toNat_natCast]
        have hdn : m2.setUp k false = dnUp mm d (k + 1) := by rw [dnUp, if_pos hb6, ← hm2, hur]
        refine S.seq fun K29 hK29 => ?_
        refine S.region rfl ?_
        refine S.op (S.q (q_move rfl) rfl rfl ?_)
        refine S.op (S.q (q_move rfl) rfl rfl ?_)
        refine S.op (S.call Tryd.en41 (vs := [_, _, _]) ⟨rfl, rfl, rfl, trivial⟩ (Up_S b m2 k false) rfl ?_)
        rintro v Θ ⟨rfl, rfl⟩
        rw [hur]
        refine S.riOpen c m2 fun cs us rs hri => ?_
        have hun := hri.un
        refine S.ownSome us (by omega) fun ub uo hua _ _ _ => ?_
        first | with_reducible refine S.nilK ?_ | refine S.nil ?_
        refine hK29 _ _ ?_
        refine S.region rfl ?_
        refine S.op (S.q (q_move rfl) rfl rfl ?_)
        refine S.op (S.q (q_nilCheck rfl) rfl rfl ?_)
        refine S.op (S.q (q_field Tryd.fo45_1 rfl) rfl rfl ?_)
        refine S.op (S.q (q_load Tryd.at43 rfl rfl) rfl rfl ?_)
        refine S.op (S.q (q_move rfl) rfl rfl ?_)
        refine S.op (S.q (q_indexO (k) Tryd.el43 rfl hua rfl rfl (by omega)) rfl rfl ?_)
        refine S.op (S.storeOw (us) (k) Tryd.at4 rfl rfl rfl hua (by first | rfl | exact Nat.add_assoc _ _ _ | omega) (by simp; omega) (upC_set hN16 (by omega)) ?_)
        first | with_reducible refine S.nilK ?_ | refine S.nil ?_
        with_reducible repeat (first | refine S.then_n ?_ | refine S.then_x ?_ | refine S.then_r ?_ | refine S.inBlock_n ?_ | refine S.inBlock_r ?_ | refine S.inBlock_x rfl ?_ | refine S.noGoto_r ?_ | refine S.noGoto_n ?_ | refine S.noGoto_x ?_)
        refine hK26 _ _ ?_
        refine S.region rfl ?_
        skip
        refine S.op (S.q (q_add rfl rfl (inI64 (by omega) (by omega))) rfl rfl ?_)
        refine S.op (S.q (q_move rfl) rfl rfl ?_)
        first | with_reducible refine S.nilK ?_ | refine S.nil ?_
        with_reducible repeat (first | refine S.then_n ?_ | refine S.then_x ?_ | refine S.then_r ?_ | refine S.inBlock_n ?_ | refine S.inBlock_r ?_ | refine S.inBlock_x rfl ?_ | refine S.noGoto_r ?_ | refine S.noGoto_n ?_ | refine S.noGoto_x ?_)
        first | (refine S.riClose c (m2.setUp k false) cs us rs (hri.setUp (by omega)) ?_; exact S.next (q - 1) ⟨k + 1, m2.setUp k false, by omega, by omega, hdn, hm2N, rfl, rfl⟩ (by omega) (by repeat (first | exact trivial | refine ⟨rfl, ?_⟩)) Sub.ent) | exact S.next (q - 1) ⟨k + 1, m2, by omega, by omega, hdn, hm2N, rfl, rfl⟩ (by omega) (by repeat (first | exact trivial | refine ⟨rfl, ?_⟩)) Sub.ent
      · have hb6 : d.getLsbD k = false := by rw [← has_bit]; exact decide_eq_false h6
        have hdn : m2 = dnUp mm d (k + 1) := by rw [dnUp, if_neg (by rw [hb6]; simp), ← hm2]
        refine S.skip ?_
        with_reducible repeat (first | refine S.then_n ?_ | refine S.then_x ?_ | refine S.then_r ?_ | refine S.inBlock_n ?_ | refine S.inBlock_r ?_ | refine S.inBlock_x rfl ?_ | refine S.noGoto_r ?_ | refine S.noGoto_n ?_ | refine S.noGoto_x ?_)
        with_reducible repeat (first | refine S.then_n ?_ | refine S.then_x ?_ | refine S.then_r ?_ | refine S.inBlock_n ?_ | refine S.inBlock_r ?_ | refine S.inBlock_x rfl ?_ | refine S.noGoto_r ?_ | refine S.noGoto_n ?_ | refine S.noGoto_x ?_)
        refine hK26 _ _ ?_
        refine S.region rfl ?_
        skip
        refine S.op (S.q (q_add rfl rfl (inI64 (by omega) (by omega))) rfl rfl ?_)
        refine S.op (S.q (q_move rfl) rfl rfl ?_)
        first | with_reducible refine S.nilK ?_ | refine S.nil ?_
        with_reducible repeat (first | refine S.then_n ?_ | refine S.then_x ?_ | refine S.then_r ?_ | refine S.inBlock_n ?_ | refine S.inBlock_r ?_ | refine S.inBlock_x rfl ?_ | refine S.noGoto_r ?_ | refine S.noGoto_n ?_ | refine S.noGoto_x ?_)
        first | (refine S.riClose c (m2.setUp k false) cs us rs (hri.setUp (by omega)) ?_; exact S.next (q - 1) ⟨k + 1, m2.setUp k false, by omega, by omega, hdn, hm2N, rfl, rfl⟩ (by omega) (by repeat (first | exact trivial | refine ⟨rfl, ?_⟩)) Sub.ent) | exact S.next (q - 1) ⟨k + 1, m2, by omega, by omega, hdn, hm2N, rfl, rfl⟩ (by omega) (by repeat (first | exact trivial | refine ⟨rfl, ?_⟩)) Sub.ent
    · have hfin : bldR r n l d = m2 := by rw [hbR, ← hmm, hm2, show k = N by omega]
      rw [← hfin]
      refine S.exit ?_
      with_reducible repeat (first | refine S.then_n ?_ | refine S.then_x ?_ | refine S.then_r ?_ | refine S.inBlock_n ?_ | refine S.inBlock_r ?_ | refine S.inBlock_x rfl ?_ | refine S.noGoto_r ?_ | refine S.noGoto_n ?_ | refine S.noGoto_x ?_)
      with_reducible refine S.inBlock_s ?_
      with_reducible repeat (first | refine S.then_n ?_ | refine S.then_x ?_ | refine S.then_r ?_ | refine S.inBlock_n ?_ | refine S.inBlock_r ?_ | refine S.inBlock_x rfl ?_ | refine S.noGoto_r ?_ | refine S.noGoto_n ?_ | refine S.noGoto_x ?_)
      refine hK22 _ _ ?_
      refine S.seq fun K30 hK30 => ?_
      refine S.region rfl ?_
      refine S.op (S.q (q_move rfl) rfl rfl ?_)
      refine S.op (S.q (q_move rfl) rfl rfl ?_)
      refine S.op (S.q (q_assign rfl) rfl rfl ?_)
      refine S.op (S.q (q_assign rfl) rfl rfl ?_)
      first | with_reducible refine S.nilK ?_ | refine S.nil ?_
      refine hK30 _ _ ?_
      refine S.ret ?_
      with_reducible repeat (first | refine S.then_n ?_ | refine S.then_x ?_ | refine S.then_r ?_ | refine S.inBlock_n ?_ | refine S.inBlock_r ?_ | refine S.inBlock_x rfl ?_ | refine S.noGoto_r ?_ | refine S.noGoto_n ?_ | refine S.noGoto_x ?_)
      exact S.fin (rs := [_, _]) (vs := [_, _]) Tryd.results14 (⟨rfl, rfl, trivial⟩)  (⟨b, c, rfl, rfl⟩) Sub.ent
end Go.Proofs.YtbhnbnecaejjiaaDoor
