/- The law TalkQuiet: what is answered isn't told again; what isn't is told each second tick. -/
import Derived.Test.YtdlddggjjibeaaaTalkH
namespace Go.Proofs.Ytdlddggjjibeaaa
open Go.RowKit
theorem Seqs.map {b : Int} {os : List Slt} (h : Seqs b os) (f : Slt → Slt) (hf : ∀ x, (f x).seq = x.seq) : Seqs b (os.map f) := fun i x hx => by
  rw [List.getElem?_map] at hx
  cases hy : os[i]? with
  | none => rw [hy] at hx; cases hx
  | some y =>
    rw [hy] at hx
    cases hx
    rw [hf]
    exact h i y hy
/-- What each thing bears: the first bytes of the row of its number. -/
def Says (rs : List BR) (m : Nat) (b : Nat) (os : List Slt) : Prop := ∀ (i : Nat) (x : Slt), os[i]? = some x → ∃ r, rs[b + i]? = some r ∧ x.data = r.l.take (min r.l.length m)
theorem Says.map {rs : List BR} {m b : Nat} {os : List Slt} (h : Says rs m b os) (f : Slt → Slt) (hf : ∀ x, (f x).data = x.data) : Says rs m b (os.map f) := fun i x hx => by
  rw [List.getElem?_map] at hx
  cases hy : os[i]? with
  | none => rw [hy] at hx; cases hx
  | some y =>
    rw [hy] at hx
    cases hx
    rw [hf]
    exact h i y hy
theorem Says.drop {rs : List BR} {m b : Nat} {os : List Slt} (h : Says rs m b os) (k : Nat) : Says rs m (b + k) (os.drop k) := fun i x hx => by
  rw [List.getElem?_drop] at hx
  rw [Nat.add_assoc]
  exact h _ x hx
theorem Says.snoc {rs : List BR} {m b : Nat} {os : List Slt} (h : Says rs m b os) (x : Slt) {r : BR} (hr : rs[b + os.length]? = some r) (hx : x.data = r.l.take (min r.l.length m)) : Says rs m b (os ++ [x]) := fun i y hy => by
  by_cases hi : i < os.length
  · rw [List.getElem?_append_left hi] at hy; exact h i y hy
  · rw [List.getElem?_append_right (by omega)] at hy
    have h1 := (List.getElem?_eq_some_iff.1 hy).1
    simp at h1
    have : i = os.length := by omega
    subst this
    simp at hy
    subst hy
    exact ⟨r, hr, hx⟩
def Waits (w : Int) (os : List Slt) : Prop := ∀ x ∈ os, x.wait = w
theorem Waits.inc {w : Int} {os : List Slt} (h : Waits w os) : Waits (w + 1) (os.map inc) := fun x hx => by
  obtain ⟨y, hy, rfl⟩ := List.mem_map.1 hx
  show y.wait + 1 = w + 1
  rw [h y hy]
theorem Waits.zer (os : List Slt) : Waits 0 (os.map zer) := fun x hx => by
  obtain ⟨y, hy, rfl⟩ := List.mem_map.1 hx
  rfl
theorem Waits.quiet0 {os : List Slt} (h : Waits 0 os) : quiet os = true := by
  cases os with
  | nil => rfl
  | cons x os => have := h x (by simp); simp [quiet, this]
theorem Waits.quiet1 {os : List Slt} (h : Waits 1 os) : quiet os = decide (os = []) := by
  cases os with
  | nil => rfl
  | cons x os => have := h x (by simp); simp [quiet, this]
theorem Says.len {rs : List BR} {m b : Nat} {os : List Slt} (h : Says rs m b os) (hm : m ≤ 1984) : ∀ x ∈ os, x.data.length ≤ 1984 := fun x hx => by
  obtain ⟨i, hi, rfl⟩ := List.getElem_of_mem hx
  obtain ⟨r, _, h2⟩ := h i _ (List.getElem?_eq_getElem hi)
  rw [h2, List.length_take]
  omega
theorem pk_at {ps : List Pk} {os : List Slt} (h : ps.map (fun y => (y.seq, y.data)) = os.map (fun x => (x.seq, x.data))) {i : Nat} {p : Pk} (hp : ps[i]? = some p) : ∃ x, os[i]? = some x ∧ p.seq = x.seq ∧ p.data = x.data := by
  have := congrArg (fun l => l[i]?) h
  simp only [List.getElem?_map, hp, Option.map_some] at this
  cases hx : os[i]? with
  | none => rw [hx] at this; cases this
  | some x =>
    rw [hx] at this
    simp only [Option.map_some, Option.some.injEq, Prod.mk.injEq] at this
    exact ⟨x, rfl, this.1, this.2⟩
/-- Tick, whether it tells anything or not. -/
theorem TickU_S (t : Nat) (nd ep lf said hd : Int) (ov : SV) (os : List Slt) (hw : ∀ x ∈ os, 0 ≤ x.wait ∧ x.wait < 4611686018427387904) (hdl : ∀ x ∈ os, x.data.length ≤ 140737488355328) (hol : os.length ≤ 1000) :
    Spec Try.prog 14 [.pointer (some ⟨t, 0, none⟩)] [blk t 72 (tk nd ep lf said hd ov).toArray, own ov 76 3 (os.flatMap sltC), alls os sltB] fun Γ v Θ =>
      ∃ (out : SV) (ps : List Pk) (os4 : List Slt), v = out.v ∧ ((quiet os = true ∧ ps = [] ∧ os4 = os.map inc) ∨ (quiet os = false ∧ ps.map (fun y => (y.seq, y.data)) = os.map (fun x => (x.seq, x.data)) ∧ os4 = os.map zer)) ∧
        Θ = own out 34 7 (ps.flatMap (pkE nd ep lf hd)) :: alls ps pkB :: blk t 72 (tk nd ep lf said hd ov).toArray :: own ov 76 3 (os4.flatMap sltC) :: alls os4 sltB :: Γ := by
  have hcon : ∀ f : Slt → Slt, (∀ x, sltB (f x) = sltB x) → ∀ Γ, Ent (alls os sltB :: Γ) (alls (os.map f) sltB :: Γ) := fun f hf Γ => Ent.allsCongr (by rw [List.map_map]; exact List.map_congr_left fun x _ => (hf x).symm) Γ
  refine (Tick_S t nd ep lf said hd ov os hw hdl hol).weaken fun Γ => ⟨Γ, Ent.refl _, ?_⟩
  rintro v Θ (⟨hq, rfl, rfl⟩ | ⟨hq, out, ps, rfl, hps, rfl⟩)
  · refine ⟨_, ⟨SV.nil, [], os.map inc, rfl, .inl ⟨hq, rfl, rfl⟩, rfl⟩, ?_⟩
    exact ((((hcon inc (fun _ => rfl) Γ).cons _).cons _).trans (Ent.allsNil pkB _)).trans (Ent.ownNil _ _)
  · refine ⟨_, ⟨out, ps, os.map zer, rfl, .inr ⟨hq, hps, rfl⟩, rfl⟩, ?_⟩
    exact ((((hcon zer (fun _ => rfl) Γ).cons _).cons _).cons _).cons _
theorem alls_bytes {ps : List Pk} {i : Nat} {p : Pk} {Γ Δ : List Assn} [h : Pick (alls ps pkB) Γ Δ] {w : World} (hs : Sat w Γ) (hp : ps[i]? = some p) : BytesAt w p.v.v p.data :=
  obytes_at ((hs.ent h.ent).ent (Ent.allsAt pkB hp Δ))
set_option maxHeartbeats 1000000 in
theorem TalkQuiet_S (s0 : SV) (rs : List BR) (ack ticks : Int) (W : World) (hn0 : s0.n = rs.length) (h0 : SlAt W s0.v rs.length 1 (rs.flatMap fun r => [r.v.v])) (hr : ∀ r ∈ rs, BW W r.v r.l) (ha : 0 ≤ ack ∧ ack ≤ 255) (ht : 0 ≤ ticks ∧ ticks ≤ 255) :
    LawS 5 [s0.v, .int .u8 ack, .int .u8 ticks] W := by
  have hm0 := slAt_cap h0
  unfold maxLen at hm0
  refine Spec.of_body Try.func5 rfl Try.ntmps5 rfl ?_
  intro w0 Γ
  show S _ w0 [(0, s0.v), (1, .int .u8 ack), (2, .int .u8 ticks)] (old W :: Γ) _
  refine S.seq fun K1 hK1 => ?_
  refine S.region rfl ?_
  refine S.op (S.q (q_assign rfl) rfl rfl ?_)
  first | with_reducible refine S.nilK ?_ | refine S.nil ?_
  refine hK1 _ _ ?_
  refine S.seq fun K2 hK2 => ?_
  refine S.seq fun K3 hK3 => ?_
  refine S.region rfl ?_
  refine S.op (S.call Try.en9 (vs := []) trivial (awake_S) rfl ?_)
  rintro v Θ ⟨rfl, rfl⟩
  refine S.op (S.q (q_not rfl) rfl rfl ?_)
  first | with_reducible refine S.nilK ?_ | refine S.nil ?_
  refine hK3 _ _ ?_
  refine S.condF rfl ?_
  refine S.skip ?_
  with_reducible repeat (first | refine S.then_n ?_ | refine S.then_x ?_ | refine S.then_r ?_ | refine S.inBlock_n ?_ | refine S.inBlock_r ?_ | refine S.inBlock_x rfl ?_ | refine S.noGoto_r ?_ | refine S.noGoto_n ?_ | refine S.noGoto_x ?_)
  refine hK2 _ _ ?_
  refine S.seq fun K4 hK4 => ?_
  refine S.region rfl ?_
  refine S.op (S.call Try.en10 (vs := [_, _, _]) ⟨rfl, rfl, rfl, trivial⟩ (New_S 1 2 3) rfl ?_)
  rintro v Θ ⟨t, rfl, rfl⟩
  refine S.op (S.q (q_assign rfl) rfl rfl ?_)
  first | with_reducible refine S.nilK ?_ | refine S.nil ?_
  refine hK4 _ _ ?_
  refine S.seq fun K5 hK5 => ?_
  refine S.region rfl ?_
  refine S.talk0 ?_
  refine S.op (S.q (q_assign rfl) rfl rfl ?_)
  first | with_reducible refine S.nilK ?_ | refine S.nil ?_
  refine hK5 _ _ ?_
  refine S.seq fun K6 hK6 => ?_
  refine S.seq fun K7 hK7 => ?_
  refine S.region rfl ?_
  refine S.op (S.q (q_move rfl) rfl rfl ?_)
  refine S.op (S.q (q_len Try.underlying28 rfl) rfl rfl ?_)
  refine S.op (S.q (q_move rfl) rfl rfl ?_)
  first | with_reducible refine S.nilK ?_ | refine S.nil ?_
  refine hK7 _ _ ?_
  refine S.block ?_
  refine S.loop (fun m ρ' Γ' => ∃ (k : Nat) (q : Int) (ov : SV) (os : List Slt), m + k = rs.length ∧ q = os.length ∧ os.length = min k 20 ∧ Seqs 0 os ∧ Says rs 30 0 os ∧ Waits 0 os ∧ ρ' = [(0, s0.v), (1, .int .u8 ack), (2, .int .u8 ticks), (7, .pointer (some ⟨t, 0, none⟩)), (8, .int .i64 q), (19, s0.v), (20, .int .i64 s0.n), (21, .int .i64 k)] ∧ Γ' = blk t 72 (tk 1 2 3 q 0 ov).toArray :: own ov 76 3 (os.flatMap sltC) :: alls os sltB :: old W :: Γ) (m := _) (ρ0 := _) (Γ0 := _) (⟨0, 0, SV.nil, [], rfl, rfl, by simp, Seqs.nil _, fun i x h => (by simp at h), fun x h => (by cases h), rfl, rfl⟩) (by repeat (first | exact trivial | refine ⟨rfl, ?_⟩)) Sub.ent ?_
  rintro m ρ' Γ' ⟨k, q, ov, os, hk1, hq, hos, hsq, hsy, hwt, rfl, rfl⟩
  refine S.seq fun K8 hK8 => ?_
  refine S.region rfl ?_
  refine S.op (S.q (q_lt rfl rfl) rfl rfl ?_)
  first | with_reducible refine S.nilK ?_ | refine S.nil ?_
  refine hK8 _ _ ?_
  refine S.seq fun K9 hK9 => ?_
  refine S.condD rfl (fun h2 => ?_) (fun h2 => ?_)
  · obtain ⟨r, hrk⟩ := getE (l := rs) (i := k) (by omega)
    have hbr := hr r (List.mem_of_getElem? hrk)
    have hcr := slAt_cap hbr.at_
    have hlr := hbr.len
    unfold maxLen at hcr
    obtain ⟨b, off, hb, hcell⟩ := slAt_some h0 (by omega)
    refine S.skip ?_
    with_reducible repeat (first | refine S.then_n ?_ | refine S.then_x ?_ | refine S.then_r ?_ | refine S.inBlock_n ?_ | refine S.inBlock_r ?_ | refine S.inBlock_x rfl ?_ | refine S.noGoto_r ?_ | refine S.noGoto_n ?_ | refine S.noGoto_x ?_)
    refine hK9 _ _ ?_
    refine S.seq fun K10 hK10 => ?_
    refine S.block ?_
    refine S.seq fun K11 hK11 => ?_
    refine S.region rfl ?_
    refine S.op (S.q (q_indexO (k) Try.el28 rfl hb rfl rfl (by omega)) rfl rfl ?_)
    refine S.op (S.q (q_loadW Try.at32 rfl (hcell _ _ (rows_get hrk))) rfl rfl ?_)
    refine S.op (S.q (q_assign rfl) rfl rfl ?_)
    first | with_reducible refine S.nilK ?_ | refine S.nil ?_
    refine hK11 _ _ ?_
    refine S.seq fun K12 hK12 => ?_
    refine S.region rfl ?_
    refine S.op (S.q (q_move rfl) rfl rfl ?_)
    refine S.op (S.q (q_lt rfl rfl) rfl rfl ?_)
    first | with_reducible refine S.nilK ?_ | refine S.nil ?_
    refine hK12 _ _ ?_
    refine S.condD rfl (fun h3 => ?_) (fun h3 => ?_)
    · refine S.seq fun K13 hK13 => ?_
      refine S.region rfl ?_
      refine S.op (S.q (q_move rfl) rfl rfl ?_)
      refine S.op (S.q (q_move rfl) rfl rfl ?_)
      refine S.op (S.q (q_move rfl) rfl rfl ?_)
      refine S.op (S.q (q_len Try.underlying32 rfl) rfl rfl ?_)
      refine S.op (S.q (q_min (((min r.l.length 30 : Nat) : Int)) rfl rfl (by omega)) rfl rfl ?_)
      refine S.op (S.q (q_sliceTo (min r.l.length 30) Try.el32 rfl rfl rfl (by omega)) rfl rfl ?_)
      refine S.op (S.call Try.en15 (vs := [_, _]) ⟨rfl, rfl, trivial⟩ (Say_S t 1 2 3 q 0 ov os ⟨r.v.a, min r.l.length 30, r.v.c⟩ (r.l.take (min r.l.length 30)) (old W) (fun Γ w h => (hbr.take _ (by omega)).old h) (by simp only [List.length_take]; omega) (by simp only [List.length_take]; omega) (by omega) (by omega) (by omega)) rfl ?_)
      rintro v Θ ⟨s', ov', u, rfl, hs', rfl⟩
      have hok : os.length = k := by omega
      first | with_reducible refine S.nilK ?_ | refine S.nil ?_
      refine hK13 _ _ ?_
      refine S.region rfl ?_
      refine S.op (S.q (q_move rfl) rfl rfl ?_)
      refine S.op (S.q (q_add rfl rfl (inI64 (by omega) (by omega))) rfl rfl ?_)
      refine S.op (S.q (q_assign rfl) rfl rfl ?_)
      first | with_reducible refine S.nilK ?_ | refine S.nil ?_
      with_reducible repeat (first | refine S.then_n ?_ | refine S.then_x ?_ | refine S.then_r ?_ | refine S.inBlock_n ?_ | refine S.inBlock_r ?_ | refine S.inBlock_x rfl ?_ | refine S.noGoto_r ?_ | refine S.noGoto_n ?_ | refine S.noGoto_x ?_)
      refine hK10 _ _ ?_
      refine S.region rfl ?_
      refine S.op (S.q (q_add rfl rfl (inI64 (by omega) (by omega))) rfl rfl ?_)
      refine S.op (S.q (q_move rfl) rfl rfl ?_)
      first | with_reducible refine S.nilK ?_ | refine S.nil ?_
      with_reducible repeat (first | refine S.then_n ?_ | refine S.then_x ?_ | refine S.then_r ?_ | refine S.inBlock_n ?_ | refine S.inBlock_r ?_ | refine S.inBlock_x rfl ?_ | refine S.noGoto_r ?_ | refine S.noGoto_n ?_ | refine S.noGoto_x ?_)
      first
      | exact S.next (rs.length - (k + 1)) ⟨k + 1, q + 1, ov', os ++ [⟨q + 1, r.l.take (min r.l.length 30), 0, u⟩], by omega, by rw [hq]; simp, by simp; omega, hsq.snoc _ (by simp only; omega), hsy.snoc _ (r := r) (by rw [Nat.zero_add, hok]; exact hrk) rfl, fun x hx => (by rcases List.mem_append.1 hx with h | h; exact hwt x h; (simp at h; subst h; rfl)), rfl, rfl⟩ (by omega) (by repeat (first | exact trivial | refine ⟨rfl, ?_⟩)) Sub.ent
      | exact S.next (rs.length - (k + 1)) ⟨k + 1, q, ov, os, by omega, hq, by omega, hsq, hsy, hwt, rfl, rfl⟩ (by omega) (by repeat (first | exact trivial | refine ⟨rfl, ?_⟩)) Sub.ent
    · refine S.skip ?_
      with_reducible repeat (first | refine S.then_n ?_ | refine S.then_x ?_ | refine S.then_r ?_ | refine S.inBlock_n ?_ | refine S.inBlock_r ?_ | refine S.inBlock_x rfl ?_ | refine S.noGoto_r ?_ | refine S.noGoto_n ?_ | refine S.noGoto_x ?_)
      with_reducible repeat (first | refine S.then_n ?_ | refine S.then_x ?_ | refine S.then_r ?_ | refine S.inBlock_n ?_ | refine S.inBlock_r ?_ | refine S.inBlock_x rfl ?_ | refine S.noGoto_r ?_ | refine S.noGoto_n ?_ | refine S.noGoto_x ?_)
      refine hK10 _ _ ?_
      refine S.region rfl ?_
      refine S.op (S.q (q_add rfl rfl (inI64 (by omega) (by omega))) rfl rfl ?_)
      refine S.op (S.q (q_move rfl) rfl rfl ?_)
      first | with_reducible refine S.nilK ?_ | refine S.nil ?_
      with_reducible repeat (first | refine S.then_n ?_ | refine S.then_x ?_ | refine S.then_r ?_ | refine S.inBlock_n ?_ | refine S.inBlock_r ?_ | refine S.inBlock_x rfl ?_ | refine S.noGoto_r ?_ | refine S.noGoto_n ?_ | refine S.noGoto_x ?_)
      first
      | exact S.next (rs.length - (k + 1)) ⟨k + 1, q + 1, ov', os ++ [⟨q + 1, r.l.take (min r.l.length 30), 0, u⟩], by omega, by rw [hq]; simp, by simp; omega, hsq.snoc _ (by simp only; omega), hsy.snoc _ (r := r) (by rw [Nat.zero_add, hok]; exact hrk) rfl, fun x hx => (by rcases List.mem_append.1 hx with h | h; exact hwt x h; (simp at h; subst h; rfl)), rfl, rfl⟩ (by omega) (by repeat (first | exact trivial | refine ⟨rfl, ?_⟩)) Sub.ent
      | exact S.next (rs.length - (k + 1)) ⟨k + 1, q, ov, os, by omega, hq, by omega, hsq, hsy, hwt, rfl, rfl⟩ (by omega) (by repeat (first | exact trivial | refine ⟨rfl, ?_⟩)) Sub.ent
  · have hmod : 0 ≤ ack % (q + 1) ∧ ack % (q + 1) ≤ q := by have := Int.emod_nonneg ack (b := q + 1) (by omega); have := Int.emod_lt_of_pos ack (b := q + 1) (by omega); omega
    obtain ⟨A, hA⟩ : ∃ A, ack % (q + 1) = A := ⟨_, rfl⟩
    rw [hA] at hmod
    refine S.exit ?_
    with_reducible repeat (first | refine S.then_n ?_ | refine S.then_x ?_ | refine S.then_r ?_ | refine S.inBlock_n ?_ | refine S.inBlock_r ?_ | refine S.inBlock_x rfl ?_ | refine S.noGoto_r ?_ | refine S.noGoto_n ?_ | refine S.noGoto_x ?_)
    with_reducible refine S.inBlock_s ?_
    with_reducible repeat (first | refine S.then_n ?_ | refine S.then_x ?_ | refine S.then_r ?_ | refine S.inBlock_n ?_ | refine S.inBlock_r ?_ | refine S.inBlock_x rfl ?_ | refine S.noGoto_r ?_ | refine S.noGoto_n ?_ | refine S.noGoto_x ?_)
    refine hK6 _ _ ?_
    refine S.seq fun K14 hK14 => ?_
    refine S.region rfl ?_
    refine S.op (S.q (q_move rfl) rfl rfl ?_)
    refine S.op (S.q (q_conv Try.it3 (by rw [Try.underlying5]; rfl) rfl (inI64 (by omega) (by omega))) rfl rfl ?_)
    refine S.op (S.q (q_move rfl) rfl rfl ?_)
    refine S.op (S.q (q_add rfl rfl (inI64 (by omega) (by omega))) rfl rfl ?_)
    have hq1 : (0 : Int) < q + 1 := by omega
    refine S.op (S.q (q_rem rfl rfl (⟨by omega, by omega⟩)) rfl rfl ?_)
    refine S.op (S.q (q_assign rfl) rfl rfl ?_)
    first | with_reducible refine S.nilK ?_ | refine S.nil ?_
    refine hK14 _ _ ?_
    refine S.seq fun K15 hK15 => ?_
    refine S.region rfl ?_
    rw [hA]
    refine S.op (S.q (q_move rfl) rfl rfl ?_)
    refine S.op (S.q (q_move rfl) rfl rfl ?_)
    refine S.op (S.q (q_conv Try.it26 (by rw [Try.underlying3]; rfl) rfl (inU32 (by omega) (by omega))) rfl rfl ?_)
    refine S.op (S.q (q_build (pvs := [(_, _), (_, _), (_, _), (_, _)]) [_, _, _, _, _, _, _] Try.z34 Try.p34 ⟨⟨rfl, rfl⟩, ⟨rfl, rfl⟩, ⟨rfl, rfl⟩, ⟨rfl, rfl⟩, trivial⟩ rfl) rfl rfl ?_)
    refine S.op (S.call Try.en12 (vs := [_, _]) ⟨rfl, rfl, trivial⟩ (HearZero_S t 1 2 3 q 0 ov os 1 2 3 0 A false SV.nil (by simp [mineB]; omega) rfl) rfl ?_)
    rintro v Θ ⟨ov2, rfl, rfl⟩
    have hans := hsq.ans (a := A) (by omega)
    obtain ⟨N, hN⟩ : ∃ N : Nat, A = (N : Int) := ⟨A.toNat, by omega⟩
    rw [show (A - 0).toNat = N by omega] at hans
    have hal : (ans A os).length = os.length - N := by rw [hans, List.length_drop]
    have hsq2 : Seqs A (ans A os) := by have := hsq.drop N; rw [hans]; rwa [show (0 : Int) + (N : Int) = A by omega] at this
    have hsy2 : Says rs 30 N (ans A os) := by have := hsy.drop N; rw [hans]; rwa [Nat.zero_add] at this
    have hwt2 : Waits 0 (ans A os) := by rw [hans]; exact fun x hx => hwt x (List.mem_of_mem_drop hx)
    generalize ans A os = os2 at *
    first | with_reducible refine S.nilK ?_ | refine S.nil ?_
    refine hK15 _ _ ?_
    refine S.seq fun K16 hK16 => ?_
    refine S.seq fun K17 hK17 => ?_
    refine S.region rfl ?_
    refine S.op (S.q (q_move rfl) rfl rfl ?_)
    refine S.op (S.q (q_rem rfl rfl (⟨by omega, by omega⟩)) rfl rfl ?_)
    refine S.op (S.q (q_conv Try.it3 (by rw [Try.underlying5]; rfl) rfl (inI64 (by omega) (by omega))) rfl rfl ?_)
    refine S.op (S.q (q_add rfl rfl (inI64 (by omega) (by omega))) rfl rfl ?_)
    refine S.op (S.q (q_move rfl) rfl rfl ?_)
    first | with_reducible refine S.nilK ?_ | refine S.nil ?_
    refine hK17 _ _ ?_
    refine S.block ?_
    refine S.loop (fun m ρ' Γ' => ∃ (k : Nat) (os3 : List Slt), m + k = (1 + ticks % 12).toNat ∧ os3.length = os2.length ∧ Seqs A os3 ∧ Says rs 30 N os3 ∧ Waits ((k % 2 : Nat) : Int) os3 ∧ ρ' = [(0, s0.v), (7, .pointer (some ⟨t, 0, none⟩)), (8, .int .i64 q), (11, .int .i64 A), (50, .int .i64 (1 + ticks % 12)), (51, .int .i64 k)] ∧ Γ' = blk t 72 (tk 1 2 3 q 0 ov2).toArray :: own ov2 76 3 (os3.flatMap sltC) :: alls os3 sltB :: old W :: Γ) (m := _) (ρ0 := _) (Γ0 := _) (⟨0, os2, rfl, rfl, hsq2, hsy2, hwt2, rfl, rfl⟩) (by repeat (first | exact trivial | refine ⟨rfl, ?_⟩)) Sub.ent ?_
    rintro m ρ' Γ' ⟨k2, os3, hk2, hos3, hsq3, hsy3, hwt3, rfl, rfl⟩
    refine S.seq fun K18 hK18 => ?_
    refine S.region rfl ?_
    refine S.op (S.q (q_lt rfl rfl) rfl rfl ?_)
    first | with_reducible refine S.nilK ?_ | refine S.nil ?_
    refine hK18 _ _ ?_
    refine S.seq fun K19 hK19 => ?_
    refine S.condD rfl (fun h4 => ?_) (fun h4 => ?_)
    · refine S.skip ?_
      with_reducible repeat (first | refine S.then_n ?_ | refine S.then_x ?_ | refine S.then_r ?_ | refine S.inBlock_n ?_ | refine S.inBlock_r ?_ | refine S.inBlock_x rfl ?_ | refine S.noGoto_r ?_ | refine S.noGoto_n ?_ | refine S.noGoto_x ?_)
      refine hK19 _ _ ?_
      refine S.seq fun K20 hK20 => ?_
      refine S.block ?_
      refine S.seq fun K21 hK21 => ?_
      refine S.region rfl ?_
      refine S.op (S.q (q_move rfl) rfl rfl ?_)
      refine S.op (S.q (q_assign rfl) rfl rfl ?_)
      first | with_reducible refine S.nilK ?_ | refine S.nil ?_
      refine hK21 _ _ ?_
      refine S.seq fun K22 hK22 => ?_
      refine S.region rfl ?_
      refine S.op (S.q (q_move rfl) rfl rfl ?_)
      refine S.op (S.call Try.en14 (vs := [_]) ⟨rfl, trivial⟩ (TickU_S t 1 2 3 q 0 ov2 os3 (fun x hx => by have := hwt3 x hx; omega) (fun x hx => by have := hsy3.len (by omega) x hx; omega) (by omega)) rfl ?_)
      rintro v Θ ⟨out, ps, os4, rfl, hcase, rfl⟩
      have hl4 : os4.length = os3.length ∧ Seqs A os4 ∧ Says rs 30 N os4 := by
        rcases hcase with ⟨_, _, rfl⟩ | ⟨_, _, rfl⟩
        · exact ⟨by simp, hsq3.map _ (fun _ => rfl), hsy3.map _ (fun _ => rfl)⟩
        · exact ⟨by simp, hsq3.map _ (fun _ => rfl), hsy3.map _ (fun _ => rfl)⟩
      have hev : k2 % 2 = 0 → ps = [] ∧ Waits 1 os4 := fun he => by
        rw [he] at hwt3
        rcases hcase with ⟨_, h1, rfl⟩ | ⟨h1, _⟩
        · exact ⟨h1, hwt3.inc⟩
        · rw [Waits.quiet0 hwt3] at h1; cases h1
      have hod : k2 % 2 = 1 → ps.map (fun y => (y.seq, y.data)) = os3.map (fun x => (x.seq, x.data)) ∧ Waits 0 os4 := fun he => by
        rw [he] at hwt3
        rcases hcase with ⟨h0, h1, rfl⟩ | ⟨_, h1, rfl⟩
        · rw [Waits.quiet1 hwt3] at h0
          have := of_decide_eq_true h0
          subst this h1
          exact ⟨rfl, fun x h => by cases h⟩
        · exact ⟨h1, Waits.zer _⟩
      obtain ⟨hl4, hsq4, hsy4⟩ := hl4
      clear hcase
      refine S.ownLen out fun holn _ _ => ?_
      rw [flat_length (sz := 7) (fun _ => rfl)] at holn
      refine S.op (S.q (q_assign rfl) rfl rfl ?_)
      first | with_reducible refine S.nilK ?_ | refine S.nil ?_
      refine hK22 _ _ ?_
      refine S.seq fun K23 hK23 => ?_
      refine S.seq fun K24 hK24 => ?_
      refine S.region rfl ?_
      refine S.op (S.q (q_move rfl) rfl rfl ?_)
      refine S.op (S.q (q_rem rfl rfl (⟨by omega, by omega⟩)) rfl rfl ?_)
      refine S.op (S.q (q_eq rfl rfl) rfl rfl ?_)
      first | with_reducible refine S.nilK ?_ | refine S.nil ?_
      refine hK24 _ _ ?_
      refine S.condD rfl (fun h5 => ?_) (fun h5 => ?_)
      · have he : k2 % 2 = 0 := by omega
        have hw5 := (hev he).2
        have hps : ps.length = 0 := by rw [(hev he).1]; rfl
        have hw6 : Waits (((k2 + 1) % 2 : Nat) : Int) os4 := by rw [show (k2 + 1) % 2 = 1 by omega]; exact hw5
        refine S.seq fun K25 hK25 => ?_
        refine S.seq fun K26 hK26 => ?_
        refine S.region rfl ?_
        refine S.op (S.q (q_move rfl) rfl rfl ?_)
        refine S.op (S.q (q_len Try.underlying30 rfl) rfl rfl ?_)
        refine S.op (S.q (q_gt rfl rfl) rfl rfl ?_)
        first | with_reducible refine S.nilK ?_ | refine S.nil ?_
        refine hK26 _ _ ?_
        refine S.condD rfl (fun h6 => ?_) (fun h6 => ?_)
        · exact absurd h6 (by omega)
        · refine S.skip ?_
          with_reducible repeat (first | refine S.then_n ?_ | refine S.then_x ?_ | refine S.then_r ?_ | refine S.inBlock_n ?_ | refine S.inBlock_r ?_ | refine S.inBlock_x rfl ?_ | refine S.noGoto_r ?_ | refine S.noGoto_n ?_ | refine S.noGoto_x ?_)
          refine hK25 _ _ ?_
          refine S.exit ?_
          with_reducible repeat (first | refine S.then_n ?_ | refine S.then_x ?_ | refine S.then_r ?_ | refine S.inBlock_n ?_ | refine S.inBlock_r ?_ | refine S.inBlock_x rfl ?_ | refine S.noGoto_r ?_ | refine S.noGoto_n ?_ | refine S.noGoto_x ?_)
          with_reducible refine S.inBlock_s ?_
          with_reducible repeat (first | refine S.then_n ?_ | refine S.then_x ?_ | refine S.then_r ?_ | refine S.inBlock_n ?_ | refine S.inBlock_r ?_ | refine S.inBlock_x rfl ?_ | refine S.noGoto_r ?_ | refine S.noGoto_n ?_ | refine S.noGoto_x ?_)
          refine hK20 _ _ ?_
          refine S.region rfl ?_
          refine S.op (S.q (q_add rfl rfl (inI64 (by omega) (by omega))) rfl rfl ?_)
          refine S.op (S.q (q_move rfl) rfl rfl ?_)
          first | with_reducible refine S.nilK ?_ | refine S.nil ?_
          with_reducible repeat (first | refine S.then_n ?_ | refine S.then_x ?_ | refine S.then_r ?_ | refine S.inBlock_n ?_ | refine S.inBlock_r ?_ | refine S.inBlock_x rfl ?_ | refine S.noGoto_r ?_ | refine S.noGoto_n ?_ | refine S.noGoto_x ?_)
          first
          | exact S.next (m - 1) ⟨k2 + 1, os4, by omega, by omega, hsq4, hsy4, hw6, rfl, rfl⟩ (by omega) (by repeat (first | exact trivial | refine ⟨rfl, ?_⟩)) Sub.ent
          | exact S.next (m - 1) ⟨k2 + 1, os4, by omega, by omega, hsq4, hsy4, hw7, rfl, rfl⟩ (by omega) (by repeat (first | exact trivial | refine ⟨rfl, ?_⟩)) Sub.ent
      · have he : k2 % 2 = 1 := by omega
        obtain ⟨hmap, hw7⟩ := hod he
        have hps : ps.length = os3.length := by have := congrArg List.length hmap; simpa using this
        replace hw7 : Waits (((k2 + 1) % 2 : Nat) : Int) os4 := by rw [show (k2 + 1) % 2 = 0 by omega]; exact hw7
        refine S.skip ?_
        with_reducible repeat (first | refine S.then_n ?_ | refine S.then_x ?_ | refine S.then_r ?_ | refine S.inBlock_n ?_ | refine S.inBlock_r ?_ | refine S.inBlock_x rfl ?_ | refine S.noGoto_r ?_ | refine S.noGoto_n ?_ | refine S.noGoto_x ?_)
        refine hK23 _ _ ?_
        refine S.seq fun K27 hK27 => ?_
        refine S.seq fun K28 hK28 => ?_
        refine S.region rfl ?_
        refine S.op (S.q (q_move rfl) rfl rfl ?_)
        refine S.op (S.q (q_len Try.underlying30 rfl) rfl rfl ?_)
        refine S.op (S.q (q_move rfl) rfl rfl ?_)
        refine S.op (S.q (q_move rfl) rfl rfl ?_)
        refine S.op (S.q (q_sub rfl rfl (inI64 (by omega) (by omega))) rfl rfl ?_)
        refine S.op (S.q (q_ne rfl rfl) rfl rfl ?_)
        first | with_reducible refine S.nilK ?_ | refine S.nil ?_
        refine hK28 _ _ ?_
        refine S.condD rfl (fun h7 => ?_) (fun h7 => ?_)
        · exact absurd (show (out.n : Int) = q - A by omega) h7
        · refine S.skip ?_
          with_reducible repeat (first | refine S.then_n ?_ | refine S.then_x ?_ | refine S.then_r ?_ | refine S.inBlock_n ?_ | refine S.inBlock_r ?_ | refine S.inBlock_x rfl ?_ | refine S.noGoto_r ?_ | refine S.noGoto_n ?_ | refine S.noGoto_x ?_)
          refine hK27 _ _ ?_
          refine S.seq fun K29 hK29 => ?_
          refine S.region rfl ?_
          refine S.op (S.q (q_move rfl) rfl rfl ?_)
          refine S.op (S.q (q_len Try.underlying30 rfl) rfl rfl ?_)
          refine S.op (S.q (q_move rfl) rfl rfl ?_)
          first | with_reducible refine S.nilK ?_ | refine S.nil ?_
          refine hK29 _ _ ?_
          refine S.block ?_
          refine S.loop (fun m' ρ' Γ' => ∃ j : Nat, m' + j = out.n ∧ ρ' = [(0, s0.v), (7, .pointer (some ⟨t, 0, none⟩)), (8, .int .i64 q), (11, .int .i64 A), (50, .int .i64 (1 + ticks % 12)), (51, .int .i64 k2), (68, out.v), (69, .int .i64 out.n), (70, .int .i64 j)] ∧ Γ' = own out 34 7 (ps.flatMap (pkE 1 2 3 0)) :: alls ps pkB :: blk t 72 (tk 1 2 3 q 0 ov2).toArray :: own ov2 76 3 (os4.flatMap sltC) :: alls os4 sltB :: old W :: Γ) (m := _) (ρ0 := _) (Γ0 := _) (⟨0, rfl, rfl, rfl⟩) (by repeat (first | exact trivial | refine ⟨rfl, ?_⟩)) Sub.ent ?_
          rintro m' ρ' Γ' ⟨j, hj, rfl, rfl⟩
          refine S.seq fun K30 hK30 => ?_
          refine S.region rfl ?_
          refine S.op (S.q (q_lt rfl rfl) rfl rfl ?_)
          first | with_reducible refine S.nilK ?_ | refine S.nil ?_
          refine hK30 _ _ ?_
          refine S.seq fun K31 hK31 => ?_
          refine S.condD rfl (fun h8 => ?_) (fun h8 => ?_)
          · obtain ⟨p, hp⟩ := getE (l := ps) (i := j) (by omega)
            obtain ⟨x, hx, hpx, hpd⟩ := pk_at hmap hp
            obtain ⟨r, hrk, hxd⟩ := hsy3 j x hx
            have hxs := hsq3 j x hx
            have hbr := hr r (List.mem_of_getElem? hrk)
            have hcr := slAt_cap hbr.at_
            have hlr := hbr.len
            unfold maxLen at hcr
            have hNr : N + j < rs.length := (List.getElem?_eq_some_iff.1 hrk).1
            obtain ⟨b0, off0, hb0, hcell⟩ := slAt_some h0 (by omega)
            refine S.ownSome out (by omega) fun b off hb _ _ _ => ?_
            have hdat : p.data = r.l.take (min r.l.length 30) := by rw [hpd, hxd]
            refine S.skip ?_
            with_reducible repeat (first | refine S.then_n ?_ | refine S.then_x ?_ | refine S.then_r ?_ | refine S.inBlock_n ?_ | refine S.inBlock_r ?_ | refine S.inBlock_x rfl ?_ | refine S.noGoto_r ?_ | refine S.noGoto_n ?_ | refine S.noGoto_x ?_)
            refine hK31 _ _ ?_
            refine S.seq fun K32 hK32 => ?_
            refine S.block ?_
            refine S.seq fun K33 hK33 => ?_
            refine S.region rfl ?_
            refine S.op (S.q (q_move rfl) rfl rfl ?_)
            refine S.op (S.q (q_indexO (j) Try.el30 rfl hb rfl rfl (by omega)) rfl rfl ?_)
            refine S.op (S.q (q_loadOwS (out) (j * 7) [_, _, _, _, _, _, _] Try.ag34 rfl hb (by first | rfl | exact Nat.add_assoc _ _ _ | omega) rfl (flat_seg (enc := pkE 1 2 3 0) (sz := 7) (fun _ => rfl) hp)) rfl rfl ?_)
            refine S.op (S.alloc Try.z34 rfl ?_)
            intro b15
            refine S.op (S.q (q_assign rfl) rfl rfl ?_)
            refine S.op (S.storeS (cs' := [_, _, _, _, _, _, _]) Try.ag34 rfl rfl rfl rfl rfl rfl ?_)
            first | with_reducible refine S.nilK ?_ | refine S.nil ?_
            refine hK33 _ _ ?_
            refine S.seq fun K34 hK34 => ?_
            refine S.draw ([blk b15 34 (pkE 1 2 3 0 p).toArray, old W]) [] Try.mixed ?_
            refine S.dr_take 0 [] rfl (by kernel_rfl) rfl rfl rfl (q_field Try.fo34_3 rfl) Sub.ent ?_
            refine S.dr_take 1 [] rfl (by kernel_rfl) rfl rfl rfl (q_load Try.at26 rfl rfl) Sub.ent ?_
            refine S.dr_take 2 [] rfl (by kernel_rfl) rfl rfl rfl (q_move rfl) Sub.ent ?_
            refine S.dr_take 3 [] rfl (by kernel_rfl) rfl rfl rfl (q_move rfl) Sub.ent ?_
            refine S.dr_take 4 [] rfl (by kernel_rfl) rfl rfl rfl (q_add rfl rfl (inI64 (by omega) (by omega))) Sub.ent ?_
            refine S.dr_take 5 [] rfl (by kernel_rfl) rfl rfl rfl (q_add rfl rfl (inI64 (by omega) (by omega))) Sub.ent ?_
            refine S.dr_take 6 [] rfl (by kernel_rfl) rfl rfl rfl (q_conv Try.it26 (by rw [Try.underlying3]; rfl) rfl (inU32 (by omega) (by omega))) Sub.ent ?_
            refine S.dr_take 7 [] rfl (by kernel_rfl) rfl rfl rfl (q_ne rfl rfl) Sub.ent ?_
            refine S.dr_take 8 [] rfl (by kernel_rfl) rfl rfl rfl (q_move rfl) Sub.ent ?_
            refine S.dr_takeY 9 [] rfl (by kernel_rfl) rfl rfl rfl ((decide_eq_false (by omega))) rfl rfl (q_field Try.fo34_6 rfl) Sub.ent ?_
            refine S.dr_takeY 10 [] rfl (by kernel_rfl) rfl rfl rfl ((decide_eq_false (by omega))) rfl rfl (q_load Try.at32 rfl rfl) Sub.ent ?_
            refine S.dr_takeY 11 [] rfl (by kernel_rfl) rfl rfl rfl ((decide_eq_false (by omega))) rfl rfl (q_move rfl) Sub.ent ?_
            refine S.dr_takeY 12 [] rfl (by kernel_rfl) rfl rfl rfl ((decide_eq_false (by omega))) rfl rfl (q_move rfl) Sub.ent ?_
            refine S.dr_takeY 13 [] rfl (by kernel_rfl) rfl rfl rfl ((decide_eq_false (by omega))) rfl rfl (q_move rfl) Sub.ent ?_
            refine S.dr_takeY 14 [] rfl (by kernel_rfl) rfl rfl rfl ((decide_eq_false (by omega))) rfl rfl (q_add rfl rfl (inI64 (by omega) (by omega))) Sub.ent ?_
            refine S.dr_takeY 15 [] rfl (by kernel_rfl) rfl rfl rfl ((decide_eq_false (by omega))) rfl rfl (q_indexO (N + j) Try.el28 rfl hb0 rfl (by omega) (by omega)) Sub.ent ?_
            refine S.dr_takeY 16 [] rfl (by kernel_rfl) rfl rfl rfl ((decide_eq_false (by omega))) rfl rfl (q_loadW Try.at32 rfl (hcell _ _ (rows_get hrk))) Sub.ent ?_
            refine S.dr_takeY 17 [] rfl (by kernel_rfl) rfl rfl rfl ((decide_eq_false (by omega))) rfl rfl (q_move rfl) Sub.ent ?_
            refine S.dr_takeY 18 [] rfl (by kernel_rfl) rfl rfl rfl ((decide_eq_false (by omega))) rfl rfl (q_move rfl) Sub.ent ?_
            refine S.dr_takeY 19 [] rfl (by kernel_rfl) rfl rfl rfl ((decide_eq_false (by omega))) rfl rfl (q_move rfl) Sub.ent ?_
            refine S.dr_takeY 20 [] rfl (by kernel_rfl) rfl rfl rfl ((decide_eq_false (by omega))) rfl rfl (q_add rfl rfl (inI64 (by omega) (by omega))) Sub.ent ?_
            refine S.dr_takeY 21 [] rfl (by kernel_rfl) rfl rfl rfl ((decide_eq_false (by omega))) rfl rfl (q_indexO (N + j) Try.el28 rfl hb0 rfl (by omega) (by omega)) Sub.ent ?_
            refine S.dr_takeY 22 [] rfl (by kernel_rfl) rfl rfl rfl ((decide_eq_false (by omega))) rfl rfl (q_loadW Try.at32 rfl (hcell _ _ (rows_get hrk))) Sub.ent ?_
            refine S.dr_takeY 23 [] rfl (by kernel_rfl) rfl rfl rfl ((decide_eq_false (by omega))) rfl rfl (q_len Try.underlying32 rfl) Sub.ent ?_
            refine S.dr_takeY 24 [] rfl (by kernel_rfl) rfl rfl rfl ((decide_eq_false (by omega))) rfl rfl (q_min (((min r.l.length 30 : Nat) : Int)) rfl rfl (by omega)) Sub.ent ?_
            refine S.dr_takeY 25 [] rfl (by kernel_rfl) rfl rfl rfl ((decide_eq_false (by omega))) rfl rfl (q_sliceTo (min r.l.length 30) Try.el32 rfl rfl rfl (by omega)) Sub.ent ?_
            refine S.dr_1Y (i := 26) (by kernel_rfl) rfl rfl rfl rfl ((decide_eq_false (by omega))) ?_
            refine  (S.callP Try.en16 (vs := [_, _]) ⟨rfl, rfl, trivial⟩ (fun w hs => Same_P p.v ⟨r.v.a, min r.l.length 30, r.v.c⟩ p.data (r.l.take (min r.l.length 30)) w (alls_bytes hs hp) (HasOld.slAt inferInstance hs (hbr.take _ (by omega)).at_) (by rw [hdat]; exact (hbr.take _ (by omega)).rng) (hbr.take _ (by omega)).rng) rfl ?_)
            refine S.dr_k rfl Sub.ent ?_
            refine S.dr_takeY 27 [] rfl (by kernel_rfl) rfl rfl rfl ((decide_eq_false (by omega))) rfl rfl (q_not rfl) Sub.ent ?_
            refine S.dr_take 28 [] rfl (by kernel_rfl) rfl rfl rfl (q_pickF rfl ((decide_eq_false (by omega))) rfl) Sub.ent ?_
            first | with_reducible refine S.dr_doneK (by kernel_rfl) ?_ | refine S.dr_done (by kernel_rfl) ?_
            refine hK34 _ _ ?_
            refine S.cond rfl (fun h9 => ?_) (fun h9 => ?_)
            · exact absurd h9 (by simp [hdat])
            · refine S.skip ?_
              with_reducible repeat (first | refine S.then_n ?_ | refine S.then_x ?_ | refine S.then_r ?_ | refine S.inBlock_n ?_ | refine S.inBlock_r ?_ | refine S.inBlock_x rfl ?_ | refine S.noGoto_r ?_ | refine S.noGoto_n ?_ | refine S.noGoto_x ?_)
              with_reducible repeat (first | refine S.then_n ?_ | refine S.then_x ?_ | refine S.then_r ?_ | refine S.inBlock_n ?_ | refine S.inBlock_r ?_ | refine S.inBlock_x rfl ?_ | refine S.noGoto_r ?_ | refine S.noGoto_n ?_ | refine S.noGoto_x ?_)
              refine hK32 _ _ ?_
              refine S.region rfl ?_
              refine S.op (S.q (q_add rfl rfl (inI64 (by omega) (by omega))) rfl rfl ?_)
              refine S.op (S.q (q_move rfl) rfl rfl ?_)
              first | with_reducible refine S.nilK ?_ | refine S.nil ?_
              with_reducible repeat (first | refine S.then_n ?_ | refine S.then_x ?_ | refine S.then_r ?_ | refine S.inBlock_n ?_ | refine S.inBlock_r ?_ | refine S.inBlock_x rfl ?_ | refine S.noGoto_r ?_ | refine S.noGoto_n ?_ | refine S.noGoto_x ?_)
              exact S.next (out.n - (j + 1)) (⟨j + 1, by omega, rfl, rfl⟩) (by omega) (by repeat (first | exact trivial | refine ⟨rfl, ?_⟩)) Sub.ent
          · refine S.exit ?_
            with_reducible repeat (first | refine S.then_n ?_ | refine S.then_x ?_ | refine S.then_r ?_ | refine S.inBlock_n ?_ | refine S.inBlock_r ?_ | refine S.inBlock_x rfl ?_ | refine S.noGoto_r ?_ | refine S.noGoto_n ?_ | refine S.noGoto_x ?_)
            with_reducible refine S.inBlock_s ?_
            with_reducible repeat (first | refine S.then_n ?_ | refine S.then_x ?_ | refine S.then_r ?_ | refine S.inBlock_n ?_ | refine S.inBlock_r ?_ | refine S.inBlock_x rfl ?_ | refine S.noGoto_r ?_ | refine S.noGoto_n ?_ | refine S.noGoto_x ?_)
            with_reducible repeat (first | refine S.then_n ?_ | refine S.then_x ?_ | refine S.then_r ?_ | refine S.inBlock_n ?_ | refine S.inBlock_r ?_ | refine S.inBlock_x rfl ?_ | refine S.noGoto_r ?_ | refine S.noGoto_n ?_ | refine S.noGoto_x ?_)
            refine hK20 _ _ ?_
            refine S.region rfl ?_
            refine S.op (S.q (q_add rfl rfl (inI64 (by omega) (by omega))) rfl rfl ?_)
            refine S.op (S.q (q_move rfl) rfl rfl ?_)
            first | with_reducible refine S.nilK ?_ | refine S.nil ?_
            with_reducible repeat (first | refine S.then_n ?_ | refine S.then_x ?_ | refine S.then_r ?_ | refine S.inBlock_n ?_ | refine S.inBlock_r ?_ | refine S.inBlock_x rfl ?_ | refine S.noGoto_r ?_ | refine S.noGoto_n ?_ | refine S.noGoto_x ?_)
            first
            | exact S.next (m - 1) ⟨k2 + 1, os4, by omega, by omega, hsq4, hsy4, hw6, rfl, rfl⟩ (by omega) (by repeat (first | exact trivial | refine ⟨rfl, ?_⟩)) Sub.ent
            | exact S.next (m - 1) ⟨k2 + 1, os4, by omega, by omega, hsq4, hsy4, hw7, rfl, rfl⟩ (by omega) (by repeat (first | exact trivial | refine ⟨rfl, ?_⟩)) Sub.ent
    · refine S.exit ?_
      with_reducible repeat (first | refine S.then_n ?_ | refine S.then_x ?_ | refine S.then_r ?_ | refine S.inBlock_n ?_ | refine S.inBlock_r ?_ | refine S.inBlock_x rfl ?_ | refine S.noGoto_r ?_ | refine S.noGoto_n ?_ | refine S.noGoto_x ?_)
      with_reducible refine S.inBlock_s ?_
      with_reducible repeat (first | refine S.then_n ?_ | refine S.then_x ?_ | refine S.then_r ?_ | refine S.inBlock_n ?_ | refine S.inBlock_r ?_ | refine S.inBlock_x rfl ?_ | refine S.noGoto_r ?_ | refine S.noGoto_n ?_ | refine S.noGoto_x ?_)
      refine hK16 _ _ ?_
      refine S.seq fun K35 hK35 => ?_
      refine S.region rfl ?_
      refine S.ownLen ov2 fun hol2 _ _ => ?_
      rw [flat_length sltC_len] at hol2
      refine S.op (S.q (q_move rfl) rfl rfl ?_)
      refine S.op (S.call Try.en17 (vs := [_]) ⟨rfl, trivial⟩ (Open_S t 1 2 3 q 0 ov2) rfl ?_)
      rintro v Θ ⟨rfl, rfl⟩
      refine S.op (S.q (q_move rfl) rfl rfl ?_)
      refine S.op (S.q (q_move rfl) rfl rfl ?_)
      refine S.op (S.q (q_sub rfl rfl (inI64 (by omega) (by omega))) rfl rfl ?_)
      refine S.op (S.q (q_eq rfl rfl) rfl rfl ?_)
      refine S.op (S.q (q_assign rfl) rfl rfl ?_)
      first | with_reducible refine S.nilK ?_ | refine S.nil ?_
      refine hK35 _ _ ?_
      refine S.ret ?_
      with_reducible repeat (first | refine S.then_n ?_ | refine S.then_x ?_ | refine S.then_r ?_ | refine S.inBlock_n ?_ | refine S.inBlock_r ?_ | refine S.inBlock_x rfl ?_ | refine S.noGoto_r ?_ | refine S.noGoto_n ?_ | refine S.noGoto_x ?_)
      exact S.fin (rs := [_]) (vs := [_]) Try.results5 (⟨rfl, trivial⟩)  (⟨by first | rfl | (simp only [resV]; rw [decide_eq_true (show (ov2.n : Int) = q - A by omega)]), rfl⟩) Sub.ent
open Go.ChangeShapes Go.WideShapes Go.ChangeAt
theorem TalkQuiet_law {H : Type} (enc : TypeId × Value → H) : LawWalk enc 5 Try.f5 := by
  intro W base args ds before hval hA _ _
  rw [Try.params5] at hA hval
  obtain ⟨v0, vs0, d0, ds0, p0, q0, hargs, rfl, rfl, h0, r0⟩ := trodAll_cons hA
  obtain ⟨v1, vs1, d1, ds1, p1, q1, rfl, rfl, rfl, h1, r1⟩ := trodAll_cons r0
  obtain ⟨v2, vs2, d2, ds2, p2, q2, rfl, rfl, rfl, h2, r2⟩ := trodAll_cons r1
  obtain ⟨rfl, rfl, rfl⟩ := trodAll_nil r2
  obtain rfl : args = #[v0, v1, v2] := by cases args; simp_all
  obtain ⟨s0, rs, e0, hn, hs, hb⟩ := rd_rows (arg_slice 4 Try.underlying28 (by kernel_rfl) (hval 0 28 v0 rfl rfl) h0)
  simp only [List.cons.injEq, and_true] at e0
  subst e0
  obtain ⟨a1, rfl, w1⟩ := arg_int Try.underlying5 (hval 1 5 v1 rfl rfl) h1
  obtain ⟨a2, rfl, w2⟩ := arg_int Try.underlying5 (hval 2 5 v2 rfl rfl) h2
  exact law_run (TalkQuiet_S s0 rs a1 a2 W hn hs hb (u8_rng w1) (u8_rng w2))
set_option maxRecDepth 100000 in
theorem TalkQuiet_lifted (os : Os) (started : os.Started) (H : Type) (enc : TypeId × Value → H) :
    ReturnsInHanded {} Try.checked os 5 .any (Rows.talkQuietSpec.pre6 enc Try.prog Try.f5 Rows.talkQuietRow.domain false) (Rows.talkQuietSpec.post enc Try.prog Try.f5 false true false false) :=
  lift_true started Try.func5 (by kernel_rfl)
    (ChangeSpec.witness6 (enc := enc) (C := Try.checked) false ⟨#[], #[.slice none 0 0, .int .u8 0, .int .u8 0], []⟩ 8 (by kernel_rfl) (by kernel_rfl) (by kernel_rfl) (by kernel_rfl))
    rfl rfl (by kernel_rfl) (fun ds h => by match ds, h with | [a0, a1, a2], _ => rfl) (TalkQuiet_law enc)
theorem TalkQuiet_over : Rows.talkQuietRow.holds Try.pinned (OpenSpec.ofChange Rows.talkQuietSpec) :=
  OpenClaim.holds_of_wide 5 Try.f5 rfl rfl rfl rfl rfl rfl rfl ⟨rfl, rfl, rfl, rfl, rfl⟩ rfl rfl rfl rfl rfl (by kernel_rfl) Try.func5 (by kernel_rfl)
    (of_decide_eq_true (by kernel_rfl)) (by unfold Func.isWrapper; rw [if_neg (of_decide_eq_false (by kernel_rfl))]; exact ⟨rfl, rfl⟩)
    (fun os started H enc _ => TalkQuiet_lifted os started H enc)
theorem TalkQuiet_holds : Rows.TalkQuietSaid := TalkQuiet_over
#print axioms TalkQuiet_holds
end Go.Proofs.Ytdlddggjjibeaaa
