/- The law PrioSorts: whatever is pushed comes out in order, each once. -/
import Derived.Test.YthpfljiabhjodaaPrioI
namespace Go.Proofs.Ythpfljiabhjodaa
open Go.RowKit
set_option maxRecDepth 20000
theorem S.hiSrt {n : Nat} {w0 : World} {ρ : Env} {Γ Δ : List Assn} {φ : Act → World → Prop} (pa : Option Addr) (l : List It) [p : Pick (HI pa (some l)) Γ Δ] (k : Srt l → S n w0 ρ Γ φ) : S n w0 ρ Γ φ := by
  intro a w ha hs hx
  obtain ⟨_, _, _, _, _, _, _, e, _⟩ := Sat.openHI (hs.ent p.ent)
  exact k e a w ha hs hx
/-- What was seen is what is there. -/
structure Seen (l : List It) (M : List (Int × Value)) : Prop where
  get : ∀ z, alGet z M = if hasL z l = true then some (.bool true) else none
  len : M.length = l.length
  nd : (l.map (·.id)).Nodup
theorem alPut_len (z : Int) (v : Value) : ∀ l : List (Int × Value), (alPut z v l).length = if (alGet z l).isSome then l.length else l.length + 1
  | [] => rfl
  | x :: l => by
    have ih := alPut_len z v l
    unfold alPut alGet
    split
    · rfl
    · rw [List.length_cons, ih]
      split <;> simp
theorem hasL_ins (z : Int) (x : It) (l : List It) : hasL z (ins x l) = (decide (x.id = z) || hasL z l) := by
  rw [hasL_perm (ins_perm x l)]
  rfl
theorem Seen.push {l : List It} {M : List (Int × Value)} (h : Seen l M) (x : It) : ∃ l', (pushR x (some l)).2 = some l' ∧ Seen l' (alPut x.id (.bool true) M) ∧ l'.length ≤ l.length + 1 ∧ (decide ((pushR x (some l)).1 = 0) == hasL x.id l) = false := by
  have hl := alPut_len x.id (.bool true) M
  rw [h.get x.id] at hl
  cases hx : hasL x.id l with
  | true =>
    refine ⟨l, by simp only [pushR, hx, if_true], ⟨fun z => ?_, ?_, h.nd⟩, by omega, by simp only [pushR, hx, if_true]; rfl⟩
    · rw [alGet_put, h.get]
      by_cases e : z = x.id
      · rw [if_pos e, e, if_pos hx]
      · rw [if_neg e]
    · rw [hl, hx]
      simpa using h.len
  | false =>
    have hp : pushR x (some l) = (0, some (ins x l)) := by simp only [pushR, hx]; rfl
    refine ⟨ins x l, by rw [hp], ⟨fun z => ?_, ?_, ?_⟩, by rw [(ins_perm x l).length_eq]; simp, by rw [hp]; rfl⟩
    · rw [alGet_put, hasL_ins, h.get]
      by_cases e : z = x.id
      · rw [if_pos e, decide_eq_true e.symm]; rfl
      · rw [if_neg e, decide_eq_false (fun e2 => e e2.symm)]; rfl
    · rw [hl, hx, (ins_perm x l).length_eq]
      simpa using h.len
    · refine ((ins_perm x l).map (·.id)).symm.nodup ?_
      rw [List.map_cons, List.nodup_cons]
      refine ⟨fun hm => ?_, h.nd⟩
      obtain ⟨y, hy, e⟩ := List.mem_map.1 hm
      exact hasL_false hx y hy e
set_option maxHeartbeats 1000000 in
theorem PrioSorts_S (s0 : SV) (rs : List It) (W : World) (hn0 : s0.n = rs.length) (h0 : SlAt W s0.v rs.length 3 (rs.flatMap itC)) : LawS 4 [s0.v] W := by
  have hm0 := slAt_cap h0
  unfold maxLen at hm0
  refine Spec.of_body Try.func4 rfl Try.ntmps4 rfl ?_
  intro w0 Γ
  show S _ w0 [(0, s0.v)] (old W :: Γ) _
  refine S.seq fun K1 hK1 => ?_
  refine S.region rfl ?_
  refine S.op (S.q (q_assign rfl) rfl rfl ?_)
  first | with_reducible refine S.nilK ?_ | refine S.nil ?_
  refine hK1 _ _ ?_
  refine S.seq fun K2 hK2 => ?_
  refine S.seq fun K3 hK3 => ?_
  refine S.region rfl ?_
  refine S.op (S.call Try.en8 (vs := []) trivial (awake_S) rfl ?_)
  rintro v Θ ⟨rfl, rfl⟩
  refine S.op (S.q (q_not rfl) rfl rfl ?_)
  first | with_reducible refine S.nilK ?_ | refine S.nil ?_
  refine hK3 _ _ ?_
  refine S.condF rfl ?_
  refine S.skip ?_
  with_reducible repeat (first | refine S.then_n ?_ | refine S.then_x ?_ | refine S.then_r ?_ | refine S.inBlock_n ?_ | refine S.inBlock_r ?_ | refine S.inBlock_x rfl ?_ | refine S.noGoto_r ?_ | refine S.noGoto_n ?_ | refine S.noGoto_x ?_)
  refine hK2 _ _ ?_
  refine S.seq fun K4 hK4 => ?_
  refine S.region rfl ?_
  refine S.op (S.call Try.en11 (vs := []) trivial (HNew_S) rfl ?_)
  rintro v Θ ⟨pa, rfl, rfl⟩
  refine S.op (S.q (q_assign rfl) rfl rfl ?_)
  first | with_reducible refine S.nilK ?_ | refine S.nil ?_
  refine hK4 _ _ ?_
  refine S.seq fun K5 hK5 => ?_
  refine S.region rfl ?_
  refine S.op (S.makeMap .u32 rfl ?_)
  intro b14
  refine S.op (S.q (q_assign rfl) rfl rfl ?_)
  first | with_reducible refine S.nilK ?_ | refine S.nil ?_
  refine hK5 _ _ ?_
  refine S.seq fun K6 hK6 => ?_
  refine S.seq fun K7 hK7 => ?_
  refine S.region rfl ?_
  refine S.op (S.q (q_move rfl) rfl rfl ?_)
  refine S.op (S.q (q_len Try.underlying30 rfl) rfl rfl ?_)
  refine S.op (S.q (q_move rfl) rfl rfl ?_)
  first | with_reducible refine S.nilK ?_ | refine S.nil ?_
  refine hK7 _ _ ?_
  refine S.cut (fun ρ' Γ' => ∃ (l : List It) (M : List (Int × Value)), l.length ≤ 100 ∧ Seen l M ∧ ρ' = [(3, .pointer pa), (4, .map (some b14))] ∧ Γ' = HI pa (some l) :: mapL b14 .u32 M :: old W :: Γ) ?_ ?_
  · refine S.block ?_
    refine S.loop (fun m ρ' Γ' => ∃ (k : Nat) (l : List It) (M : List (Int × Value)), m + k = rs.length ∧ k ≤ 100 ∧ l.length ≤ k ∧ Seen l M ∧ ρ' = [(3, .pointer pa), (4, .map (some b14)), (15, s0.v), (16, .int .i64 s0.n), (17, .int .i64 k)] ∧ Γ' = HI pa (some l) :: mapL b14 .u32 M :: old W :: Γ) (m := _) (ρ0 := _) (Γ0 := _) (⟨0, [], [], rfl, by omega, Nat.le_refl _, ⟨fun z => rfl, rfl, List.nodup_nil⟩, rfl, rfl⟩) (by repeat (first | exact trivial | refine ⟨rfl, ?_⟩)) Sub.ent ?_
    rintro m ρ' Γ' ⟨k, l, M, hmk, hk100, hlk, hseen, rfl, rfl⟩
    refine S.seq fun K8 hK8 => ?_
    refine S.region rfl ?_
    refine S.op (S.q (q_lt rfl rfl) rfl rfl ?_)
    first | with_reducible refine S.nilK ?_ | refine S.nil ?_
    refine hK8 _ _ ?_
    refine S.seq fun K9 hK9 => ?_
    refine S.condD rfl (fun h2 => ?_) (fun h2 => ?_)
    · obtain ⟨x, hx⟩ := getE (l := rs) (i := k) (by omega)
      obtain ⟨b, off, hb, hcell⟩ := slAt_some h0 (by omega)
      obtain ⟨l', hl1, hl2, hl3, hl4⟩ := hseen.push x
      refine S.skip ?_
      with_reducible repeat (first | refine S.then_n ?_ | refine S.then_x ?_ | refine S.then_r ?_ | refine S.inBlock_n ?_ | refine S.inBlock_r ?_ | refine S.inBlock_x rfl ?_ | refine S.noGoto_r ?_ | refine S.noGoto_n ?_ | refine S.noGoto_x ?_)
      refine hK9 _ _ ?_
      refine S.seq fun K10 hK10 => ?_
      refine S.block ?_
      refine S.seq fun K11 hK11 => ?_
      refine S.region rfl ?_
      refine S.op (S.q (q_move rfl) rfl rfl ?_)
      refine S.op (S.q (q_indexO (k) Try.el30 rfl hb rfl rfl (by omega)) rfl rfl ?_)
      refine S.op (S.q (q_loadWS (itC x) Try.ag24 rfl rfl (fun i u hu => by rw [Nat.add_assoc]; exact hcell _ _ (flat_seg (enc := itC) (sz := 3) (fun _ => rfl) hx i u hu))) rfl rfl ?_)
      refine S.op (S.alloc Try.z24 rfl ?_)
      intro b6
      refine S.op (S.q (q_assign rfl) rfl rfl ?_)
      refine S.op (S.storeS (cs' := [_, _, _]) Try.ag24 rfl rfl rfl rfl rfl rfl ?_)
      first | with_reducible refine S.nilK ?_ | refine S.nil ?_
      refine hK11 _ _ ?_
      refine S.seq fun K12 hK12 => ?_
      refine S.seq fun K13 hK13 => ?_
      refine S.region rfl ?_
      refine S.op (S.q (q_move rfl) rfl rfl ?_)
      refine S.op (S.q (q_ge rfl rfl) rfl rfl ?_)
      first | with_reducible refine S.nilK ?_ | refine S.nil ?_
      refine hK13 _ _ ?_
      refine S.condD rfl (fun h3 => ?_) (fun h3 => ?_)
      · refine S.exit ?_
        with_reducible repeat (first | refine S.then_n ?_ | refine S.then_x ?_ | refine S.then_r ?_ | refine S.inBlock_n ?_ | refine S.inBlock_r ?_ | refine S.inBlock_x rfl ?_ | refine S.noGoto_r ?_ | refine S.noGoto_n ?_ | refine S.noGoto_x ?_)
        with_reducible refine S.inBlock_s ?_
        with_reducible repeat (first | refine S.then_n ?_ | refine S.then_x ?_ | refine S.then_r ?_ | refine S.inBlock_n ?_ | refine S.inBlock_r ?_ | refine S.inBlock_x rfl ?_ | refine S.noGoto_r ?_ | refine S.noGoto_n ?_ | refine S.noGoto_x ?_)
        with_reducible repeat (first | refine S.then_n ?_ | refine S.then_x ?_ | refine S.then_r ?_ | refine S.inBlock_n ?_ | refine S.inBlock_r ?_ | refine S.inBlock_x rfl ?_ | refine S.noGoto_r ?_ | refine S.noGoto_n ?_ | refine S.noGoto_x ?_)
        exact S.meet ⟨l, M, by omega, hseen, rfl, rfl⟩ ⟨rfl, rfl, trivial⟩ Sub.ent
      · refine S.skip ?_
        with_reducible repeat (first | refine S.then_n ?_ | refine S.then_x ?_ | refine S.then_r ?_ | refine S.inBlock_n ?_ | refine S.inBlock_r ?_ | refine S.inBlock_x rfl ?_ | refine S.noGoto_r ?_ | refine S.noGoto_n ?_ | refine S.noGoto_x ?_)
        refine hK12 _ _ ?_
        refine S.seq fun K14 hK14 => ?_
        refine S.seq fun K15 hK15 => ?_
        refine S.draw ([blk b6 24 (itC x).toArray, mapL b14 .u32 M]) [] Try.mixed ?_
        refine S.dr_take 0 [] rfl (by kernel_rfl) rfl rfl rfl (q_move rfl) Sub.ent ?_
        refine S.dr_take 1 [] rfl (by kernel_rfl) rfl rfl rfl (q_loadS [_, _, _] Try.ag24 rfl rfl ⟨rfl, rfl, rfl, trivial⟩) Sub.ent ?_
        refine S.dr_take 4 [] rfl (by kernel_rfl) rfl rfl rfl (q_move rfl) Sub.ent ?_
        refine S.dr_take 5 [] rfl (by kernel_rfl) rfl rfl rfl (q_field Try.fo24_0 rfl) Sub.ent ?_
        refine S.dr_take 6 [] rfl (by kernel_rfl) rfl rfl rfl (q_load Try.at22 rfl rfl) Sub.ent ?_
        refine S.dr_take 7 [] rfl (by kernel_rfl) rfl rfl rfl (q_lookup1 (.bool (hasL x.id l)) Try.underlying33 Try.underlying22 Try.zv4 rfl rfl rfl (by rw [hseen.get]; cases hasL x.id l <;> rfl)) Sub.ent ?_
        refine S.dr_1 (i := 2) (by kernel_rfl) rfl rfl ?_
        refine  (S.call Try.en12 (vs := [_, _]) ⟨rfl, rfl, trivial⟩ (HPush_S pa (some l) x (by show l.length ≤ 999; omega)) rfl ?_)
        rintro v Θ ⟨rfl, rfl⟩
        rw [hl1]
        refine S.dr_k rfl Sub.ent ?_
        refine S.dr_take 3 [] rfl (by kernel_rfl) rfl rfl rfl (q_eq rfl rfl) Sub.ent ?_
        refine S.dr_take 8 [] rfl (by kernel_rfl) rfl rfl rfl (q_eqB Try.underlying4 rfl rfl) Sub.ent ?_
        first | with_reducible refine S.dr_doneK (by kernel_rfl) ?_ | refine S.dr_done (by kernel_rfl) ?_
        refine hK15 _ _ ?_
        refine S.cond rfl (fun h4 => ?_) (fun h4 => ?_)
        · exact absurd (hl4.symm.trans h4) (by simp)
        · refine S.skip ?_
          with_reducible repeat (first | refine S.then_n ?_ | refine S.then_x ?_ | refine S.then_r ?_ | refine S.inBlock_n ?_ | refine S.inBlock_r ?_ | refine S.inBlock_x rfl ?_ | refine S.noGoto_r ?_ | refine S.noGoto_n ?_ | refine S.noGoto_x ?_)
          refine hK14 _ _ ?_
          refine S.region rfl ?_
          refine S.op (S.q (q_move rfl) rfl rfl ?_)
          refine S.op (S.q (q_field Try.fo24_0 rfl) rfl rfl ?_)
          refine S.op (S.q (q_load Try.at22 rfl rfl) rfl rfl ?_)
          refine S.op (S.mapUpdate Try.underlying33 Try.underlying22 rfl rfl rfl rfl ?_)
          first | with_reducible refine S.nilK ?_ | refine S.nil ?_
          with_reducible repeat (first | refine S.then_n ?_ | refine S.then_x ?_ | refine S.then_r ?_ | refine S.inBlock_n ?_ | refine S.inBlock_r ?_ | refine S.inBlock_x rfl ?_ | refine S.noGoto_r ?_ | refine S.noGoto_n ?_ | refine S.noGoto_x ?_)
          refine hK10 _ _ ?_
          refine S.region rfl ?_
          refine S.op (S.q (q_add rfl rfl (inI64 (by omega) (by omega))) rfl rfl ?_)
          refine S.op (S.q (q_move rfl) rfl rfl ?_)
          first | with_reducible refine S.nilK ?_ | refine S.nil ?_
          with_reducible repeat (first | refine S.then_n ?_ | refine S.then_x ?_ | refine S.then_r ?_ | refine S.inBlock_n ?_ | refine S.inBlock_r ?_ | refine S.inBlock_x rfl ?_ | refine S.noGoto_r ?_ | refine S.noGoto_n ?_ | refine S.noGoto_x ?_)
          exact S.next (m - 1) (⟨k + 1, l', _, by omega, by omega, by omega, hl2, rfl, rfl⟩) (by omega) (by repeat (first | exact trivial | refine ⟨rfl, ?_⟩)) Sub.ent
    · refine S.exit ?_
      with_reducible repeat (first | refine S.then_n ?_ | refine S.then_x ?_ | refine S.then_r ?_ | refine S.inBlock_n ?_ | refine S.inBlock_r ?_ | refine S.inBlock_x rfl ?_ | refine S.noGoto_r ?_ | refine S.noGoto_n ?_ | refine S.noGoto_x ?_)
      with_reducible refine S.inBlock_s ?_
      with_reducible repeat (first | refine S.then_n ?_ | refine S.then_x ?_ | refine S.then_r ?_ | refine S.inBlock_n ?_ | refine S.inBlock_r ?_ | refine S.inBlock_x rfl ?_ | refine S.noGoto_r ?_ | refine S.noGoto_n ?_ | refine S.noGoto_x ?_)
      with_reducible repeat (first | refine S.then_n ?_ | refine S.then_x ?_ | refine S.then_r ?_ | refine S.inBlock_n ?_ | refine S.inBlock_r ?_ | refine S.inBlock_x rfl ?_ | refine S.noGoto_r ?_ | refine S.noGoto_n ?_ | refine S.noGoto_x ?_)
      exact S.meet ⟨l, M, by omega, hseen, rfl, rfl⟩ ⟨rfl, rfl, trivial⟩ Sub.ent
  · rintro ρ' Γ' ⟨l, M, hl100, hseen, rfl, rfl⟩
    refine hK6 _ _ ?_
    refine S.seq fun K16 hK16 => ?_
    refine S.region rfl ?_
    refine S.op (S.alloc Try.z25 rfl ?_)
    intro b7
    first | with_reducible refine S.nilK ?_ | refine S.nil ?_
    refine hK16 _ _ ?_
    refine S.seq fun K17 hK17 => ?_
    refine S.seq fun K18 hK18 => ?_
    refine S.region rfl ?_
    refine S.op (S.q (q_move rfl) rfl rfl ?_)
    refine S.op (S.q (q_lenM Try.underlying33 rfl) rfl rfl ?_)
    obtain ⟨n0, hn0'⟩ : ∃ n0, n0 = M.length := ⟨_, rfl⟩
    rw [← hn0']
    have hlen := hseen.len
    refine S.hiSrt pa l fun hsrt => ?_
    refine S.conv (blk b7 25 #[.int .u32 0, .int .u8 0, .int .u32 0]) (show Ent _ (blk b7 25 (itC it0).toArray :: _) from Ent.refl _) ?_
    refine S.op (S.q (q_move rfl) rfl rfl ?_)
    first | with_reducible refine S.nilK ?_ | refine S.nil ?_
    refine hK18 _ _ ?_
    refine S.block ?_
    refine S.loop (fun m ρ' Γ' => ∃ (i : Nat) (l' : List It) (M' : List (Int × Value)) (last : It), m + i = n0 ∧ i + l'.length = n0 ∧ (l'.map (·.id)).Nodup ∧ Srt l' ∧ (∀ y ∈ l', alGet y.id M' = some (.bool true)) ∧ (0 < i → ∀ y ∈ l', bf last y = true) ∧ ρ' = [(3, .pointer pa), (4, .map (some b14)), (7, .pointer (some ⟨b7, 0, none⟩)), (38, .int .i64 n0), (39, .int .i64 i)] ∧ Γ' = HI pa (some l') :: mapL b14 .u32 M' :: blk b7 25 (itC last).toArray :: old W :: Γ) (m := _) (ρ0 := _) (Γ0 := _) (⟨0, l, M, it0, rfl, by omega, hseen.nd, hsrt, fun y hy => by rw [hseen.get, if_pos (show hasL y.id l = true from List.any_eq_true.2 ⟨y, hy, decide_eq_true rfl⟩)], fun h => absurd h (by omega), rfl, rfl⟩) (by repeat (first | exact trivial | refine ⟨rfl, ?_⟩)) Sub.ent ?_
    rintro m ρ' Γ' ⟨i, l', M', last, hmi, hil, hnd', hsrt', hget', hlast', rfl, rfl⟩
    refine S.seq fun K19 hK19 => ?_
    refine S.region rfl ?_
    refine S.op (S.q (q_lt rfl rfl) rfl rfl ?_)
    first | with_reducible refine S.nilK ?_ | refine S.nil ?_
    refine hK19 _ _ ?_
    refine S.seq fun K20 hK20 => ?_
    refine S.condD rfl (fun h5 => ?_) (fun h5 => ?_)
    · obtain ⟨a, l2, rfl⟩ : ∃ a l2, l' = a :: l2 := by
        cases l' with
        | nil => exact absurd hil (by simp only [List.length_nil]; omega)
        | cons a l2 => exact ⟨a, l2, rfl⟩
      rw [List.length_cons] at hil
      have hnd2 := List.nodup_cons.1 (by simpa only [List.map_cons] using hnd')
      have hsrt2 := List.pairwise_cons.1 hsrt'
      refine S.skip ?_
      with_reducible repeat (first | refine S.then_n ?_ | refine S.then_x ?_ | refine S.then_r ?_ | refine S.inBlock_n ?_ | refine S.inBlock_r ?_ | refine S.inBlock_x rfl ?_ | refine S.noGoto_r ?_ | refine S.noGoto_n ?_ | refine S.noGoto_x ?_)
      refine hK20 _ _ ?_
      refine S.seq fun K21 hK21 => ?_
      refine S.block ?_
      refine S.seq fun K22 hK22 => ?_
      refine S.region rfl ?_
      refine S.op (S.q (q_move rfl) rfl rfl ?_)
      refine S.op (S.q (q_assign rfl) rfl rfl ?_)
      first | with_reducible refine S.nilK ?_ | refine S.nil ?_
      refine hK22 _ _ ?_
      refine S.seq fun K23 hK23 => ?_
      refine S.region rfl ?_
      refine S.op (S.q (q_move rfl) rfl rfl ?_)
      refine S.op (S.call Try.en13 (vs := [_]) ⟨rfl, trivial⟩ (HPop_S pa (some (a :: l2)) (by show l2.length + 1 ≤ 1000; omega)) rfl ?_)
      rintro v Θ ⟨rfl, rfl⟩
      rw [show popR (some (a :: l2)) = (a, true, some l2) from rfl]
      refine S.op (S.q (q_move rfl) rfl rfl ?_)
      refine S.op (S.q (q_extract rfl rfl) rfl rfl ?_)
      refine S.op (S.q (q_extract rfl rfl) rfl rfl ?_)
      refine S.op (S.alloc Try.z25 rfl ?_)
      intro b9
      refine S.op (S.storeS (cs' := [_, _, _]) Try.ag25 rfl rfl rfl rfl rfl rfl ?_)
      refine S.op (S.q (q_assign rfl) rfl rfl ?_)
      first | with_reducible refine S.nilK ?_ | refine S.nil ?_
      refine hK23 _ _ ?_
      refine S.seq fun K24 hK24 => ?_
      refine S.seq fun K25 hK25 => ?_
      refine S.regionG ?_
      refine S.g_op rfl (S.q (q_move rfl) rfl rfl ?_)
      refine S.g_op rfl (S.q (q_not rfl) rfl rfl ?_)
      refine S.g_op rfl (S.q (q_move rfl) rfl rfl ?_)
      refine S.g_yes rfl rfl rfl (rfl) (S.q (q_move rfl) rfl rfl ?_)
      refine S.g_yes rfl rfl rfl (rfl) (S.q (q_field Try.fo25_0 rfl) rfl rfl ?_)
      refine S.g_yes rfl rfl rfl (rfl) (S.q (q_load Try.at22 rfl rfl) rfl rfl ?_)
      refine S.g_yes rfl rfl rfl (rfl) (S.q (q_lookup1 (.bool true) Try.underlying33 Try.underlying22 Try.zv4 rfl rfl rfl (by rw [hget' a (List.mem_cons_self ..)]; rfl)) rfl rfl ?_)
      refine S.g_yes rfl rfl rfl (rfl) (S.q (q_not rfl) rfl rfl ?_)
      refine S.g_op rfl (S.q (q_pickF rfl (rfl) rfl) rfl rfl ?_)
      refine S.g_op rfl (S.q (q_move rfl) rfl rfl ?_)
      refine S.g_yes rfl rfl rfl (rfl) (S.q (q_move rfl) rfl rfl ?_)
      refine S.g_yes rfl rfl rfl (rfl) (S.q (q_gt rfl rfl) rfl rfl ?_)
      refine S.g_yes rfl rfl rfl (rfl) (S.q (q_move rfl) rfl rfl ?_)
      by_cases hg18_12 : (0 : Int) < (i : Nat)
      · refine S.g_yes rfl rfl rfl (decide_eq_true hg18_12) (S.q (q_loadS [_, _, _] Try.ag25 rfl rfl ⟨rfl, rfl, rfl, trivial⟩) rfl rfl ?_)
        refine S.g_yes rfl rfl rfl (decide_eq_true hg18_12) (S.q (q_loadS [_, _, _] Try.ag25 rfl rfl ⟨rfl, rfl, rfl, trivial⟩) rfl rfl ?_)
        refine S.g_yes rfl rfl rfl (decide_eq_true hg18_12) (S.callP Try.en9 (vs := [_, _]) ⟨rfl, rfl, trivial⟩ (fun w hs => First_P last a w) rfl ?_)
        rw [hlast' (by omega) a (List.mem_cons_self ..)]
        refine S.g_yes rfl rfl rfl (decide_eq_true hg18_12) (S.q (q_not rfl) rfl rfl ?_)
        refine S.g_yes rfl rfl rfl (rfl) (S.q (q_pickT rfl (decide_eq_true hg18_12) rfl) rfl rfl ?_)
        refine S.g_op rfl (S.q (q_pickF rfl (rfl) rfl) rfl rfl ?_)
        first | with_reducible refine S.g_nilK ?_ | refine S.g_nil ?_
        refine hK25 _ _ ?_
        refine S.condF rfl ?_
        refine S.skip ?_
        with_reducible repeat (first | refine S.then_n ?_ | refine S.then_x ?_ | refine S.then_r ?_ | refine S.inBlock_n ?_ | refine S.inBlock_r ?_ | refine S.inBlock_x rfl ?_ | refine S.noGoto_r ?_ | refine S.noGoto_n ?_ | refine S.noGoto_x ?_)
        refine hK24 _ _ ?_
        refine S.seq fun K26 hK26 => ?_
        refine S.region rfl ?_
        refine S.op (S.q (q_move rfl) rfl rfl ?_)
        refine S.op (S.q (q_field Try.fo25_0 rfl) rfl rfl ?_)
        refine S.op (S.q (q_load Try.at22 rfl rfl) rfl rfl ?_)
        refine S.op (S.mapUpdate Try.underlying33 Try.underlying22 rfl rfl rfl rfl ?_)
        first | with_reducible refine S.nilK ?_ | refine S.nil ?_
        refine hK26 _ _ ?_
        refine S.region rfl ?_
        refine S.op (S.q (q_loadS [_, _, _] Try.ag25 rfl rfl ⟨rfl, rfl, rfl, trivial⟩) rfl rfl ?_)
        refine S.op (S.storeS (cs' := [_, _, _]) Try.ag25 rfl rfl rfl rfl rfl rfl ?_)
        first | with_reducible refine S.nilK ?_ | refine S.nil ?_
        with_reducible repeat (first | refine S.then_n ?_ | refine S.then_x ?_ | refine S.then_r ?_ | refine S.inBlock_n ?_ | refine S.inBlock_r ?_ | refine S.inBlock_x rfl ?_ | refine S.noGoto_r ?_ | refine S.noGoto_n ?_ | refine S.noGoto_x ?_)
        refine hK21 _ _ ?_
        refine S.region rfl ?_
        refine S.op (S.q (q_add rfl rfl (inI64 (by omega) (by omega))) rfl rfl ?_)
        refine S.op (S.q (q_move rfl) rfl rfl ?_)
        first | with_reducible refine S.nilK ?_ | refine S.nil ?_
        with_reducible repeat (first | refine S.then_n ?_ | refine S.then_x ?_ | refine S.then_r ?_ | refine S.inBlock_n ?_ | refine S.inBlock_r ?_ | refine S.inBlock_x rfl ?_ | refine S.noGoto_r ?_ | refine S.noGoto_n ?_ | refine S.noGoto_x ?_)
        exact S.next (m - 1) (⟨i + 1, l2, alPut a.id (.bool false) M', a, by omega, by omega, hnd2.2, hsrt2.2, fun y hy => by rw [alGet_put, if_neg (fun (e : y.id = a.id) => hnd2.1 (e ▸ List.mem_map_of_mem hy))]; exact hget' y (List.mem_cons_of_mem _ hy), fun _ y hy => hsrt2.1 y hy, rfl, rfl⟩) (by omega) (by repeat (first | exact trivial | refine ⟨rfl, ?_⟩)) Sub.ent
      · refine S.g_no rfl rfl rfl (decide_eq_false hg18_12) rfl rfl ?_
        refine S.g_no rfl rfl rfl (decide_eq_false hg18_12) rfl rfl ?_
        refine S.g_no rfl rfl rfl (decide_eq_false hg18_12) rfl rfl ?_
        refine S.g_no rfl rfl rfl (decide_eq_false hg18_12) rfl rfl ?_
        refine S.g_yes rfl rfl rfl (rfl) (S.q (q_pickF rfl (decide_eq_false hg18_12) rfl) rfl rfl ?_)
        refine S.g_op rfl (S.q (q_pickF rfl (rfl) rfl) rfl rfl ?_)
        first | with_reducible refine S.g_nilK ?_ | refine S.g_nil ?_
        refine hK25 _ _ ?_
        refine S.condF rfl ?_
        refine S.skip ?_
        with_reducible repeat (first | refine S.then_n ?_ | refine S.then_x ?_ | refine S.then_r ?_ | refine S.inBlock_n ?_ | refine S.inBlock_r ?_ | refine S.inBlock_x rfl ?_ | refine S.noGoto_r ?_ | refine S.noGoto_n ?_ | refine S.noGoto_x ?_)
        refine hK24 _ _ ?_
        refine S.seq fun K27 hK27 => ?_
        refine S.region rfl ?_
        refine S.op (S.q (q_move rfl) rfl rfl ?_)
        refine S.op (S.q (q_field Try.fo25_0 rfl) rfl rfl ?_)
        refine S.op (S.q (q_load Try.at22 rfl rfl) rfl rfl ?_)
        refine S.op (S.mapUpdate Try.underlying33 Try.underlying22 rfl rfl rfl rfl ?_)
        first | with_reducible refine S.nilK ?_ | refine S.nil ?_
        refine hK27 _ _ ?_
        refine S.region rfl ?_
        refine S.op (S.q (q_loadS [_, _, _] Try.ag25 rfl rfl ⟨rfl, rfl, rfl, trivial⟩) rfl rfl ?_)
        refine S.op (S.storeS (cs' := [_, _, _]) Try.ag25 rfl rfl rfl rfl rfl rfl ?_)
        first | with_reducible refine S.nilK ?_ | refine S.nil ?_
        with_reducible repeat (first | refine S.then_n ?_ | refine S.then_x ?_ | refine S.then_r ?_ | refine S.inBlock_n ?_ | refine S.inBlock_r ?_ | refine S.inBlock_x rfl ?_ | refine S.noGoto_r ?_ | refine S.noGoto_n ?_ | refine S.noGoto_x ?_)
        refine hK21 _ _ ?_
        refine S.region rfl ?_
        refine S.op (S.q (q_add rfl rfl (inI64 (by omega) (by omega))) rfl rfl ?_)
        refine S.op (S.q (q_move rfl) rfl rfl ?_)
        first | with_reducible refine S.nilK ?_ | refine S.nil ?_
        with_reducible repeat (first | refine S.then_n ?_ | refine S.then_x ?_ | refine S.then_r ?_ | refine S.inBlock_n ?_ | refine S.inBlock_r ?_ | refine S.inBlock_x rfl ?_ | refine S.noGoto_r ?_ | refine S.noGoto_n ?_ | refine S.noGoto_x ?_)
        exact S.next (m - 1) (⟨i + 1, l2, alPut a.id (.bool false) M', a, by omega, by omega, hnd2.2, hsrt2.2, fun y hy => by rw [alGet_put, if_neg (fun (e : y.id = a.id) => hnd2.1 (e ▸ List.mem_map_of_mem hy))]; exact hget' y (List.mem_cons_of_mem _ hy), fun _ y hy => hsrt2.1 y hy, rfl, rfl⟩) (by omega) (by repeat (first | exact trivial | refine ⟨rfl, ?_⟩)) Sub.ent
    · refine S.exit ?_
      with_reducible repeat (first | refine S.then_n ?_ | refine S.then_x ?_ | refine S.then_r ?_ | refine S.inBlock_n ?_ | refine S.inBlock_r ?_ | refine S.inBlock_x rfl ?_ | refine S.noGoto_r ?_ | refine S.noGoto_n ?_ | refine S.noGoto_x ?_)
      with_reducible refine S.inBlock_s ?_
      with_reducible repeat (first | refine S.then_n ?_ | refine S.then_x ?_ | refine S.then_r ?_ | refine S.inBlock_n ?_ | refine S.inBlock_r ?_ | refine S.inBlock_x rfl ?_ | refine S.noGoto_r ?_ | refine S.noGoto_n ?_ | refine S.noGoto_x ?_)
      refine hK17 _ _ ?_
      refine S.seq fun K28 hK28 => ?_
      refine S.region rfl ?_
      refine S.op (S.q (q_move rfl) rfl rfl ?_)
      refine S.op (S.call Try.en14 (vs := [_]) ⟨rfl, trivial⟩ (Len_S pa (some l')) rfl ?_)
      rintro v Θ ⟨rfl, rfl⟩
      rw [show lenR (some l') = 0 by show l'.length = 0; omega]
      refine S.op (S.q (q_eq rfl rfl) rfl rfl ?_)
      refine S.op (S.q (q_assign rfl) rfl rfl ?_)
      first | with_reducible refine S.nilK ?_ | refine S.nil ?_
      refine hK28 _ _ ?_
      refine S.ret ?_
      with_reducible repeat (first | refine S.then_n ?_ | refine S.then_x ?_ | refine S.then_r ?_ | refine S.inBlock_n ?_ | refine S.inBlock_r ?_ | refine S.inBlock_x rfl ?_ | refine S.noGoto_r ?_ | refine S.noGoto_n ?_ | refine S.noGoto_x ?_)
      exact S.fin (rs := [_]) (vs := [_]) Try.results4 (⟨rfl, trivial⟩)  (⟨rfl, rfl⟩) Sub.ent
open Go.ChangeShapes Go.WideShapes Go.ChangeAt
theorem PrioSorts_law {H : Type} (enc : TypeId × Value → H) : LawWalk enc 4 Try.f4 := by
  intro W base args ds before hval hA _ _
  rw [Try.params4] at hA hval
  obtain ⟨v0, vs0, d0, ds0, p0, q0, hargs, rfl, rfl, h0, r0⟩ := trodAll_cons hA
  obtain ⟨rfl, rfl, rfl⟩ := trodAll_nil r0
  obtain rfl : args = #[v0] := by cases args; simp_all
  obtain ⟨s0, rs, e0, hn, hs⟩ := rd_items (arg_slice 5 Try.underlying30 (by kernel_rfl) (hval 0 30 v0 rfl rfl) h0)
  simp only [List.cons.injEq, and_true] at e0
  subst e0
  exact law_run (PrioSorts_S s0 rs W hn hs)
set_option maxRecDepth 100000 in
theorem PrioSorts_lifted (os : Os) (started : os.Started) (H : Type) (enc : TypeId × Value → H) :
    ReturnsInHanded {} Try.checked os 4 .any (Rows.prioSortsSpec.pre6 enc Try.prog Try.f4 Rows.prioSortsRow.domain false) (Rows.prioSortsSpec.post enc Try.prog Try.f4 false true false false) :=
  lift_true started Try.func4 (by kernel_rfl)
    (ChangeSpec.witness6 (enc := enc) (C := Try.checked) false ⟨#[], #[.slice none 0 0], []⟩ 8 (by kernel_rfl) (by kernel_rfl) (by kernel_rfl) (by kernel_rfl))
    rfl rfl (by kernel_rfl) (fun ds h => by match ds, h with | [a0], _ => rfl) (PrioSorts_law enc)
theorem PrioSorts_over : Rows.prioSortsRow.holds Try.pinned (OpenSpec.ofChange Rows.prioSortsSpec) :=
  OpenClaim.holds_of_wide 4 Try.f4 rfl rfl rfl rfl rfl rfl rfl ⟨rfl, rfl, rfl, rfl, rfl⟩ rfl rfl rfl rfl rfl (by kernel_rfl) Try.func4 (by kernel_rfl)
    (of_decide_eq_true (by kernel_rfl)) (by unfold Func.isWrapper; rw [if_neg (of_decide_eq_false (by kernel_rfl))]; exact ⟨rfl, rfl⟩)
    (fun os started H enc _ => PrioSorts_lifted os started H enc)
theorem PrioSorts_holds : Rows.PrioSortsSaid := PrioSorts_over
#print axioms PrioSorts_holds
end Go.Proofs.Ythpfljiabhjodaa
