/- First: the walk. -/
import Derived.Test.YtknpddiffellgaaPlanC
namespace Go.Proofs.Ytknpddiffellgaa
open Go.RowKit
set_option maxRecDepth 20000
set_option linter.unusedVariables false
theorem S.ownIf {n : Nat} {w0 : World} {ρ : Env} {Γ : List Assn} {φ : Act → World → Prop} (s : SV) {e : TypeId} {sz : Nat} {xs : List Value} {Δ : List Assn} [h : HasOw Γ s e sz xs Δ] (k : ∀ b off, (0 < s.n → s.a = some ⟨b, off, none⟩) → xs.length = s.n * sz → s.n ≤ s.c → s.c ≤ maxLen → S n w0 ρ Γ φ) : S n w0 ρ Γ φ := by
  by_cases hn : 0 < s.n
  · exact S.ownSome s hn fun b off hb h1 h2 h3 => k b off (fun _ => hb) h1 h2 h3
  · exact S.ownLen s fun h1 h2 h3 => k 0 0 (fun h => absurd h hn) h1 h2 h3
theorem first_none {D : List (List Int)} {k : Int} (h : k < 1) : firstR D k = ⟨0, 0, [], false⟩ := by unfold firstR; rw [if_pos h]
theorem soonL_nat {row : List Int} {k : Nat} (h : k ≤ row.length) : soonL row (k : Int) = (srt row).take k := by unfold soonL; rw [if_pos (by omega), Int.toNat_natCast]
theorem acc_len {D : List (List Int)} {k n : Nat} (h : ∀ row ∈ D, row.length ≤ 1000) : (accR D k n).nodes.length ≤ 1000 := by
  unfold accR
  cases bestUp k D n with
  | none => simp
  | some x =>
    obtain ⟨v, i⟩ := x
    simp only [List.length_map, List.length_take, srt_length]
    cases hi : D[i]? with
    | none => simp
    | some row => have := h row (List.mem_of_getElem? hi); simp only [Option.getD_some]; omega
theorem tk_a {k n : Nat} {ok : Bool} {a b : Int} (h : (!decide ((k : Int) ≤ n)) = true) : true = !(decide (k ≤ n) && (!ok || decide (a < b))) := by
  have : ¬ k ≤ n := by simpa using h
  rw [decide_eq_false this]
  rfl
theorem tk_b {k n : Nat} {ok : Bool} {a b : Int} (h : k ≤ n) (h2 : ok = false) : false = !(decide (k ≤ n) && (!ok || decide (a < b))) := by
  rw [decide_eq_true h, h2]
  rfl
theorem tk_c {k n : Nat} {ok : Bool} {a b : Int} (h : k ≤ n) (h2 : ok = true) : decide (b ≤ a) = !(decide (k ≤ n) && (!ok || decide (a < b))) := by
  rw [decide_eq_true h, h2, Bool.true_and, Bool.not_true, Bool.false_or]
  by_cases h3 : a < b
  · rw [decide_eq_true h3, decide_eq_false (by omega)]; rfl
  · rw [decide_eq_false h3, decide_eq_true (by omega)]; rfl
theorem not_t {c T : Bool} (hc : c = !T) (h : c = true) : T = false := by subst h; cases T <;> simp_all
theorem not_f {c T : Bool} (hc : c = !T) (h : c = false) : T = true := by subst h; cases T <;> simp_all
set_option maxHeartbeats 1000000 in
theorem First_S (R : Assn) (s : SV) (rs : List RW) (k len : Int) (hl : rs.length ≤ 1000) (hrl : ∀ r ∈ rs, r.d.length ≤ 1000) (hR : RdP R s rs) :
    Spec Try.prog 14 [s.v, .agg #[.int .i64 k, .int .i64 len]] [R] fun Γ v Θ => ∃ u : SV, v = .agg (stC u (firstR (dat rs) k)).toArray ∧ Θ = own u 3 1 (ints (firstR (dat rs) k).nodes) :: R :: Γ := by
  refine Spec.of_body Try.func14 rfl Try.ntmps14 rfl ?_
  intro w0 Γ
  show S _ w0 [(0, s.v), (1, .agg #[.int .i64 k, .int .i64 len])] (R :: Γ) _
  refine S.rCap hR.top fun hn _ _ => ?_
  refine S.seq fun K1 hK1 => ?_
  refine S.region rfl ?_
  refine S.op (S.box (cs := [_, _]) rfl rfl rfl ?_)
  intro b3
  refine S.op (S.alloc Try.z32 rfl ?_)
  intro b4
  first | with_reducible refine S.nilK ?_ | refine S.nil ?_
  refine hK1 _ _ ?_
  refine S.seq fun K2 hK2 => ?_
  refine S.region rfl ?_
  refine S.op (S.alloc Try.z32 rfl ?_)
  intro b5
  first | with_reducible refine S.nilK ?_ | refine S.nil ?_
  refine hK2 _ _ ?_
  refine S.seq fun K3 hK3 => ?_
  refine S.seq fun K4 hK4 => ?_
  refine S.region rfl ?_
  refine S.op (S.q (q_field Try.fo34_0 rfl) rfl rfl ?_)
  refine S.op (S.q (q_load Try.at3 rfl rfl) rfl rfl ?_)
  refine S.op (S.q (q_lt rfl rfl) rfl rfl ?_)
  first | with_reducible refine S.nilK ?_ | refine S.nil ?_
  refine hK4 _ _ ?_
  refine S.condD rfl (fun h1 => ?_) (fun h1 => ?_)
  · refine S.seq fun K5 hK5 => ?_
    refine S.region rfl ?_
    refine S.op (S.q (q_loadS [_, _, _, _] Try.ag32 rfl rfl ⟨rfl, rfl, rfl, rfl, trivial⟩) rfl rfl ?_)
    refine S.op (S.storeS (cs' := [_, _, _, _]) Try.ag32 rfl rfl rfl rfl rfl rfl ?_)
    first | with_reducible refine S.nilK ?_ | refine S.nil ?_
    refine hK5 _ _ ?_
    refine S.ret ?_
    with_reducible repeat (first | refine S.then_n ?_ | refine S.then_x ?_ | refine S.then_r ?_ | refine S.inBlock_n ?_ | refine S.inBlock_r ?_ | refine S.inBlock_x rfl ?_ | refine S.noGoto_r ?_ | refine S.noGoto_n ?_ | refine S.noGoto_x ?_)
    refine S.ent (show Ent _ (own SV.nil 3 1 (ints []) :: _) from Ent.ownNil 3 1) ?_
    exact S.fin (rs := [_]) (vs := [_]) Try.results14 (⟨⟨_, _, rfl, lod_agg [_, _, _, _] Try.ag32 rfl ⟨rfl, rfl, rfl, rfl, trivial⟩⟩, trivial⟩)  (⟨SV.nil, by rw [first_none (by assumption)]; rfl, by rw [first_none (by assumption)]⟩) Sub.ent
  · obtain ⟨kn, rfl⟩ : ∃ kn : Nat, k = (kn : Int) := ⟨k.toNat, by omega⟩
    refine S.ent (show Ent _ (own SV.nil 3 1 (ints (St.mk 0 0 [] false).nodes) :: _) from Ent.ownNil 3 1) ?_
    refine S.skip ?_
    with_reducible repeat (first | refine S.then_n ?_ | refine S.then_x ?_ | refine S.then_r ?_ | refine S.inBlock_n ?_ | refine S.inBlock_r ?_ | refine S.inBlock_x rfl ?_ | refine S.noGoto_r ?_ | refine S.noGoto_n ?_ | refine S.noGoto_x ?_)
    refine hK3 _ _ ?_
    refine S.seq fun K6 hK6 => ?_
    refine S.seq fun K7 hK7 => ?_
    refine S.region rfl ?_
    refine S.op (S.q (q_move rfl) rfl rfl ?_)
    refine S.op (S.q (q_len Try.underlying29 rfl) rfl rfl ?_)
    refine S.op (S.q (q_move rfl) rfl rfl ?_)
    first | with_reducible refine S.nilK ?_ | refine S.nil ?_
    refine hK7 _ _ ?_
    refine S.block ?_
    refine S.loop (fun m ρ' Γ' => ∃ (i : Nat) (u : SV) (x : St), m + i = rs.length ∧ x = accR (dat rs) kn i ∧ ρ' = [(3, .pointer (some ⟨b3, 0, none⟩)), (4, .pointer (some ⟨b4, 0, none⟩)), (5, .pointer (some ⟨b5, 0, none⟩)), (16, s.v), (17, .int .i64 s.n), (18, .int .i64 i)] ∧ Γ' = blk b5 32 (stC u x).toArray :: own u 3 1 (ints x.nodes) :: blk b3 34 #[.int .i64 kn, .int .i64 len] :: blk b4 32 #[.int .i64 0, .int .i64 0, .slice none 0 0, .bool false] :: R :: Γ) (m := _) (ρ0 := _) (Γ0 := _) (⟨0, SV.nil, ⟨0, 0, [], false⟩, rfl, rfl, rfl, rfl⟩) (by repeat (first | exact trivial | refine ⟨rfl, ?_⟩)) Sub.ent ?_
    rintro m ρ' Γ' ⟨i, u, x, hmi, hx, rfl, rfl⟩
    refine S.seq fun K8 hK8 => ?_
    refine S.region rfl ?_
    refine S.op (S.q (q_lt rfl rfl) rfl rfl ?_)
    first | with_reducible refine S.nilK ?_ | refine S.nil ?_
    refine hK8 _ _ ?_
    refine S.seq fun K9 hK9 => ?_
    refine S.condD rfl (fun h2 => ?_) (fun h2 => ?_)
    · obtain ⟨r, hr⟩ := getE (l := rs) (i := i) (by omega)
      have hrd : r.d.length ≤ 1000 := hrl r (List.mem_of_getElem? hr)
      obtain ⟨ck, hck⟩ : ∃ ck, kn ≤ r.d.length → (srt r.d)[kn - 1]? = some ck := by
        by_cases h : kn ≤ r.d.length
        · obtain ⟨c, hc⟩ := getE (l := srt r.d) (i := kn - 1) (by rw [srt_length]; omega)
          exact ⟨c, fun _ => hc⟩
        · exact ⟨(0, 0), fun h' => absurd h' h⟩
      have hsucc := accR_succ (D := dat rs) (n := i) (by rw [List.getElem?_map, hr]; rfl) (show 1 ≤ kn by omega) hck
      rw [← hx] at hsucc
      refine S.rSome hR.top (by omega) fun b off hb => ?_
      refine S.skip ?_
      with_reducible repeat (first | refine S.then_n ?_ | refine S.then_x ?_ | refine S.then_r ?_ | refine S.inBlock_n ?_ | refine S.inBlock_r ?_ | refine S.inBlock_x rfl ?_ | refine S.noGoto_r ?_ | refine S.noGoto_n ?_ | refine S.noGoto_x ?_)
      refine hK9 _ _ ?_
      refine S.seq fun K10 hK10 => ?_
      refine S.cut (fun ρ' Γ' => ∃ (u2 : SV) (x2 : St), x2 = accR (dat rs) kn (i + 1) ∧ ρ' = [(3, .pointer (some ⟨b3, 0, none⟩)), (4, .pointer (some ⟨b4, 0, none⟩)), (5, .pointer (some ⟨b5, 0, none⟩)), (16, s.v), (17, .int .i64 s.n), (18, .int .i64 i)] ∧ Γ' = blk b5 32 (stC u2 x2).toArray :: own u2 3 1 (ints x2.nodes) :: blk b3 34 #[.int .i64 kn, .int .i64 len] :: blk b4 32 #[.int .i64 0, .int .i64 0, .slice none 0 0, .bool false] :: R :: Γ) ?_ ?_
      · refine S.block ?_
        refine S.seq fun K11 hK11 => ?_
        refine S.region rfl ?_
        refine S.op (S.q (q_move rfl) rfl rfl ?_)
        refine S.op (S.q (q_indexO (i) Try.el29 rfl hb rfl rfl (by omega)) rfl rfl ?_)
        refine S.op (S.q (q_loadR hR.top (i * 1) Try.at25 rfl hb (by omega) rfl (flat_get (enc := rwC) (sz := 1) (k := 0) rwC_len hr rfl)) rfl rfl ?_)
        refine S.op (S.q (q_assign rfl) rfl rfl ?_)
        refine S.op (S.q (q_assign rfl) rfl rfl ?_)
        first | with_reducible refine S.nilK ?_ | refine S.nil ?_
        refine hK11 _ _ ?_
        refine S.seq fun K12 hK12 => ?_
        refine S.region rfl ?_
        refine S.op (S.q (q_move rfl) rfl rfl ?_)
        refine S.op (S.q (q_field Try.fo34_0 rfl) rfl rfl ?_)
        refine S.op (S.q (q_load Try.at3 rfl rfl) rfl rfl ?_)
        refine S.op (S.call Try.en25 (vs := [_, _]) ⟨rfl, rfl, trivial⟩ (soonest_S R r.v r.d kn (by omega) hrd (hR.row hr)) rfl ?_)
        rintro v Θ ⟨lu, hlu, rfl, rfl⟩
        rw [Int.toNat_natCast] at hlu
        refine S.ownIf lu fun b' off' hb' hll hlc hlm => ?_
        have hseg : kn ≤ r.d.length → ∀ j v, (ceC ck)[j]? = some v → ((soonL r.d kn).flatMap ceC)[(kn - 1) * 2 + j]? = some v := fun h => by
          refine flat_seg (enc := ceC) (sz := 2) ceC_len ?_
          rw [soonL_nat h, List.getElem?_take_of_lt (by omega)]
          exact hck h
        refine S.op (S.q (q_move rfl) rfl rfl ?_)
        refine S.op (S.q (q_extract rfl rfl) rfl rfl ?_)
        refine S.op (S.q (q_extract rfl rfl) rfl rfl ?_)
        refine S.op (S.q (q_assign rfl) rfl rfl ?_)
        refine S.op (S.q (q_assign rfl) rfl rfl ?_)
        first | with_reducible refine S.nilK ?_ | refine S.nil ?_
        refine hK12 _ _ ?_
        refine S.seq fun K13 hK13 => ?_
        refine S.seq fun K14 hK14 => ?_
        refine S.cut (fun ρ' Γ' => ∃ c : Bool, c = !(decide (kn ≤ r.d.length) && (!x.ok || decide (ck.2 < x.at_))) ∧ ρ' = [(3, .pointer (some ⟨b3, 0, none⟩)), (4, .pointer (some ⟨b4, 0, none⟩)), (5, .pointer (some ⟨b5, 0, none⟩)), (6, .int .i64 i), (8, lu.v), (16, s.v), (17, .int .i64 s.n), (18, .int .i64 i), (47, .bool c)] ∧ Γ' = own lu 60 2 ((soonL r.d kn).flatMap ceC) :: blk b5 32 (stC u x).toArray :: own u 3 1 (ints x.nodes) :: blk b3 34 #[.int .i64 kn, .int .i64 len] :: blk b4 32 #[.int .i64 0, .int .i64 0, .slice none 0 0, .bool false] :: R :: Γ) ?_ ?_
        · refine S.draw ([own lu 60 2 ((soonL r.d kn).flatMap ceC), blk b5 32 (stC u x).toArray, blk b3 34 #[.int .i64 kn, .int .i64 len]]) [] Try.mixed ?_
          refine S.dr_take 0 [] rfl (by kernel_rfl) rfl rfl rfl (q_move rfl) Sub.ent ?_
          refine S.dr_take 1 [] rfl (by kernel_rfl) rfl rfl rfl (q_not rfl) Sub.ent ?_
          refine S.dr_take 2 [] rfl (by kernel_rfl) rfl rfl rfl (q_move rfl) Sub.ent ?_
          rcases Bool.eq_false_or_eq_true ((!decide ((kn : Int) ≤ r.d.length))) with hg8_2 | hg8_2
          · refine S.dr_takeN 3 [] rfl (by kernel_rfl) rfl rfl rfl (hg8_2) rfl rfl Sub.ent ?_
            refine S.dr_takeN 4 [] rfl (by kernel_rfl) rfl rfl rfl (hg8_2) rfl rfl Sub.ent ?_
            refine S.dr_takeN 5 [] rfl (by kernel_rfl) rfl rfl rfl (hg8_2) rfl rfl Sub.ent ?_
            refine S.dr_takeNU 6 [] rfl (by kernel_rfl) rfl rfl rfl rfl rfl Sub.ent ?_
            refine S.dr_takeNU 7 [] rfl (by kernel_rfl) rfl rfl rfl rfl rfl Sub.ent ?_
            refine S.dr_takeNU 8 [] rfl (by kernel_rfl) rfl rfl rfl rfl rfl Sub.ent ?_
            refine S.dr_takeNU 9 [] rfl (by kernel_rfl) rfl rfl rfl rfl rfl Sub.ent ?_
            refine S.dr_takeNU 10 [] rfl (by kernel_rfl) rfl rfl rfl rfl rfl Sub.ent ?_
            refine S.dr_takeNU 11 [] rfl (by kernel_rfl) rfl rfl rfl rfl rfl Sub.ent ?_
            refine S.dr_takeNU 12 [] rfl (by kernel_rfl) rfl rfl rfl rfl rfl Sub.ent ?_
            refine S.dr_takeNU 13 [] rfl (by kernel_rfl) rfl rfl rfl rfl rfl Sub.ent ?_
            refine S.dr_takeNU 14 [] rfl (by kernel_rfl) rfl rfl rfl rfl rfl Sub.ent ?_
            refine S.dr_takeNU 15 [] rfl (by kernel_rfl) rfl rfl rfl rfl rfl Sub.ent ?_
            refine S.dr_takeN 16 [] rfl (by kernel_rfl) rfl rfl rfl (hg8_2) rfl rfl Sub.ent ?_
            refine S.dr_take 17 [] rfl (by kernel_rfl) rfl rfl rfl (q_pickT rfl (hg8_2) rfl) Sub.ent ?_
            first | with_reducible refine S.dr_doneK (by kernel_rfl) ?_ | refine S.dr_done (by kernel_rfl) ?_
            with_reducible repeat (first | refine S.then_n ?_ | refine S.then_x ?_ | refine S.then_r ?_ | refine S.inBlock_n ?_ | refine S.inBlock_r ?_ | refine S.inBlock_x rfl ?_ | refine S.noGoto_r ?_ | refine S.noGoto_n ?_ | refine S.noGoto_x ?_)
            first | exact S.meet ⟨_, by first | exact tk_a hg8_2 | exact tk_b hkl hg8_5 | exact tk_c hkl hg8_5, rfl, rfl⟩ ⟨rfl, rfl, rfl, rfl, rfl, rfl, rfl, rfl, rfl, trivial⟩ Sub.ent
          · have hkl : kn ≤ r.d.length := by simpa using hg8_2
            refine S.dr_takeY 3 [] rfl (by kernel_rfl) rfl rfl rfl (hg8_2) rfl rfl (q_field Try.fo32_3 rfl) Sub.ent ?_
            refine S.dr_takeY 4 [] rfl (by kernel_rfl) rfl rfl rfl (hg8_2) rfl rfl (q_load Try.at4 rfl rfl) Sub.ent ?_
            refine S.dr_takeY 5 [] rfl (by kernel_rfl) rfl rfl rfl (hg8_2) rfl rfl (q_move rfl) Sub.ent ?_
            rcases Bool.eq_false_or_eq_true (x.ok) with hg8_5 | hg8_5
            · refine S.dr_takeY 6 [] rfl (by kernel_rfl) rfl rfl rfl (hg8_5) rfl rfl (q_move rfl) Sub.ent ?_
              refine S.dr_takeY 7 [] rfl (by kernel_rfl) rfl rfl rfl (hg8_5) rfl rfl (q_field Try.fo34_0 rfl) Sub.ent ?_
              refine S.dr_takeY 8 [] rfl (by kernel_rfl) rfl rfl rfl (hg8_5) rfl rfl (q_load Try.at3 rfl rfl) Sub.ent ?_
              refine S.dr_takeY 9 [] rfl (by kernel_rfl) rfl rfl rfl (hg8_5) rfl rfl (q_sub rfl rfl (inI64 (by omega) (by omega))) Sub.ent ?_
              refine S.dr_takeY 10 [] rfl (by kernel_rfl) rfl rfl rfl (hg8_5) rfl rfl (q_indexO (kn - 1) Try.el56 rfl (hb' (by omega)) rfl (by omega) (by omega)) Sub.ent ?_
              refine S.dr_takeY 11 [] rfl (by kernel_rfl) rfl rfl rfl (hg8_5) rfl rfl (q_field Try.fo60_1 rfl) Sub.ent ?_
              refine S.dr_takeY 12 [] rfl (by kernel_rfl) rfl rfl rfl (hg8_5) rfl rfl (q_loadOw (lu) ((kn - 1) * 2 + 1) Try.at3 rfl (hb' (by omega)) (by first | rfl | exact Nat.add_assoc _ _ _ | omega) (hseg hkl 1 _ rfl)) Sub.ent ?_
              refine S.dr_takeY 13 [] rfl (by kernel_rfl) rfl rfl rfl (hg8_5) rfl rfl (q_field Try.fo32_0 rfl) Sub.ent ?_
              refine S.dr_takeY 14 [] rfl (by kernel_rfl) rfl rfl rfl (hg8_5) rfl rfl (q_load Try.at3 rfl rfl) Sub.ent ?_
              refine S.dr_takeY 15 [] rfl (by kernel_rfl) rfl rfl rfl (hg8_5) rfl rfl (q_ge rfl rfl) Sub.ent ?_
              refine S.dr_takeY 16 [] rfl (by kernel_rfl) rfl rfl rfl (hg8_2) rfl rfl (q_pickT rfl (hg8_5) rfl) Sub.ent ?_
              refine S.dr_take 17 [] rfl (by kernel_rfl) rfl rfl rfl (q_pickF rfl (hg8_2) rfl) Sub.ent ?_
              first | with_reducible refine S.dr_doneK (by kernel_rfl) ?_ | refine S.dr_done (by kernel_rfl) ?_
              with_reducible repeat (first | refine S.then_n ?_ | refine S.then_x ?_ | refine S.then_r ?_ | refine S.inBlock_n ?_ | refine S.inBlock_r ?_ | refine S.inBlock_x rfl ?_ | refine S.noGoto_r ?_ | refine S.noGoto_n ?_ | refine S.noGoto_x ?_)
              first | exact S.meet ⟨_, by first | exact tk_a hg8_2 | exact tk_b hkl hg8_5 | exact tk_c hkl hg8_5, rfl, rfl⟩ ⟨rfl, rfl, rfl, rfl, rfl, rfl, rfl, rfl, rfl, trivial⟩ Sub.ent
            · refine S.dr_takeN 6 [] rfl (by kernel_rfl) rfl rfl rfl (hg8_5) rfl rfl Sub.ent ?_
              refine S.dr_takeN 7 [] rfl (by kernel_rfl) rfl rfl rfl (hg8_5) rfl rfl Sub.ent ?_
              refine S.dr_takeN 8 [] rfl (by kernel_rfl) rfl rfl rfl (hg8_5) rfl rfl Sub.ent ?_
              refine S.dr_takeN 9 [] rfl (by kernel_rfl) rfl rfl rfl (hg8_5) rfl rfl Sub.ent ?_
              refine S.dr_takeN 10 [] rfl (by kernel_rfl) rfl rfl rfl (hg8_5) rfl rfl Sub.ent ?_
              refine S.dr_takeN 11 [] rfl (by kernel_rfl) rfl rfl rfl (hg8_5) rfl rfl Sub.ent ?_
              refine S.dr_takeN 12 [] rfl (by kernel_rfl) rfl rfl rfl (hg8_5) rfl rfl Sub.ent ?_
              refine S.dr_takeN 13 [] rfl (by kernel_rfl) rfl rfl rfl (hg8_5) rfl rfl Sub.ent ?_
              refine S.dr_takeN 14 [] rfl (by kernel_rfl) rfl rfl rfl (hg8_5) rfl rfl Sub.ent ?_
              refine S.dr_takeN 15 [] rfl (by kernel_rfl) rfl rfl rfl (hg8_5) rfl rfl Sub.ent ?_
              refine S.dr_takeY 16 [] rfl (by kernel_rfl) rfl rfl rfl (hg8_2) rfl rfl (q_pickF rfl (hg8_5) rfl) Sub.ent ?_
              refine S.dr_take 17 [] rfl (by kernel_rfl) rfl rfl rfl (q_pickF rfl (hg8_2) rfl) Sub.ent ?_
              first | with_reducible refine S.dr_doneK (by kernel_rfl) ?_ | refine S.dr_done (by kernel_rfl) ?_
              with_reducible repeat (first | refine S.then_n ?_ | refine S.then_x ?_ | refine S.then_r ?_ | refine S.inBlock_n ?_ | refine S.inBlock_r ?_ | refine S.inBlock_x rfl ?_ | refine S.noGoto_r ?_ | refine S.noGoto_n ?_ | refine S.noGoto_x ?_)
              first | exact S.meet ⟨_, by first | exact tk_a hg8_2 | exact tk_b hkl hg8_5 | exact tk_c hkl hg8_5, rfl, rfl⟩ ⟨rfl, rfl, rfl, rfl, rfl, rfl, rfl, rfl, rfl, trivial⟩ Sub.ent
        · rintro ρ' Γ' ⟨c, hc, rfl, rfl⟩
          refine hK14 _ _ ?_
          refine S.cond rfl (fun h3 => ?_) (fun h3 => ?_)
          · have htk : (decide (kn ≤ r.d.length) && (!x.ok || decide (ck.2 < x.at_))) = false := not_t hc h3
            rw [if_neg (by rw [htk]; simp)] at hsucc
            refine S.exit ?_
            with_reducible repeat (first | refine S.then_n ?_ | refine S.then_x ?_ | refine S.then_r ?_ | refine S.inBlock_n ?_ | refine S.inBlock_r ?_ | refine S.inBlock_x rfl ?_ | refine S.noGoto_r ?_ | refine S.noGoto_n ?_ | refine S.noGoto_x ?_)
            with_reducible refine S.inBlock_s ?_
            with_reducible repeat (first | refine S.then_n ?_ | refine S.then_x ?_ | refine S.then_r ?_ | refine S.inBlock_n ?_ | refine S.inBlock_r ?_ | refine S.inBlock_x rfl ?_ | refine S.noGoto_r ?_ | refine S.noGoto_n ?_ | refine S.noGoto_x ?_)
            with_reducible repeat (first | refine S.then_n ?_ | refine S.then_x ?_ | refine S.then_r ?_ | refine S.inBlock_n ?_ | refine S.inBlock_r ?_ | refine S.inBlock_x rfl ?_ | refine S.noGoto_r ?_ | refine S.noGoto_n ?_ | refine S.noGoto_x ?_)
            first | exact S.meet ⟨u, x, hsucc.symm, rfl, rfl⟩ ⟨rfl, rfl, rfl, rfl, rfl, rfl, trivial⟩ Sub.ent | exact S.meet ⟨u2, ⟨ck.2, i, L.map (·.1), true⟩, hsucc.symm, rfl, rfl⟩ ⟨rfl, rfl, rfl, rfl, rfl, rfl, trivial⟩ Sub.ent
          · have htk : (decide (kn ≤ r.d.length) && (!x.ok || decide (ck.2 < x.at_))) = true := not_f hc h3
            rw [if_pos htk] at hsucc
            have hkl : kn ≤ r.d.length := by rw [Bool.and_eq_true] at htk; simpa using htk.1
            have hln := hlu (by omega)
            obtain ⟨L, hL⟩ : ∃ L, L = (srt r.d).take kn := ⟨_, rfl⟩
            have hLl : L.length = kn := by rw [hL, List.length_take, srt_length]; omega
            rw [soonL_nat hkl, ← hL] at hseg
            rw [soonL_nat hkl, ← hL]
            rw [← hL] at hsucc
            refine S.skip ?_
            with_reducible repeat (first | refine S.then_n ?_ | refine S.then_x ?_ | refine S.then_r ?_ | refine S.inBlock_n ?_ | refine S.inBlock_r ?_ | refine S.inBlock_x rfl ?_ | refine S.noGoto_r ?_ | refine S.noGoto_n ?_ | refine S.noGoto_x ?_)
            refine hK13 _ _ ?_
            refine S.seq fun K15 hK15 => ?_
            refine S.region rfl ?_
            refine S.op (S.q (q_move rfl) rfl rfl ?_)
            refine S.op (S.q (q_field Try.fo34_0 rfl) rfl rfl ?_)
            refine S.op (S.q (q_load Try.at3 rfl rfl) rfl rfl ?_)
            refine S.op (S.q (q_sub rfl rfl (inI64 (by omega) (by omega))) rfl rfl ?_)
            refine S.op (S.q (q_indexO (kn - 1) Try.el56 rfl (hb' (by omega)) rfl (by omega) (by omega)) rfl rfl ?_)
            refine S.op (S.q (q_field Try.fo60_1 rfl) rfl rfl ?_)
            refine S.op (S.q (q_loadOw (lu) ((kn - 1) * 2 + 1) Try.at3 rfl (hb' (by omega)) (by first | rfl | exact Nat.add_assoc _ _ _ | omega) (hseg hkl 1 _ rfl)) rfl rfl ?_)
            refine S.op (S.q (q_move rfl) rfl rfl ?_)
            refine S.op (S.q (q_build (pvs := [(_, _), (_, _), (_, _)]) [_, _, _, _] Try.z32 Try.p32 ⟨⟨rfl, rfl⟩, ⟨rfl, rfl⟩, ⟨rfl, rfl⟩, trivial⟩ rfl) rfl rfl ?_)
            refine S.op (S.storeS (cs' := [_, _, _, _]) Try.ag32 rfl rfl rfl rfl rfl rfl ?_)
            first | with_reducible refine S.nilK ?_ | refine S.nil ?_
            refine hK15 _ _ ?_
            refine S.seq fun K16 hK16 => ?_
            refine S.region rfl ?_
            refine S.ent (show Ent _ (own SV.nil 3 1 (ints ((L.take 0).map (·.1))) :: _) from Ent.ownNil 3 1) ?_
            refine S.op (S.q (q_move rfl) rfl rfl ?_)
            refine S.op (S.q (q_len Try.underlying56 rfl) rfl rfl ?_)
            refine S.op (S.q (q_move rfl) rfl rfl ?_)
            first | with_reducible refine S.nilK ?_ | refine S.nil ?_
            refine hK16 _ _ ?_
            refine S.block ?_
            refine S.loop (fun m ρ' Γ' => ∃ (j : Nat) (u2 : SV), m + j = kn ∧ ρ' = [(3, .pointer (some ⟨b3, 0, none⟩)), (4, .pointer (some ⟨b4, 0, none⟩)), (5, .pointer (some ⟨b5, 0, none⟩)), (16, s.v), (17, .int .i64 s.n), (18, .int .i64 i), (57, lu.v), (58, .int .i64 lu.n), (59, .int .i64 j)] ∧ Γ' = blk b5 32 #[.int .i64 ck.2, .int .i64 i, u2.v, .bool true] :: own u2 3 1 (ints ((L.take j).map (·.1))) :: own lu 60 2 (L.flatMap ceC) :: blk b3 34 #[.int .i64 kn, .int .i64 len] :: blk b4 32 #[.int .i64 0, .int .i64 0, .slice none 0 0, .bool false] :: R :: Γ) (m := _) (ρ0 := _) (Γ0 := _) (⟨0, SV.nil, rfl, rfl, rfl⟩) (by repeat (first | exact trivial | refine ⟨rfl, ?_⟩)) Sub.ent ?_
            rintro m2 ρ' Γ' ⟨j, u2, hmj, rfl, rfl⟩
            refine S.ownLen u2 fun hl2 _ _ => ?_
            rw [List.length_map, List.length_map, List.length_take, Nat.mul_one] at hl2
            refine S.seq fun K17 hK17 => ?_
            refine S.region rfl ?_
            refine S.op (S.q (q_lt rfl rfl) rfl rfl ?_)
            first | with_reducible refine S.nilK ?_ | refine S.nil ?_
            refine hK17 _ _ ?_
            refine S.seq fun K18 hK18 => ?_
            refine S.condD rfl (fun h4 => ?_) (fun h4 => ?_)
            · obtain ⟨c, hc2⟩ := getE (l := L) (i := j) (by omega)
              refine S.skip ?_
              with_reducible repeat (first | refine S.then_n ?_ | refine S.then_x ?_ | refine S.then_r ?_ | refine S.inBlock_n ?_ | refine S.inBlock_r ?_ | refine S.inBlock_x rfl ?_ | refine S.noGoto_r ?_ | refine S.noGoto_n ?_ | refine S.noGoto_x ?_)
              refine hK18 _ _ ?_
              refine S.seq fun K19 hK19 => ?_
              refine S.block ?_
              refine S.seq fun K20 hK20 => ?_
              refine S.region rfl ?_
              refine S.op (S.q (q_indexO (j) Try.el56 rfl (hb' (by omega)) rfl rfl (by omega)) rfl rfl ?_)
              refine S.op (S.q (q_loadOwS (lu) (j * 2) [_, _] Try.ag60 rfl (hb' (by omega)) (by first | rfl | exact Nat.add_assoc _ _ _ | omega) rfl (flat_seg (enc := ceC) (sz := 2) ceC_len hc2)) rfl rfl ?_)
              refine S.op (S.alloc Try.z60 rfl ?_)
              intro b11
              refine S.op (S.storeS (cs' := [_, _]) Try.ag60 rfl rfl rfl rfl rfl rfl ?_)
              first | with_reducible refine S.nilK ?_ | refine S.nil ?_
              refine hK20 _ _ ?_
              refine S.region rfl ?_
              refine S.op (S.q (q_field Try.fo32_2 rfl) rfl rfl ?_)
              refine S.op (S.q (q_load Try.at25 rfl rfl) rfl rfl ?_)
              refine S.op (S.q (q_field Try.fo60_0 rfl) rfl rfl ?_)
              refine S.op (S.q (q_load Try.at3 rfl rfl) rfl rfl ?_)
              refine S.op (S.buildSlice (pvs := [(_, _)]) [_] Try.underlying25 Try.inf3 rfl rfl ⟨⟨rfl, rfl⟩, trivial⟩ rfl rfl ?_)
              intro b67
              refine S.op (S.appendOw (s := u2) (1) ([.int .i64 c.1]) Try.underlying25 Try.inf3 rfl rfl rfl (blk_slAt (b := b67) rfl (by unfold maxLen; omega)) (by first | rfl | exact allOne_bcells _) (⟨by omega, by omega⟩) rfl ?_)
              intro u3 hu3
              rw [show ints ((L.take j).map (·.1)) ++ [Value.int .i64 c.1] = ints ((L.take (j + 1)).map (·.1)) by rw [take_snoc _ _ _ _ hc2]; simp [ints]]
              refine S.op (S.q (q_field Try.fo32_2 rfl) rfl rfl ?_)
              refine S.op (S.store (cs' := [_, _, _, _]) Try.at25 rfl rfl rfl rfl rfl ?_)
              first | with_reducible refine S.nilK ?_ | refine S.nil ?_
              with_reducible repeat (first | refine S.then_n ?_ | refine S.then_x ?_ | refine S.then_r ?_ | refine S.inBlock_n ?_ | refine S.inBlock_r ?_ | refine S.inBlock_x rfl ?_ | refine S.noGoto_r ?_ | refine S.noGoto_n ?_ | refine S.noGoto_x ?_)
              refine hK19 _ _ ?_
              refine S.region rfl ?_
              refine S.op (S.q (q_add rfl rfl (inI64 (by omega) (by omega))) rfl rfl ?_)
              refine S.op (S.q (q_move rfl) rfl rfl ?_)
              first | with_reducible refine S.nilK ?_ | refine S.nil ?_
              with_reducible repeat (first | refine S.then_n ?_ | refine S.then_x ?_ | refine S.then_r ?_ | refine S.inBlock_n ?_ | refine S.inBlock_r ?_ | refine S.inBlock_x rfl ?_ | refine S.noGoto_r ?_ | refine S.noGoto_n ?_ | refine S.noGoto_x ?_)
              exact S.next (m2 - 1) (⟨j + 1, u3, by omega, rfl, rfl⟩) (by omega) (by repeat (first | exact trivial | refine ⟨rfl, ?_⟩)) Sub.ent
            · have hLj : L.take j = L := List.take_of_length_le (by omega)
              rw [hLj]
              refine S.exit ?_
              with_reducible repeat (first | refine S.then_n ?_ | refine S.then_x ?_ | refine S.then_r ?_ | refine S.inBlock_n ?_ | refine S.inBlock_r ?_ | refine S.inBlock_x rfl ?_ | refine S.noGoto_r ?_ | refine S.noGoto_n ?_ | refine S.noGoto_x ?_)
              with_reducible refine S.inBlock_s ?_
              with_reducible repeat (first | refine S.then_n ?_ | refine S.then_x ?_ | refine S.then_r ?_ | refine S.inBlock_n ?_ | refine S.inBlock_r ?_ | refine S.inBlock_x rfl ?_ | refine S.noGoto_r ?_ | refine S.noGoto_n ?_ | refine S.noGoto_x ?_)
              with_reducible repeat (first | refine S.then_n ?_ | refine S.then_x ?_ | refine S.then_r ?_ | refine S.inBlock_n ?_ | refine S.inBlock_r ?_ | refine S.inBlock_x rfl ?_ | refine S.noGoto_r ?_ | refine S.noGoto_n ?_ | refine S.noGoto_x ?_)
              with_reducible repeat (first | refine S.then_n ?_ | refine S.then_x ?_ | refine S.then_r ?_ | refine S.inBlock_n ?_ | refine S.inBlock_r ?_ | refine S.inBlock_x rfl ?_ | refine S.noGoto_r ?_ | refine S.noGoto_n ?_ | refine S.noGoto_x ?_)
              first | exact S.meet ⟨u, x, hsucc.symm, rfl, rfl⟩ ⟨rfl, rfl, rfl, rfl, rfl, rfl, trivial⟩ Sub.ent | exact S.meet ⟨u2, ⟨ck.2, i, L.map (·.1), true⟩, hsucc.symm, rfl, rfl⟩ ⟨rfl, rfl, rfl, rfl, rfl, rfl, trivial⟩ Sub.ent
      · rintro ρ' Γ' ⟨u9, x9, hx9, rfl, rfl⟩
        refine hK10 _ _ ?_
        refine S.region rfl ?_
        refine S.op (S.q (q_add rfl rfl (inI64 (by omega) (by omega))) rfl rfl ?_)
        refine S.op (S.q (q_move rfl) rfl rfl ?_)
        first | with_reducible refine S.nilK ?_ | refine S.nil ?_
        with_reducible repeat (first | refine S.then_n ?_ | refine S.then_x ?_ | refine S.then_r ?_ | refine S.inBlock_n ?_ | refine S.inBlock_r ?_ | refine S.inBlock_x rfl ?_ | refine S.noGoto_r ?_ | refine S.noGoto_n ?_ | refine S.noGoto_x ?_)
        exact S.next (m - 1) (⟨i + 1, u9, x9, by omega, hx9, rfl, rfl⟩) (by omega) (by repeat (first | exact trivial | refine ⟨rfl, ?_⟩)) Sub.ent
    · obtain rfl : i = rs.length := by omega
      have hxl : x.nodes.length ≤ 1000 := by rw [hx]; exact acc_len (fun row hr => by obtain ⟨r, h1, rfl⟩ := List.mem_map.1 hr; exact hrl r h1)
      have hfin := firstR_acc (D := dat rs) (k := kn) (by omega)
      rw [List.length_map, ← hx] at hfin
      refine S.exit ?_
      with_reducible repeat (first | refine S.then_n ?_ | refine S.then_x ?_ | refine S.then_r ?_ | refine S.inBlock_n ?_ | refine S.inBlock_r ?_ | refine S.inBlock_x rfl ?_ | refine S.noGoto_r ?_ | refine S.noGoto_n ?_ | refine S.noGoto_x ?_)
      with_reducible refine S.inBlock_s ?_
      with_reducible repeat (first | refine S.then_n ?_ | refine S.then_x ?_ | refine S.then_r ?_ | refine S.inBlock_n ?_ | refine S.inBlock_r ?_ | refine S.inBlock_x rfl ?_ | refine S.noGoto_r ?_ | refine S.noGoto_n ?_ | refine S.noGoto_x ?_)
      refine hK6 _ _ ?_
      refine S.seq fun K21 hK21 => ?_
      refine S.region rfl ?_
      refine S.op (S.q (q_field Try.fo32_2 rfl) rfl rfl ?_)
      refine S.op (S.q (q_load Try.at25 rfl rfl) rfl rfl ?_)
      refine S.op (S.call Try.en26 (vs := [_]) ⟨rfl, trivial⟩ (SortI_S u x.nodes (by omega)) rfl ?_)
      rintro v Θ rfl
      first | with_reducible refine S.nilK ?_ | refine S.nil ?_
      refine hK21 _ _ ?_
      refine S.seq fun K22 hK22 => ?_
      refine S.region rfl ?_
      refine S.op (S.q (q_loadS [_, _, _, _] Try.ag32 rfl rfl ⟨rfl, rfl, rfl, rfl, trivial⟩) rfl rfl ?_)
      refine S.op (S.storeS (cs' := [_, _, _, _]) Try.ag32 rfl rfl rfl rfl rfl rfl ?_)
      first | with_reducible refine S.nilK ?_ | refine S.nil ?_
      refine hK22 _ _ ?_
      refine S.ret ?_
      with_reducible repeat (first | refine S.then_n ?_ | refine S.then_x ?_ | refine S.then_r ?_ | refine S.inBlock_n ?_ | refine S.inBlock_r ?_ | refine S.inBlock_x rfl ?_ | refine S.noGoto_r ?_ | refine S.noGoto_n ?_ | refine S.noGoto_x ?_)
      exact S.fin (rs := [_]) (vs := [_]) Try.results14 (⟨⟨_, _, rfl, lod_agg [_, _, _, _] Try.ag32 rfl ⟨rfl, rfl, rfl, rfl, trivial⟩⟩, trivial⟩)  (⟨u, by rw [hfin]; rfl, by rw [hfin]⟩) Sub.ent
end Go.Proofs.Ytknpddiffellgaa
