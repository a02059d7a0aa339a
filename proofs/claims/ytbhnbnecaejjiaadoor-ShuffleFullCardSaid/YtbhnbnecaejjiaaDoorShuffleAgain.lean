/- ShuffleAgain: once jobs were put ahead a second time moves nothing; nor are there rows to be put together. -/
import Derived.Test.YtbhnbnecaejjiaaDoorShufD
import Derived.Test.YtbhnbnecaejjiaaDoorShufR
namespace Go.Proofs.YtbhnbnecaejjiaaDoor
open Go.RowKit
set_option maxRecDepth 20000
theorem stUp_ok {m : Mx} (hm : MxOk m) (l : List Sd) : ∀ i, i ≤ 40 → MxOk (stUp m l i)
  | 0, _ => hm
  | i + 1, h => putR_ok (stUp_ok hm l i (by omega)) (by omega) _ _
theorem upR_ok {m : Mx} (hm : MxOk m) (z : Int) (on : Bool) : MxOk (upR m z on).2 := by
  unfold upR
  split
  · rename_i h
    have := nodeB_iff.1 h
    exact hm.setUp (by omega) on
  · exact hm
theorem dnUp_ok {m : Mx} (hm : MxOk m) (d : Bs) : ∀ k, MxOk (dnUp m d k)
  | 0 => hm
  | k + 1 => by
    rw [dnUp]
    split
    · exact upR_ok (dnUp_ok hm d k) _ _
    · exact dnUp_ok hm d k
theorem bldR_ok (r n : Int) (l : List Sd) (d : Bs) : MxOk (bldR r n l d) :=
  dnUp_ok (stUp_ok (mx0_ok (by omega) (by omega) (by omega) (by omega)) l _ (by omega)) d _
theorem ShuffleAgain_S (r n : Int) (l : List Sd) (s : SV) (hr : 0 ≤ r ∧ r ≤ 255) (hn : 0 ≤ n ∧ n ≤ 255) {W : World} (hW : TabW W) (hs : SW W s l) : LawS 4 [.int .u8 r, .int .u8 n, s.v] W := by
  refine Spec.of_body Tryd.func4 rfl Tryd.ntmps4 rfl ?_
  intro w0 Γ
  show S _ w0 [(0, .int .u8 r), (1, .int .u8 n), (2, s.v)] (old W :: Γ) _
  obtain ⟨m, hm⟩ : ∃ m, m = bldR r n l 0#16 := ⟨_, rfl⟩
  have hok : MxOk m := by rw [hm]; exact bldR_ok r n l _
  obtain ⟨c, hc⟩ : ∃ c, c = (repackR m).1 := ⟨_, rfl⟩
  have hst := repack_stuck hok
  rw [← hc] at hst
  have hre := stuck_still hst.1 hst.2
  have hun := unify_still hst.1 fun a b hab _ => stuck_Cr hst.2 a b hab
  refine S.seq fun K1 hK1 => ?_
  refine S.region rfl ?_
  refine S.op (S.q (q_assign rfl) rfl rfl ?_)
  first | with_reducible refine S.nilK ?_ | refine S.nil ?_
  refine hK1 _ _ ?_
  refine S.seq fun K2 hK2 => ?_
  refine S.seq fun K3 hK3 => ?_
  refine S.region rfl ?_
  refine S.op (S.call Tryd.en13 (vs := []) trivial (awake_S hW) rfl ?_)
  rintro v Θ ⟨rfl, rfl⟩
  refine S.op (S.q (q_not rfl) rfl rfl ?_)
  first | with_reducible refine S.nilK ?_ | refine S.nil ?_
  refine hK3 _ _ ?_
  refine S.condF rfl ?_
  refine S.skip ?_
  with_reducible repeat (first | refine S.then_n ?_ | refine S.then_x ?_ | refine S.then_r ?_ | refine S.inBlock_n ?_ | refine S.inBlock_r ?_ | refine S.inBlock_x rfl ?_ | refine S.noGoto_r ?_ | refine S.noGoto_n ?_ | refine S.noGoto_x ?_)
  refine hK2 _ _ ?_
  refine S.seq fun K4 hK4 => ?_
  refine S.region rfl ?_
  refine S.op (S.q (q_move rfl) rfl rfl ?_)
  refine S.op (S.q (q_move rfl) rfl rfl ?_)
  refine S.op (S.q (q_move rfl) rfl rfl ?_)
  refine S.op (S.call Tryd.en14 (vs := [_, _, _, _]) ⟨rfl, rfl, rfl, rfl, trivial⟩ (build_S r n l 0#16 s hr hn hs) rfl ?_)
  rintro v Θ ⟨b, x, rfl, rfl⟩
  rw [← hm]
  refine S.op (S.q (q_move rfl) rfl rfl ?_)
  refine S.op (S.q (q_extract rfl rfl) rfl rfl ?_)
  refine S.op (S.q (q_extract rfl rfl) rfl rfl ?_)
  refine S.op (S.q (q_assign rfl) rfl rfl ?_)
  refine S.op (S.q (q_assign rfl) rfl rfl ?_)
  first | with_reducible refine S.nilK ?_ | refine S.nil ?_
  refine hK4 _ _ ?_
  refine S.seq fun K5 hK5 => ?_
  refine S.region rfl ?_
  refine S.op (S.q (q_move rfl) rfl rfl ?_)
  refine S.op (S.call Tryd.en19 (vs := [_]) ⟨rfl, trivial⟩ (Repack_S b m hW) rfl ?_)
  rintro v Θ ⟨b2, sv, rfl, _, rfl⟩
  rw [← hc]
  refine S.op (S.q (q_move rfl) rfl rfl ?_)
  refine S.op (S.q (q_extract rfl rfl) rfl rfl ?_)
  refine S.op (S.q (q_extract rfl rfl) rfl rfl ?_)
  refine S.op (S.q (q_assign rfl) rfl rfl ?_)
  refine S.op (S.q (q_assign rfl) rfl rfl ?_)
  first | with_reducible refine S.nilK ?_ | refine S.nil ?_
  refine hK5 _ _ ?_
  refine S.seq fun K6 hK6 => ?_
  refine S.seq fun K7 hK7 => ?_
  refine S.region rfl ?_
  refine S.op (S.q (q_move rfl) rfl rfl ?_)
  first | with_reducible refine S.nilK ?_ | refine S.nil ?_
  refine hK7 _ _ ?_
  refine S.cut (fun ρ' Γ' => ∃ b3, ρ' = [(9, .pointer (some ⟨b3, 0, none⟩))] ∧ Γ' = MI b3 c :: old W :: Γ) ?_ ?_
  · refine S.block ?_
    refine S.loop (fun q ρ' Γ' => q = 1 ∧ ρ' = [(9, .pointer (some ⟨b2, 0, none⟩)), (31, .int .i64 0)] ∧ Γ' = MI b2 c :: old W :: Γ) (m := _) (ρ0 := _) (Γ0 := _) (⟨rfl, rfl, rfl⟩) (by repeat (first | exact trivial | refine ⟨rfl, ?_⟩)) Sub.ent ?_
    rintro q ρ' Γ' ⟨hq, rfl, rfl⟩
    refine S.seq fun K8 hK8 => ?_
    refine S.region rfl ?_
    refine S.op (S.q (q_lt rfl rfl) rfl rfl ?_)
    first | with_reducible refine S.nilK ?_ | refine S.nil ?_
    refine hK8 _ _ ?_
    refine S.seq fun K9 hK9 => ?_
    refine S.condD rfl (fun h2 => ?_) (fun h2 => ?_)
    · refine S.skip ?_
      with_reducible repeat (first | refine S.then_n ?_ | refine S.then_x ?_ | refine S.then_r ?_ | refine S.inBlock_n ?_ | refine S.inBlock_r ?_ | refine S.inBlock_x rfl ?_ | refine S.noGoto_r ?_ | refine S.noGoto_n ?_ | refine S.noGoto_x ?_)
      refine hK9 _ _ ?_
      refine S.seq fun K10 hK10 => ?_
      refine S.block ?_
      refine S.seq fun K11 hK11 => ?_
      refine S.region rfl ?_
      refine S.op (S.q (q_move rfl) rfl rfl ?_)
      refine S.op (S.call Tryd.en19 (vs := [_]) ⟨rfl, trivial⟩ (Repack_S b2 c hW) rfl ?_)
      rintro v Θ ⟨b3, s3, rfl, hs3, rfl⟩
      rw [hre] at hs3 ⊢
      simp only at hs3 ⊢
      have hs30 : s3.n = 0 := hs3
      refine S.op (S.q (q_move rfl) rfl rfl ?_)
      refine S.op (S.q (q_extract rfl rfl) rfl rfl ?_)
      refine S.op (S.q (q_extract rfl rfl) rfl rfl ?_)
      refine S.op (S.q (q_assign rfl) rfl rfl ?_)
      refine S.op (S.q (q_assign rfl) rfl rfl ?_)
      first | with_reducible refine S.nilK ?_ | refine S.nil ?_
      refine hK11 _ _ ?_
      refine S.seq fun K12 hK12 => ?_
      refine S.region rfl ?_
      refine S.op (S.q (q_move rfl) rfl rfl ?_)
      refine S.op (S.q (q_assign rfl) rfl rfl ?_)
      first | with_reducible refine S.nilK ?_ | refine S.nil ?_
      refine hK12 _ _ ?_
      refine S.seq fun K13 hK13 => ?_
      refine S.region rfl ?_
      refine S.op (S.q (q_move rfl) rfl rfl ?_)
      refine S.op (S.q (q_len Tryd.underlying29 rfl) rfl rfl ?_)
      refine S.op (S.q (q_eq rfl rfl) rfl rfl ?_)
      first | with_reducible refine S.nilK ?_ | refine S.nil ?_
      refine hK13 _ _ ?_
      refine S.condD rfl (fun h3 => ?_) (fun h3 => ?_)
      · refine S.exit ?_
        with_reducible repeat (first | refine S.then_n ?_ | refine S.then_x ?_ | refine S.then_r ?_ | refine S.inBlock_n ?_ | refine S.inBlock_r ?_ | refine S.inBlock_x rfl ?_ | refine S.noGoto_r ?_ | refine S.noGoto_n ?_ | refine S.noGoto_x ?_)
        with_reducible refine S.inBlock_s ?_
        with_reducible repeat (first | refine S.then_n ?_ | refine S.then_x ?_ | refine S.then_r ?_ | refine S.inBlock_n ?_ | refine S.inBlock_r ?_ | refine S.inBlock_x rfl ?_ | refine S.noGoto_r ?_ | refine S.noGoto_n ?_ | refine S.noGoto_x ?_)
        with_reducible repeat (first | refine S.then_n ?_ | refine S.then_x ?_ | refine S.then_r ?_ | refine S.inBlock_n ?_ | refine S.inBlock_r ?_ | refine S.inBlock_x rfl ?_ | refine S.noGoto_r ?_ | refine S.noGoto_n ?_ | refine S.noGoto_x ?_)
        exact S.meet ⟨b3, rfl, rfl⟩ ⟨rfl, trivial⟩ Sub.ent
      · omega
    · omega
  · rintro ρ' Γ' ⟨b3, rfl, rfl⟩
    refine hK6 _ _ ?_
    refine S.seq fun K14 hK14 => ?_
    refine S.region rfl ?_
    refine S.op (S.q (q_move rfl) rfl rfl ?_)
    refine S.op (S.call Tryd.en19 (vs := [_]) ⟨rfl, trivial⟩ (Repack_S b3 c hW) rfl ?_)
    rintro v Θ ⟨b4, s4, rfl, hs4, rfl⟩
    rw [hre] at hs4 ⊢
    have hs40 : s4.n = 0 := hs4
    refine S.op (S.q (q_move rfl) rfl rfl ?_)
    refine S.op (S.q (q_extract rfl rfl) rfl rfl ?_)
    refine S.op (S.q (q_extract rfl rfl) rfl rfl ?_)
    refine S.op (S.q (q_assign rfl) rfl rfl ?_)
    refine S.op (S.q (q_assign rfl) rfl rfl ?_)
    first | with_reducible refine S.nilK ?_ | refine S.nil ?_
    refine hK14 _ _ ?_
    refine S.seq fun K15 hK15 => ?_
    refine S.region rfl ?_
    refine S.op (S.q (q_move rfl) rfl rfl ?_)
    refine S.op (S.call Tryd.en15 (vs := [_]) ⟨rfl, trivial⟩ (Unify_S b3 c hW) rfl ?_)
    rintro v Θ ⟨b5, s5, rfl, hs5, rfl⟩
    rw [hun] at hs5 ⊢
    have hs50 : s5.n = 0 := hs5
    refine S.op (S.q (q_move rfl) rfl rfl ?_)
    refine S.op (S.q (q_extract rfl rfl) rfl rfl ?_)
    refine S.op (S.q (q_extract rfl rfl) rfl rfl ?_)
    refine S.op (S.q (q_assign rfl) rfl rfl ?_)
    refine S.op (S.q (q_assign rfl) rfl rfl ?_)
    first | with_reducible refine S.nilK ?_ | refine S.nil ?_
    refine hK15 _ _ ?_
    refine S.seq fun K16 hK16 => ?_
    refine S.regionG ?_
    refine S.g_op rfl (S.q (q_move rfl) rfl rfl ?_)
    refine S.g_op rfl (S.q (q_len Tryd.underlying29 rfl) rfl rfl ?_)
    refine S.g_op rfl (S.q (q_eq rfl rfl) rfl rfl ?_)
    refine S.g_op rfl (S.q (q_move rfl) rfl rfl ?_)
    refine S.g_yes rfl rfl rfl ((decide_eq_true (by omega))) (S.q (q_move rfl) rfl rfl ?_)
    refine S.g_yes rfl rfl rfl ((decide_eq_true (by omega))) (S.q (q_len Tryd.underlying29 rfl) rfl rfl ?_)
    refine S.g_yes rfl rfl rfl ((decide_eq_true (by omega))) (S.q (q_eq rfl rfl) rfl rfl ?_)
    refine S.g_op rfl (S.q (q_pickT rfl ((decide_eq_true (by omega))) rfl) rfl rfl ?_)
    refine S.g_op rfl (S.q (q_assign rfl) rfl rfl ?_)
    first | with_reducible refine S.g_nilK ?_ | refine S.g_nil ?_
    refine hK16 _ _ ?_
    refine S.ret ?_
    with_reducible repeat (first | refine S.then_n ?_ | refine S.then_x ?_ | refine S.then_r ?_ | refine S.inBlock_n ?_ | refine S.inBlock_r ?_ | refine S.inBlock_x rfl ?_ | refine S.noGoto_r ?_ | refine S.noGoto_n ?_ | refine S.noGoto_x ?_)
    exact S.fin (rs := [_]) (vs := [_]) Tryd.results4 (⟨rfl, trivial⟩)  (⟨by simp only [resV]; rw [decide_eq_true (show (s5.n : Int) = 0 by omega)], rfl⟩) Sub.ent
open Go.ChangeShapes Go.WideShapes Go.ChangeAt
theorem ShuffleAgain_law {H : Type} (enc : TypeId × Value → H) : LawWalkT enc Rows.shuffleAgainRow.laid 4 Tryd.f4 := by
  intro W base args ds before hval hA _ _ hL
  rw [Tryd.params4] at hA hval
  obtain ⟨v0, vs0, d0, ds0, p0, q0, hargs, rfl, rfl, h0, r0⟩ := trodAll_cons hA
  obtain ⟨v1, vs1, d1, ds1, p1, q1, rfl, rfl, rfl, h1, r1⟩ := trodAll_cons r0
  obtain ⟨v2, vs2, d2, ds2, p2, q2, rfl, rfl, rfl, h2, r2⟩ := trodAll_cons r1
  obtain ⟨rfl, rfl, rfl⟩ := trodAll_nil r2
  obtain rfl : args = #[v0, v1, v2] := by cases args; simp_all
  obtain ⟨r, rfl, hr⟩ := arg_int Tryd.underlying5 (hval 0 5 v0 rfl rfl) h0
  obtain ⟨n, rfl, hn⟩ := arg_int Tryd.underlying5 (hval 1 5 v1 rfl rfl) h1
  obtain ⟨s, l, e2, hs⟩ := rd_sds (arg_slice 5 Tryd.underlying22 (by kernel_rfl) (hval 2 22 v2 rfl rfl) h2)
  simp only [List.cons.injEq, and_true] at e2
  subst e2
  exact law_run (ShuffleAgain_S r n l s (u8_rng hr) (u8_rng hn) (tabW_of rfl hL) hs)
set_option maxRecDepth 100000 in
theorem ShuffleAgain_met (os : Os) (args : Array Value) : laidMetH Tryd.prog Rows.shuffleAgainRow.laid ((World.doorLaid Tryd.prog 14 os).forCall (fun _ _ => 0) ⟨#[], args, []⟩).memory :=
  laidMetH_of_parts3 (fuel := 8) (laidMet_of_run' 8 (by kernel_rfl) (by kernel_rfl)) (by kernel_rfl) (by kernel_rfl)
set_option maxRecDepth 100000 in
theorem ShuffleAgain_lifted (os : Os) (started : os.Started) (H : Type) (enc : TypeId × Value → H) :
    ReturnsInHanded {} Tryd.checked os 4 .any (fun w args => (Rows.shuffleAgainSpec.pre enc Tryd.prog Tryd.f4 [] false w args ∧ laidMetH Tryd.prog Rows.shuffleAgainRow.laid w) ∧ sizedMet enc Tryd.prog Tryd.f4 (OpenSpec.ofChange Rows.shuffleAgainSpec) false w args) (Rows.shuffleAgainSpec.post enc Tryd.prog Tryd.f4 false true false false) :=
  lift_trueT started Tryd.func4 (by kernel_rfl)
    (ChangeSpec.witness_shaped (enc := enc) (C := Tryd.checked) (os := os) (X := fun w _ => laidMetH Tryd.prog Rows.shuffleAgainRow.laid w) false (World.doorLaid Tryd.prog 14 os) #[.int .u8 0, .int .u8 0, .slice none 0 0] 8 rfl (World.shaped_of_RefB (by kernel_rfl) (by kernel_rfl)) (by kernel_rfl) (by kernel_rfl) (by kernel_rfl) (ShuffleAgain_met os _))
    rfl rfl (by kernel_rfl) (fun ds h => by match ds, h with | [a0, a1, a2], _ => rfl) (ShuffleAgain_law enc)
theorem ShuffleAgain_over : Rows.shuffleAgainRow.holds Tryd.pinned (OpenSpec.ofChange Rows.shuffleAgainSpec) :=
  OpenClaim.holds_of_wide 4 Tryd.f4 rfl rfl rfl rfl rfl rfl rfl ⟨rfl, rfl, rfl, rfl, rfl⟩ rfl rfl rfl rfl rfl (by kernel_rfl) Tryd.func4 (by kernel_rfl)
    (of_decide_eq_true (by kernel_rfl)) (by unfold Func.isWrapper; first | (rw [if_pos (by decide +kernel)]; kernel_rfl) | (rw [if_neg (by decide +kernel)]; exact ⟨rfl, rfl⟩))
    (fun os started H enc _ => ShuffleAgain_lifted os started H enc)
theorem ShuffleAgain_holds : Rows.ShuffleAgainCardSaid :=
  Claim7.holds_tied_plain_at .later [] [.data] true (true, "159500d8f53921207f8a94d76c36f16f18e500f3350336e687406a81b385dd96") true
    ShuffleAgain_over (fun _ h => by cases h) (by kernel_rfl) (fun _ h => by cases h) shuffleAgain_row_tie rfl ⟨rfl, rfl⟩ (by kernel_rfl) rfl
    (fun f fn hf hfn => by
      obtain rfl : f = 4 := Option.some.inj ((show Tryd.prog.funcNamed "quadrille/quadrillelaw13.ShuffleAgain" = some 4 by kernel_rfl).symm.trans hf) |>.symm
      obtain rfl : fn = Tryd.f4 := (Option.some.inj (Tryd.func4.symm.trans hfn)).symm
      exact ⟨by kernel_rfl, fun j t ht => by
        rw [Tryd.params4] at ht
        have hm : t ∈ [5, 5, 22] := by simpa using Array.mem_of_getElem? ht
        have hall : ([5, 5, 22].all fun u => !Tryd.prog.wantsStandIn u) = true := by kernel_rfl
        exact (show Tryd.prog.wantsStandIn t = false by simpa using List.all_eq_true.1 hall t hm)⟩)
    (by kernel_rfl)
#print axioms ShuffleAgain_holds
end Go.Proofs.YtbhnbnecaejjiaaDoor
