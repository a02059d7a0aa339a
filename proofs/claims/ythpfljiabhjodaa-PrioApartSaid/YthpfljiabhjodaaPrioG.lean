/- Type Heap: Push, Peek, Pop at any state. -/
import Derived.Test.YthpfljiabhjodaaPrioF
namespace Go.Proofs.Ythpfljiabhjodaa
open Go.RowKit
set_option maxRecDepth 20000
theorem Spec.hiSome {pa : Option Addr} {l : List It} {P : Program} {f : FuncId} {args : List Value} {pre : List Assn} {post : List Assn → Value → List Assn → Prop} (h : ∀ t, pa = some ⟨t, 0, none⟩ → Spec P f args (HI pa (some l) :: pre) post) : Spec P f args (HI pa (some l) :: pre) post := by
  intro Γ w hs
  have : ∃ t, pa = some ⟨t, 0, none⟩ := by
    obtain ⟨x, _, t, _, _, _, _, e, _⟩ := hs.head
    exact ⟨t, e⟩
  obtain ⟨t, e⟩ := this
  exact h t e Γ w hs
theorem S.hiOpen {n : Nat} {w0 : World} {ρ : Env} {Γ Δ : List Assn} {φ : Act → World → Prop} (t : Nat) (l : List It) [p : Pick (HI (some ⟨t, 0, none⟩) (some l)) Γ Δ] (k : ∀ m lv L M, L.Perm l → Srt l → Heaped L.length L → AtOk L M → lv.n = L.length → S n w0 ρ (HB t m lv L M Δ) φ) : S n w0 ρ Γ φ := by
  intro a w ha hs hx
  obtain ⟨t', m, lv, L, M, e1, e2, e3, e4, e5, e6, hs'⟩ := Sat.openHI (hs.ent p.ent)
  cases e1
  exact k m lv L M e2 e3 e4 e5 e6 a w ha hs' hx
theorem hasL_false {x : It} {l : List It} (h : hasL x.id l = false) : ∀ y ∈ l, y.id ≠ x.id := fun y hy e => by
  unfold hasL at h
  rw [List.any_eq_false] at h
  exact h y hy (decide_eq_true e)
theorem HPush_S (pa : Option Addr) (st : HSt) (x : It) (hl : lenR st ≤ 999) : Spec Try.prog 12 [.pointer pa, .agg (itC x).toArray] [HI pa st] fun Γ v Θ => v = .int .i64 (pushR x st).1 ∧ Θ = HI pa (pushR x st).2 :: Γ := by
  cases st with
  | none =>
    refine Spec.noHI fun e => ?_
    subst e
    have h0 : Spec Try.prog 12 [.pointer none, .agg (itC x).toArray] [] fun Γ v Θ => v = .int .i64 6 ∧ Θ = Γ := by
      refine Spec.of_body Try.func12 rfl Try.ntmps12 rfl ?_
      intro w0 Γ
      show S _ w0 [(0, .pointer none), (1, .agg (itC x).toArray)] Γ _
      refine S.seq fun K1 hK1 => ?_
      refine S.region rfl ?_
      refine S.op (S.box (cs := [_, _, _]) rfl rfl rfl ?_)
      intro b3
      refine S.op (S.q (q_assign rfl) rfl rfl ?_)
      first | with_reducible refine S.nilK ?_ | refine S.nil ?_
      refine hK1 _ _ ?_
      refine S.seq fun K2 hK2 => ?_
      refine S.block ?_
      refine S.seq fun K3 hK3 => ?_
      refine S.region rfl ?_
      refine S.op (S.q (q_move rfl) rfl rfl ?_)
      refine S.op (S.q (q_eqN Try.underlying31 rfl rfl) rfl rfl ?_)
      refine S.op (S.q (q_assign rfl) rfl rfl ?_)
      first | with_reducible refine S.nilK ?_ | refine S.nil ?_
      refine hK3 _ _ ?_
      refine S.condT rfl ?_
      refine S.seq fun K4 hK4 => ?_
      refine S.region rfl ?_
      refine S.op (S.q (q_assign rfl) rfl rfl ?_)
      first | with_reducible refine S.nilK ?_ | refine S.nil ?_
      refine hK4 _ _ ?_
      refine S.ret ?_
      with_reducible repeat (first | refine S.then_n ?_ | refine S.then_x ?_ | refine S.then_r ?_ | refine S.inBlock_n ?_ | refine S.inBlock_r ?_ | refine S.inBlock_x rfl ?_ | refine S.noGoto_r ?_ | refine S.noGoto_n ?_ | refine S.noGoto_x ?_)
      exact S.fin (rs := [_]) (vs := [_]) Try.results12 (⟨rfl, trivial⟩)  (⟨rfl, rfl⟩) Sub.ent
    refine h0.weaken fun Γ => ⟨Γ, Ent.refl _, ?_⟩
    rintro v Θ ⟨rfl, rfl⟩
    exact ⟨_, ⟨rfl, rfl⟩, Ent.noHI _⟩
  | some l =>
    refine Spec.hiSome fun t e => ?_
    subst e
    simp only [lenR] at hl
    refine Spec.of_body Try.func12 rfl Try.ntmps12 rfl ?_
    intro w0 Γ
    show S _ w0 [(0, .pointer (some ⟨t, 0, none⟩)), (1, .agg (itC x).toArray)] (HI (some ⟨t, 0, none⟩) (some l) :: Γ) _
    refine S.seq fun K1 hK1 => ?_
    refine S.region rfl ?_
    refine S.op (S.box (cs := [_, _, _]) rfl rfl rfl ?_)
    intro b3
    refine S.op (S.q (q_assign rfl) rfl rfl ?_)
    first | with_reducible refine S.nilK ?_ | refine S.nil ?_
    refine hK1 _ _ ?_
    refine S.seq fun K2 hK2 => ?_
    refine S.block ?_
    refine S.seq fun K3 hK3 => ?_
    refine S.region rfl ?_
    refine S.op (S.q (q_move rfl) rfl rfl ?_)
    refine S.op (S.q (q_eqN Try.underlying31 rfl rfl) rfl rfl ?_)
    refine S.op (S.q (q_assign rfl) rfl rfl ?_)
    first | with_reducible refine S.nilK ?_ | refine S.nil ?_
    refine hK3 _ _ ?_
    refine S.condF rfl ?_
    refine S.seq fun K4 hK4 => ?_
    refine S.region rfl ?_
    refine S.op (S.q (q_move rfl) rfl rfl ?_)
    refine S.op (S.q (q_field Try.fo25_0 rfl) rfl rfl ?_)
    refine S.op (S.q (q_load Try.at22 rfl rfl) rfl rfl ?_)
    refine S.op (S.call Try.en15 (vs := [_, _]) ⟨rfl, rfl, trivial⟩ (Has_S (some ⟨t, 0, none⟩) (some l) x.id) rfl ?_)
    rintro v Θ ⟨rfl, rfl⟩
    refine S.op (S.q (q_assign rfl) rfl rfl ?_)
    first | with_reducible refine S.nilK ?_ | refine S.nil ?_
    refine hK4 _ _ ?_
    refine S.cond rfl (fun h2 => ?_) (fun h2 => ?_)
    · have h2' : hasL x.id l = true := h2
      refine S.seq fun K5 hK5 => ?_
      refine S.region rfl ?_
      refine S.op (S.q (q_assign rfl) rfl rfl ?_)
      first | with_reducible refine S.nilK ?_ | refine S.nil ?_
      refine hK5 _ _ ?_
      refine S.ret ?_
      with_reducible repeat (first | refine S.then_n ?_ | refine S.then_x ?_ | refine S.then_r ?_ | refine S.inBlock_n ?_ | refine S.inBlock_r ?_ | refine S.inBlock_x rfl ?_ | refine S.noGoto_r ?_ | refine S.noGoto_n ?_ | refine S.noGoto_x ?_)
      exact S.fin (rs := [_]) (vs := [_]) Try.results12 (⟨rfl, trivial⟩)  (⟨by simp only [resV, pushR]; rw [if_pos h2'], by simp only [pushR]; rw [if_pos h2']⟩) Sub.ent
    · refine S.hiOpen t l fun m lv L M hp hs hh hat hn => ?_
      have hll := hp.length_eq
      have hno : hasL x.id l = false := h2
      have hgx : alGet x.id M = none := by
        have := hat.has x.id
        rw [hasL_perm hp, hno] at this
        exact Option.not_isSome_iff_eq_none.1 (by rw [this]; simp)
      have hsrt := ins_srt hs (hasL_false hno)
      have hpr : pushR x (some l) = (0, some (ins x l)) := by simp only [pushR, hno]; rfl
      refine S.skip ?_
      with_reducible repeat (first | refine S.then_n ?_ | refine S.then_x ?_ | refine S.then_r ?_ | refine S.inBlock_n ?_ | refine S.inBlock_r ?_ | refine S.inBlock_x rfl ?_ | refine S.noGoto_r ?_ | refine S.noGoto_n ?_ | refine S.noGoto_x ?_)
      with_reducible repeat (first | refine S.then_n ?_ | refine S.then_x ?_ | refine S.then_r ?_ | refine S.inBlock_n ?_ | refine S.inBlock_r ?_ | refine S.inBlock_x rfl ?_ | refine S.noGoto_r ?_ | refine S.noGoto_n ?_ | refine S.noGoto_x ?_)
      refine hK2 _ _ ?_
      refine S.seq fun K6 hK6 => ?_
      refine S.draw ([blk b3 25 (itC x).toArray]) [] Try.mixed ?_
      refine S.dr_take 0 [] rfl (by kernel_rfl) rfl rfl rfl (q_move rfl) Sub.ent ?_
      refine S.dr_take 1 [] rfl (by kernel_rfl) rfl rfl rfl (q_nilCheck rfl) Sub.ent ?_
      refine S.dr_take 2 [] rfl (by kernel_rfl) rfl rfl rfl (q_field Try.fo60_0 rfl) Sub.ent ?_
      refine S.dr_take 3 [] rfl (by kernel_rfl) rfl rfl rfl (q_makeInterface (by rw [Try.underlying62]) rfl) Sub.ent ?_
      refine S.dr_take 4 [] rfl (by kernel_rfl) rfl rfl rfl (q_loadS [_, _, _] Try.ag25 rfl rfl ⟨rfl, rfl, rfl, trivial⟩) Sub.ent ?_
      refine S.dr_take 5 [] rfl (by kernel_rfl) rfl rfl rfl (q_makeInterface (by rw [Try.underlying25]) rfl) Sub.ent ?_
      refine S.dr_1 (i := 6) (by kernel_rfl) rfl rfl ?_
      refine  (S.call Try.en25 (vs := [_, _]) ⟨rfl, rfl, trivial⟩ (hPush_S t m lv L M x (by omega) hat hh hgx) rfl ?_)
      rintro v Θ ⟨lv', L', M', hp', hat', hh', rfl⟩
      refine S.ent (Ent.closeHI (l := ins x l) (hp'.trans ((hp.cons x).trans (ins_perm x l).symm)) hsrt hh' hat' _) ?_
      refine S.dr_k rfl Sub.ent ?_
      first | with_reducible refine S.dr_doneK (by kernel_rfl) ?_ | refine S.dr_done (by kernel_rfl) ?_
      refine hK6 _ _ ?_
      refine S.seq fun K7 hK7 => ?_
      refine S.region rfl ?_
      refine S.op (S.q (q_assign rfl) rfl rfl ?_)
      first | with_reducible refine S.nilK ?_ | refine S.nil ?_
      refine hK7 _ _ ?_
      refine S.ret ?_
      with_reducible repeat (first | refine S.then_n ?_ | refine S.then_x ?_ | refine S.then_r ?_ | refine S.inBlock_n ?_ | refine S.inBlock_r ?_ | refine S.inBlock_x rfl ?_ | refine S.noGoto_r ?_ | refine S.noGoto_n ?_ | refine S.noGoto_x ?_)
      exact S.fin (rs := [_]) (vs := [_]) Try.results12 (⟨rfl, trivial⟩)  (⟨by simp only [resV]; rw [hpr], by rw [hpr]⟩) Sub.ent
theorem Peek_S (pa : Option Addr) (st : HSt) : Spec Try.prog 16 [.pointer pa] [HI pa st] fun Γ v Θ => v = .tuple #[.agg (itC (peekR st).1).toArray, .bool (peekR st).2] ∧ Θ = HI pa st :: Γ := by
  cases st with
  | none =>
    refine Spec.of_body Try.func16 rfl Try.ntmps16 rfl ?_
    intro w0 Γ
    show S _ w0 [(0, .pointer pa)] (HI pa none :: Γ) _
    refine S.seq fun K1 hK1 => ?_
    refine S.region rfl ?_
    refine S.op (S.alloc Try.z25 rfl ?_)
    intro b2
    refine S.op (S.q (q_assign rfl) rfl rfl ?_)
    first | with_reducible refine S.nilK ?_ | refine S.nil ?_
    refine hK1 _ _ ?_
    refine S.seq fun K2 hK2 => ?_
    refine S.seq fun K3 hK3 => ?_
    refine S.region rfl ?_
    refine S.op (S.q (q_move rfl) rfl rfl ?_)
    refine S.op (S.call Try.en14 (vs := [_]) ⟨rfl, trivial⟩ (Len_S pa none) rfl ?_)
    rintro v Θ ⟨rfl, rfl⟩
    refine S.op (S.q (q_eq rfl rfl) rfl rfl ?_)
    first | with_reducible refine S.nilK ?_ | refine S.nil ?_
    refine hK3 _ _ ?_
    refine S.condT rfl ?_
    refine S.seq fun K4 hK4 => ?_
    refine S.region rfl ?_
    refine S.op (S.q (q_build (pvs := []) [_, _, _] Try.z25 Try.p25 trivial rfl) rfl rfl ?_)
    refine S.op (S.storeS (cs' := [_, _, _]) Try.ag25 rfl rfl rfl rfl rfl rfl ?_)
    refine S.op (S.q (q_assign rfl) rfl rfl ?_)
    first | with_reducible refine S.nilK ?_ | refine S.nil ?_
    refine hK4 _ _ ?_
    refine S.ret ?_
    with_reducible repeat (first | refine S.then_n ?_ | refine S.then_x ?_ | refine S.then_r ?_ | refine S.inBlock_n ?_ | refine S.inBlock_r ?_ | refine S.inBlock_x rfl ?_ | refine S.noGoto_r ?_ | refine S.noGoto_n ?_ | refine S.noGoto_x ?_)
    exact S.fin (rs := [_, _]) (vs := [_, _]) Try.results16 (⟨⟨_, _, rfl, lod_agg [_, _, _] Try.ag25 rfl ⟨rfl, rfl, rfl, trivial⟩⟩, rfl, trivial⟩)  (⟨rfl, rfl⟩) Sub.ent
  | some l =>
    cases l with
    | nil =>
      refine Spec.of_body Try.func16 rfl Try.ntmps16 rfl ?_
      intro w0 Γ
      show S _ w0 [(0, .pointer pa)] (HI pa (some []) :: Γ) _
      refine S.seq fun K1 hK1 => ?_
      refine S.region rfl ?_
      refine S.op (S.alloc Try.z25 rfl ?_)
      intro b2
      refine S.op (S.q (q_assign rfl) rfl rfl ?_)
      first | with_reducible refine S.nilK ?_ | refine S.nil ?_
      refine hK1 _ _ ?_
      refine S.seq fun K2 hK2 => ?_
      refine S.seq fun K3 hK3 => ?_
      refine S.region rfl ?_
      refine S.op (S.q (q_move rfl) rfl rfl ?_)
      refine S.op (S.call Try.en14 (vs := [_]) ⟨rfl, trivial⟩ (Len_S pa (some [])) rfl ?_)
      rintro v Θ ⟨rfl, rfl⟩
      refine S.op (S.q (q_eq rfl rfl) rfl rfl ?_)
      first | with_reducible refine S.nilK ?_ | refine S.nil ?_
      refine hK3 _ _ ?_
      refine S.condT rfl ?_
      refine S.seq fun K4 hK4 => ?_
      refine S.region rfl ?_
      refine S.op (S.q (q_build (pvs := []) [_, _, _] Try.z25 Try.p25 trivial rfl) rfl rfl ?_)
      refine S.op (S.storeS (cs' := [_, _, _]) Try.ag25 rfl rfl rfl rfl rfl rfl ?_)
      refine S.op (S.q (q_assign rfl) rfl rfl ?_)
      first | with_reducible refine S.nilK ?_ | refine S.nil ?_
      refine hK4 _ _ ?_
      refine S.ret ?_
      with_reducible repeat (first | refine S.then_n ?_ | refine S.then_x ?_ | refine S.then_r ?_ | refine S.inBlock_n ?_ | refine S.inBlock_r ?_ | refine S.inBlock_x rfl ?_ | refine S.noGoto_r ?_ | refine S.noGoto_n ?_ | refine S.noGoto_x ?_)
      exact S.fin (rs := [_, _]) (vs := [_, _]) Try.results16 (⟨⟨_, _, rfl, lod_agg [_, _, _] Try.ag25 rfl ⟨rfl, rfl, rfl, trivial⟩⟩, rfl, trivial⟩)  (⟨rfl, rfl⟩) Sub.ent
    | cons a l =>
      refine Spec.hiSome fun t e => ?_
      subst e
      refine Spec.of_body Try.func16 rfl Try.ntmps16 rfl ?_
      intro w0 Γ
      show S _ w0 [(0, .pointer (some ⟨t, 0, none⟩))] (HI (some ⟨t, 0, none⟩) (some (a :: l)) :: Γ) _
      refine S.seq fun K1 hK1 => ?_
      refine S.region rfl ?_
      refine S.op (S.alloc Try.z25 rfl ?_)
      intro b2
      refine S.op (S.q (q_assign rfl) rfl rfl ?_)
      first | with_reducible refine S.nilK ?_ | refine S.nil ?_
      refine hK1 _ _ ?_
      refine S.seq fun K2 hK2 => ?_
      refine S.seq fun K3 hK3 => ?_
      refine S.region rfl ?_
      refine S.op (S.q (q_move rfl) rfl rfl ?_)
      refine S.op (S.call Try.en14 (vs := [_]) ⟨rfl, trivial⟩ (Len_S (some ⟨t, 0, none⟩) (some (a :: l))) rfl ?_)
      rintro v Θ ⟨rfl, rfl⟩
      refine S.op (S.q (q_eq rfl rfl) rfl rfl ?_)
      first | with_reducible refine S.nilK ?_ | refine S.nil ?_
      refine hK3 _ _ ?_
      refine S.condD rfl (fun h1 => ?_) (fun h1 => ?_)
      · exact absurd h1 (by simp only [lenR, List.length_cons]; omega)
      · refine S.skip ?_
        with_reducible repeat (first | refine S.then_n ?_ | refine S.then_x ?_ | refine S.then_r ?_ | refine S.inBlock_n ?_ | refine S.inBlock_r ?_ | refine S.inBlock_x rfl ?_ | refine S.noGoto_r ?_ | refine S.noGoto_n ?_ | refine S.noGoto_x ?_)
        refine hK2 _ _ ?_
        refine S.seq fun K4 hK4 => ?_
        refine S.region rfl ?_
        refine S.hiOpen t (a :: l) fun m lv L M hp hs hh hat hn => ?_
        have hll := hp.length_eq
        rw [List.length_cons] at hll
        obtain ⟨r, hr⟩ := getE (l := L) (i := 0) (by omega)
        obtain rfl := srt_head hh hr hp hs
        refine S.ownSome lv (by omega) fun b off hb _ _ _ => ?_
        refine S.op (S.q (q_move rfl) rfl rfl ?_)
        refine S.op (S.q (q_nilCheck rfl) rfl rfl ?_)
        refine S.op (S.q (q_field Try.fo60_0 rfl) rfl rfl ?_)
        refine S.op (S.q (q_field Try.fo58_0 rfl) rfl rfl ?_)
        refine S.op (S.q (q_load Try.at52 rfl rfl) rfl rfl ?_)
        refine S.op (S.q (q_indexO (0) Try.el52 rfl hb rfl rfl (by omega)) rfl rfl ?_)
        refine S.op (S.q (q_loadOwS (lv) (0 * 3) [_, _, _] Try.ag25 rfl hb (by first | rfl | exact Nat.add_assoc _ _ _ | omega) rfl (flat_seg (enc := itC) (sz := 3) (fun _ => rfl) hr)) rfl rfl ?_)
        refine S.op (S.storeS (cs' := [_, _, _]) Try.ag25 rfl rfl rfl rfl rfl rfl ?_)
        refine S.op (S.q (q_assign rfl) rfl rfl ?_)
        first | with_reducible refine S.nilK ?_ | refine S.nil ?_
        refine hK4 _ _ ?_
        refine S.ret ?_
        with_reducible repeat (first | refine S.then_n ?_ | refine S.then_x ?_ | refine S.then_r ?_ | refine S.inBlock_n ?_ | refine S.inBlock_r ?_ | refine S.inBlock_x rfl ?_ | refine S.noGoto_r ?_ | refine S.noGoto_n ?_ | refine S.noGoto_x ?_)
        refine S.ent ((Sub.ent : Ent _ (HB t m lv L M (blk b2 25 (itC r).toArray :: Γ))).trans (Ent.closeHI (t := t) hp hs hh hat _)) ?_
        exact S.fin (rs := [_, _]) (vs := [_, _]) Try.results16 (⟨⟨_, _, rfl, lod_agg [_, _, _] Try.ag25 rfl ⟨rfl, rfl, rfl, trivial⟩⟩, rfl, trivial⟩)  (⟨rfl, rfl⟩) Sub.ent
theorem HPop_S (pa : Option Addr) (st : HSt) (hl : lenR st ≤ 1000) : Spec Try.prog 13 [.pointer pa] [HI pa st] fun Γ v Θ => v = .tuple #[.agg (itC (popR st).1).toArray, .bool (popR st).2.1] ∧ Θ = HI pa (popR st).2.2 :: Γ := by
  cases st with
  | none =>
    refine Spec.of_body Try.func13 rfl Try.ntmps13 rfl ?_
    intro w0 Γ
    show S _ w0 [(0, .pointer pa)] (HI pa none :: Γ) _
    refine S.seq fun K1 hK1 => ?_
    refine S.region rfl ?_
    refine S.op (S.alloc Try.z25 rfl ?_)
    intro b2
    refine S.op (S.q (q_assign rfl) rfl rfl ?_)
    first | with_reducible refine S.nilK ?_ | refine S.nil ?_
    refine hK1 _ _ ?_
    refine S.seq fun K2 hK2 => ?_
    refine S.region rfl ?_
    refine S.op (S.q (q_move rfl) rfl rfl ?_)
    refine S.op (S.call Try.en16 (vs := [_]) ⟨rfl, trivial⟩ (Peek_S pa none) rfl ?_)
    rintro v Θ ⟨rfl, rfl⟩
    refine S.op (S.q (q_move rfl) rfl rfl ?_)
    refine S.op (S.q (q_extract rfl rfl) rfl rfl ?_)
    refine S.op (S.q (q_extract rfl rfl) rfl rfl ?_)
    refine S.op (S.alloc Try.z25 rfl ?_)
    intro b4
    refine S.op (S.storeS (cs' := [_, _, _]) Try.ag25 rfl rfl rfl rfl rfl rfl ?_)
    refine S.op (S.q (q_assign rfl) rfl rfl ?_)
    first | with_reducible refine S.nilK ?_ | refine S.nil ?_
    refine hK2 _ _ ?_
    refine S.seq fun K3 hK3 => ?_
    refine S.seq fun K4 hK4 => ?_
    refine S.region rfl ?_
    refine S.op (S.q (q_move rfl) rfl rfl ?_)
    first | with_reducible refine S.nilK ?_ | refine S.nil ?_
    refine hK4 _ _ ?_
    refine S.condF rfl ?_
    refine S.skip ?_
    with_reducible repeat (first | refine S.then_n ?_ | refine S.then_x ?_ | refine S.then_r ?_ | refine S.inBlock_n ?_ | refine S.inBlock_r ?_ | refine S.inBlock_x rfl ?_ | refine S.noGoto_r ?_ | refine S.noGoto_n ?_ | refine S.noGoto_x ?_)
    refine hK3 _ _ ?_
    refine S.seq fun K5 hK5 => ?_
    refine S.region rfl ?_
    refine S.op (S.q (q_loadS [_, _, _] Try.ag25 rfl rfl ⟨rfl, rfl, rfl, trivial⟩) rfl rfl ?_)
    refine S.op (S.q (q_move rfl) rfl rfl ?_)
    refine S.op (S.storeS (cs' := [_, _, _]) Try.ag25 rfl rfl rfl rfl rfl rfl ?_)
    refine S.op (S.q (q_assign rfl) rfl rfl ?_)
    first | with_reducible refine S.nilK ?_ | refine S.nil ?_
    refine hK5 _ _ ?_
    refine S.ret ?_
    with_reducible repeat (first | refine S.then_n ?_ | refine S.then_x ?_ | refine S.then_r ?_ | refine S.inBlock_n ?_ | refine S.inBlock_r ?_ | refine S.inBlock_x rfl ?_ | refine S.noGoto_r ?_ | refine S.noGoto_n ?_ | refine S.noGoto_x ?_)
    exact S.fin (rs := [_, _]) (vs := [_, _]) Try.results13 (⟨⟨_, _, rfl, lod_agg [_, _, _] Try.ag25 rfl ⟨rfl, rfl, rfl, trivial⟩⟩, rfl, trivial⟩)  (⟨rfl, show _ = HI pa none :: Γ from rfl⟩) Sub.ent
  | some l =>
    cases l with
    | nil =>
      refine Spec.of_body Try.func13 rfl Try.ntmps13 rfl ?_
      intro w0 Γ
      show S _ w0 [(0, .pointer pa)] (HI pa (some []) :: Γ) _
      refine S.seq fun K1 hK1 => ?_
      refine S.region rfl ?_
      refine S.op (S.alloc Try.z25 rfl ?_)
      intro b2
      refine S.op (S.q (q_assign rfl) rfl rfl ?_)
      first | with_reducible refine S.nilK ?_ | refine S.nil ?_
      refine hK1 _ _ ?_
      refine S.seq fun K2 hK2 => ?_
      refine S.region rfl ?_
      refine S.op (S.q (q_move rfl) rfl rfl ?_)
      refine S.op (S.call Try.en16 (vs := [_]) ⟨rfl, trivial⟩ (Peek_S pa (some [])) rfl ?_)
      rintro v Θ ⟨rfl, rfl⟩
      refine S.op (S.q (q_move rfl) rfl rfl ?_)
      refine S.op (S.q (q_extract rfl rfl) rfl rfl ?_)
      refine S.op (S.q (q_extract rfl rfl) rfl rfl ?_)
      refine S.op (S.alloc Try.z25 rfl ?_)
      intro b4
      refine S.op (S.storeS (cs' := [_, _, _]) Try.ag25 rfl rfl rfl rfl rfl rfl ?_)
      refine S.op (S.q (q_assign rfl) rfl rfl ?_)
      first | with_reducible refine S.nilK ?_ | refine S.nil ?_
      refine hK2 _ _ ?_
      refine S.seq fun K3 hK3 => ?_
      refine S.seq fun K4 hK4 => ?_
      refine S.region rfl ?_
      refine S.op (S.q (q_move rfl) rfl rfl ?_)
      first | with_reducible refine S.nilK ?_ | refine S.nil ?_
      refine hK4 _ _ ?_
      refine S.condF rfl ?_
      refine S.skip ?_
      with_reducible repeat (first | refine S.then_n ?_ | refine S.then_x ?_ | refine S.then_r ?_ | refine S.inBlock_n ?_ | refine S.inBlock_r ?_ | refine S.inBlock_x rfl ?_ | refine S.noGoto_r ?_ | refine S.noGoto_n ?_ | refine S.noGoto_x ?_)
      refine hK3 _ _ ?_
      refine S.seq fun K5 hK5 => ?_
      refine S.region rfl ?_
      refine S.op (S.q (q_loadS [_, _, _] Try.ag25 rfl rfl ⟨rfl, rfl, rfl, trivial⟩) rfl rfl ?_)
      refine S.op (S.q (q_move rfl) rfl rfl ?_)
      refine S.op (S.storeS (cs' := [_, _, _]) Try.ag25 rfl rfl rfl rfl rfl rfl ?_)
      refine S.op (S.q (q_assign rfl) rfl rfl ?_)
      first | with_reducible refine S.nilK ?_ | refine S.nil ?_
      refine hK5 _ _ ?_
      refine S.ret ?_
      with_reducible repeat (first | refine S.then_n ?_ | refine S.then_x ?_ | refine S.then_r ?_ | refine S.inBlock_n ?_ | refine S.inBlock_r ?_ | refine S.inBlock_x rfl ?_ | refine S.noGoto_r ?_ | refine S.noGoto_n ?_ | refine S.noGoto_x ?_)
      exact S.fin (rs := [_, _]) (vs := [_, _]) Try.results13 (⟨⟨_, _, rfl, lod_agg [_, _, _] Try.ag25 rfl ⟨rfl, rfl, rfl, trivial⟩⟩, rfl, trivial⟩)  (⟨rfl, show _ = HI pa (some []) :: Γ from rfl⟩) Sub.ent
    | cons a l =>
      refine Spec.hiSome fun t e => ?_
      subst e
      simp only [lenR, List.length_cons] at hl
      refine Spec.of_body Try.func13 rfl Try.ntmps13 rfl ?_
      intro w0 Γ
      show S _ w0 [(0, .pointer (some ⟨t, 0, none⟩))] (HI (some ⟨t, 0, none⟩) (some (a :: l)) :: Γ) _
      refine S.seq fun K1 hK1 => ?_
      refine S.region rfl ?_
      refine S.op (S.alloc Try.z25 rfl ?_)
      intro b2
      refine S.op (S.q (q_assign rfl) rfl rfl ?_)
      first | with_reducible refine S.nilK ?_ | refine S.nil ?_
      refine hK1 _ _ ?_
      refine S.seq fun K2 hK2 => ?_
      refine S.region rfl ?_
      refine S.op (S.q (q_move rfl) rfl rfl ?_)
      refine S.op (S.call Try.en16 (vs := [_]) ⟨rfl, trivial⟩ (Peek_S (some ⟨t, 0, none⟩) (some (a :: l))) rfl ?_)
      rintro v Θ ⟨rfl, rfl⟩
      refine S.op (S.q (q_move rfl) rfl rfl ?_)
      refine S.op (S.q (q_extract rfl rfl) rfl rfl ?_)
      refine S.op (S.q (q_extract rfl rfl) rfl rfl ?_)
      refine S.op (S.alloc Try.z25 rfl ?_)
      intro b4
      refine S.op (S.storeS (cs' := [_, _, _]) Try.ag25 rfl rfl rfl rfl rfl rfl ?_)
      refine S.op (S.q (q_assign rfl) rfl rfl ?_)
      first | with_reducible refine S.nilK ?_ | refine S.nil ?_
      refine hK2 _ _ ?_
      refine S.seq fun K3 hK3 => ?_
      refine S.seq fun K4 hK4 => ?_
      refine S.region rfl ?_
      refine S.op (S.q (q_move rfl) rfl rfl ?_)
      first | with_reducible refine S.nilK ?_ | refine S.nil ?_
      refine hK4 _ _ ?_
      refine S.condT rfl ?_
      refine S.region rfl ?_
      refine S.hiOpen t (a :: l) fun m lv L M hp hs hh hat hn => ?_
      have hll := hp.length_eq
      rw [List.length_cons] at hll
      obtain ⟨r, hr⟩ := getE (l := L) (i := 0) (by omega)
      obtain rfl := srt_head hh hr hp hs
      refine S.op (S.q (q_move rfl) rfl rfl ?_)
      refine S.op (S.q (q_nilCheck rfl) rfl rfl ?_)
      refine S.op (S.q (q_field Try.fo60_0 rfl) rfl rfl ?_)
      refine S.op (S.q (q_makeInterface (by rw [Try.underlying62]) rfl) rfl rfl ?_)
      refine S.op (S.call Try.en26 (vs := [_]) ⟨rfl, trivial⟩ (hPop_S t m lv L M r (by omega) hat hh hr) rfl ?_)
      rintro v Θ ⟨lv', L', M', rfl, hp', hat', hh', rfl⟩
      refine S.ent (Ent.closeHI (l := l) (List.Perm.cons_inv (hp'.symm.trans hp)) (List.pairwise_cons.1 hs).2 hh' hat' _) ?_
      first | with_reducible refine S.nilK ?_ | refine S.nil ?_
      refine hK3 _ _ ?_
      refine S.seq fun K5 hK5 => ?_
      refine S.region rfl ?_
      refine S.op (S.q (q_loadS [_, _, _] Try.ag25 rfl rfl ⟨rfl, rfl, rfl, trivial⟩) rfl rfl ?_)
      refine S.op (S.q (q_move rfl) rfl rfl ?_)
      refine S.op (S.storeS (cs' := [_, _, _]) Try.ag25 rfl rfl rfl rfl rfl rfl ?_)
      refine S.op (S.q (q_assign rfl) rfl rfl ?_)
      first | with_reducible refine S.nilK ?_ | refine S.nil ?_
      refine hK5 _ _ ?_
      refine S.ret ?_
      with_reducible repeat (first | refine S.then_n ?_ | refine S.then_x ?_ | refine S.then_r ?_ | refine S.inBlock_n ?_ | refine S.inBlock_r ?_ | refine S.inBlock_x rfl ?_ | refine S.noGoto_r ?_ | refine S.noGoto_n ?_ | refine S.noGoto_x ?_)
      exact S.fin (rs := [_, _]) (vs := [_, _]) Try.results13 (⟨⟨_, _, rfl, lod_agg [_, _, _] Try.ag25 rfl ⟨rfl, rfl, rfl, trivial⟩⟩, rfl, trivial⟩)  (⟨rfl, show _ = HI (some ⟨t, 0, none⟩) (some l) :: Γ from rfl⟩) Sub.ent
end Go.Proofs.Ythpfljiabhjodaa
