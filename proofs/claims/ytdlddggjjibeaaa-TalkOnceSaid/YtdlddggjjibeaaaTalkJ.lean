/- The document's answer for talk: New, packet, Say, Mine, Hear. -/
import Derived.Test.YtdlddggjjibeaaaTalkE
import Derived.Test.YtdlddggjjibeaaaDel
import Derived.Test.YtdlddggjjibeaaaRead
namespace Go.Proofs.Ytdlddggjjibeaaa
open Go.RowKit
abbrev rk (nd ep lf : Int) (sv tv : SV) (ck dn hd : Int) : List Value := [.int .u8 nd, .int .u32 ep, .int .u32 lf, sv.v, tv.v, .int .i64 ck, .int .i64 dn, .int .u32 hd]
abbrev brC (r : BR) : List Value := [r.v.v]
def brB (r : BR) : Assn := obytes r.v r.l
abbrev tC (k : Int) : List Value := [.int .i64 k]
theorem brC_len : ∀ x, (brC x).length = 1 := fun _ => rfl
theorem tC_len : ∀ x, (tC x).length = 1 := fun _ => rfl
theorem br_bytes {sds : List BR} {i : Nat} {x : BR} {Γ Δ : List Assn} [h : Pick (alls sds brB) Γ Δ] {w : World} (hs : Sat w Γ) (hx : sds[i]? = some x) : BytesAt w x.v.v x.l :=
  obytes_at ((hs.ent h.ent).ent (Ent.allsAt brB hx Δ))
theorem rNew_S (nd ep lf : Int) : Spec Try.prog 18 [.int .u8 nd, .int .u32 ep, .int .u32 lf] [] fun Γ v Θ => ∃ t, v = .pointer (some ⟨t, 0, none⟩) ∧ Θ = blk t 65 (rk nd ep lf SV.nil SV.nil 0 0 0).toArray :: Γ := by
  refine Spec.of_body Try.func18 rfl Try.ntmps18 rfl ?_
  intro w0 Γ
  show S _ w0 [(0, .int .u8 nd), (1, .int .u32 ep), (2, .int .u32 lf)] Γ _
  refine S.seq fun K1 hK1 => ?_
  refine S.region rfl ?_
  refine S.op (S.q (q_assign rfl) rfl rfl ?_)
  first | with_reducible refine S.nilK ?_ | refine S.nil ?_
  refine hK1 _ _ ?_
  refine S.seq fun K2 hK2 => ?_
  refine S.region rfl ?_
  refine S.op (S.q (q_move rfl) rfl rfl ?_)
  refine S.op (S.q (q_move rfl) rfl rfl ?_)
  refine S.op (S.q (q_move rfl) rfl rfl ?_)
  refine S.op (S.q (q_build (pvs := [(_, _), (_, _), (_, _)]) [_, _, _, _, _, _, _, _] Try.z65 Try.p65 ⟨⟨rfl, rfl⟩, ⟨rfl, rfl⟩, ⟨rfl, rfl⟩, trivial⟩ rfl) rfl rfl ?_)
  refine S.op (S.box (cs := [_, _, _, _, _, _, _, _]) rfl rfl rfl ?_)
  intro b11
  refine S.op (S.q (q_assign rfl) rfl rfl ?_)
  first | with_reducible refine S.nilK ?_ | refine S.nil ?_
  refine hK2 _ _ ?_
  refine S.ret ?_
  with_reducible repeat (first | refine S.then_n ?_ | refine S.then_x ?_ | refine S.then_r ?_ | refine S.inBlock_n ?_ | refine S.inBlock_r ?_ | refine S.inBlock_x rfl ?_ | refine S.noGoto_r ?_ | refine S.noGoto_n ?_ | refine S.noGoto_x ?_)
  exact S.fin (rs := [_]) (vs := [_]) Try.results18 (⟨rfl, trivial⟩)  (⟨b11, rfl, rfl⟩) Sub.ent
theorem rPk0_S (t : Nat) (nd ep lf : Int) (sv tv : SV) (ck dn hd : Int) : Spec Try.prog 30 [.pointer (some ⟨t, 0, none⟩), .int .i64 (-1)] [blk t 65 (rk nd ep lf sv tv ck dn hd).toArray] fun Γ v Θ =>
    v = .agg (pkC nd ep lf 0 hd false SV.nil).toArray ∧ Θ = blk t 65 (rk nd ep lf sv tv ck dn hd).toArray :: Γ := by
  refine Spec.of_body Try.func30 rfl Try.ntmps30 rfl ?_
  intro w0 Γ
  show S _ w0 [(0, .pointer (some ⟨t, 0, none⟩)), (1, .int .i64 (-1))] (blk t 65 (rk nd ep lf sv tv ck dn hd).toArray :: Γ) _
  refine S.seq fun K1 hK1 => ?_
  refine S.region rfl ?_
  refine S.op (S.alloc Try.z34 rfl ?_)
  intro b4
  first | with_reducible refine S.nilK ?_ | refine S.nil ?_
  refine hK1 _ _ ?_
  refine S.seq fun K2 hK2 => ?_
  refine S.draw ([blk t 65 (rk nd ep lf sv tv ck dn hd).toArray]) [] Try.mixed ?_
  refine S.dr_take 0 [] rfl (by kernel_rfl) rfl rfl rfl (q_move rfl) Sub.ent ?_
  refine S.dr_take 1 [] rfl (by kernel_rfl) rfl rfl rfl (q_nilCheck rfl) Sub.ent ?_
  refine S.dr_take 2 [] rfl (by kernel_rfl) rfl rfl rfl (q_field Try.fo65_0 rfl) Sub.ent ?_
  refine S.dr_take 3 [] rfl (by kernel_rfl) rfl rfl rfl (q_load Try.at5 rfl rfl) Sub.ent ?_
  refine S.dr_take 4 [] rfl (by kernel_rfl) rfl rfl rfl (q_move rfl) Sub.ent ?_
  refine S.dr_take 5 [] rfl (by kernel_rfl) rfl rfl rfl (q_nilCheck rfl) Sub.ent ?_
  refine S.dr_take 6 [] rfl (by kernel_rfl) rfl rfl rfl (q_field Try.fo65_1 rfl) Sub.ent ?_
  refine S.dr_take 7 [] rfl (by kernel_rfl) rfl rfl rfl (q_load Try.at26 rfl rfl) Sub.ent ?_
  refine S.dr_take 8 [] rfl (by kernel_rfl) rfl rfl rfl (q_move rfl) Sub.ent ?_
  refine S.dr_take 9 [] rfl (by kernel_rfl) rfl rfl rfl (q_nilCheck rfl) Sub.ent ?_
  refine S.dr_take 10 [] rfl (by kernel_rfl) rfl rfl rfl (q_field Try.fo65_2 rfl) Sub.ent ?_
  refine S.dr_take 11 [] rfl (by kernel_rfl) rfl rfl rfl (q_load Try.at26 rfl rfl) Sub.ent ?_
  refine S.dr_take 12 [] rfl (by kernel_rfl) rfl rfl rfl (q_move rfl) Sub.ent ?_
  refine S.dr_take 13 [] rfl (by kernel_rfl) rfl rfl rfl (q_nilCheck rfl) Sub.ent ?_
  refine S.dr_take 14 [] rfl (by kernel_rfl) rfl rfl rfl (q_field Try.fo65_7 rfl) Sub.ent ?_
  refine S.dr_take 15 [] rfl (by kernel_rfl) rfl rfl rfl (q_load Try.at26 rfl rfl) Sub.ent ?_
  refine S.dr_take 16 [] rfl (by kernel_rfl) rfl rfl rfl (q_build (pvs := [(_, _), (_, _), (_, _), (_, _)]) [_, _, _, _, _, _, _] Try.z34 Try.p34 ⟨⟨rfl, rfl⟩, ⟨rfl, rfl⟩, ⟨rfl, rfl⟩, ⟨rfl, rfl⟩, trivial⟩ rfl) Sub.ent ?_
  refine S.dr_1 (i := 17) (by kernel_rfl) rfl rfl ?_
  refine  (S.alloc Try.z34 rfl ?_)
  intro b5
  refine S.dr_k rfl Sub.ent ?_
  refine S.dr_1 (i := 18) (by kernel_rfl) rfl rfl ?_
  refine  (S.storeS (cs' := [_, _, _, _, _, _, _]) Try.ag34 rfl rfl rfl rfl rfl rfl ?_)
  refine S.dr_k rfl Sub.ent ?_
  first | with_reducible refine S.dr_doneK (by kernel_rfl) ?_ | refine S.dr_done (by kernel_rfl) ?_
  refine hK2 _ _ ?_
  refine S.seq fun K3 hK3 => ?_
  refine S.seq fun K4 hK4 => ?_
  refine S.region rfl ?_
  refine S.op (S.q (q_move rfl) rfl rfl ?_)
  refine S.op (S.q (q_ge rfl rfl) rfl rfl ?_)
  first | with_reducible refine S.nilK ?_ | refine S.nil ?_
  refine hK4 _ _ ?_
  refine S.condD rfl (fun h1 => ?_) (fun h1 => ?_)
  · exact absurd h1 (by omega)
  · refine S.skip ?_
    with_reducible repeat (first | refine S.then_n ?_ | refine S.then_x ?_ | refine S.then_r ?_ | refine S.inBlock_n ?_ | refine S.inBlock_r ?_ | refine S.inBlock_x rfl ?_ | refine S.noGoto_r ?_ | refine S.noGoto_n ?_ | refine S.noGoto_x ?_)
    refine hK3 _ _ ?_
    refine S.seq fun K5 hK5 => ?_
    refine S.region rfl ?_
    refine S.op (S.q (q_loadS [_, _, _, _, _, _, _] Try.ag34 rfl rfl ⟨rfl, rfl, rfl, rfl, rfl, rfl, rfl, trivial⟩) rfl rfl ?_)
    refine S.op (S.storeS (cs' := [_, _, _, _, _, _, _]) Try.ag34 rfl rfl rfl rfl rfl rfl ?_)
    first | with_reducible refine S.nilK ?_ | refine S.nil ?_
    refine hK5 _ _ ?_
    refine S.ret ?_
    with_reducible repeat (first | refine S.then_n ?_ | refine S.then_x ?_ | refine S.then_r ?_ | refine S.inBlock_n ?_ | refine S.inBlock_r ?_ | refine S.inBlock_x rfl ?_ | refine S.noGoto_r ?_ | refine S.noGoto_n ?_ | refine S.noGoto_x ?_)
    exact S.fin (rs := [_]) (vs := [_]) Try.results30 (⟨⟨_, _, rfl, lod_agg [_, _, _, _, _, _, _] Try.ag34 rfl ⟨rfl, rfl, rfl, rfl, rfl, rfl, rfl, trivial⟩⟩, trivial⟩)  (⟨rfl, rfl⟩) Sub.ent
theorem rPk_S (t : Nat) (nd ep lf : Int) (sv tv : SV) (ck dn hd : Int) (sds : List BR) (hn : sv.n = sds.length) (i : Nat) (x : BR) (hx : sds[i]? = some x) (hl : x.l.length ≤ 140737488355328) (hi : i ≤ 1000) :
    Spec Try.prog 30 [.pointer (some ⟨t, 0, none⟩), .int .i64 i] [blk t 65 (rk nd ep lf sv tv ck dn hd).toArray, own sv 32 1 (sds.flatMap brC), alls sds brB] fun Γ v Θ =>
      ∃ u : SV, v = .agg (pkC nd ep lf (i + 1) hd false u).toArray ∧ Θ = obytes u x.l :: blk t 65 (rk nd ep lf sv tv ck dn hd).toArray :: own sv 32 1 (sds.flatMap brC) :: alls sds brB :: Γ := by
  refine Spec.of_body Try.func30 rfl Try.ntmps30 rfl ?_
  intro w0 Γ
  show S _ w0 [(0, .pointer (some ⟨t, 0, none⟩)), (1, .int .i64 i)] (blk t 65 (rk nd ep lf sv tv ck dn hd).toArray :: own sv 32 1 (sds.flatMap brC) :: alls sds brB :: Γ) _
  have hil := (List.getElem?_eq_some_iff.1 hx).1
  refine S.ownSome sv (by omega) fun b off hb _ _ _ => ?_
  refine S.seq fun K1 hK1 => ?_
  refine S.region rfl ?_
  refine S.op (S.alloc Try.z34 rfl ?_)
  intro b4
  first | with_reducible refine S.nilK ?_ | refine S.nil ?_
  refine hK1 _ _ ?_
  refine S.seq fun K2 hK2 => ?_
  refine S.draw ([blk t 65 (rk nd ep lf sv tv ck dn hd).toArray]) [] Try.mixed ?_
  refine S.dr_take 0 [] rfl (by kernel_rfl) rfl rfl rfl (q_move rfl) Sub.ent ?_
  refine S.dr_take 1 [] rfl (by kernel_rfl) rfl rfl rfl (q_nilCheck rfl) Sub.ent ?_
  refine S.dr_take 2 [] rfl (by kernel_rfl) rfl rfl rfl (q_field Try.fo65_0 rfl) Sub.ent ?_
  refine S.dr_take 3 [] rfl (by kernel_rfl) rfl rfl rfl (q_load Try.at5 rfl rfl) Sub.ent ?_
  refine S.dr_take 4 [] rfl (by kernel_rfl) rfl rfl rfl (q_move rfl) Sub.ent ?_
  refine S.dr_take 5 [] rfl (by kernel_rfl) rfl rfl rfl (q_nilCheck rfl) Sub.ent ?_
  refine S.dr_take 6 [] rfl (by kernel_rfl) rfl rfl rfl (q_field Try.fo65_1 rfl) Sub.ent ?_
  refine S.dr_take 7 [] rfl (by kernel_rfl) rfl rfl rfl (q_load Try.at26 rfl rfl) Sub.ent ?_
  refine S.dr_take 8 [] rfl (by kernel_rfl) rfl rfl rfl (q_move rfl) Sub.ent ?_
  refine S.dr_take 9 [] rfl (by kernel_rfl) rfl rfl rfl (q_nilCheck rfl) Sub.ent ?_
  refine S.dr_take 10 [] rfl (by kernel_rfl) rfl rfl rfl (q_field Try.fo65_2 rfl) Sub.ent ?_
  refine S.dr_take 11 [] rfl (by kernel_rfl) rfl rfl rfl (q_load Try.at26 rfl rfl) Sub.ent ?_
  refine S.dr_take 12 [] rfl (by kernel_rfl) rfl rfl rfl (q_move rfl) Sub.ent ?_
  refine S.dr_take 13 [] rfl (by kernel_rfl) rfl rfl rfl (q_nilCheck rfl) Sub.ent ?_
  refine S.dr_take 14 [] rfl (by kernel_rfl) rfl rfl rfl (q_field Try.fo65_7 rfl) Sub.ent ?_
  refine S.dr_take 15 [] rfl (by kernel_rfl) rfl rfl rfl (q_load Try.at26 rfl rfl) Sub.ent ?_
  refine S.dr_take 16 [] rfl (by kernel_rfl) rfl rfl rfl (q_build (pvs := [(_, _), (_, _), (_, _), (_, _)]) [_, _, _, _, _, _, _] Try.z34 Try.p34 ⟨⟨rfl, rfl⟩, ⟨rfl, rfl⟩, ⟨rfl, rfl⟩, ⟨rfl, rfl⟩, trivial⟩ rfl) Sub.ent ?_
  refine S.dr_1 (i := 17) (by kernel_rfl) rfl rfl ?_
  refine  (S.alloc Try.z34 rfl ?_)
  intro b5
  refine S.dr_k rfl Sub.ent ?_
  refine S.dr_1 (i := 18) (by kernel_rfl) rfl rfl ?_
  refine  (S.storeS (cs' := [_, _, _, _, _, _, _]) Try.ag34 rfl rfl rfl rfl rfl rfl ?_)
  refine S.dr_k rfl Sub.ent ?_
  first | with_reducible refine S.dr_doneK (by kernel_rfl) ?_ | refine S.dr_done (by kernel_rfl) ?_
  refine hK2 _ _ ?_
  refine S.seq fun K3 hK3 => ?_
  refine S.seq fun K4 hK4 => ?_
  refine S.region rfl ?_
  refine S.op (S.q (q_move rfl) rfl rfl ?_)
  refine S.op (S.q (q_ge rfl rfl) rfl rfl ?_)
  first | with_reducible refine S.nilK ?_ | refine S.nil ?_
  refine hK4 _ _ ?_
  refine S.condD rfl (fun h1 => ?_) (fun h1 => ?_)
  · refine S.region rfl ?_
    refine S.op (S.q (q_move rfl) rfl rfl ?_)
    refine S.op (S.q (q_add rfl rfl (inI64 (by omega) (by omega))) rfl rfl ?_)
    refine S.op (S.q (q_conv Try.it26 (by rw [Try.underlying3]; rfl) rfl (inU32 (by omega) (by omega))) rfl rfl ?_)
    refine S.op (S.buildSlice0 Try.underlying32 Try.inf5 rfl ?_)
    intro b28 hb28
    refine S.op (S.q (q_move rfl) rfl rfl ?_)
    refine S.op (S.q (q_nilCheck rfl) rfl rfl ?_)
    refine S.op (S.q (q_field Try.fo65_3 rfl) rfl rfl ?_)
    refine S.op (S.q (q_load Try.at28 rfl rfl) rfl rfl ?_)
    refine S.op (S.q (q_move rfl) rfl rfl ?_)
    refine S.op (S.q (q_indexO (i) Try.el28 rfl hb rfl rfl (by omega)) rfl rfl ?_)
    refine S.op (S.q (q_loadOw (sv) (i * 1 + 0) Try.at32 rfl hb (by first | rfl | exact Nat.add_assoc _ _ _ | omega) (flat_get brC_len hx rfl)) rfl rfl ?_)
    refine S.op (S.appendOw (s := b28) (x.l.length) (bcells x.l) Try.underlying32 Try.inf5 rfl rfl rfl (fun w hs => br_bytes hs hx) (by first | rfl | exact allOne_bcells _) (⟨by omega, by omega⟩) rfl ?_)
    intro u hu
    rw [List.nil_append]
    refine S.op (S.q (q_field Try.fo34_3 rfl) rfl rfl ?_)
    refine S.op (S.store (cs' := [_, _, _, _, _, _, _]) Try.at26 rfl rfl rfl rfl rfl ?_)
    refine S.op (S.q (q_field Try.fo34_6 rfl) rfl rfl ?_)
    refine S.op (S.store (cs' := [_, _, _, _, _, _, _]) Try.at32 rfl rfl rfl rfl rfl ?_)
    first | with_reducible refine S.nilK ?_ | refine S.nil ?_
    refine hK3 _ _ ?_
    refine S.seq fun K5 hK5 => ?_
    refine S.region rfl ?_
    refine S.op (S.q (q_loadS [_, _, _, _, _, _, _] Try.ag34 rfl rfl ⟨rfl, rfl, rfl, rfl, rfl, rfl, rfl, trivial⟩) rfl rfl ?_)
    refine S.op (S.storeS (cs' := [_, _, _, _, _, _, _]) Try.ag34 rfl rfl rfl rfl rfl rfl ?_)
    first | with_reducible refine S.nilK ?_ | refine S.nil ?_
    refine hK5 _ _ ?_
    refine S.ret ?_
    with_reducible repeat (first | refine S.then_n ?_ | refine S.then_x ?_ | refine S.then_r ?_ | refine S.inBlock_n ?_ | refine S.inBlock_r ?_ | refine S.inBlock_x rfl ?_ | refine S.noGoto_r ?_ | refine S.noGoto_n ?_ | refine S.noGoto_x ?_)
    exact S.fin (rs := [_]) (vs := [_]) Try.results30 (⟨⟨_, _, rfl, lod_agg [_, _, _, _, _, _, _] Try.ag34 rfl ⟨rfl, rfl, rfl, rfl, rfl, rfl, rfl, trivial⟩⟩, trivial⟩)  (⟨u, rfl, rfl⟩) Sub.ent
  · exact absurd (show (0 : Int) ≤ i by omega) h1
theorem rSayNil_S (p : Value) : Spec Try.prog 19 [.pointer none, p] [] fun Γ v Θ => v = .tuple #[.agg pk0.toArray, .int .i64 6] ∧ Θ = Γ := by
  refine Spec.of_body Try.func19 rfl Try.ntmps19 rfl ?_
  intro w0 Γ
  show S _ w0 [(0, .pointer none), (1, p)] Γ _
  refine S.seq fun K1 hK1 => ?_
  refine S.region rfl ?_
  refine S.op (S.alloc Try.z34 rfl ?_)
  intro b4
  refine S.op (S.q (q_assign rfl) rfl rfl ?_)
  first | with_reducible refine S.nilK ?_ | refine S.nil ?_
  refine hK1 _ _ ?_
  refine S.seq fun K2 hK2 => ?_
  refine S.seq fun K3 hK3 => ?_
  refine S.region rfl ?_
  refine S.op (S.q (q_move rfl) rfl rfl ?_)
  refine S.op (S.q (q_eqN Try.underlying51 rfl rfl) rfl rfl ?_)
  first | with_reducible refine S.nilK ?_ | refine S.nil ?_
  refine hK3 _ _ ?_
  refine S.condT rfl ?_
  refine S.seq fun K4 hK4 => ?_
  refine S.region rfl ?_
  refine S.op (S.q (q_build (pvs := []) [_, _, _, _, _, _, _] Try.z34 Try.p34 trivial rfl) rfl rfl ?_)
  refine S.op (S.storeS (cs' := [_, _, _, _, _, _, _]) Try.ag34 rfl rfl rfl rfl rfl rfl ?_)
  refine S.op (S.q (q_assign rfl) rfl rfl ?_)
  first | with_reducible refine S.nilK ?_ | refine S.nil ?_
  refine hK4 _ _ ?_
  refine S.ret ?_
  with_reducible repeat (first | refine S.then_n ?_ | refine S.then_x ?_ | refine S.then_r ?_ | refine S.inBlock_n ?_ | refine S.inBlock_r ?_ | refine S.inBlock_x rfl ?_ | refine S.noGoto_r ?_ | refine S.noGoto_n ?_ | refine S.noGoto_x ?_)
  exact S.fin (rs := [_, _]) (vs := [_, _]) Try.results19 (⟨⟨_, _, rfl, lod_agg [_, _, _, _, _, _, _] Try.ag34 rfl ⟨rfl, rfl, rfl, rfl, rfl, rfl, rfl, trivial⟩⟩, rfl, trivial⟩)  (⟨rfl, rfl⟩) Sub.ent
set_option maxHeartbeats 400000 in
theorem rSay_S (t : Nat) (nd ep lf : Int) (sv tv : SV) (ck dn hd : Int) (sds : List BR) (tls : List Int) (hn : sv.n = sds.length) (hsl : sds.length ≤ 900) (htl : tls.length ≤ 900) (p : SV) (l : List Int) (R : Assn) (hR : ∀ Γ w, Sat w (R :: Γ) → BytesAt w p.v l) (hpn : p.n = l.length) (hl : l.length ≤ 1984) (hd0 : 0 ≤ dn ∧ dn ≤ sds.length) (hdn : (sds.length : Int) - dn < 256) :
    Spec Try.prog 19 [.pointer (some ⟨t, 0, none⟩), p.v] [blk t 65 (rk nd ep lf sv tv ck dn hd).toArray, own sv 32 1 (sds.flatMap brC), alls sds brB, own tv 3 1 (tls.flatMap tC), R] fun Γ v Θ =>
      ∃ u sv' tv' pu, v = .tuple #[.agg (pkC nd ep lf (sds.length + 1) hd false pu).toArray, .int .i64 0] ∧ sv'.n = sds.length + 1 ∧
        Θ = obytes pu l :: blk t 65 (rk nd ep lf sv' tv' ck dn hd).toArray :: own sv' 32 1 ((sds ++ [(⟨u, l⟩ : BR)]).flatMap brC) :: alls (sds ++ [(⟨u, l⟩ : BR)]) brB :: own tv' 3 1 ((tls ++ [ck]).flatMap tC) :: R :: Γ := by
  refine Spec.of_body Try.func19 rfl Try.ntmps19 rfl ?_
  intro w0 Γ
  show S _ w0 [(0, .pointer (some ⟨t, 0, none⟩)), (1, p.v)] (blk t 65 (rk nd ep lf sv tv ck dn hd).toArray :: own sv 32 1 (sds.flatMap brC) :: alls sds brB :: own tv 3 1 (tls.flatMap tC) :: R :: Γ) _
  refine S.ownLen tv fun htvl _ _ => ?_
  rw [flat_length tC_len] at htvl
  refine S.ownLen sv fun _ hnc hcm => ?_
  refine S.seq fun K1 hK1 => ?_
  refine S.region rfl ?_
  refine S.op (S.alloc Try.z34 rfl ?_)
  intro b4
  refine S.op (S.q (q_assign rfl) rfl rfl ?_)
  first | with_reducible refine S.nilK ?_ | refine S.nil ?_
  refine hK1 _ _ ?_
  refine S.seq fun K2 hK2 => ?_
  refine S.seq fun K3 hK3 => ?_
  refine S.region rfl ?_
  refine S.op (S.q (q_move rfl) rfl rfl ?_)
  refine S.op (S.q (q_eqN Try.underlying51 rfl rfl) rfl rfl ?_)
  first | with_reducible refine S.nilK ?_ | refine S.nil ?_
  refine hK3 _ _ ?_
  refine S.condF rfl ?_
  refine S.skip ?_
  with_reducible repeat (first | refine S.then_n ?_ | refine S.then_x ?_ | refine S.then_r ?_ | refine S.inBlock_n ?_ | refine S.inBlock_r ?_ | refine S.inBlock_x rfl ?_ | refine S.noGoto_r ?_ | refine S.noGoto_n ?_ | refine S.noGoto_x ?_)
  refine hK2 _ _ ?_
  refine S.seq fun K4 hK4 => ?_
  refine S.seq fun K5 hK5 => ?_
  refine S.region rfl ?_
  refine S.op (S.q (q_move rfl) rfl rfl ?_)
  refine S.op (S.q (q_len Try.underlying32 rfl) rfl rfl ?_)
  refine S.op (S.q (q_gt rfl rfl) rfl rfl ?_)
  first | with_reducible refine S.nilK ?_ | refine S.nil ?_
  refine hK5 _ _ ?_
  refine S.condD rfl (fun h2 => ?_) (fun h2 => ?_)
  · exact absurd h2 (by omega)
  · refine S.skip ?_
    with_reducible repeat (first | refine S.then_n ?_ | refine S.then_x ?_ | refine S.then_r ?_ | refine S.inBlock_n ?_ | refine S.inBlock_r ?_ | refine S.inBlock_x rfl ?_ | refine S.noGoto_r ?_ | refine S.noGoto_n ?_ | refine S.noGoto_x ?_)
    refine hK4 _ _ ?_
    refine S.seq fun K6 hK6 => ?_
    refine S.seq fun K7 hK7 => ?_
    refine S.draw ([blk t 65 (rk nd ep lf sv tv ck dn hd).toArray]) [] Try.mixed ?_
    refine S.dr_take 0 [] rfl (by kernel_rfl) rfl rfl rfl (q_move rfl) Sub.ent ?_
    refine S.dr_take 1 [] rfl (by kernel_rfl) rfl rfl rfl (q_nilCheck rfl) Sub.ent ?_
    refine S.dr_take 2 [] rfl (by kernel_rfl) rfl rfl rfl (q_field Try.fo65_3 rfl) Sub.ent ?_
    refine S.dr_take 3 [] rfl (by kernel_rfl) rfl rfl rfl (q_load Try.at28 rfl rfl) Sub.ent ?_
    refine S.dr_take 4 [] rfl (by kernel_rfl) rfl rfl rfl (q_len Try.underlying28 rfl) Sub.ent ?_
    refine S.dr_take 5 [] rfl (by kernel_rfl) rfl rfl rfl (q_move rfl) Sub.ent ?_
    refine S.dr_take 6 [] rfl (by kernel_rfl) rfl rfl rfl (q_nilCheck rfl) Sub.ent ?_
    refine S.dr_take 7 [] rfl (by kernel_rfl) rfl rfl rfl (q_field Try.fo65_6 rfl) Sub.ent ?_
    refine S.dr_take 8 [] rfl (by kernel_rfl) rfl rfl rfl (q_load Try.at3 rfl rfl) Sub.ent ?_
    refine S.dr_take 9 [] rfl (by kernel_rfl) rfl rfl rfl (q_sub rfl rfl (inI64 (by omega) (by omega))) Sub.ent ?_
    refine S.dr_take 10 [] rfl (by kernel_rfl) rfl rfl rfl (q_ge rfl rfl) Sub.ent ?_
    first | with_reducible refine S.dr_doneK (by kernel_rfl) ?_ | refine S.dr_done (by kernel_rfl) ?_
    refine hK7 _ _ ?_
    refine S.condD rfl (fun h3 => ?_) (fun h3 => ?_)
    · exact absurd h3 (by omega)
    · refine S.skip ?_
      with_reducible repeat (first | refine S.then_n ?_ | refine S.then_x ?_ | refine S.then_r ?_ | refine S.inBlock_n ?_ | refine S.inBlock_r ?_ | refine S.inBlock_x rfl ?_ | refine S.noGoto_r ?_ | refine S.noGoto_n ?_ | refine S.noGoto_x ?_)
      refine hK6 _ _ ?_
      refine S.seq fun K8 hK8 => ?_
      refine S.draw ([blk t 65 (rk nd ep lf sv tv ck dn hd).toArray]) [12] Try.mixed ?_
      refine S.dr_take 0 [10, 11, 12] rfl (by kernel_rfl) rfl rfl rfl (q_move rfl) Sub.ent ?_
      refine S.dr_take 1 [2, 3, 4, 9, 10, 11, 12] rfl (by kernel_rfl) rfl rfl rfl (q_move rfl) Sub.ent ?_
      refine S.dr_take 2 [3, 4, 9, 10, 11, 12] rfl (by kernel_rfl) rfl rfl rfl (q_nilCheck rfl) Sub.ent ?_
      refine S.dr_take 3 [4, 9, 10, 11, 12] rfl (by kernel_rfl) rfl rfl rfl (q_field Try.fo65_3 rfl) Sub.ent ?_
      refine S.dr_take 4 [9, 10, 11, 12] rfl (by kernel_rfl) rfl rfl rfl (q_load Try.at28 rfl rfl) Sub.ent ?_
      refine S.dr_take 6 [7, 8, 9, 10, 11, 12] rfl (by kernel_rfl) rfl rfl rfl (q_move rfl) Sub.ent ?_
      refine S.dr_1 (i := 5) (by kernel_rfl) rfl rfl ?_
      refine  (S.buildSlice0 Try.underlying32 Try.inf5 rfl ?_)
      intro b30 hb30
      refine S.dr_k rfl Sub.ent ?_
      refine S.dr_1 (i := 7) (by kernel_rfl) rfl rfl ?_
      refine  (S.appendOw (s := b30) (l.length) (bcells l) Try.underlying32 Try.inf5 rfl rfl rfl (fun w hs => hR _ w (hs.ent (Pick.ent (P := R)))) (by first | rfl | exact allOne_bcells _) (⟨by omega, by omega⟩) rfl ?_)
      intro u hu
      rw [List.nil_append]
      refine S.dr_k rfl Sub.ent ?_
      refine S.dr_1 (i := 8) (by kernel_rfl) rfl rfl ?_
      refine  (S.buildSlice (pvs := [(_, _)]) [_] Try.underlying28 Try.inf32 rfl rfl ⟨⟨rfl, rfl⟩, trivial⟩ rfl rfl ?_)
      intro b33
      refine S.dr_k rfl Sub.ent ?_
      refine S.dr_1 (i := 9) (by kernel_rfl) rfl rfl ?_
      refine  (S.appendOw (s := sv) (1) ([u.v]) Try.underlying28 Try.inf32 rfl rfl rfl (blk_slAt (b := b33) rfl (by unfold maxLen; omega)) (by first | rfl | exact allOne_bcells _) (⟨by omega, by omega⟩) rfl ?_)
      intro sv' hsv'
      rw [show sds.flatMap brC ++ [u.v] = _ from flat_snoc brC sds (⟨u, l⟩ : BR)]
      refine S.conv2 (obytes u l) (alls sds brB) (Ent.allsSnoc brB sds (⟨u, l⟩ : BR) _) ?_
      refine S.dr_k rfl Sub.ent ?_
      refine S.dr_take 10 [11, 12] rfl (by kernel_rfl) rfl rfl rfl (q_nilCheck rfl) Sub.ent ?_
      refine S.dr_take 11 [12] rfl (by kernel_rfl) rfl rfl rfl (q_field Try.fo65_3 rfl) Sub.ent ?_
      refine S.dr_1 (i := 12) (by kernel_rfl) rfl rfl ?_
      refine  (S.store (cs' := [_, _, _, _, _, _, _, _]) Try.at28 rfl rfl rfl rfl rfl ?_)
      refine S.dr_late ([]) [] rfl ?_
      first | with_reducible refine S.dr_doneK (by kernel_rfl) ?_ | refine S.dr_done (by kernel_rfl) ?_
      refine hK8 _ _ ?_
      refine S.seq fun K9 hK9 => ?_
      refine S.draw ([blk t 65 (rk nd ep lf sv' tv ck dn hd).toArray]) [13] Try.mixed ?_
      refine S.dr_take 0 [11, 12, 13] rfl (by kernel_rfl) rfl rfl rfl (q_move rfl) Sub.ent ?_
      refine S.dr_take 1 [2, 3, 4, 10, 11, 12, 13] rfl (by kernel_rfl) rfl rfl rfl (q_move rfl) Sub.ent ?_
      refine S.dr_take 2 [3, 4, 10, 11, 12, 13] rfl (by kernel_rfl) rfl rfl rfl (q_nilCheck rfl) Sub.ent ?_
      refine S.dr_take 3 [4, 10, 11, 12, 13] rfl (by kernel_rfl) rfl rfl rfl (q_field Try.fo65_4 rfl) Sub.ent ?_
      refine S.dr_take 4 [10, 11, 12, 13] rfl (by kernel_rfl) rfl rfl rfl (q_load Try.at63 rfl rfl) Sub.ent ?_
      refine S.dr_take 5 [6, 7, 8, 9, 10, 11, 12, 13] rfl (by kernel_rfl) rfl rfl rfl (q_move rfl) Sub.ent ?_
      refine S.dr_take 6 [7, 8, 9, 10, 11, 12, 13] rfl (by kernel_rfl) rfl rfl rfl (q_nilCheck rfl) Sub.ent ?_
      refine S.dr_take 7 [8, 9, 10, 11, 12, 13] rfl (by kernel_rfl) rfl rfl rfl (q_field Try.fo65_5 rfl) Sub.ent ?_
      refine S.dr_take 8 [9, 10, 11, 12, 13] rfl (by kernel_rfl) rfl rfl rfl (q_load Try.at3 rfl rfl) Sub.ent ?_
      refine S.dr_1 (i := 9) (by kernel_rfl) rfl rfl ?_
      refine  (S.buildSlice (pvs := [(_, _)]) [_] Try.underlying63 Try.inf3 rfl rfl ⟨⟨rfl, rfl⟩, trivial⟩ rfl rfl ?_)
      intro b46
      refine S.dr_k rfl Sub.ent ?_
      refine S.dr_1 (i := 10) (by kernel_rfl) rfl rfl ?_
      refine  (S.appendOw (s := tv) (1) ([.int .i64 ck]) Try.underlying63 Try.inf3 rfl rfl rfl (blk_slAt (b := b46) rfl (by unfold maxLen; omega)) (by first | rfl | exact allOne_bcells _) (⟨by omega, by omega⟩) rfl ?_)
      intro tv' htv'
      rw [show tls.flatMap tC ++ [Value.int .i64 ck] = _ from flat_snoc tC tls ck]
      refine S.dr_k rfl Sub.ent ?_
      refine S.dr_take 11 [12, 13] rfl (by kernel_rfl) rfl rfl rfl (q_nilCheck rfl) Sub.ent ?_
      refine S.dr_take 12 [13] rfl (by kernel_rfl) rfl rfl rfl (q_field Try.fo65_4 rfl) Sub.ent ?_
      refine S.dr_1 (i := 13) (by kernel_rfl) rfl rfl ?_
      refine  (S.store (cs' := [_, _, _, _, _, _, _, _]) Try.at63 rfl rfl rfl rfl rfl ?_)
      refine S.dr_late ([]) [] rfl ?_
      first | with_reducible refine S.dr_doneK (by kernel_rfl) ?_ | refine S.dr_done (by kernel_rfl) ?_
      refine hK9 _ _ ?_
      refine S.seq fun K10 hK10 => ?_
      refine S.region rfl ?_
      refine S.op (S.q (q_move rfl) rfl rfl ?_)
      refine S.op (S.q (q_move rfl) rfl rfl ?_)
      refine S.op (S.q (q_nilCheck rfl) rfl rfl ?_)
      refine S.op (S.q (q_field Try.fo65_3 rfl) rfl rfl ?_)
      refine S.op (S.q (q_load Try.at28 rfl rfl) rfl rfl ?_)
      refine S.op (S.q (q_len Try.underlying28 rfl) rfl rfl ?_)
      refine S.op (S.q (q_sub rfl rfl (inI64 (by omega) (by omega))) rfl rfl ?_)
      rw [show ((sv'.n : Int) - 1) = (sds.length : Int) by omega]
      refine S.op (S.call Try.en30 (vs := [_, _]) ⟨rfl, rfl, trivial⟩ (rPk_S t nd ep lf sv' tv' ck dn hd (sds ++ [(⟨u, l⟩ : BR)]) (by simp; omega) sds.length (⟨u, l⟩ : BR) (by simp) (by simp only; omega) (by omega)) rfl ?_)
      rintro v Θ ⟨pu, rfl, rfl⟩
      refine S.op (S.storeS (cs' := [_, _, _, _, _, _, _]) Try.ag34 rfl rfl rfl rfl rfl rfl ?_)
      refine S.op (S.q (q_assign rfl) rfl rfl ?_)
      first | with_reducible refine S.nilK ?_ | refine S.nil ?_
      refine hK10 _ _ ?_
      refine S.ret ?_
      with_reducible repeat (first | refine S.then_n ?_ | refine S.then_x ?_ | refine S.then_r ?_ | refine S.inBlock_n ?_ | refine S.inBlock_r ?_ | refine S.inBlock_x rfl ?_ | refine S.noGoto_r ?_ | refine S.noGoto_n ?_ | refine S.noGoto_x ?_)
      exact S.fin (rs := [_, _]) (vs := [_, _]) Try.results19 (⟨⟨_, _, rfl, lod_agg [_, _, _, _, _, _, _] Try.ag34 rfl ⟨rfl, rfl, rfl, rfl, rfl, rfl, rfl, trivial⟩⟩, rfl, trivial⟩)  (⟨u, sv', tv', pu, rfl, by omega, rfl⟩) Sub.ent
theorem rMine_S (t : Nat) (nd ep lf : Int) (sv tv : SV) (ck dn hd : Int) (n e l s a : Int) (pl : Bool) (dv : Value) (ha : 0 ≤ a ∧ a ≤ 4294967295) : Spec Try.prog 24 [.pointer (some ⟨t, 0, none⟩), .agg #[.int .u8 n, .int .u32 e, .int .u32 l, .int .u32 s, .int .u32 a, .bool pl, dv]]
    [blk t 65 (rk nd ep lf sv tv ck dn hd).toArray] fun Γ v Θ => v = .bool (mineB nd ep lf sv.n n e l a pl) ∧ Θ = blk t 65 (rk nd ep lf sv tv ck dn hd).toArray :: Γ := by
  refine Spec.of_body Try.func24 rfl Try.ntmps24 rfl ?_
  intro w0 Γ
  show S _ w0 [(0, .pointer (some ⟨t, 0, none⟩)), (1, .agg #[.int .u8 n, .int .u32 e, .int .u32 l, .int .u32 s, .int .u32 a, .bool pl, dv])] (blk t 65 (rk nd ep lf sv tv ck dn hd).toArray :: Γ) _
  refine S.seq fun K1 hK1 => ?_
  refine S.region rfl ?_
  refine S.op (S.box (cs := [_, _, _, _, _, _, _]) rfl rfl rfl ?_)
  intro b3
  refine S.op (S.q (q_assign rfl) rfl rfl ?_)
  first | with_reducible refine S.nilK ?_ | refine S.nil ?_
  refine hK1 _ _ ?_
  refine S.seq fun K2 hK2 => ?_
  refine S.draw ([blk t 65 (rk nd ep lf sv tv ck dn hd).toArray, blk b3 34 #[.int .u8 n, .int .u32 e, .int .u32 l, .int .u32 s, .int .u32 a, .bool pl, dv]]) [] Try.mixed ?_
  refine S.dr_take 0 [] rfl (by kernel_rfl) rfl rfl rfl (q_move rfl) Sub.ent ?_
  refine S.dr_take 1 [] rfl (by kernel_rfl) rfl rfl rfl (q_neN Try.underlying51 rfl rfl) Sub.ent ?_
  refine S.dr_take 2 [] rfl (by kernel_rfl) rfl rfl rfl (q_move rfl) Sub.ent ?_
  refine S.dr_takeY 3 [] rfl (by kernel_rfl) rfl rfl rfl (rfl) rfl rfl (q_field Try.fo34_0 rfl) Sub.ent ?_
  refine S.dr_takeY 4 [] rfl (by kernel_rfl) rfl rfl rfl (rfl) rfl rfl (q_load Try.at5 rfl rfl) Sub.ent ?_
  refine S.dr_takeY 5 [] rfl (by kernel_rfl) rfl rfl rfl (rfl) rfl rfl (q_move rfl) Sub.ent ?_
  refine S.dr_takeY 6 [] rfl (by kernel_rfl) rfl rfl rfl (rfl) rfl rfl (q_nilCheck rfl) Sub.ent ?_
  refine S.dr_takeY 7 [] rfl (by kernel_rfl) rfl rfl rfl (rfl) rfl rfl (q_field Try.fo65_0 rfl) Sub.ent ?_
  refine S.dr_takeY 8 [] rfl (by kernel_rfl) rfl rfl rfl (rfl) rfl rfl (q_load Try.at5 rfl rfl) Sub.ent ?_
  refine S.dr_takeY 9 [] rfl (by kernel_rfl) rfl rfl rfl (rfl) rfl rfl (q_eq rfl rfl) Sub.ent ?_
  refine S.dr_take 10 [] rfl (by kernel_rfl) rfl rfl rfl (q_pickT rfl (rfl) rfl) Sub.ent ?_
  refine S.dr_take 11 [] rfl (by kernel_rfl) rfl rfl rfl (q_move rfl) Sub.ent ?_
  by_cases hg1_11 : n = nd
  · refine S.dr_takeY 12 [] rfl (by kernel_rfl) rfl rfl rfl (decide_eq_true hg1_11) rfl rfl (q_field Try.fo34_1 rfl) Sub.ent ?_
    refine S.dr_takeY 13 [] rfl (by kernel_rfl) rfl rfl rfl (decide_eq_true hg1_11) rfl rfl (q_load Try.at26 rfl rfl) Sub.ent ?_
    refine S.dr_takeY 14 [] rfl (by kernel_rfl) rfl rfl rfl (decide_eq_true hg1_11) rfl rfl (q_move rfl) Sub.ent ?_
    refine S.dr_takeY 15 [] rfl (by kernel_rfl) rfl rfl rfl (decide_eq_true hg1_11) rfl rfl (q_nilCheck rfl) Sub.ent ?_
    refine S.dr_takeY 16 [] rfl (by kernel_rfl) rfl rfl rfl (decide_eq_true hg1_11) rfl rfl (q_field Try.fo65_1 rfl) Sub.ent ?_
    refine S.dr_takeY 17 [] rfl (by kernel_rfl) rfl rfl rfl (decide_eq_true hg1_11) rfl rfl (q_load Try.at26 rfl rfl) Sub.ent ?_
    refine S.dr_takeY 18 [] rfl (by kernel_rfl) rfl rfl rfl (decide_eq_true hg1_11) rfl rfl (q_eq rfl rfl) Sub.ent ?_
    refine S.dr_take 19 [] rfl (by kernel_rfl) rfl rfl rfl (q_pickT rfl (decide_eq_true hg1_11) rfl) Sub.ent ?_
    refine S.dr_take 20 [] rfl (by kernel_rfl) rfl rfl rfl (q_move rfl) Sub.ent ?_
    by_cases hg1_20 : e = ep
    · refine S.dr_takeY 21 [] rfl (by kernel_rfl) rfl rfl rfl (decide_eq_true hg1_20) rfl rfl (q_field Try.fo34_2 rfl) Sub.ent ?_
      refine S.dr_takeY 22 [] rfl (by kernel_rfl) rfl rfl rfl (decide_eq_true hg1_20) rfl rfl (q_load Try.at26 rfl rfl) Sub.ent ?_
      refine S.dr_takeY 23 [] rfl (by kernel_rfl) rfl rfl rfl (decide_eq_true hg1_20) rfl rfl (q_move rfl) Sub.ent ?_
      refine S.dr_takeY 24 [] rfl (by kernel_rfl) rfl rfl rfl (decide_eq_true hg1_20) rfl rfl (q_nilCheck rfl) Sub.ent ?_
      refine S.dr_takeY 25 [] rfl (by kernel_rfl) rfl rfl rfl (decide_eq_true hg1_20) rfl rfl (q_field Try.fo65_2 rfl) Sub.ent ?_
      refine S.dr_takeY 26 [] rfl (by kernel_rfl) rfl rfl rfl (decide_eq_true hg1_20) rfl rfl (q_load Try.at26 rfl rfl) Sub.ent ?_
      refine S.dr_takeY 27 [] rfl (by kernel_rfl) rfl rfl rfl (decide_eq_true hg1_20) rfl rfl (q_eq rfl rfl) Sub.ent ?_
      refine S.dr_take 28 [] rfl (by kernel_rfl) rfl rfl rfl (q_pickT rfl (decide_eq_true hg1_20) rfl) Sub.ent ?_
      refine S.dr_take 29 [] rfl (by kernel_rfl) rfl rfl rfl (q_move rfl) Sub.ent ?_
      by_cases hg1_29 : l = lf
      · refine S.dr_takeY 30 [] rfl (by kernel_rfl) rfl rfl rfl (decide_eq_true hg1_29) rfl rfl (q_field Try.fo34_5 rfl) Sub.ent ?_
        refine S.dr_takeY 31 [] rfl (by kernel_rfl) rfl rfl rfl (decide_eq_true hg1_29) rfl rfl (q_load Try.at4 rfl rfl) Sub.ent ?_
        refine S.dr_takeY 32 [] rfl (by kernel_rfl) rfl rfl rfl (decide_eq_true hg1_29) rfl rfl (q_not rfl) Sub.ent ?_
        refine S.dr_take 33 [] rfl (by kernel_rfl) rfl rfl rfl (q_pickT rfl (decide_eq_true hg1_29) rfl) Sub.ent ?_
        refine S.dr_take 34 [] rfl (by kernel_rfl) rfl rfl rfl (q_move rfl) Sub.ent ?_
        rcases Bool.eq_false_or_eq_true ((!pl)) with hg1_34 | hg1_34
        · refine S.dr_takeY 35 [] rfl (by kernel_rfl) rfl rfl rfl (hg1_34) rfl rfl (q_field Try.fo34_4 rfl) Sub.ent ?_
          refine S.dr_takeY 36 [] rfl (by kernel_rfl) rfl rfl rfl (hg1_34) rfl rfl (q_load Try.at26 rfl rfl) Sub.ent ?_
          refine S.dr_takeY 37 [] rfl (by kernel_rfl) rfl rfl rfl (hg1_34) rfl rfl (q_conv Try.it3 (by rw [Try.underlying26]; rfl) rfl (inI64 (by omega) (by omega))) Sub.ent ?_
          refine S.dr_takeY 38 [] rfl (by kernel_rfl) rfl rfl rfl (hg1_34) rfl rfl (q_move rfl) Sub.ent ?_
          refine S.dr_takeY 39 [] rfl (by kernel_rfl) rfl rfl rfl (hg1_34) rfl rfl (q_nilCheck rfl) Sub.ent ?_
          refine S.dr_takeY 40 [] rfl (by kernel_rfl) rfl rfl rfl (hg1_34) rfl rfl (q_field Try.fo65_3 rfl) Sub.ent ?_
          refine S.dr_takeY 41 [] rfl (by kernel_rfl) rfl rfl rfl (hg1_34) rfl rfl (q_load Try.at28 rfl rfl) Sub.ent ?_
          refine S.dr_takeY 42 [] rfl (by kernel_rfl) rfl rfl rfl (hg1_34) rfl rfl (q_len Try.underlying28 rfl) Sub.ent ?_
          refine S.dr_takeY 43 [] rfl (by kernel_rfl) rfl rfl rfl (hg1_34) rfl rfl (q_le rfl rfl) Sub.ent ?_
          refine S.dr_take 44 [] rfl (by kernel_rfl) rfl rfl rfl (q_pickT rfl (hg1_34) rfl) Sub.ent ?_
          refine S.dr_take 45 [] rfl (by kernel_rfl) rfl rfl rfl (q_assign rfl) Sub.ent ?_
          first | with_reducible refine S.dr_doneK (by kernel_rfl) ?_ | refine S.dr_done (by kernel_rfl) ?_
          refine hK2 _ _ ?_
          refine S.ret ?_
          with_reducible repeat (first | refine S.then_n ?_ | refine S.then_x ?_ | refine S.then_r ?_ | refine S.inBlock_n ?_ | refine S.inBlock_r ?_ | refine S.inBlock_x rfl ?_ | refine S.noGoto_r ?_ | refine S.noGoto_n ?_ | refine S.noGoto_x ?_)
          exact S.fin (rs := [_]) (vs := [_]) Try.results24 (⟨rfl, trivial⟩)  (⟨by simp [resV, mineB, *], rfl⟩) Sub.ent
        · refine S.dr_takeN 35 [] rfl (by kernel_rfl) rfl rfl rfl (hg1_34) rfl rfl Sub.ent ?_
          refine S.dr_takeN 36 [] rfl (by kernel_rfl) rfl rfl rfl (hg1_34) rfl rfl Sub.ent ?_
          refine S.dr_takeN 37 [] rfl (by kernel_rfl) rfl rfl rfl (hg1_34) rfl rfl Sub.ent ?_
          refine S.dr_takeN 38 [] rfl (by kernel_rfl) rfl rfl rfl (hg1_34) rfl rfl Sub.ent ?_
          refine S.dr_takeN 39 [] rfl (by kernel_rfl) rfl rfl rfl (hg1_34) rfl rfl Sub.ent ?_
          refine S.dr_takeN 40 [] rfl (by kernel_rfl) rfl rfl rfl (hg1_34) rfl rfl Sub.ent ?_
          refine S.dr_takeN 41 [] rfl (by kernel_rfl) rfl rfl rfl (hg1_34) rfl rfl Sub.ent ?_
          refine S.dr_takeN 42 [] rfl (by kernel_rfl) rfl rfl rfl (hg1_34) rfl rfl Sub.ent ?_
          refine S.dr_takeN 43 [] rfl (by kernel_rfl) rfl rfl rfl (hg1_34) rfl rfl Sub.ent ?_
          refine S.dr_take 44 [] rfl (by kernel_rfl) rfl rfl rfl (q_pickF rfl (hg1_34) rfl) Sub.ent ?_
          refine S.dr_take 45 [] rfl (by kernel_rfl) rfl rfl rfl (q_assign rfl) Sub.ent ?_
          first | with_reducible refine S.dr_doneK (by kernel_rfl) ?_ | refine S.dr_done (by kernel_rfl) ?_
          refine hK2 _ _ ?_
          refine S.ret ?_
          with_reducible repeat (first | refine S.then_n ?_ | refine S.then_x ?_ | refine S.then_r ?_ | refine S.inBlock_n ?_ | refine S.inBlock_r ?_ | refine S.inBlock_x rfl ?_ | refine S.noGoto_r ?_ | refine S.noGoto_n ?_ | refine S.noGoto_x ?_)
          exact S.fin (rs := [_]) (vs := [_]) Try.results24 (⟨rfl, trivial⟩)  (⟨by simp [resV, mineB, *], rfl⟩) Sub.ent
      · refine S.dr_takeN 30 [] rfl (by kernel_rfl) rfl rfl rfl (decide_eq_false hg1_29) rfl rfl Sub.ent ?_
        refine S.dr_takeN 31 [] rfl (by kernel_rfl) rfl rfl rfl (decide_eq_false hg1_29) rfl rfl Sub.ent ?_
        refine S.dr_takeN 32 [] rfl (by kernel_rfl) rfl rfl rfl (decide_eq_false hg1_29) rfl rfl Sub.ent ?_
        refine S.dr_take 33 [] rfl (by kernel_rfl) rfl rfl rfl (q_pickF rfl (decide_eq_false hg1_29) rfl) Sub.ent ?_
        refine S.dr_take 34 [] rfl (by kernel_rfl) rfl rfl rfl (q_move rfl) Sub.ent ?_
        refine S.dr_takeN 35 [] rfl (by kernel_rfl) rfl rfl rfl (rfl) rfl rfl Sub.ent ?_
        refine S.dr_takeN 36 [] rfl (by kernel_rfl) rfl rfl rfl (rfl) rfl rfl Sub.ent ?_
        refine S.dr_takeN 37 [] rfl (by kernel_rfl) rfl rfl rfl (rfl) rfl rfl Sub.ent ?_
        refine S.dr_takeN 38 [] rfl (by kernel_rfl) rfl rfl rfl (rfl) rfl rfl Sub.ent ?_
        refine S.dr_takeN 39 [] rfl (by kernel_rfl) rfl rfl rfl (rfl) rfl rfl Sub.ent ?_
        refine S.dr_takeN 40 [] rfl (by kernel_rfl) rfl rfl rfl (rfl) rfl rfl Sub.ent ?_
        refine S.dr_takeN 41 [] rfl (by kernel_rfl) rfl rfl rfl (rfl) rfl rfl Sub.ent ?_
        refine S.dr_takeN 42 [] rfl (by kernel_rfl) rfl rfl rfl (rfl) rfl rfl Sub.ent ?_
        refine S.dr_takeN 43 [] rfl (by kernel_rfl) rfl rfl rfl (rfl) rfl rfl Sub.ent ?_
        refine S.dr_take 44 [] rfl (by kernel_rfl) rfl rfl rfl (q_pickF rfl (rfl) rfl) Sub.ent ?_
        refine S.dr_take 45 [] rfl (by kernel_rfl) rfl rfl rfl (q_assign rfl) Sub.ent ?_
        first | with_reducible refine S.dr_doneK (by kernel_rfl) ?_ | refine S.dr_done (by kernel_rfl) ?_
        refine hK2 _ _ ?_
        refine S.ret ?_
        with_reducible repeat (first | refine S.then_n ?_ | refine S.then_x ?_ | refine S.then_r ?_ | refine S.inBlock_n ?_ | refine S.inBlock_r ?_ | refine S.inBlock_x rfl ?_ | refine S.noGoto_r ?_ | refine S.noGoto_n ?_ | refine S.noGoto_x ?_)
        exact S.fin (rs := [_]) (vs := [_]) Try.results24 (⟨rfl, trivial⟩)  (⟨by simp [resV, mineB, *], rfl⟩) Sub.ent
    · refine S.dr_takeN 21 [] rfl (by kernel_rfl) rfl rfl rfl (decide_eq_false hg1_20) rfl rfl Sub.ent ?_
      refine S.dr_takeN 22 [] rfl (by kernel_rfl) rfl rfl rfl (decide_eq_false hg1_20) rfl rfl Sub.ent ?_
      refine S.dr_takeN 23 [] rfl (by kernel_rfl) rfl rfl rfl (decide_eq_false hg1_20) rfl rfl Sub.ent ?_
      refine S.dr_takeN 24 [] rfl (by kernel_rfl) rfl rfl rfl (decide_eq_false hg1_20) rfl rfl Sub.ent ?_
      refine S.dr_takeN 25 [] rfl (by kernel_rfl) rfl rfl rfl (decide_eq_false hg1_20) rfl rfl Sub.ent ?_
      refine S.dr_takeN 26 [] rfl (by kernel_rfl) rfl rfl rfl (decide_eq_false hg1_20) rfl rfl Sub.ent ?_
      refine S.dr_takeN 27 [] rfl (by kernel_rfl) rfl rfl rfl (decide_eq_false hg1_20) rfl rfl Sub.ent ?_
      refine S.dr_take 28 [] rfl (by kernel_rfl) rfl rfl rfl (q_pickF rfl (decide_eq_false hg1_20) rfl) Sub.ent ?_
      refine S.dr_take 29 [] rfl (by kernel_rfl) rfl rfl rfl (q_move rfl) Sub.ent ?_
      refine S.dr_takeN 30 [] rfl (by kernel_rfl) rfl rfl rfl (rfl) rfl rfl Sub.ent ?_
      refine S.dr_takeN 31 [] rfl (by kernel_rfl) rfl rfl rfl (rfl) rfl rfl Sub.ent ?_
      refine S.dr_takeN 32 [] rfl (by kernel_rfl) rfl rfl rfl (rfl) rfl rfl Sub.ent ?_
      refine S.dr_take 33 [] rfl (by kernel_rfl) rfl rfl rfl (q_pickF rfl (rfl) rfl) Sub.ent ?_
      refine S.dr_take 34 [] rfl (by kernel_rfl) rfl rfl rfl (q_move rfl) Sub.ent ?_
      refine S.dr_takeN 35 [] rfl (by kernel_rfl) rfl rfl rfl (rfl) rfl rfl Sub.ent ?_
      refine S.dr_takeN 36 [] rfl (by kernel_rfl) rfl rfl rfl (rfl) rfl rfl Sub.ent ?_
      refine S.dr_takeN 37 [] rfl (by kernel_rfl) rfl rfl rfl (rfl) rfl rfl Sub.ent ?_
      refine S.dr_takeN 38 [] rfl (by kernel_rfl) rfl rfl rfl (rfl) rfl rfl Sub.ent ?_
      refine S.dr_takeN 39 [] rfl (by kernel_rfl) rfl rfl rfl (rfl) rfl rfl Sub.ent ?_
      refine S.dr_takeN 40 [] rfl (by kernel_rfl) rfl rfl rfl (rfl) rfl rfl Sub.ent ?_
      refine S.dr_takeN 41 [] rfl (by kernel_rfl) rfl rfl rfl (rfl) rfl rfl Sub.ent ?_
      refine S.dr_takeN 42 [] rfl (by kernel_rfl) rfl rfl rfl (rfl) rfl rfl Sub.ent ?_
      refine S.dr_takeN 43 [] rfl (by kernel_rfl) rfl rfl rfl (rfl) rfl rfl Sub.ent ?_
      refine S.dr_take 44 [] rfl (by kernel_rfl) rfl rfl rfl (q_pickF rfl (rfl) rfl) Sub.ent ?_
      refine S.dr_take 45 [] rfl (by kernel_rfl) rfl rfl rfl (q_assign rfl) Sub.ent ?_
      first | with_reducible refine S.dr_doneK (by kernel_rfl) ?_ | refine S.dr_done (by kernel_rfl) ?_
      refine hK2 _ _ ?_
      refine S.ret ?_
      with_reducible repeat (first | refine S.then_n ?_ | refine S.then_x ?_ | refine S.then_r ?_ | refine S.inBlock_n ?_ | refine S.inBlock_r ?_ | refine S.inBlock_x rfl ?_ | refine S.noGoto_r ?_ | refine S.noGoto_n ?_ | refine S.noGoto_x ?_)
      exact S.fin (rs := [_]) (vs := [_]) Try.results24 (⟨rfl, trivial⟩)  (⟨by simp [resV, mineB, *], rfl⟩) Sub.ent
  · refine S.dr_takeN 12 [] rfl (by kernel_rfl) rfl rfl rfl (decide_eq_false hg1_11) rfl rfl Sub.ent ?_
    refine S.dr_takeN 13 [] rfl (by kernel_rfl) rfl rfl rfl (decide_eq_false hg1_11) rfl rfl Sub.ent ?_
    refine S.dr_takeN 14 [] rfl (by kernel_rfl) rfl rfl rfl (decide_eq_false hg1_11) rfl rfl Sub.ent ?_
    refine S.dr_takeN 15 [] rfl (by kernel_rfl) rfl rfl rfl (decide_eq_false hg1_11) rfl rfl Sub.ent ?_
    refine S.dr_takeN 16 [] rfl (by kernel_rfl) rfl rfl rfl (decide_eq_false hg1_11) rfl rfl Sub.ent ?_
    refine S.dr_takeN 17 [] rfl (by kernel_rfl) rfl rfl rfl (decide_eq_false hg1_11) rfl rfl Sub.ent ?_
    refine S.dr_takeN 18 [] rfl (by kernel_rfl) rfl rfl rfl (decide_eq_false hg1_11) rfl rfl Sub.ent ?_
    refine S.dr_take 19 [] rfl (by kernel_rfl) rfl rfl rfl (q_pickF rfl (decide_eq_false hg1_11) rfl) Sub.ent ?_
    refine S.dr_take 20 [] rfl (by kernel_rfl) rfl rfl rfl (q_move rfl) Sub.ent ?_
    refine S.dr_takeN 21 [] rfl (by kernel_rfl) rfl rfl rfl (rfl) rfl rfl Sub.ent ?_
    refine S.dr_takeN 22 [] rfl (by kernel_rfl) rfl rfl rfl (rfl) rfl rfl Sub.ent ?_
    refine S.dr_takeN 23 [] rfl (by kernel_rfl) rfl rfl rfl (rfl) rfl rfl Sub.ent ?_
    refine S.dr_takeN 24 [] rfl (by kernel_rfl) rfl rfl rfl (rfl) rfl rfl Sub.ent ?_
    refine S.dr_takeN 25 [] rfl (by kernel_rfl) rfl rfl rfl (rfl) rfl rfl Sub.ent ?_
    refine S.dr_takeN 26 [] rfl (by kernel_rfl) rfl rfl rfl (rfl) rfl rfl Sub.ent ?_
    refine S.dr_takeN 27 [] rfl (by kernel_rfl) rfl rfl rfl (rfl) rfl rfl Sub.ent ?_
    refine S.dr_take 28 [] rfl (by kernel_rfl) rfl rfl rfl (q_pickF rfl (rfl) rfl) Sub.ent ?_
    refine S.dr_take 29 [] rfl (by kernel_rfl) rfl rfl rfl (q_move rfl) Sub.ent ?_
    refine S.dr_takeN 30 [] rfl (by kernel_rfl) rfl rfl rfl (rfl) rfl rfl Sub.ent ?_
    refine S.dr_takeN 31 [] rfl (by kernel_rfl) rfl rfl rfl (rfl) rfl rfl Sub.ent ?_
    refine S.dr_takeN 32 [] rfl (by kernel_rfl) rfl rfl rfl (rfl) rfl rfl Sub.ent ?_
    refine S.dr_take 33 [] rfl (by kernel_rfl) rfl rfl rfl (q_pickF rfl (rfl) rfl) Sub.ent ?_
    refine S.dr_take 34 [] rfl (by kernel_rfl) rfl rfl rfl (q_move rfl) Sub.ent ?_
    refine S.dr_takeN 35 [] rfl (by kernel_rfl) rfl rfl rfl (rfl) rfl rfl Sub.ent ?_
    refine S.dr_takeN 36 [] rfl (by kernel_rfl) rfl rfl rfl (rfl) rfl rfl Sub.ent ?_
    refine S.dr_takeN 37 [] rfl (by kernel_rfl) rfl rfl rfl (rfl) rfl rfl Sub.ent ?_
    refine S.dr_takeN 38 [] rfl (by kernel_rfl) rfl rfl rfl (rfl) rfl rfl Sub.ent ?_
    refine S.dr_takeN 39 [] rfl (by kernel_rfl) rfl rfl rfl (rfl) rfl rfl Sub.ent ?_
    refine S.dr_takeN 40 [] rfl (by kernel_rfl) rfl rfl rfl (rfl) rfl rfl Sub.ent ?_
    refine S.dr_takeN 41 [] rfl (by kernel_rfl) rfl rfl rfl (rfl) rfl rfl Sub.ent ?_
    refine S.dr_takeN 42 [] rfl (by kernel_rfl) rfl rfl rfl (rfl) rfl rfl Sub.ent ?_
    refine S.dr_takeN 43 [] rfl (by kernel_rfl) rfl rfl rfl (rfl) rfl rfl Sub.ent ?_
    refine S.dr_take 44 [] rfl (by kernel_rfl) rfl rfl rfl (q_pickF rfl (rfl) rfl) Sub.ent ?_
    refine S.dr_take 45 [] rfl (by kernel_rfl) rfl rfl rfl (q_assign rfl) Sub.ent ?_
    first | with_reducible refine S.dr_doneK (by kernel_rfl) ?_ | refine S.dr_done (by kernel_rfl) ?_
    refine hK2 _ _ ?_
    refine S.ret ?_
    with_reducible repeat (first | refine S.then_n ?_ | refine S.then_x ?_ | refine S.then_r ?_ | refine S.inBlock_n ?_ | refine S.inBlock_r ?_ | refine S.inBlock_x rfl ?_ | refine S.noGoto_r ?_ | refine S.noGoto_n ?_ | refine S.noGoto_x ?_)
    exact S.fin (rs := [_]) (vs := [_]) Try.results24 (⟨rfl, trivial⟩)  (⟨by simp [resV, mineB, *], rfl⟩) Sub.ent
theorem rMineNil_S (n e l s a : Int) (pl : Bool) (dv : Value) : Spec Try.prog 24 [.pointer none, .agg #[.int .u8 n, .int .u32 e, .int .u32 l, .int .u32 s, .int .u32 a, .bool pl, dv]] [] fun Γ v Θ => v = .bool false ∧ Θ = Γ := by
  refine Spec.of_body Try.func24 rfl Try.ntmps24 rfl ?_
  intro w0 Γ
  show S _ w0 [(0, .pointer none), (1, .agg #[.int .u8 n, .int .u32 e, .int .u32 l, .int .u32 s, .int .u32 a, .bool pl, dv])] Γ _
  refine S.seq fun K1 hK1 => ?_
  refine S.region rfl ?_
  refine S.op (S.box (cs := [_, _, _, _, _, _, _]) rfl rfl rfl ?_)
  intro b3
  refine S.op (S.q (q_assign rfl) rfl rfl ?_)
  first | with_reducible refine S.nilK ?_ | refine S.nil ?_
  refine hK1 _ _ ?_
  refine S.seq fun K2 hK2 => ?_
  refine S.draw ([]) [] Try.mixed ?_
  refine S.dr_take 0 [] rfl (by kernel_rfl) rfl rfl rfl (q_move rfl) Sub.ent ?_
  refine S.dr_take 1 [] rfl (by kernel_rfl) rfl rfl rfl (q_neN Try.underlying51 rfl rfl) Sub.ent ?_
  refine S.dr_take 2 [] rfl (by kernel_rfl) rfl rfl rfl (q_move rfl) Sub.ent ?_
  refine S.dr_takeN 3 [] rfl (by kernel_rfl) rfl rfl rfl (rfl) rfl rfl Sub.ent ?_
  refine S.dr_takeN 4 [] rfl (by kernel_rfl) rfl rfl rfl (rfl) rfl rfl Sub.ent ?_
  refine S.dr_takeN 5 [] rfl (by kernel_rfl) rfl rfl rfl (rfl) rfl rfl Sub.ent ?_
  refine S.dr_takeN 6 [] rfl (by kernel_rfl) rfl rfl rfl (rfl) rfl rfl Sub.ent ?_
  refine S.dr_takeN 7 [] rfl (by kernel_rfl) rfl rfl rfl (rfl) rfl rfl Sub.ent ?_
  refine S.dr_takeN 8 [] rfl (by kernel_rfl) rfl rfl rfl (rfl) rfl rfl Sub.ent ?_
  refine S.dr_takeN 9 [] rfl (by kernel_rfl) rfl rfl rfl (rfl) rfl rfl Sub.ent ?_
  refine S.dr_take 10 [] rfl (by kernel_rfl) rfl rfl rfl (q_pickF rfl (rfl) rfl) Sub.ent ?_
  refine S.dr_take 11 [] rfl (by kernel_rfl) rfl rfl rfl (q_move rfl) Sub.ent ?_
  refine S.dr_takeN 12 [] rfl (by kernel_rfl) rfl rfl rfl (rfl) rfl rfl Sub.ent ?_
  refine S.dr_takeN 13 [] rfl (by kernel_rfl) rfl rfl rfl (rfl) rfl rfl Sub.ent ?_
  refine S.dr_takeN 14 [] rfl (by kernel_rfl) rfl rfl rfl (rfl) rfl rfl Sub.ent ?_
  refine S.dr_takeN 15 [] rfl (by kernel_rfl) rfl rfl rfl (rfl) rfl rfl Sub.ent ?_
  refine S.dr_takeN 16 [] rfl (by kernel_rfl) rfl rfl rfl (rfl) rfl rfl Sub.ent ?_
  refine S.dr_takeN 17 [] rfl (by kernel_rfl) rfl rfl rfl (rfl) rfl rfl Sub.ent ?_
  refine S.dr_takeN 18 [] rfl (by kernel_rfl) rfl rfl rfl (rfl) rfl rfl Sub.ent ?_
  refine S.dr_take 19 [] rfl (by kernel_rfl) rfl rfl rfl (q_pickF rfl (rfl) rfl) Sub.ent ?_
  refine S.dr_take 20 [] rfl (by kernel_rfl) rfl rfl rfl (q_move rfl) Sub.ent ?_
  refine S.dr_takeN 21 [] rfl (by kernel_rfl) rfl rfl rfl (rfl) rfl rfl Sub.ent ?_
  refine S.dr_takeN 22 [] rfl (by kernel_rfl) rfl rfl rfl (rfl) rfl rfl Sub.ent ?_
  refine S.dr_takeN 23 [] rfl (by kernel_rfl) rfl rfl rfl (rfl) rfl rfl Sub.ent ?_
  refine S.dr_takeN 24 [] rfl (by kernel_rfl) rfl rfl rfl (rfl) rfl rfl Sub.ent ?_
  refine S.dr_takeN 25 [] rfl (by kernel_rfl) rfl rfl rfl (rfl) rfl rfl Sub.ent ?_
  refine S.dr_takeN 26 [] rfl (by kernel_rfl) rfl rfl rfl (rfl) rfl rfl Sub.ent ?_
  refine S.dr_takeN 27 [] rfl (by kernel_rfl) rfl rfl rfl (rfl) rfl rfl Sub.ent ?_
  refine S.dr_take 28 [] rfl (by kernel_rfl) rfl rfl rfl (q_pickF rfl (rfl) rfl) Sub.ent ?_
  refine S.dr_take 29 [] rfl (by kernel_rfl) rfl rfl rfl (q_move rfl) Sub.ent ?_
  refine S.dr_takeN 30 [] rfl (by kernel_rfl) rfl rfl rfl (rfl) rfl rfl Sub.ent ?_
  refine S.dr_takeN 31 [] rfl (by kernel_rfl) rfl rfl rfl (rfl) rfl rfl Sub.ent ?_
  refine S.dr_takeN 32 [] rfl (by kernel_rfl) rfl rfl rfl (rfl) rfl rfl Sub.ent ?_
  refine S.dr_take 33 [] rfl (by kernel_rfl) rfl rfl rfl (q_pickF rfl (rfl) rfl) Sub.ent ?_
  refine S.dr_take 34 [] rfl (by kernel_rfl) rfl rfl rfl (q_move rfl) Sub.ent ?_
  refine S.dr_takeN 35 [] rfl (by kernel_rfl) rfl rfl rfl (rfl) rfl rfl Sub.ent ?_
  refine S.dr_takeN 36 [] rfl (by kernel_rfl) rfl rfl rfl (rfl) rfl rfl Sub.ent ?_
  refine S.dr_takeN 37 [] rfl (by kernel_rfl) rfl rfl rfl (rfl) rfl rfl Sub.ent ?_
  refine S.dr_takeN 38 [] rfl (by kernel_rfl) rfl rfl rfl (rfl) rfl rfl Sub.ent ?_
  refine S.dr_takeN 39 [] rfl (by kernel_rfl) rfl rfl rfl (rfl) rfl rfl Sub.ent ?_
  refine S.dr_takeN 40 [] rfl (by kernel_rfl) rfl rfl rfl (rfl) rfl rfl Sub.ent ?_
  refine S.dr_takeN 41 [] rfl (by kernel_rfl) rfl rfl rfl (rfl) rfl rfl Sub.ent ?_
  refine S.dr_takeN 42 [] rfl (by kernel_rfl) rfl rfl rfl (rfl) rfl rfl Sub.ent ?_
  refine S.dr_takeN 43 [] rfl (by kernel_rfl) rfl rfl rfl (rfl) rfl rfl Sub.ent ?_
  refine S.dr_take 44 [] rfl (by kernel_rfl) rfl rfl rfl (q_pickF rfl (rfl) rfl) Sub.ent ?_
  refine S.dr_take 45 [] rfl (by kernel_rfl) rfl rfl rfl (q_assign rfl) Sub.ent ?_
  first | with_reducible refine S.dr_doneK (by kernel_rfl) ?_ | refine S.dr_done (by kernel_rfl) ?_
  refine hK2 _ _ ?_
  refine S.ret ?_
  with_reducible repeat (first | refine S.then_n ?_ | refine S.then_x ?_ | refine S.then_r ?_ | refine S.inBlock_n ?_ | refine S.inBlock_r ?_ | refine S.inBlock_x rfl ?_ | refine S.noGoto_r ?_ | refine S.noGoto_n ?_ | refine S.noGoto_x ?_)
  exact S.fin (rs := [_]) (vs := [_]) Try.results24 (⟨rfl, trivial⟩)  (⟨rfl, rfl⟩) Sub.ent
theorem rHearNil_S (n e l s a : Int) (pl : Bool) (dv : SV) : Spec Try.prog 25 [.pointer none, .agg (pkC n e l s a pl dv).toArray] [] fun Γ v Θ => v = .tuple #[.slice none 0 0, .bool false, .agg pk0.toArray, .bool false] ∧ Θ = Γ := by
  refine Spec.of_body Try.func25 rfl Try.ntmps25 rfl ?_
  intro w0 Γ
  show S _ w0 [(0, .pointer none), (1, .agg (pkC n e l s a pl dv).toArray)] Γ _
  refine S.seq fun K1 hK1 => ?_
  refine S.region rfl ?_
  refine S.op (S.box (cs := [_, _, _, _, _, _, _]) rfl rfl rfl ?_)
  intro b3
  refine S.op (S.q (q_assign rfl) rfl rfl ?_)
  refine S.op (S.q (q_assign rfl) rfl rfl ?_)
  refine S.op (S.alloc Try.z34 rfl ?_)
  intro b6
  refine S.op (S.q (q_assign rfl) rfl rfl ?_)
  first | with_reducible refine S.nilK ?_ | refine S.nil ?_
  refine hK1 _ _ ?_
  refine S.seq fun K2 hK2 => ?_
  refine S.seq fun K3 hK3 => ?_
  refine S.region rfl ?_
  refine S.op (S.q (q_move rfl) rfl rfl ?_)
  refine S.op (S.q (q_loadS [_, _, _, _, _, _, _] Try.ag34 rfl rfl ⟨rfl, rfl, rfl, rfl, rfl, rfl, rfl, trivial⟩) rfl rfl ?_)
  refine S.op (S.call Try.en24 (vs := [_, _]) ⟨rfl, rfl, trivial⟩ (rMineNil_S n e l s a pl dv.v) rfl ?_)
  rintro v Θ ⟨rfl, rfl⟩
  refine S.op (S.q (q_not rfl) rfl rfl ?_)
  first | with_reducible refine S.nilK ?_ | refine S.nil ?_
  refine hK3 _ _ ?_
  refine S.condT rfl ?_
  refine S.seq fun K4 hK4 => ?_
  refine S.region rfl ?_
  refine S.op (S.q (q_build (pvs := []) [_, _, _, _, _, _, _] Try.z34 Try.p34 trivial rfl) rfl rfl ?_)
  refine S.op (S.q (q_assign rfl) rfl rfl ?_)
  refine S.op (S.q (q_assign rfl) rfl rfl ?_)
  refine S.op (S.storeS (cs' := [_, _, _, _, _, _, _]) Try.ag34 rfl rfl rfl rfl rfl rfl ?_)
  refine S.op (S.q (q_assign rfl) rfl rfl ?_)
  first | with_reducible refine S.nilK ?_ | refine S.nil ?_
  refine hK4 _ _ ?_
  refine S.ret ?_
  with_reducible repeat (first | refine S.then_n ?_ | refine S.then_x ?_ | refine S.then_r ?_ | refine S.inBlock_n ?_ | refine S.inBlock_r ?_ | refine S.inBlock_x rfl ?_ | refine S.noGoto_r ?_ | refine S.noGoto_n ?_ | refine S.noGoto_x ?_)
  exact S.fin (rs := [_, _, _, _]) (vs := [_, _, _, _]) Try.results25 (⟨rfl, rfl, ⟨_, _, rfl, lod_agg [_, _, _, _, _, _, _] Try.ag34 rfl ⟨rfl, rfl, rfl, rfl, rfl, rfl, rfl, trivial⟩⟩, rfl, trivial⟩)  (⟨rfl, rfl⟩) Sub.ent
theorem rHearOther_S (t : Nat) (nd ep lf : Int) (sv tv : SV) (ck dn hd : Int) (n e l s a : Int) (pl : Bool) (dv : SV) (ha : 0 ≤ a ∧ a ≤ 4294967295) (hm : mineB nd ep lf sv.n n e l a pl = false) :
    Spec Try.prog 25 [.pointer (some ⟨t, 0, none⟩), .agg (pkC n e l s a pl dv).toArray] [blk t 65 (rk nd ep lf sv tv ck dn hd).toArray] fun Γ v Θ => v = .tuple #[.slice none 0 0, .bool false, .agg pk0.toArray, .bool false] ∧ Θ = blk t 65 (rk nd ep lf sv tv ck dn hd).toArray :: Γ := by
  refine Spec.of_body Try.func25 rfl Try.ntmps25 rfl ?_
  intro w0 Γ
  show S _ w0 [(0, .pointer (some ⟨t, 0, none⟩)), (1, .agg (pkC n e l s a pl dv).toArray)] (blk t 65 (rk nd ep lf sv tv ck dn hd).toArray :: Γ) _
  refine S.seq fun K1 hK1 => ?_
  refine S.region rfl ?_
  refine S.op (S.box (cs := [_, _, _, _, _, _, _]) rfl rfl rfl ?_)
  intro b3
  refine S.op (S.q (q_assign rfl) rfl rfl ?_)
  refine S.op (S.q (q_assign rfl) rfl rfl ?_)
  refine S.op (S.alloc Try.z34 rfl ?_)
  intro b6
  refine S.op (S.q (q_assign rfl) rfl rfl ?_)
  first | with_reducible refine S.nilK ?_ | refine S.nil ?_
  refine hK1 _ _ ?_
  refine S.seq fun K2 hK2 => ?_
  refine S.seq fun K3 hK3 => ?_
  refine S.region rfl ?_
  refine S.op (S.q (q_move rfl) rfl rfl ?_)
  refine S.op (S.q (q_loadS [_, _, _, _, _, _, _] Try.ag34 rfl rfl ⟨rfl, rfl, rfl, rfl, rfl, rfl, rfl, trivial⟩) rfl rfl ?_)
  refine S.op (S.call Try.en24 (vs := [_, _]) ⟨rfl, rfl, trivial⟩ (rMine_S t nd ep lf sv tv ck dn hd n e l s a pl dv.v ha) rfl ?_)
  rintro v Θ ⟨rfl, rfl⟩
  rw [hm]
  refine S.op (S.q (q_not rfl) rfl rfl ?_)
  first | with_reducible refine S.nilK ?_ | refine S.nil ?_
  refine hK3 _ _ ?_
  refine S.condT rfl ?_
  refine S.seq fun K4 hK4 => ?_
  refine S.region rfl ?_
  refine S.op (S.q (q_build (pvs := []) [_, _, _, _, _, _, _] Try.z34 Try.p34 trivial rfl) rfl rfl ?_)
  refine S.op (S.q (q_assign rfl) rfl rfl ?_)
  refine S.op (S.q (q_assign rfl) rfl rfl ?_)
  refine S.op (S.storeS (cs' := [_, _, _, _, _, _, _]) Try.ag34 rfl rfl rfl rfl rfl rfl ?_)
  refine S.op (S.q (q_assign rfl) rfl rfl ?_)
  first | with_reducible refine S.nilK ?_ | refine S.nil ?_
  refine hK4 _ _ ?_
  refine S.ret ?_
  with_reducible repeat (first | refine S.then_n ?_ | refine S.then_x ?_ | refine S.then_r ?_ | refine S.inBlock_n ?_ | refine S.inBlock_r ?_ | refine S.inBlock_x rfl ?_ | refine S.noGoto_r ?_ | refine S.noGoto_n ?_ | refine S.noGoto_x ?_)
  exact S.fin (rs := [_, _, _, _]) (vs := [_, _, _, _]) Try.results25 (⟨rfl, rfl, ⟨_, _, rfl, lod_agg [_, _, _, _, _, _, _] Try.ag34 rfl ⟨rfl, rfl, rfl, rfl, rfl, rfl, rfl, trivial⟩⟩, rfl, trivial⟩)  (⟨rfl, rfl⟩) Sub.ent
theorem rHearZero_S (t : Nat) (nd ep lf : Int) (sv tv : SV) (ck dn hd : Int) (n e l s a : Int) (pl : Bool) (dv : SV) (ha : 0 ≤ a ∧ a ≤ 4294967295) (hm : mineB nd ep lf sv.n n e l a pl = true) (hs : s = 0) :
    Spec Try.prog 25 [.pointer (some ⟨t, 0, none⟩), .agg (pkC n e l s a pl dv).toArray] [blk t 65 (rk nd ep lf sv tv ck dn hd).toArray] fun Γ v Θ => v = .tuple #[.slice none 0 0, .bool false, .agg pk0.toArray, .bool false] ∧ Θ = blk t 65 (rk nd ep lf sv tv ck (max dn a) hd).toArray :: Γ := by
  refine Spec.of_body Try.func25 rfl Try.ntmps25 rfl ?_
  intro w0 Γ
  show S _ w0 [(0, .pointer (some ⟨t, 0, none⟩)), (1, .agg (pkC n e l s a pl dv).toArray)] (blk t 65 (rk nd ep lf sv tv ck dn hd).toArray :: Γ) _
  refine S.seq fun K1 hK1 => ?_
  refine S.region rfl ?_
  refine S.op (S.box (cs := [_, _, _, _, _, _, _]) rfl rfl rfl ?_)
  intro b3
  refine S.op (S.q (q_assign rfl) rfl rfl ?_)
  refine S.op (S.q (q_assign rfl) rfl rfl ?_)
  refine S.op (S.alloc Try.z34 rfl ?_)
  intro b6
  refine S.op (S.q (q_assign rfl) rfl rfl ?_)
  first | with_reducible refine S.nilK ?_ | refine S.nil ?_
  refine hK1 _ _ ?_
  refine S.seq fun K2 hK2 => ?_
  refine S.seq fun K3 hK3 => ?_
  refine S.region rfl ?_
  refine S.op (S.q (q_move rfl) rfl rfl ?_)
  refine S.op (S.q (q_loadS [_, _, _, _, _, _, _] Try.ag34 rfl rfl ⟨rfl, rfl, rfl, rfl, rfl, rfl, rfl, trivial⟩) rfl rfl ?_)
  refine S.op (S.call Try.en24 (vs := [_, _]) ⟨rfl, rfl, trivial⟩ (rMine_S t nd ep lf sv tv ck dn hd n e l s a pl dv.v ha) rfl ?_)
  rintro v Θ ⟨rfl, rfl⟩
  rw [hm]
  refine S.op (S.q (q_not rfl) rfl rfl ?_)
  first | with_reducible refine S.nilK ?_ | refine S.nil ?_
  refine hK3 _ _ ?_
  refine S.condF rfl ?_
  refine S.skip ?_
  with_reducible repeat (first | refine S.then_n ?_ | refine S.then_x ?_ | refine S.then_r ?_ | refine S.inBlock_n ?_ | refine S.inBlock_r ?_ | refine S.inBlock_x rfl ?_ | refine S.noGoto_r ?_ | refine S.noGoto_n ?_ | refine S.noGoto_x ?_)
  refine hK2 _ _ ?_
  refine S.seq fun K4 hK4 => ?_
  refine S.draw ([blk t 65 (rk nd ep lf sv tv ck dn hd).toArray, blk b3 34 (pkC n e l s a pl dv).toArray]) [11] Try.mixed ?_
  refine S.dr_take 0 [9, 10, 11] rfl (by kernel_rfl) rfl rfl rfl (q_move rfl) Sub.ent ?_
  refine S.dr_take 1 [2, 3, 4, 8, 9, 10, 11] rfl (by kernel_rfl) rfl rfl rfl (q_move rfl) Sub.ent ?_
  refine S.dr_take 2 [3, 4, 8, 9, 10, 11] rfl (by kernel_rfl) rfl rfl rfl (q_nilCheck rfl) Sub.ent ?_
  refine S.dr_take 3 [4, 8, 9, 10, 11] rfl (by kernel_rfl) rfl rfl rfl (q_field Try.fo65_6 rfl) Sub.ent ?_
  refine S.dr_take 4 [8, 9, 10, 11] rfl (by kernel_rfl) rfl rfl rfl (q_load Try.at3 rfl rfl) Sub.ent ?_
  refine S.dr_take 5 [6, 7, 8, 9, 10, 11] rfl (by kernel_rfl) rfl rfl rfl (q_field Try.fo34_4 rfl) Sub.ent ?_
  refine S.dr_take 6 [7, 8, 9, 10, 11] rfl (by kernel_rfl) rfl rfl rfl (q_load Try.at26 rfl rfl) Sub.ent ?_
  refine S.dr_take 7 [8, 9, 10, 11] rfl (by kernel_rfl) rfl rfl rfl (q_conv Try.it3 (by rw [Try.underlying26]; rfl) rfl (inI64 (by omega) (by omega))) Sub.ent ?_
  refine S.dr_take 8 [9, 10, 11] rfl (by kernel_rfl) rfl rfl rfl (q_max (max dn a) rfl rfl (by omega)) Sub.ent ?_
  refine S.dr_take 9 [10, 11] rfl (by kernel_rfl) rfl rfl rfl (q_nilCheck rfl) Sub.ent ?_
  refine S.dr_take 10 [11] rfl (by kernel_rfl) rfl rfl rfl (q_field Try.fo65_6 rfl) Sub.ent ?_
  refine S.dr_1 (i := 11) (by kernel_rfl) rfl rfl ?_
  refine  (S.store (cs' := [_, _, _, _, _, _, _, _]) Try.at3 rfl rfl rfl rfl rfl ?_)
  refine S.dr_late ([]) [] rfl ?_
  first | with_reducible refine S.dr_doneK (by kernel_rfl) ?_ | refine S.dr_done (by kernel_rfl) ?_
  refine hK4 _ _ ?_
  refine S.seq fun K5 hK5 => ?_
  refine S.seq fun K6 hK6 => ?_
  refine S.region rfl ?_
  refine S.op (S.q (q_field Try.fo34_3 rfl) rfl rfl ?_)
  refine S.op (S.q (q_load Try.at26 rfl rfl) rfl rfl ?_)
  refine S.op (S.q (q_eq rfl rfl) rfl rfl ?_)
  first | with_reducible refine S.nilK ?_ | refine S.nil ?_
  refine hK6 _ _ ?_
  refine S.condD rfl (fun h2 => ?_) (fun h2 => ?_)
  · refine S.seq fun K7 hK7 => ?_
    refine S.region rfl ?_
    refine S.op (S.q (q_build (pvs := []) [_, _, _, _, _, _, _] Try.z34 Try.p34 trivial rfl) rfl rfl ?_)
    refine S.op (S.q (q_assign rfl) rfl rfl ?_)
    refine S.op (S.q (q_assign rfl) rfl rfl ?_)
    refine S.op (S.storeS (cs' := [_, _, _, _, _, _, _]) Try.ag34 rfl rfl rfl rfl rfl rfl ?_)
    refine S.op (S.q (q_assign rfl) rfl rfl ?_)
    first | with_reducible refine S.nilK ?_ | refine S.nil ?_
    refine hK7 _ _ ?_
    refine S.ret ?_
    with_reducible repeat (first | refine S.then_n ?_ | refine S.then_x ?_ | refine S.then_r ?_ | refine S.inBlock_n ?_ | refine S.inBlock_r ?_ | refine S.inBlock_x rfl ?_ | refine S.noGoto_r ?_ | refine S.noGoto_n ?_ | refine S.noGoto_x ?_)
    exact S.fin (rs := [_, _, _, _]) (vs := [_, _, _, _]) Try.results25 (⟨rfl, rfl, ⟨_, _, rfl, lod_agg [_, _, _, _, _, _, _] Try.ag34 rfl ⟨rfl, rfl, rfl, rfl, rfl, rfl, rfl, trivial⟩⟩, rfl, trivial⟩)  (⟨rfl, rfl⟩) Sub.ent
  · exact absurd hs h2
theorem rHearOld_S (t : Nat) (nd ep lf : Int) (sv tv : SV) (ck dn hd : Int) (n e l s a : Int) (pl : Bool) (dv : SV) (ha : 0 ≤ a ∧ a ≤ 4294967295) (hm : mineB nd ep lf sv.n n e l a pl = true) (hs : s ≠ 0) (hs1 : s ≠ hd + 1) (hs0 : 0 ≤ s ∧ s ≤ 4294967295) (hh : 0 ≤ hd ∧ hd ≤ 1000) :
    Spec Try.prog 25 [.pointer (some ⟨t, 0, none⟩), .agg (pkC n e l s a pl dv).toArray] [blk t 65 (rk nd ep lf sv tv ck dn hd).toArray] fun Γ v Θ => v = .tuple #[.slice none 0 0, .bool false, .agg (pkC nd ep lf 0 hd false SV.nil).toArray, .bool true] ∧ Θ = blk t 65 (rk nd ep lf sv tv ck (max dn a) hd).toArray :: Γ := by
  refine Spec.of_body Try.func25 rfl Try.ntmps25 rfl ?_
  intro w0 Γ
  show S _ w0 [(0, .pointer (some ⟨t, 0, none⟩)), (1, .agg (pkC n e l s a pl dv).toArray)] (blk t 65 (rk nd ep lf sv tv ck dn hd).toArray :: Γ) _
  refine S.seq fun K1 hK1 => ?_
  refine S.region rfl ?_
  refine S.op (S.box (cs := [_, _, _, _, _, _, _]) rfl rfl rfl ?_)
  intro b3
  refine S.op (S.q (q_assign rfl) rfl rfl ?_)
  refine S.op (S.q (q_assign rfl) rfl rfl ?_)
  refine S.op (S.alloc Try.z34 rfl ?_)
  intro b6
  refine S.op (S.q (q_assign rfl) rfl rfl ?_)
  first | with_reducible refine S.nilK ?_ | refine S.nil ?_
  refine hK1 _ _ ?_
  refine S.seq fun K2 hK2 => ?_
  refine S.seq fun K3 hK3 => ?_
  refine S.region rfl ?_
  refine S.op (S.q (q_move rfl) rfl rfl ?_)
  refine S.op (S.q (q_loadS [_, _, _, _, _, _, _] Try.ag34 rfl rfl ⟨rfl, rfl, rfl, rfl, rfl, rfl, rfl, trivial⟩) rfl rfl ?_)
  refine S.op (S.call Try.en24 (vs := [_, _]) ⟨rfl, rfl, trivial⟩ (rMine_S t nd ep lf sv tv ck dn hd n e l s a pl dv.v ha) rfl ?_)
  rintro v Θ ⟨rfl, rfl⟩
  rw [hm]
  refine S.op (S.q (q_not rfl) rfl rfl ?_)
  first | with_reducible refine S.nilK ?_ | refine S.nil ?_
  refine hK3 _ _ ?_
  refine S.condF rfl ?_
  refine S.skip ?_
  with_reducible repeat (first | refine S.then_n ?_ | refine S.then_x ?_ | refine S.then_r ?_ | refine S.inBlock_n ?_ | refine S.inBlock_r ?_ | refine S.inBlock_x rfl ?_ | refine S.noGoto_r ?_ | refine S.noGoto_n ?_ | refine S.noGoto_x ?_)
  refine hK2 _ _ ?_
  refine S.seq fun K4 hK4 => ?_
  refine S.draw ([blk t 65 (rk nd ep lf sv tv ck dn hd).toArray, blk b3 34 (pkC n e l s a pl dv).toArray]) [11] Try.mixed ?_
  refine S.dr_take 0 [9, 10, 11] rfl (by kernel_rfl) rfl rfl rfl (q_move rfl) Sub.ent ?_
  refine S.dr_take 1 [2, 3, 4, 8, 9, 10, 11] rfl (by kernel_rfl) rfl rfl rfl (q_move rfl) Sub.ent ?_
  refine S.dr_take 2 [3, 4, 8, 9, 10, 11] rfl (by kernel_rfl) rfl rfl rfl (q_nilCheck rfl) Sub.ent ?_
  refine S.dr_take 3 [4, 8, 9, 10, 11] rfl (by kernel_rfl) rfl rfl rfl (q_field Try.fo65_6 rfl) Sub.ent ?_
  refine S.dr_take 4 [8, 9, 10, 11] rfl (by kernel_rfl) rfl rfl rfl (q_load Try.at3 rfl rfl) Sub.ent ?_
  refine S.dr_take 5 [6, 7, 8, 9, 10, 11] rfl (by kernel_rfl) rfl rfl rfl (q_field Try.fo34_4 rfl) Sub.ent ?_
  refine S.dr_take 6 [7, 8, 9, 10, 11] rfl (by kernel_rfl) rfl rfl rfl (q_load Try.at26 rfl rfl) Sub.ent ?_
  refine S.dr_take 7 [8, 9, 10, 11] rfl (by kernel_rfl) rfl rfl rfl (q_conv Try.it3 (by rw [Try.underlying26]; rfl) rfl (inI64 (by omega) (by omega))) Sub.ent ?_
  refine S.dr_take 8 [9, 10, 11] rfl (by kernel_rfl) rfl rfl rfl (q_max (max dn a) rfl rfl (by omega)) Sub.ent ?_
  refine S.dr_take 9 [10, 11] rfl (by kernel_rfl) rfl rfl rfl (q_nilCheck rfl) Sub.ent ?_
  refine S.dr_take 10 [11] rfl (by kernel_rfl) rfl rfl rfl (q_field Try.fo65_6 rfl) Sub.ent ?_
  refine S.dr_1 (i := 11) (by kernel_rfl) rfl rfl ?_
  refine  (S.store (cs' := [_, _, _, _, _, _, _, _]) Try.at3 rfl rfl rfl rfl rfl ?_)
  refine S.dr_late ([]) [] rfl ?_
  first | with_reducible refine S.dr_doneK (by kernel_rfl) ?_ | refine S.dr_done (by kernel_rfl) ?_
  refine hK4 _ _ ?_
  refine S.seq fun K5 hK5 => ?_
  refine S.seq fun K6 hK6 => ?_
  refine S.region rfl ?_
  refine S.op (S.q (q_field Try.fo34_3 rfl) rfl rfl ?_)
  refine S.op (S.q (q_load Try.at26 rfl rfl) rfl rfl ?_)
  refine S.op (S.q (q_eq rfl rfl) rfl rfl ?_)
  first | with_reducible refine S.nilK ?_ | refine S.nil ?_
  refine hK6 _ _ ?_
  refine S.condD rfl (fun h2 => ?_) (fun h2 => ?_)
  · exact absurd h2 hs
  · refine S.skip ?_
    with_reducible repeat (first | refine S.then_n ?_ | refine S.then_x ?_ | refine S.then_r ?_ | refine S.inBlock_n ?_ | refine S.inBlock_r ?_ | refine S.inBlock_x rfl ?_ | refine S.noGoto_r ?_ | refine S.noGoto_n ?_ | refine S.noGoto_x ?_)
    refine hK5 _ _ ?_
    refine S.seq fun K7 hK7 => ?_
    refine S.draw ([blk t 65 (rk nd ep lf sv tv ck (max dn a) hd).toArray, blk b3 34 (pkC n e l s a pl dv).toArray]) [] Try.mixed ?_
    refine S.dr_take 0 [] rfl (by kernel_rfl) rfl rfl rfl (q_field Try.fo34_3 rfl) Sub.ent ?_
    refine S.dr_take 1 [] rfl (by kernel_rfl) rfl rfl rfl (q_load Try.at26 rfl rfl) Sub.ent ?_
    refine S.dr_take 2 [] rfl (by kernel_rfl) rfl rfl rfl (q_conv Try.it79 (by rw [Try.underlying26]; rfl) rfl (inU64 (by omega) (by omega))) Sub.ent ?_
    refine S.dr_take 3 [] rfl (by kernel_rfl) rfl rfl rfl (q_move rfl) Sub.ent ?_
    refine S.dr_take 4 [] rfl (by kernel_rfl) rfl rfl rfl (q_nilCheck rfl) Sub.ent ?_
    refine S.dr_take 5 [] rfl (by kernel_rfl) rfl rfl rfl (q_field Try.fo65_7 rfl) Sub.ent ?_
    refine S.dr_take 6 [] rfl (by kernel_rfl) rfl rfl rfl (q_load Try.at26 rfl rfl) Sub.ent ?_
    refine S.dr_take 7 [] rfl (by kernel_rfl) rfl rfl rfl (q_conv Try.it79 (by rw [Try.underlying26]; rfl) rfl (inU64 (by omega) (by omega))) Sub.ent ?_
    refine S.dr_take 8 [] rfl (by kernel_rfl) rfl rfl rfl (q_add rfl rfl (inU64 (by omega) (by omega))) Sub.ent ?_
    refine S.dr_take 9 [] rfl (by kernel_rfl) rfl rfl rfl (q_eq rfl rfl) Sub.ent ?_
    refine S.dr_take 10 [] rfl (by kernel_rfl) rfl rfl rfl (q_assign rfl) Sub.ent ?_
    first | with_reducible refine S.dr_doneK (by kernel_rfl) ?_ | refine S.dr_done (by kernel_rfl) ?_
    refine hK7 _ _ ?_
    refine S.seq fun K8 hK8 => ?_
    refine S.seq fun K9 hK9 => ?_
    refine S.region rfl ?_
    refine S.op (S.q (q_move rfl) rfl rfl ?_)
    refine S.op (S.q (q_not rfl) rfl rfl ?_)
    first | with_reducible refine S.nilK ?_ | refine S.nil ?_
    refine hK9 _ _ ?_
    refine S.cond rfl (fun h3 => ?_) (fun h3 => ?_)
    · refine S.seq fun K10 hK10 => ?_
      refine S.region rfl ?_
      refine S.op (S.q (q_move rfl) rfl rfl ?_)
      refine S.op (S.call Try.en30 (vs := [_, _]) ⟨rfl, rfl, trivial⟩ (rPk0_S t nd ep lf sv tv ck (max dn a) hd) rfl ?_)
      rintro v Θ ⟨rfl, rfl⟩
      refine S.op (S.q (q_assign rfl) rfl rfl ?_)
      refine S.op (S.q (q_assign rfl) rfl rfl ?_)
      refine S.op (S.storeS (cs' := [_, _, _, _, _, _, _]) Try.ag34 rfl rfl rfl rfl rfl rfl ?_)
      refine S.op (S.q (q_assign rfl) rfl rfl ?_)
      first | with_reducible refine S.nilK ?_ | refine S.nil ?_
      refine hK10 _ _ ?_
      refine S.ret ?_
      with_reducible repeat (first | refine S.then_n ?_ | refine S.then_x ?_ | refine S.then_r ?_ | refine S.inBlock_n ?_ | refine S.inBlock_r ?_ | refine S.inBlock_x rfl ?_ | refine S.noGoto_r ?_ | refine S.noGoto_n ?_ | refine S.noGoto_x ?_)
      exact S.fin (rs := [_, _, _, _]) (vs := [_, _, _, _]) Try.results25 (⟨rfl, rfl, ⟨_, _, rfl, lod_agg [_, _, _, _, _, _, _] Try.ag34 rfl ⟨rfl, rfl, rfl, rfl, rfl, rfl, rfl, trivial⟩⟩, rfl, trivial⟩)  (⟨rfl, rfl⟩) Sub.ent
    · exact absurd h3 (by simp [hs1])
theorem rHearNew_S (t : Nat) (nd ep lf : Int) (sv tv : SV) (ck dn hd : Int) (n e l s a : Int) (pl : Bool) (dv : SV) (ld : List Int) (R : Assn) (hR : ∀ Γ w, Sat w (R :: Γ) → BytesAt w dv.v ld) (hdn : dv.n = ld.length) (hld : ld.length ≤ 1000000) (ha : 0 ≤ a ∧ a ≤ 4294967295) (hm : mineB nd ep lf sv.n n e l a pl = true) (hs1 : s = hd + 1) (hh : 0 ≤ hd ∧ hd ≤ 1000) :
    Spec Try.prog 25 [.pointer (some ⟨t, 0, none⟩), .agg (pkC n e l s a pl dv).toArray] [blk t 65 (rk nd ep lf sv tv ck dn hd).toArray, R] fun Γ v Θ => ∃ g, v = .tuple #[g.v, .bool true, .agg (pkC nd ep lf 0 (hd + 1) false SV.nil).toArray, .bool true] ∧ Θ = obytes g ld :: blk t 65 (rk nd ep lf sv tv ck (max dn a) (hd + 1)).toArray :: R :: Γ := by
  refine Spec.of_body Try.func25 rfl Try.ntmps25 rfl ?_
  intro w0 Γ
  show S _ w0 [(0, .pointer (some ⟨t, 0, none⟩)), (1, .agg (pkC n e l s a pl dv).toArray)] (blk t 65 (rk nd ep lf sv tv ck dn hd).toArray :: R :: Γ) _
  refine S.seq fun K1 hK1 => ?_
  refine S.region rfl ?_
  refine S.op (S.box (cs := [_, _, _, _, _, _, _]) rfl rfl rfl ?_)
  intro b3
  refine S.op (S.q (q_assign rfl) rfl rfl ?_)
  refine S.op (S.q (q_assign rfl) rfl rfl ?_)
  refine S.op (S.alloc Try.z34 rfl ?_)
  intro b6
  refine S.op (S.q (q_assign rfl) rfl rfl ?_)
  first | with_reducible refine S.nilK ?_ | refine S.nil ?_
  refine hK1 _ _ ?_
  refine S.seq fun K2 hK2 => ?_
  refine S.seq fun K3 hK3 => ?_
  refine S.region rfl ?_
  refine S.op (S.q (q_move rfl) rfl rfl ?_)
  refine S.op (S.q (q_loadS [_, _, _, _, _, _, _] Try.ag34 rfl rfl ⟨rfl, rfl, rfl, rfl, rfl, rfl, rfl, trivial⟩) rfl rfl ?_)
  refine S.op (S.call Try.en24 (vs := [_, _]) ⟨rfl, rfl, trivial⟩ (rMine_S t nd ep lf sv tv ck dn hd n e l s a pl dv.v ha) rfl ?_)
  rintro v Θ ⟨rfl, rfl⟩
  rw [hm]
  refine S.op (S.q (q_not rfl) rfl rfl ?_)
  first | with_reducible refine S.nilK ?_ | refine S.nil ?_
  refine hK3 _ _ ?_
  refine S.condF rfl ?_
  refine S.skip ?_
  with_reducible repeat (first | refine S.then_n ?_ | refine S.then_x ?_ | refine S.then_r ?_ | refine S.inBlock_n ?_ | refine S.inBlock_r ?_ | refine S.inBlock_x rfl ?_ | refine S.noGoto_r ?_ | refine S.noGoto_n ?_ | refine S.noGoto_x ?_)
  refine hK2 _ _ ?_
  refine S.seq fun K4 hK4 => ?_
  refine S.draw ([blk t 65 (rk nd ep lf sv tv ck dn hd).toArray, blk b3 34 (pkC n e l s a pl dv).toArray]) [11] Try.mixed ?_
  refine S.dr_take 0 [9, 10, 11] rfl (by kernel_rfl) rfl rfl rfl (q_move rfl) Sub.ent ?_
  refine S.dr_take 1 [2, 3, 4, 8, 9, 10, 11] rfl (by kernel_rfl) rfl rfl rfl (q_move rfl) Sub.ent ?_
  refine S.dr_take 2 [3, 4, 8, 9, 10, 11] rfl (by kernel_rfl) rfl rfl rfl (q_nilCheck rfl) Sub.ent ?_
  refine S.dr_take 3 [4, 8, 9, 10, 11] rfl (by kernel_rfl) rfl rfl rfl (q_field Try.fo65_6 rfl) Sub.ent ?_
  refine S.dr_take 4 [8, 9, 10, 11] rfl (by kernel_rfl) rfl rfl rfl (q_load Try.at3 rfl rfl) Sub.ent ?_
  refine S.dr_take 5 [6, 7, 8, 9, 10, 11] rfl (by kernel_rfl) rfl rfl rfl (q_field Try.fo34_4 rfl) Sub.ent ?_
  refine S.dr_take 6 [7, 8, 9, 10, 11] rfl (by kernel_rfl) rfl rfl rfl (q_load Try.at26 rfl rfl) Sub.ent ?_
  refine S.dr_take 7 [8, 9, 10, 11] rfl (by kernel_rfl) rfl rfl rfl (q_conv Try.it3 (by rw [Try.underlying26]; rfl) rfl (inI64 (by omega) (by omega))) Sub.ent ?_
  refine S.dr_take 8 [9, 10, 11] rfl (by kernel_rfl) rfl rfl rfl (q_max (max dn a) rfl rfl (by omega)) Sub.ent ?_
  refine S.dr_take 9 [10, 11] rfl (by kernel_rfl) rfl rfl rfl (q_nilCheck rfl) Sub.ent ?_
  refine S.dr_take 10 [11] rfl (by kernel_rfl) rfl rfl rfl (q_field Try.fo65_6 rfl) Sub.ent ?_
  refine S.dr_1 (i := 11) (by kernel_rfl) rfl rfl ?_
  refine  (S.store (cs' := [_, _, _, _, _, _, _, _]) Try.at3 rfl rfl rfl rfl rfl ?_)
  refine S.dr_late ([]) [] rfl ?_
  first | with_reducible refine S.dr_doneK (by kernel_rfl) ?_ | refine S.dr_done (by kernel_rfl) ?_
  refine hK4 _ _ ?_
  refine S.seq fun K5 hK5 => ?_
  refine S.seq fun K6 hK6 => ?_
  refine S.region rfl ?_
  refine S.op (S.q (q_field Try.fo34_3 rfl) rfl rfl ?_)
  refine S.op (S.q (q_load Try.at26 rfl rfl) rfl rfl ?_)
  refine S.op (S.q (q_eq rfl rfl) rfl rfl ?_)
  first | with_reducible refine S.nilK ?_ | refine S.nil ?_
  refine hK6 _ _ ?_
  refine S.condD rfl (fun h2 => ?_) (fun h2 => ?_)
  · exact absurd h2 (by omega)
  · refine S.skip ?_
    with_reducible repeat (first | refine S.then_n ?_ | refine S.then_x ?_ | refine S.then_r ?_ | refine S.inBlock_n ?_ | refine S.inBlock_r ?_ | refine S.inBlock_x rfl ?_ | refine S.noGoto_r ?_ | refine S.noGoto_n ?_ | refine S.noGoto_x ?_)
    refine hK5 _ _ ?_
    refine S.seq fun K7 hK7 => ?_
    refine S.draw ([blk t 65 (rk nd ep lf sv tv ck (max dn a) hd).toArray, blk b3 34 (pkC n e l s a pl dv).toArray]) [] Try.mixed ?_
    refine S.dr_take 0 [] rfl (by kernel_rfl) rfl rfl rfl (q_field Try.fo34_3 rfl) Sub.ent ?_
    refine S.dr_take 1 [] rfl (by kernel_rfl) rfl rfl rfl (q_load Try.at26 rfl rfl) Sub.ent ?_
    refine S.dr_take 2 [] rfl (by kernel_rfl) rfl rfl rfl (q_conv Try.it79 (by rw [Try.underlying26]; rfl) rfl (inU64 (by omega) (by omega))) Sub.ent ?_
    refine S.dr_take 3 [] rfl (by kernel_rfl) rfl rfl rfl (q_move rfl) Sub.ent ?_
    refine S.dr_take 4 [] rfl (by kernel_rfl) rfl rfl rfl (q_nilCheck rfl) Sub.ent ?_
    refine S.dr_take 5 [] rfl (by kernel_rfl) rfl rfl rfl (q_field Try.fo65_7 rfl) Sub.ent ?_
    refine S.dr_take 6 [] rfl (by kernel_rfl) rfl rfl rfl (q_load Try.at26 rfl rfl) Sub.ent ?_
    refine S.dr_take 7 [] rfl (by kernel_rfl) rfl rfl rfl (q_conv Try.it79 (by rw [Try.underlying26]; rfl) rfl (inU64 (by omega) (by omega))) Sub.ent ?_
    refine S.dr_take 8 [] rfl (by kernel_rfl) rfl rfl rfl (q_add rfl rfl (inU64 (by omega) (by omega))) Sub.ent ?_
    refine S.dr_take 9 [] rfl (by kernel_rfl) rfl rfl rfl (q_eq rfl rfl) Sub.ent ?_
    refine S.dr_take 10 [] rfl (by kernel_rfl) rfl rfl rfl (q_assign rfl) Sub.ent ?_
    first | with_reducible refine S.dr_doneK (by kernel_rfl) ?_ | refine S.dr_done (by kernel_rfl) ?_
    refine hK7 _ _ ?_
    refine S.seq fun K8 hK8 => ?_
    refine S.seq fun K9 hK9 => ?_
    refine S.region rfl ?_
    refine S.op (S.q (q_move rfl) rfl rfl ?_)
    refine S.op (S.q (q_not rfl) rfl rfl ?_)
    first | with_reducible refine S.nilK ?_ | refine S.nil ?_
    refine hK9 _ _ ?_
    refine S.cond rfl (fun h3 => ?_) (fun h3 => ?_)
    · exact absurd h3 (by simp [hs1])
    · refine S.skip ?_
      with_reducible repeat (first | refine S.then_n ?_ | refine S.then_x ?_ | refine S.then_r ?_ | refine S.inBlock_n ?_ | refine S.inBlock_r ?_ | refine S.inBlock_x rfl ?_ | refine S.noGoto_r ?_ | refine S.noGoto_n ?_ | refine S.noGoto_x ?_)
      refine hK8 _ _ ?_
      refine S.seq fun K10 hK10 => ?_
      refine S.region rfl ?_
      refine S.op (S.q (q_move rfl) rfl rfl ?_)
      refine S.op (S.q (q_nilCheck rfl) rfl rfl ?_)
      refine S.op (S.q (q_field Try.fo65_7 rfl) rfl rfl ?_)
      refine S.op (S.q (q_load Try.at26 rfl rfl) rfl rfl ?_)
      refine S.op (S.q (q_add rfl rfl (inU32 (by omega) (by omega))) rfl rfl ?_)
      refine S.op (S.q (q_nilCheck rfl) rfl rfl ?_)
      refine S.op (S.q (q_field Try.fo65_7 rfl) rfl rfl ?_)
      refine S.op (S.store (cs' := [_, _, _, _, _, _, _, _]) Try.at26 rfl rfl rfl rfl rfl ?_)
      first | with_reducible refine S.nilK ?_ | refine S.nil ?_
      refine hK10 _ _ ?_
      refine S.seq fun K11 hK11 => ?_
      refine S.region rfl ?_
      refine S.op (S.buildSlice0 Try.underlying32 Try.inf5 rfl ?_)
      intro b50 hb50
      refine S.op (S.q (q_field Try.fo34_6 rfl) rfl rfl ?_)
      refine S.op (S.q (q_load Try.at32 rfl rfl) rfl rfl ?_)
      refine S.op (S.appendOw (s := b50) (ld.length) (bcells ld) Try.underlying32 Try.inf5 rfl rfl rfl (fun w hs => hR _ w (hs.ent (Pick.ent (P := R)))) (by first | rfl | exact allOne_bcells _) (⟨by omega, by omega⟩) rfl ?_)
      intro g hg
      rw [List.nil_append]
      refine S.op (S.q (q_move rfl) rfl rfl ?_)
      refine S.op (S.call Try.en30 (vs := [_, _]) ⟨rfl, rfl, trivial⟩ (rPk0_S t nd ep lf sv tv ck (max dn a) (hd + 1)) rfl ?_)
      rintro v Θ ⟨rfl, rfl⟩
      refine S.op (S.q (q_assign rfl) rfl rfl ?_)
      refine S.op (S.q (q_assign rfl) rfl rfl ?_)
      refine S.op (S.storeS (cs' := [_, _, _, _, _, _, _]) Try.ag34 rfl rfl rfl rfl rfl rfl ?_)
      refine S.op (S.q (q_assign rfl) rfl rfl ?_)
      first | with_reducible refine S.nilK ?_ | refine S.nil ?_
      refine hK11 _ _ ?_
      refine S.ret ?_
      with_reducible repeat (first | refine S.then_n ?_ | refine S.then_x ?_ | refine S.then_r ?_ | refine S.inBlock_n ?_ | refine S.inBlock_r ?_ | refine S.inBlock_x rfl ?_ | refine S.noGoto_r ?_ | refine S.noGoto_n ?_ | refine S.noGoto_x ?_)
      exact S.fin (rs := [_, _, _, _]) (vs := [_, _, _, _]) Try.results25 (⟨rfl, rfl, ⟨_, _, rfl, lod_agg [_, _, _, _, _, _, _] Try.ag34 rfl ⟨rfl, rfl, rfl, rfl, rfl, rfl, rfl, trivial⟩⟩, rfl, trivial⟩)  (⟨g, rfl, rfl⟩) Sub.ent
end Go.Proofs.Ytdlddggjjibeaaa
