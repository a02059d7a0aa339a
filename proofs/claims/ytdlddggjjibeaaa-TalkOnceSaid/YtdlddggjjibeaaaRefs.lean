/- ref01.Same, ref04.SamePacket, law10.few. -/
import Derived.Test.YtdlddggjjibeaaaTalkF
import Derived.Test.YtdlddggjjibeaaaPure
namespace Go.Proofs.Ytdlddggjjibeaaa
open Go.RowKit
theorem Same_P (a b : SV) (la lb : List Int) (W : World) (ha : BytesAt W a.v la) (hb : BytesAt W b.v lb) (ra : Rng la) (rb : Rng lb) : PureS Try.prog 16 [a.v, b.v] W (.bool (decide (la = lb))) := by
  refine Spec.of_body Try.func16 rfl Try.ntmps16 rfl ?_
  intro w0 Γ
  show S _ w0 [(0, a.v), (1, b.v)] (old W :: Γ) _
  refine S.seq fun K1 hK1 => ?_
  refine S.region rfl ?_
  refine S.op (S.q (q_assign rfl) rfl rfl ?_)
  first | with_reducible refine S.nilK ?_ | refine S.nil ?_
  refine hK1 _ _ ?_
  refine S.seq fun K2 hK2 => ?_
  refine S.region rfl ?_
  refine S.op (S.q (q_move rfl) rfl rfl ?_)
  refine S.op (S.q (q_bytesStr (xs := la) Try.underlying32 Try.it5 Try.underlying9 rfl (fun w hs => (HasOld.head (Γ := Γ) (W := W)).slAt hs ha)) rfl rfl ?_)
  refine S.op (S.q (q_move rfl) rfl rfl ?_)
  refine S.op (S.q (q_bytesStr (xs := lb) Try.underlying32 Try.it5 Try.underlying9 rfl (fun w hs => (HasOld.head (Γ := Γ) (W := W)).slAt hs hb)) rfl rfl ?_)
  refine S.op (S.q (q_eqStr rfl rfl) rfl rfl ?_)
  refine S.op (S.q (q_assign rfl) rfl rfl ?_)
  first | with_reducible refine S.nilK ?_ | refine S.nil ?_
  refine hK2 _ _ ?_
  refine S.ret ?_
  with_reducible repeat (first | refine S.then_n ?_ | refine S.then_x ?_ | refine S.then_r ?_ | refine S.inBlock_n ?_ | refine S.inBlock_r ?_ | refine S.inBlock_x rfl ?_ | refine S.noGoto_r ?_ | refine S.noGoto_n ?_ | refine S.noGoto_x ?_)
  exact S.fin (rs := [_]) (vs := [_]) Try.results16 (⟨rfl, trivial⟩)  (⟨by simp only [resV]; rw [str_eq ra rb], rfl⟩) Sub.ent
def samePk (n e l s a : Int) (pl : Bool) (la : List Int) (n' e' l' s' a' : Int) (pl' : Bool) (lb : List Int) : Bool :=
  decide (n = n') && (decide (e = e') && (decide (l = l') && (decide (s = s') && (decide (a = a') && ((pl == pl') && decide (la = lb))))))
theorem SamePacket_P (n e l s a : Int) (pl : Bool) (x : SV) (la : List Int) (n' e' l' s' a' : Int) (pl' : Bool) (y : SV) (lb : List Int) (W : World) (ha : BytesAt W x.v la) (hb : BytesAt W y.v lb) (ra : Rng la) (rb : Rng lb) :
    PureS Try.prog 20 [.agg (pkC n e l s a pl x).toArray, .agg (pkC n' e' l' s' a' pl' y).toArray] W (.bool (samePk n e l s a pl la n' e' l' s' a' pl' lb)) := by
  refine Spec.of_body Try.func20 rfl Try.ntmps20 rfl ?_
  intro w0 Γ
  show S _ w0 [(0, .agg (pkC n e l s a pl x).toArray), (1, .agg (pkC n' e' l' s' a' pl' y).toArray)] (old W :: Γ) _
  refine S.seq fun K1 hK1 => ?_
  refine S.region rfl ?_
  refine S.op (S.box (cs := [_, _, _, _, _, _, _]) rfl rfl rfl ?_)
  intro b2
  refine S.op (S.box (cs := [_, _, _, _, _, _, _]) rfl rfl rfl ?_)
  intro b3
  refine S.op (S.q (q_assign rfl) rfl rfl ?_)
  first | with_reducible refine S.nilK ?_ | refine S.nil ?_
  refine hK1 _ _ ?_
  refine S.seq fun K2 hK2 => ?_
  refine S.regionG ?_
  refine S.g_op rfl (S.q (q_field Try.fo34_0 rfl) rfl rfl ?_)
  refine S.g_op rfl (S.q (q_load Try.at5 rfl rfl) rfl rfl ?_)
  refine S.g_op rfl (S.q (q_field Try.fo34_0 rfl) rfl rfl ?_)
  refine S.g_op rfl (S.q (q_load Try.at5 rfl rfl) rfl rfl ?_)
  refine S.g_op rfl (S.q (q_eq rfl rfl) rfl rfl ?_)
  refine S.g_op rfl (S.q (q_move rfl) rfl rfl ?_)
  by_cases hg1_5 : n = n'
  · refine S.g_yes rfl rfl rfl (decide_eq_true hg1_5) (S.q (q_field Try.fo34_1 rfl) rfl rfl ?_)
    refine S.g_yes rfl rfl rfl (decide_eq_true hg1_5) (S.q (q_load Try.at26 rfl rfl) rfl rfl ?_)
    refine S.g_yes rfl rfl rfl (decide_eq_true hg1_5) (S.q (q_field Try.fo34_1 rfl) rfl rfl ?_)
    refine S.g_yes rfl rfl rfl (decide_eq_true hg1_5) (S.q (q_load Try.at26 rfl rfl) rfl rfl ?_)
    refine S.g_yes rfl rfl rfl (decide_eq_true hg1_5) (S.q (q_eq rfl rfl) rfl rfl ?_)
    refine S.g_op rfl (S.q (q_pickT rfl (decide_eq_true hg1_5) rfl) rfl rfl ?_)
    refine S.g_op rfl (S.q (q_move rfl) rfl rfl ?_)
    by_cases hg1_12 : e = e'
    · refine S.g_yes rfl rfl rfl (decide_eq_true hg1_12) (S.q (q_field Try.fo34_2 rfl) rfl rfl ?_)
      refine S.g_yes rfl rfl rfl (decide_eq_true hg1_12) (S.q (q_load Try.at26 rfl rfl) rfl rfl ?_)
      refine S.g_yes rfl rfl rfl (decide_eq_true hg1_12) (S.q (q_field Try.fo34_2 rfl) rfl rfl ?_)
      refine S.g_yes rfl rfl rfl (decide_eq_true hg1_12) (S.q (q_load Try.at26 rfl rfl) rfl rfl ?_)
      refine S.g_yes rfl rfl rfl (decide_eq_true hg1_12) (S.q (q_eq rfl rfl) rfl rfl ?_)
      refine S.g_op rfl (S.q (q_pickT rfl (decide_eq_true hg1_12) rfl) rfl rfl ?_)
      refine S.g_op rfl (S.q (q_move rfl) rfl rfl ?_)
      by_cases hg1_19 : l = l'
      · refine S.g_yes rfl rfl rfl (decide_eq_true hg1_19) (S.q (q_field Try.fo34_3 rfl) rfl rfl ?_)
        refine S.g_yes rfl rfl rfl (decide_eq_true hg1_19) (S.q (q_load Try.at26 rfl rfl) rfl rfl ?_)
        refine S.g_yes rfl rfl rfl (decide_eq_true hg1_19) (S.q (q_field Try.fo34_3 rfl) rfl rfl ?_)
        refine S.g_yes rfl rfl rfl (decide_eq_true hg1_19) (S.q (q_load Try.at26 rfl rfl) rfl rfl ?_)
        refine S.g_yes rfl rfl rfl (decide_eq_true hg1_19) (S.q (q_eq rfl rfl) rfl rfl ?_)
        refine S.g_op rfl (S.q (q_pickT rfl (decide_eq_true hg1_19) rfl) rfl rfl ?_)
        refine S.g_op rfl (S.q (q_move rfl) rfl rfl ?_)
        by_cases hg1_26 : s = s'
        · refine S.g_yes rfl rfl rfl (decide_eq_true hg1_26) (S.q (q_field Try.fo34_4 rfl) rfl rfl ?_)
          refine S.g_yes rfl rfl rfl (decide_eq_true hg1_26) (S.q (q_load Try.at26 rfl rfl) rfl rfl ?_)
          refine S.g_yes rfl rfl rfl (decide_eq_true hg1_26) (S.q (q_field Try.fo34_4 rfl) rfl rfl ?_)
          refine S.g_yes rfl rfl rfl (decide_eq_true hg1_26) (S.q (q_load Try.at26 rfl rfl) rfl rfl ?_)
          refine S.g_yes rfl rfl rfl (decide_eq_true hg1_26) (S.q (q_eq rfl rfl) rfl rfl ?_)
          refine S.g_op rfl (S.q (q_pickT rfl (decide_eq_true hg1_26) rfl) rfl rfl ?_)
          refine S.g_op rfl (S.q (q_move rfl) rfl rfl ?_)
          by_cases hg1_33 : a = a'
          · refine S.g_yes rfl rfl rfl (decide_eq_true hg1_33) (S.q (q_field Try.fo34_5 rfl) rfl rfl ?_)
            refine S.g_yes rfl rfl rfl (decide_eq_true hg1_33) (S.q (q_load Try.at4 rfl rfl) rfl rfl ?_)
            refine S.g_yes rfl rfl rfl (decide_eq_true hg1_33) (S.q (q_field Try.fo34_5 rfl) rfl rfl ?_)
            refine S.g_yes rfl rfl rfl (decide_eq_true hg1_33) (S.q (q_load Try.at4 rfl rfl) rfl rfl ?_)
            refine S.g_yes rfl rfl rfl (decide_eq_true hg1_33) (S.q (q_eqB Try.underlying4 rfl rfl) rfl rfl ?_)
            refine S.g_op rfl (S.q (q_pickT rfl (decide_eq_true hg1_33) rfl) rfl rfl ?_)
            refine S.g_op rfl (S.q (q_move rfl) rfl rfl ?_)
            rcases Bool.eq_false_or_eq_true ((pl == pl')) with hg1_40 | hg1_40
            · refine S.g_yes rfl rfl rfl (hg1_40) (S.q (q_field Try.fo34_6 rfl) rfl rfl ?_)
              refine S.g_yes rfl rfl rfl (hg1_40) (S.q (q_load Try.at32 rfl rfl) rfl rfl ?_)
              refine S.g_yes rfl rfl rfl (hg1_40) (S.q (q_field Try.fo34_6 rfl) rfl rfl ?_)
              refine S.g_yes rfl rfl rfl (hg1_40) (S.q (q_load Try.at32 rfl rfl) rfl rfl ?_)
              refine S.g_yes rfl rfl rfl (hg1_40) (S.callP Try.en16 (vs := [_, _]) ⟨rfl, rfl, trivial⟩ (fun w hs => Same_P x y la lb w (HasOld.slAt inferInstance hs ha) (HasOld.slAt inferInstance hs hb) ra rb) rfl ?_)
              refine S.g_op rfl (S.q (q_pickT rfl (hg1_40) rfl) rfl rfl ?_)
              refine S.g_op rfl (S.q (q_assign rfl) rfl rfl ?_)
              first | with_reducible refine S.g_nilK ?_ | refine S.g_nil ?_
              refine hK2 _ _ ?_
              refine S.ret ?_
              with_reducible repeat (first | refine S.then_n ?_ | refine S.then_x ?_ | refine S.then_r ?_ | refine S.inBlock_n ?_ | refine S.inBlock_r ?_ | refine S.inBlock_x rfl ?_ | refine S.noGoto_r ?_ | refine S.noGoto_n ?_ | refine S.noGoto_x ?_)
              exact S.fin (rs := [_]) (vs := [_]) Try.results20 (⟨rfl, trivial⟩)  (⟨by simp only [resV, samePk, *]; simp [*], rfl⟩) Sub.ent
            · refine S.g_no rfl rfl rfl (hg1_40) rfl rfl ?_
              refine S.g_no rfl rfl rfl (hg1_40) rfl rfl ?_
              refine S.g_no rfl rfl rfl (hg1_40) rfl rfl ?_
              refine S.g_no rfl rfl rfl (hg1_40) rfl rfl ?_
              refine S.g_no rfl rfl rfl (hg1_40) rfl rfl ?_
              refine S.g_op rfl (S.q (q_pickF rfl (hg1_40) rfl) rfl rfl ?_)
              refine S.g_op rfl (S.q (q_assign rfl) rfl rfl ?_)
              first | with_reducible refine S.g_nilK ?_ | refine S.g_nil ?_
              refine hK2 _ _ ?_
              refine S.ret ?_
              with_reducible repeat (first | refine S.then_n ?_ | refine S.then_x ?_ | refine S.then_r ?_ | refine S.inBlock_n ?_ | refine S.inBlock_r ?_ | refine S.inBlock_x rfl ?_ | refine S.noGoto_r ?_ | refine S.noGoto_n ?_ | refine S.noGoto_x ?_)
              exact S.fin (rs := [_]) (vs := [_]) Try.results20 (⟨rfl, trivial⟩)  (⟨by simp only [resV, samePk, *]; simp [*], rfl⟩) Sub.ent
          · refine S.g_no rfl rfl rfl (decide_eq_false hg1_33) rfl rfl ?_
            refine S.g_no rfl rfl rfl (decide_eq_false hg1_33) rfl rfl ?_
            refine S.g_no rfl rfl rfl (decide_eq_false hg1_33) rfl rfl ?_
            refine S.g_no rfl rfl rfl (decide_eq_false hg1_33) rfl rfl ?_
            refine S.g_no rfl rfl rfl (decide_eq_false hg1_33) rfl rfl ?_
            refine S.g_op rfl (S.q (q_pickF rfl (decide_eq_false hg1_33) rfl) rfl rfl ?_)
            refine S.g_op rfl (S.q (q_move rfl) rfl rfl ?_)
            refine S.g_no rfl rfl rfl (rfl) rfl rfl ?_
            refine S.g_no rfl rfl rfl (rfl) rfl rfl ?_
            refine S.g_no rfl rfl rfl (rfl) rfl rfl ?_
            refine S.g_no rfl rfl rfl (rfl) rfl rfl ?_
            refine S.g_no rfl rfl rfl (rfl) rfl rfl ?_
            refine S.g_op rfl (S.q (q_pickF rfl (rfl) rfl) rfl rfl ?_)
            refine S.g_op rfl (S.q (q_assign rfl) rfl rfl ?_)
            first | with_reducible refine S.g_nilK ?_ | refine S.g_nil ?_
            refine hK2 _ _ ?_
            refine S.ret ?_
            with_reducible repeat (first | refine S.then_n ?_ | refine S.then_x ?_ | refine S.then_r ?_ | refine S.inBlock_n ?_ | refine S.inBlock_r ?_ | refine S.inBlock_x rfl ?_ | refine S.noGoto_r ?_ | refine S.noGoto_n ?_ | refine S.noGoto_x ?_)
            exact S.fin (rs := [_]) (vs := [_]) Try.results20 (⟨rfl, trivial⟩)  (⟨by simp only [resV, samePk, *]; simp [*], rfl⟩) Sub.ent
        · refine S.g_no rfl rfl rfl (decide_eq_false hg1_26) rfl rfl ?_
          refine S.g_no rfl rfl rfl (decide_eq_false hg1_26) rfl rfl ?_
          refine S.g_no rfl rfl rfl (decide_eq_false hg1_26) rfl rfl ?_
          refine S.g_no rfl rfl rfl (decide_eq_false hg1_26) rfl rfl ?_
          refine S.g_no rfl rfl rfl (decide_eq_false hg1_26) rfl rfl ?_
          refine S.g_op rfl (S.q (q_pickF rfl (decide_eq_false hg1_26) rfl) rfl rfl ?_)
          refine S.g_op rfl (S.q (q_move rfl) rfl rfl ?_)
          refine S.g_no rfl rfl rfl (rfl) rfl rfl ?_
          refine S.g_no rfl rfl rfl (rfl) rfl rfl ?_
          refine S.g_no rfl rfl rfl (rfl) rfl rfl ?_
          refine S.g_no rfl rfl rfl (rfl) rfl rfl ?_
          refine S.g_no rfl rfl rfl (rfl) rfl rfl ?_
          refine S.g_op rfl (S.q (q_pickF rfl (rfl) rfl) rfl rfl ?_)
          refine S.g_op rfl (S.q (q_move rfl) rfl rfl ?_)
          refine S.g_no rfl rfl rfl (rfl) rfl rfl ?_
          refine S.g_no rfl rfl rfl (rfl) rfl rfl ?_
          refine S.g_no rfl rfl rfl (rfl) rfl rfl ?_
          refine S.g_no rfl rfl rfl (rfl) rfl rfl ?_
          refine S.g_no rfl rfl rfl (rfl) rfl rfl ?_
          refine S.g_op rfl (S.q (q_pickF rfl (rfl) rfl) rfl rfl ?_)
          refine S.g_op rfl (S.q (q_assign rfl) rfl rfl ?_)
          first | with_reducible refine S.g_nilK ?_ | refine S.g_nil ?_
          refine hK2 _ _ ?_
          refine S.ret ?_
          with_reducible repeat (first | refine S.then_n ?_ | refine S.then_x ?_ | refine S.then_r ?_ | refine S.inBlock_n ?_ | refine S.inBlock_r ?_ | refine S.inBlock_x rfl ?_ | refine S.noGoto_r ?_ | refine S.noGoto_n ?_ | refine S.noGoto_x ?_)
          exact S.fin (rs := [_]) (vs := [_]) Try.results20 (⟨rfl, trivial⟩)  (⟨by simp only [resV, samePk, *]; simp [*], rfl⟩) Sub.ent
      · refine S.g_no rfl rfl rfl (decide_eq_false hg1_19) rfl rfl ?_
        refine S.g_no rfl rfl rfl (decide_eq_false hg1_19) rfl rfl ?_
        refine S.g_no rfl rfl rfl (decide_eq_false hg1_19) rfl rfl ?_
        refine S.g_no rfl rfl rfl (decide_eq_false hg1_19) rfl rfl ?_
        refine S.g_no rfl rfl rfl (decide_eq_false hg1_19) rfl rfl ?_
        refine S.g_op rfl (S.q (q_pickF rfl (decide_eq_false hg1_19) rfl) rfl rfl ?_)
        refine S.g_op rfl (S.q (q_move rfl) rfl rfl ?_)
        refine S.g_no rfl rfl rfl (rfl) rfl rfl ?_
        refine S.g_no rfl rfl rfl (rfl) rfl rfl ?_
        refine S.g_no rfl rfl rfl (rfl) rfl rfl ?_
        refine S.g_no rfl rfl rfl (rfl) rfl rfl ?_
        refine S.g_no rfl rfl rfl (rfl) rfl rfl ?_
        refine S.g_op rfl (S.q (q_pickF rfl (rfl) rfl) rfl rfl ?_)
        refine S.g_op rfl (S.q (q_move rfl) rfl rfl ?_)
        refine S.g_no rfl rfl rfl (rfl) rfl rfl ?_
        refine S.g_no rfl rfl rfl (rfl) rfl rfl ?_
        refine S.g_no rfl rfl rfl (rfl) rfl rfl ?_
        refine S.g_no rfl rfl rfl (rfl) rfl rfl ?_
        refine S.g_no rfl rfl rfl (rfl) rfl rfl ?_
        refine S.g_op rfl (S.q (q_pickF rfl (rfl) rfl) rfl rfl ?_)
        refine S.g_op rfl (S.q (q_move rfl) rfl rfl ?_)
        refine S.g_no rfl rfl rfl (rfl) rfl rfl ?_
        refine S.g_no rfl rfl rfl (rfl) rfl rfl ?_
        refine S.g_no rfl rfl rfl (rfl) rfl rfl ?_
        refine S.g_no rfl rfl rfl (rfl) rfl rfl ?_
        refine S.g_no rfl rfl rfl (rfl) rfl rfl ?_
        refine S.g_op rfl (S.q (q_pickF rfl (rfl) rfl) rfl rfl ?_)
        refine S.g_op rfl (S.q (q_assign rfl) rfl rfl ?_)
        first | with_reducible refine S.g_nilK ?_ | refine S.g_nil ?_
        refine hK2 _ _ ?_
        refine S.ret ?_
        with_reducible repeat (first | refine S.then_n ?_ | refine S.then_x ?_ | refine S.then_r ?_ | refine S.inBlock_n ?_ | refine S.inBlock_r ?_ | refine S.inBlock_x rfl ?_ | refine S.noGoto_r ?_ | refine S.noGoto_n ?_ | refine S.noGoto_x ?_)
        exact S.fin (rs := [_]) (vs := [_]) Try.results20 (⟨rfl, trivial⟩)  (⟨by simp only [resV, samePk, *]; simp [*], rfl⟩) Sub.ent
    · refine S.g_no rfl rfl rfl (decide_eq_false hg1_12) rfl rfl ?_
      refine S.g_no rfl rfl rfl (decide_eq_false hg1_12) rfl rfl ?_
      refine S.g_no rfl rfl rfl (decide_eq_false hg1_12) rfl rfl ?_
      refine S.g_no rfl rfl rfl (decide_eq_false hg1_12) rfl rfl ?_
      refine S.g_no rfl rfl rfl (decide_eq_false hg1_12) rfl rfl ?_
      refine S.g_op rfl (S.q (q_pickF rfl (decide_eq_false hg1_12) rfl) rfl rfl ?_)
      refine S.g_op rfl (S.q (q_move rfl) rfl rfl ?_)
      refine S.g_no rfl rfl rfl (rfl) rfl rfl ?_
      refine S.g_no rfl rfl rfl (rfl) rfl rfl ?_
      refine S.g_no rfl rfl rfl (rfl) rfl rfl ?_
      refine S.g_no rfl rfl rfl (rfl) rfl rfl ?_
      refine S.g_no rfl rfl rfl (rfl) rfl rfl ?_
      refine S.g_op rfl (S.q (q_pickF rfl (rfl) rfl) rfl rfl ?_)
      refine S.g_op rfl (S.q (q_move rfl) rfl rfl ?_)
      refine S.g_no rfl rfl rfl (rfl) rfl rfl ?_
      refine S.g_no rfl rfl rfl (rfl) rfl rfl ?_
      refine S.g_no rfl rfl rfl (rfl) rfl rfl ?_
      refine S.g_no rfl rfl rfl (rfl) rfl rfl ?_
      refine S.g_no rfl rfl rfl (rfl) rfl rfl ?_
      refine S.g_op rfl (S.q (q_pickF rfl (rfl) rfl) rfl rfl ?_)
      refine S.g_op rfl (S.q (q_move rfl) rfl rfl ?_)
      refine S.g_no rfl rfl rfl (rfl) rfl rfl ?_
      refine S.g_no rfl rfl rfl (rfl) rfl rfl ?_
      refine S.g_no rfl rfl rfl (rfl) rfl rfl ?_
      refine S.g_no rfl rfl rfl (rfl) rfl rfl ?_
      refine S.g_no rfl rfl rfl (rfl) rfl rfl ?_
      refine S.g_op rfl (S.q (q_pickF rfl (rfl) rfl) rfl rfl ?_)
      refine S.g_op rfl (S.q (q_move rfl) rfl rfl ?_)
      refine S.g_no rfl rfl rfl (rfl) rfl rfl ?_
      refine S.g_no rfl rfl rfl (rfl) rfl rfl ?_
      refine S.g_no rfl rfl rfl (rfl) rfl rfl ?_
      refine S.g_no rfl rfl rfl (rfl) rfl rfl ?_
      refine S.g_no rfl rfl rfl (rfl) rfl rfl ?_
      refine S.g_op rfl (S.q (q_pickF rfl (rfl) rfl) rfl rfl ?_)
      refine S.g_op rfl (S.q (q_assign rfl) rfl rfl ?_)
      first | with_reducible refine S.g_nilK ?_ | refine S.g_nil ?_
      refine hK2 _ _ ?_
      refine S.ret ?_
      with_reducible repeat (first | refine S.then_n ?_ | refine S.then_x ?_ | refine S.then_r ?_ | refine S.inBlock_n ?_ | refine S.inBlock_r ?_ | refine S.inBlock_x rfl ?_ | refine S.noGoto_r ?_ | refine S.noGoto_n ?_ | refine S.noGoto_x ?_)
      exact S.fin (rs := [_]) (vs := [_]) Try.results20 (⟨rfl, trivial⟩)  (⟨by simp only [resV, samePk, *]; simp [*], rfl⟩) Sub.ent
  · refine S.g_no rfl rfl rfl (decide_eq_false hg1_5) rfl rfl ?_
    refine S.g_no rfl rfl rfl (decide_eq_false hg1_5) rfl rfl ?_
    refine S.g_no rfl rfl rfl (decide_eq_false hg1_5) rfl rfl ?_
    refine S.g_no rfl rfl rfl (decide_eq_false hg1_5) rfl rfl ?_
    refine S.g_no rfl rfl rfl (decide_eq_false hg1_5) rfl rfl ?_
    refine S.g_op rfl (S.q (q_pickF rfl (decide_eq_false hg1_5) rfl) rfl rfl ?_)
    refine S.g_op rfl (S.q (q_move rfl) rfl rfl ?_)
    refine S.g_no rfl rfl rfl (rfl) rfl rfl ?_
    refine S.g_no rfl rfl rfl (rfl) rfl rfl ?_
    refine S.g_no rfl rfl rfl (rfl) rfl rfl ?_
    refine S.g_no rfl rfl rfl (rfl) rfl rfl ?_
    refine S.g_no rfl rfl rfl (rfl) rfl rfl ?_
    refine S.g_op rfl (S.q (q_pickF rfl (rfl) rfl) rfl rfl ?_)
    refine S.g_op rfl (S.q (q_move rfl) rfl rfl ?_)
    refine S.g_no rfl rfl rfl (rfl) rfl rfl ?_
    refine S.g_no rfl rfl rfl (rfl) rfl rfl ?_
    refine S.g_no rfl rfl rfl (rfl) rfl rfl ?_
    refine S.g_no rfl rfl rfl (rfl) rfl rfl ?_
    refine S.g_no rfl rfl rfl (rfl) rfl rfl ?_
    refine S.g_op rfl (S.q (q_pickF rfl (rfl) rfl) rfl rfl ?_)
    refine S.g_op rfl (S.q (q_move rfl) rfl rfl ?_)
    refine S.g_no rfl rfl rfl (rfl) rfl rfl ?_
    refine S.g_no rfl rfl rfl (rfl) rfl rfl ?_
    refine S.g_no rfl rfl rfl (rfl) rfl rfl ?_
    refine S.g_no rfl rfl rfl (rfl) rfl rfl ?_
    refine S.g_no rfl rfl rfl (rfl) rfl rfl ?_
    refine S.g_op rfl (S.q (q_pickF rfl (rfl) rfl) rfl rfl ?_)
    refine S.g_op rfl (S.q (q_move rfl) rfl rfl ?_)
    refine S.g_no rfl rfl rfl (rfl) rfl rfl ?_
    refine S.g_no rfl rfl rfl (rfl) rfl rfl ?_
    refine S.g_no rfl rfl rfl (rfl) rfl rfl ?_
    refine S.g_no rfl rfl rfl (rfl) rfl rfl ?_
    refine S.g_no rfl rfl rfl (rfl) rfl rfl ?_
    refine S.g_op rfl (S.q (q_pickF rfl (rfl) rfl) rfl rfl ?_)
    refine S.g_op rfl (S.q (q_move rfl) rfl rfl ?_)
    refine S.g_no rfl rfl rfl (rfl) rfl rfl ?_
    refine S.g_no rfl rfl rfl (rfl) rfl rfl ?_
    refine S.g_no rfl rfl rfl (rfl) rfl rfl ?_
    refine S.g_no rfl rfl rfl (rfl) rfl rfl ?_
    refine S.g_no rfl rfl rfl (rfl) rfl rfl ?_
    refine S.g_op rfl (S.q (q_pickF rfl (rfl) rfl) rfl rfl ?_)
    refine S.g_op rfl (S.q (q_assign rfl) rfl rfl ?_)
    first | with_reducible refine S.g_nilK ?_ | refine S.g_nil ?_
    refine hK2 _ _ ?_
    refine S.ret ?_
    with_reducible repeat (first | refine S.then_n ?_ | refine S.then_x ?_ | refine S.then_r ?_ | refine S.inBlock_n ?_ | refine S.inBlock_r ?_ | refine S.inBlock_x rfl ?_ | refine S.noGoto_r ?_ | refine S.noGoto_n ?_ | refine S.noGoto_x ?_)
    exact S.fin (rs := [_]) (vs := [_]) Try.results20 (⟨rfl, trivial⟩)  (⟨by simp only [resV, samePk, *]; simp [*], rfl⟩) Sub.ent
theorem few_S (n e l s a : Int) (pl : Bool) (dv : SV) (ld : List Int) (R : Assn) (hR : ∀ Γ w, Sat w (R :: Γ) → BytesAt w dv.v ld) (hd : dv.n = ld.length) (hc : dv.n ≤ dv.c) (hm : ld.length ≤ 9223372036854775807) :
    Spec Try.prog 22 [.agg (pkC n e l s a pl dv).toArray] [R] fun Γ v Θ => ∃ u : SV, v = .agg (pkC n e l s a pl u).toArray ∧ u.n = min ld.length 60 ∧ Θ = obytes u (ld.take (min ld.length 60)) :: R :: Γ := by
  refine Spec.of_body Try.func22 rfl Try.ntmps22 rfl ?_
  intro w0 Γ
  show S _ w0 [(0, .agg (pkC n e l s a pl dv).toArray)] (R :: Γ) _
  refine S.seq fun K1 hK1 => ?_
  refine S.region rfl ?_
  refine S.op (S.box (cs := [_, _, _, _, _, _, _]) rfl rfl rfl ?_)
  intro b1
  refine S.op (S.alloc Try.z34 rfl ?_)
  intro b2
  first | with_reducible refine S.nilK ?_ | refine S.nil ?_
  refine hK1 _ _ ?_
  refine S.seq fun K2 hK2 => ?_
  refine S.region rfl ?_
  refine S.op (S.buildSlice0 Try.underlying32 Try.inf5 rfl ?_)
  intro b3 hb3
  refine S.op (S.q (q_field Try.fo34_6 rfl) rfl rfl ?_)
  refine S.op (S.q (q_load Try.at32 rfl rfl) rfl rfl ?_)
  refine S.op (S.q (q_field Try.fo34_6 rfl) rfl rfl ?_)
  refine S.op (S.q (q_load Try.at32 rfl rfl) rfl rfl ?_)
  refine S.op (S.q (q_len Try.underlying32 rfl) rfl rfl ?_)
  refine S.op (S.q (q_min (((min ld.length 60 : Nat) : Int)) rfl rfl (by omega)) rfl rfl ?_)
  refine S.op (S.q (q_sliceTo (min ld.length 60) Try.el32 rfl rfl rfl (by omega)) rfl rfl ?_)
  refine S.op (S.appendOw (s := b3) (min ld.length 60) (bcells (ld.take (min ld.length 60))) Try.underlying32 Try.inf5 rfl rfl rfl (fun w hs => take_at hR hs _ (Nat.min_le_left _ _)) (by first | rfl | exact allOne_bcells _) (⟨by omega, by omega⟩) rfl ?_)
  intro u hu
  rw [List.nil_append]
  have hun : u.n = min ld.length 60 := by omega
  refine S.op (S.q (q_field Try.fo34_6 rfl) rfl rfl ?_)
  refine S.op (S.store (cs' := [_, _, _, _, _, _, _]) Try.at32 rfl rfl rfl rfl rfl ?_)
  first | with_reducible refine S.nilK ?_ | refine S.nil ?_
  refine hK2 _ _ ?_
  refine S.seq fun K3 hK3 => ?_
  refine S.region rfl ?_
  refine S.op (S.q (q_loadS [_, _, _, _, _, _, _] Try.ag34 rfl rfl ⟨rfl, rfl, rfl, rfl, rfl, rfl, rfl, trivial⟩) rfl rfl ?_)
  refine S.op (S.storeS (cs' := [_, _, _, _, _, _, _]) Try.ag34 rfl rfl rfl rfl rfl rfl ?_)
  first | with_reducible refine S.nilK ?_ | refine S.nil ?_
  refine hK3 _ _ ?_
  refine S.ret ?_
  with_reducible repeat (first | refine S.then_n ?_ | refine S.then_x ?_ | refine S.then_r ?_ | refine S.inBlock_n ?_ | refine S.inBlock_r ?_ | refine S.inBlock_x rfl ?_ | refine S.noGoto_r ?_ | refine S.noGoto_n ?_ | refine S.noGoto_x ?_)
  exact S.fin (rs := [_]) (vs := [_]) Try.results22 (⟨⟨_, _, rfl, lod_agg [_, _, _, _, _, _, _] Try.ag34 rfl ⟨rfl, rfl, rfl, rfl, rfl, rfl, rfl, trivial⟩⟩, trivial⟩)  (⟨u, rfl, hun, rfl⟩) Sub.ent
end Go.Proofs.Ytdlddggjjibeaaa
