/- bytes.Clone; whether two slices of bytes are the same. -/
import Derived.Test.YtdlddggjjibeaaaRows
import Derived.Test.YtdlddggjjibeaaaOwn
import Derived.WalkSpells
namespace Go.Proofs.Ytdlddggjjibeaaa
open Go.RowKit
def bcells (l : List Int) : List Value := l.map (Value.int .u8)
theorem bcells_length (l : List Int) : (bcells l).length = l.length * 1 := by simp [bcells]
theorem bcells_one (l : List Int) : ∀ u ∈ bcells l, u.oneCell' = true := ints_oneCell .u8 l
theorem bcells_get (l : List Int) (i : Nat) (h : i < l.length) : (bcells l)[i]? = some (.int .u8 (l.getD i 0)) := by simp [bcells, List.getD, h]
/-- A value of bytes. -/
def BytesAt (w : World) (v : Value) (l : List Int) : Prop := SlAt w v l.length 1 (bcells l)
/-- New bytes of the call's own. -/
def NewBytes (w : World) (l : List Int) (w' : World) (d : Value) : Prop :=
  ∃ g, Own w' 5 1 d l.length (bcells l) g ∧ Below w.heap.size w w' ∧ ∀ b, g = some b → w.heap.size ≤ b
def CloneOut (w : World) (l : List Int) (e : Ending) (w' : World) : Prop := ∃ d, e = .returned d ∧ NewBytes w l w' d
theorem Try.info5 : (Try.prog.info? 5).map (fun i => (i.zero, i.size, i.bytes)) = some (some (.int .u8 0), 1, 1) := by kernel_rfl
theorem SlAt.cases' {w : World} {v : Value} {n sz : Nat} {xs : List Value} (h : SlAt w v n sz xs) : (v = .slice none 0 0 ∧ n = 0 ∧ xs = []) ∨ ∃ a c, v = .slice (some a) n c ∧ n ≤ c := by
  obtain ⟨h0, ao, c, h1, h2, h3, h4, h5⟩ := h
  cases ao with
  | none =>
    obtain ⟨rfl, rfl⟩ := h4 rfl
    exact .inl ⟨h1, rfl, List.eq_nil_of_length_eq_zero (by simpa using h0)⟩
  | some a => exact .inr ⟨a, c, h1, h2⟩
theorem own_form {w : World} {e : TypeId} {sz : Nat} {v : Value} {n : Nat} {xs : List Value} {g : Option Nat} (h : Own w e sz v n xs g) : ∃ ao c, v = .slice ao n c := by
  obtain ⟨_, ao, c, h1, _⟩ := h.sl
  exact ⟨ao, c, h1⟩
set_option maxHeartbeats 400000 in
theorem Clone_any (v : Value) (l : List Int) (w : World) (h : BytesAt w v l) (hl : l.length ≤ 140737488355328) :
    Calls Try.prog 29 #[v] w (CloneOut w l) := by
  obtain ⟨i0, hi, hz0, hz1, hz2⟩ := info_parts Try.info5
  have HS := Lib.hid h
  have q22 : ∀ (w : World) (a : Option Addr) (n c n' c' : Nat), (binOp .eql 32 (.slice a n c) (.slice none n' c')).run Try.prog w = .ok (.bool a.isNone) w := fun w a n c n' c' => Lib.run_eql_slice_nil w _ _ a n c n' c' Try.underlying32
  rcases SlAt.cases' h with ⟨rfl, hn, hx⟩ | ⟨a, c, rfl, hlc⟩
  · have hl0 : l = [] := List.eq_nil_of_length_eq_zero hn
    subst hl0
    clear h hx hn
    go_enter Try.func29, Try.ntmps29
    go_wp2
    go_ret
    exact ⟨_, rfl, none, Own.nil _ _ _, Below.refl _ _, fun b hb => by cases hb⟩
  · clear h
    have hm1 : 0 + l.length ≤ maxLen := by unfold maxLen; omega
    have hm2 : (0 + l.length) * 1 ≤ 140737488355328 := by omega
    go_enter Try.func29, Try.ntmps29
    go_wp2_with (at_builtin; go_must (
      refine wpList_append_Own rfl _ _ 32 rfl 5 i0 _ 1 1 Try.underlying32 hi hz0 hz1 hz2 rfl _ 0 [] _ (Own.empty (hx_new rfl)) rfl _ l.length (bcells l) rfl (HS.out.alloc _) (bcells_one _) hm1 hm2 ?_
      intro d w1 g own1 keep1 hg))
    have OW := Lib.hid own1
    have KP := Lib.hid keep1
    have HG := Lib.hid hg
    clear own1 keep1 hg
    go_ret
    refine ⟨d, rfl, g, by have := OW.out; rwa [Nat.zero_add, List.nil_append] at this, ?_, ?_⟩
    · exact (((Below.refl _ _).alloc (Nat.le_refl _) _).trans (KP.out.below (B := w.heap.size) (by simp) (fun k hk => by cases hk; exact Nat.le_refl _)))
    · intro b hb
      rcases HG.out with h | h
      · rw [h] at hb; cases hb; exact Nat.le_refl _
      · rw [h] at hb; cases hb; simp
end Go.Proofs.Ytdlddggjjibeaaa
