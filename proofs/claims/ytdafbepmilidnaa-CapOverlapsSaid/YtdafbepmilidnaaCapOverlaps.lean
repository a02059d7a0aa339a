/- The law CapOverlaps returns true at any stretches and any one more; every input is spoken of. -/
import Derived.Test.YtdafbepmilidnaaLaws
import Derived.Test.YtdafbepmilidnaaOver2
import Derived.Test.YtdafbepmilidnaaOpen
namespace Go.Proofs.Ytdafbepmilidnaa
open Go.ChangeShapes Go.WideShapes Go.ChangeAt Go.RowKit
set_option linter.unusedSimpArgs false
theorem Try.info24 : (Try.prog.info? 24).map (fun i => (i.zero, i.size, i.bytes)) = some (some (.agg #[.int .u32 0, .int .u32 0]), 2, 8) := by kernel_rfl
/-- What is known behind the examples: the box of x; nothing that was there has changed. -/
structure Held (w : World) (x0 x1 : Int) (W : World) : Prop where
  bel : Below w.heap.size w W
  lt : w.heap.size < W.heap.size
  c0 : W.cell? ⟨w.heap.size, 0, none⟩ = some (.int .u32 x0)
  c1 : W.cell? ⟨w.heap.size, 1, none⟩ = some (.int .u32 x1)
theorem Held.below {w W W' : World} {x0 x1 : Int} (h : Held w x0 x1 W) (hb : Below W.heap.size W W') : Held w x0 x1 W' := by
  obtain ⟨h1, h2, h3, h4⟩ := h
  refine ⟨h1.trans (hb.mono (by omega)), by have := hb.size; omega, ?_, ?_⟩
  · exact (hb.cell (p := ⟨w.heap.size, 0, none⟩) h2).trans h3
  · exact (hb.cell (p := ⟨w.heap.size, 1, none⟩) h2).trans h4
theorem Held.drew {w W : World} {x0 x1 : Int} (h : Held w x0 x1 W) : Held w x0 x1 W.drew := ⟨h.bel.drew, h.lt, h.c0, h.c1⟩
theorem keep2 {w W W' : World} {v0 v1 : Value} (h : Below W.heap.size W W') (hlt : w.heap.size < W.heap.size) (h0 : W.cell? ⟨w.heap.size, 0, none⟩ = some v0) (h1 : W.cell? ⟨w.heap.size, 1, none⟩ = some v1) : W'.cell? ⟨w.heap.size, 0, none⟩ = some v0 ∧ W'.cell? ⟨w.heap.size, 1, none⟩ = some v1 :=
  ⟨(h.cell (p := ⟨w.heap.size, 0, none⟩) hlt).trans h0, (h.cell (p := ⟨w.heap.size, 1, none⟩) hlt).trans h1⟩
theorem two_pos : 0 < 2 := by decide
theorem one_len : 1 ≤ maxLen := by decide
theorem inTick_snoc {l : List (Int × Int)} {x : Int × Int} (h : InTick l) (hx : InTick [x]) : InTick (l ++ [x]) := by
  intro y hy
  rcases List.mem_append.1 hy with hy | hy
  · exact h y hy
  · exact hx y hy
set_option maxHeartbeats 2000000 in
theorem CapOverlaps_nil  (x0 x1 : Int) (hx : InTick [(x0, x1)]) (w : World)  :
    Calls Try.prog 3 #[.slice none 0 0, .agg #[.int .u32 x0, .int .u32 x1]] w fun e w' => e = .returned (.bool true) ∧ Below w.heap.size w w' := by
  obtain ⟨i0, hi, hz0, hz1, hz2⟩ := info_parts Try.info24
  have HX := Lib.hid hx
  have HL : Hid (InTick ([] : List (Int × Int))) := fun x hx => by simp at hx
  have HV : Hid (SlAt w (.slice none 0 0) 0 2 (pcells ([] : List (Int × Int)))) := ⟨rfl, _, _, rfl, Nat.zero_le _, (Nat.zero_le _), (fun _ => ⟨rfl, rfl⟩), fun a ha h0 => by omega⟩
  have hm1 : 0 + 0 ≤ maxLen := by unfold maxLen; omega
  have hm2 : (0 + 0) * 8 ≤ 140737488355328 := by omega
  have hm3 : 0 + 1 ≤ maxLen := by unfold maxLen; omega
  have hm4 : (0 + 1) * 8 ≤ 140737488355328 := by omega
  clear hx
  go_enter Try.func3, Try.ntmps3
  go_wp2_with fail
  refine (awake_any _).mono ?_; rintro e w1 ⟨rfl, hb⟩; have HB0 := Lib.hid hb; clear hb
  have hH : Held w x0 x1 w1 := by
    have hb := HB0.out
    have h0 : Held w x0 x1 (w.alloc (.cells #[.int .u32 x0, .int .u32 x1] 24)) := ⟨(Below.refl _ _).alloc (Nat.le_refl _) _, by simp, by simp, by simp⟩
    exact h0.below hb
  have HB := Lib.hid hH
  clear HB0 hH
  go_wp2_with (at_builtin; go_must (
        refine wpList_append_src rfl _ _ 22 rfl w1.heap.size 24 i0 _ 2 8 Try.underlying22 hi hz0 hz1 hz2 rfl two_pos _ 0 [] (own_empty ?_ ?_) rfl _ 0 (pcells ([] : List (Int × Int))) rfl ?_ (pcells_one _) hm1 hm2 ?_ ?_
        · go_size
        · repeat' (first | exact hx_new (by simp) | apply hx_alloc | apply hx_drew)
        · exact HV.out.below (HB.out.bel.trans (Below.mono (B := w1.heap.size) (by first | exact (Below.refl _ _).alloc (Nat.le_refl _) _ | exact ((Below.refl _ _).alloc (Nat.le_refl _) _).drew | exact (((Below.refl _ _).alloc (Nat.le_refl _) _).alloc (by go_size) _).drew | exact ((Below.refl _ _).alloc (Nat.le_refl _) _).alloc (by go_size) _) (by have := HB.out.lt; omega)))
        · go_size
        intro va w2 own1 grow1 _
        try simp only [Nat.zero_add, List.nil_append] at own1
        have bel1 : Below w1.heap.size w1 w2 := Below.grown (by first | exact (Below.refl _ _).alloc (Nat.le_refl _) _ | exact ((Below.refl _ _).alloc (Nat.le_refl _) _).drew | exact (((Below.refl _ _).alloc (Nat.le_refl _) _).alloc (by go_size) _).drew | exact ((Below.refl _ _).alloc (Nat.le_refl _) _).alloc (by go_size) _) grow1 (by go_size) (fun k hk => by simp [Value.ownBlock] at hk; omega)))
  have H3 := SlAt.ofOwn own1
  have hH2 := Lib.hid (HB.out.below bel1)
  clear own1 grow1 HB
  refine (Overlap_val _ _ _ _ H3 HL.out).mono ?_
  rintro e w3 ⟨rfl, hb3⟩
  have hH3 := hH2.out.below hb3
  clear H3 hb3 hH2 bel1
  have HB := Lib.hid hH3
  obtain ⟨_, _, hc0, hc1⟩ := hH3
  have hlt3 := HB.out.lt
  go_wp2_with fail
  go_cut [6] (fun s6 W => s6 = .int .i64 (overlapOf (([] : List (Int × Int)) ++ [(x0, x1)])) ∧ Held w x0 x1 W)
  case first =>
   go_region_held3 (fun W => W.cell? ⟨w.heap.size, 0, none⟩ = some (.int .u32 x0) ∧ W.cell? ⟨w.heap.size, 1, none⟩ = some (.int .u32 x1)) (first | go_keep | exact keep2 bel6.out hlt3 hc0 hc1 | exact keep2 bel3 hlt3 hc0 hc1 | exact keep2 bel2 hlt3 hc0 hc1)
    ((first
      | (have _ := own3; go_simp; go_at_call 11; go_must (refine (Overlap_val _ _ (([] : List (Int × Int)) ++ [(x0, x1)]) _ ((pcells_append _ _).symm ▸ SlAt.ofOwn own3) (inTick_snoc HL.out HX.out)).mono ?_; rintro e w6 ⟨rfl, hb6⟩; have bel6 := Lib.hid (bel3.trans (hb6.mono bel3.size)); clear hb6))
      | (have _ := own2; go_must (
        refine step_append_src rfl _ _ 22 rfl w3.heap.size 24 i0 _ 2 8 Try.underlying22 hi hz0 hz1 hz2 rfl two_pos vb 0 (pcells ([] : List (Int × Int))) ?_ rfl _ 1 (pcells [(x0, x1)]) rfl ?_ (pcells_one _) hm3 hm4 ?_ ?_
        · first | exact own2 | exact own2.alloc _
        · first
          | (refine SlAt.block (e := 24) (fr := (0, 0)) #[.int .u32 x0, .int .u32 x1] _ rfl (hx_grown grow2 ?_ ?_) rfl one_len
             · repeat' (first | exact hx_new (by simp) | apply hx_alloc | apply hx_drew)
             · simp [Value.ownBlock])
          | (refine SlAt.block (e := 24) (fr := (0, 0)) #[.int .u32 x0, .int .u32 x1] _ rfl ?_ rfl one_len
             repeat' (first | exact hx_new (by simp) | apply hx_alloc | apply hx_drew))
        · have := bel2.size
          simp
          omega
        intro vc w5 own3 grow3 _
        have bel3 : Below w3.heap.size w3 w5 := Below.grown (by first | exact bel2 | exact bel2.alloc bel2.size _) grow3 (by have := bel2.size; simp; omega) (fun k hk => (own2.lt k hk).1)))
      | (
        refine step_append_src rfl _ _ 22 rfl w3.heap.size 24 i0 _ 2 8 Try.underlying22 hi hz0 hz1 hz2 rfl two_pos _ 0 [] (own_empty ?_ ?_) rfl _ 0 (pcells ([] : List (Int × Int))) rfl ?_ (pcells_one _) hm1 hm2 ?_ ?_
        · go_size
        · repeat' (first | exact hx_new (by simp) | apply hx_alloc | apply hx_drew)
        · exact HV.out.below (HB.out.bel.trans (Below.mono (B := w3.heap.size) (by first | exact (Below.refl _ _).alloc (Nat.le_refl _) _ | exact ((Below.refl _ _).alloc (Nat.le_refl _) _).drew | exact (((Below.refl _ _).alloc (Nat.le_refl _) _).alloc (by go_size) _).drew | exact ((Below.refl _ _).alloc (Nat.le_refl _) _).alloc (by go_size) _) (by have := HB.out.lt; omega)))
        · go_size
        intro vb w4 own2 grow2 _
        try simp only [Nat.zero_add, List.nil_append] at own2
        have bel2 : Below w3.heap.size w3 w4 := Below.grown (by first | exact (Below.refl _ _).alloc (Nat.le_refl _) _ | exact ((Below.refl _ _).alloc (Nat.le_refl _) _).drew | exact (((Below.refl _ _).alloc (Nat.le_refl _) _).alloc (by go_size) _).drew | exact ((Below.refl _ _).alloc (Nat.le_refl _) _).alloc (by go_size) _) grow2 (by go_size) (fun k hk => by simp [Value.ownBlock] at hk; omega))))
   all_goals
    go_wp2_with fail
    go_meet
    exact ⟨rfl, HB.out.below bel6.out⟩
  case rest =>
    obtain ⟨rfl, hH6⟩ := hcut
    have HB := Lib.hid hH6
    obtain ⟨_, _, hc0, hc1⟩ := hH6
    have hlt3 := HB.out.lt
    go_wp2_with fail
    go_cut [4] (fun s4 W => s4 = .bool true ∧ Held w x0 x1 W)
    case first =>
     refine wp_region_held_drew (S := fun W => W.cell? ⟨w.heap.size, 0, none⟩ = some (.int .u32 x0) ∧ W.cell? ⟨w.heap.size, 1, none⟩ = some (.int .u32 x1)) (by kernel_rfl) (by go_keep) (fun hHeld => ?_)
     refine wpAnyH_take (i := 0) (v := ?_) rfl (by kernel_rfl) (by kernel_rfl) (by kernel_rfl) (fun _ _ _ h => h) (Or.inl ⟨by rfl, ?_⟩) (by assumption) ?_
     rotate_left
     · intro W hSw
       try dsimp only at hSw
       go_simp
       try with_reducible rfl
     try simp only [Act.put, List.setIfInBounds_toArray, List.set_cons_zero, List.set_cons_succ, List.getElem_toArray, List.getElem_cons_zero, List.getElem_cons_succ]
     refine wpAnyH_take (i := 1) (v := ?_) rfl (by kernel_rfl) (by kernel_rfl) (by kernel_rfl) (fun _ _ _ h => h) (Or.inl ⟨by rfl, ?_⟩) (by assumption) ?_
     rotate_left
     · intro W hSw
       try dsimp only at hSw
       go_simp
       try with_reducible rfl
     try simp only [Act.put, List.setIfInBounds_toArray, List.set_cons_zero, List.set_cons_succ, List.getElem_toArray, List.getElem_cons_zero, List.getElem_cons_succ]
     refine wpAnyH_ready (rs := [2]) (by kernel_rfl) (by simp) ?_
     refine AllReadyH.cons rfl (fun Kc hK => ?_) ?_
     · go_simp
       refine (rOverlap_val _ _ ([] : List (Int × Int)) _ (HV.out.below HB.out.bel.drew) HL.out).mono ?_
       rintro e w7 ⟨rfl, hb7⟩
       have belc := HB.out.drew.below hb7
       have HB7 := Lib.hid belc
       clear hb7
       obtain ⟨_, _, hc07, hc17⟩ := belc
       have hlt7 := HB7.out.lt
       try dsimp only
       refine hK.out _ _ (⟨hc07, hc17⟩) (fun hHeld => ?_)
       clear hK Kc
       try simp only [Act.put, List.setIfInBounds_toArray, List.set_cons_zero, List.set_cons_succ, List.getElem_toArray, List.getElem_cons_zero, List.getElem_cons_succ]
       refine wpAnyH_take (i := 3) (v := ?_) rfl (by kernel_rfl) (by kernel_rfl) (by kernel_rfl) (fun _ _ _ h => h) (Or.inl ⟨by rfl, ?_⟩) (by assumption) ?_
       rotate_left
       · intro W hSw
         try dsimp only at hSw
         go_simp
         try with_reducible rfl
       try simp only [Act.put, List.setIfInBounds_toArray, List.set_cons_zero, List.set_cons_succ, List.getElem_toArray, List.getElem_cons_zero, List.getElem_cons_succ]
       refine wpAnyH_take (i := 4) (v := ?_) rfl (by kernel_rfl) (by kernel_rfl) (by kernel_rfl) (fun _ _ _ h => h) (Or.inl ⟨by rfl, ?_⟩) (by assumption) ?_
       rotate_left
       · intro W hSw
         try dsimp only at hSw
         go_simp
         try with_reducible rfl
       try simp only [Act.put, List.setIfInBounds_toArray, List.set_cons_zero, List.set_cons_succ, List.getElem_toArray, List.getElem_cons_zero, List.getElem_cons_succ]
       refine wpAnyH_take (i := 5) (v := ?_) rfl (by kernel_rfl) (by kernel_rfl) (by kernel_rfl) (fun _ _ _ h => h) (Or.inl ⟨by rfl, ?_⟩) (by assumption) ?_
       rotate_left
       · intro W hSw
         try dsimp only at hSw
         go_simp
         try with_reducible rfl
       try simp only [Act.put, List.setIfInBounds_toArray, List.set_cons_zero, List.set_cons_succ, List.getElem_toArray, List.getElem_cons_zero, List.getElem_cons_succ]
       refine wpAnyH_take (i := 7) (v := ?_) rfl (by kernel_rfl) (by kernel_rfl) (by kernel_rfl) (fun _ _ _ h => h) (Or.inl ⟨by rfl, ?_⟩) (by assumption) ?_
       rotate_left
       · intro W hSw
         try dsimp only at hSw
         go_simp
         try with_reducible rfl
       try simp only [Act.put, List.setIfInBounds_toArray, List.set_cons_zero, List.set_cons_succ, List.getElem_toArray, List.getElem_cons_zero, List.getElem_cons_succ]
       refine wpAnyH_take (i := 9) (v := ?_) rfl (by kernel_rfl) (by kernel_rfl) (by kernel_rfl) (fun _ _ _ h => h) (Or.inl ⟨by rfl, ?_⟩) (by assumption) ?_
       rotate_left
       · intro W hSw
         try dsimp only at hSw
         go_simp
         try with_reducible rfl
       try simp only [Act.put, List.setIfInBounds_toArray, List.set_cons_zero, List.set_cons_succ, List.getElem_toArray, List.getElem_cons_zero, List.getElem_cons_succ]
       refine wpAnyH_ready (rs := [6, 10]) (by kernel_rfl) (by simp) ?_
       refine AllReadyH.cons rfl (fun Kc hK => ?_) ?_
       · go_simp
         refine hK.out _ _ (by go_keep) (fun hHeld => ?_)
         clear hK Kc
         try simp only [Act.put, List.setIfInBounds_toArray, List.set_cons_zero, List.set_cons_succ, List.getElem_toArray, List.getElem_cons_zero, List.getElem_cons_succ]
         refine wpAnyH_ready (rs := [8, 10]) (by kernel_rfl) (by simp) ?_
         refine AllReadyH.cons rfl (fun Kc hK => ?_) ?_
         · (
        refine step_append_src rfl _ _ 22 rfl w7.heap.size 24 i0 _ 2 8 Try.underlying22 hi hz0 hz1 hz2 rfl two_pos _ 0 [] (own_empty ?_ ?_) rfl _ 0 (pcells ([] : List (Int × Int))) rfl ?_ (pcells_one _) hm1 hm2 ?_ ?_
        · go_size
        · repeat' (first | exact hx_new (by simp) | apply hx_alloc | apply hx_drew)
        · exact HV.out.below (HB7.out.bel.trans (Below.mono (B := w7.heap.size) (by first | exact (Below.refl _ _).alloc (Nat.le_refl _) _ | exact ((Below.refl _ _).alloc (Nat.le_refl _) _).drew | exact (((Below.refl _ _).alloc (Nat.le_refl _) _).alloc (by go_size) _).drew | exact ((Below.refl _ _).alloc (Nat.le_refl _) _).alloc (by go_size) _) (by have := HB7.out.lt; omega)))
        · go_size
        intro vb w4 own2 grow2 _
        try simp only [Nat.zero_add, List.nil_append] at own2
        have bel2 : Below w7.heap.size w7 w4 := Below.grown (by first | exact (Below.refl _ _).alloc (Nat.le_refl _) _ | exact ((Below.refl _ _).alloc (Nat.le_refl _) _).drew | exact (((Below.refl _ _).alloc (Nat.le_refl _) _).alloc (by go_size) _).drew | exact ((Below.refl _ _).alloc (Nat.le_refl _) _).alloc (by go_size) _) grow2 (by go_size) (fun k hk => by simp [Value.ownBlock] at hk; omega))
           refine hK.out _ _ (keep2 bel2 hlt7 hc07 hc17) (fun hHeld => ?_)
           clear hK Kc
           try simp only [Act.put, List.setIfInBounds_toArray, List.set_cons_zero, List.set_cons_succ, List.getElem_toArray, List.getElem_cons_zero, List.getElem_cons_succ]
           refine wpAnyH_ready (rs := [10]) (by kernel_rfl) (by simp) ?_
           refine AllReadyH.cons rfl (fun Kc hK => ?_) ?_
           · go_simp
             refine hK.out _ _ (by go_keep) (fun hHeld => ?_)
             clear hK Kc
             try simp only [Act.put, List.setIfInBounds_toArray, List.set_cons_zero, List.set_cons_succ, List.getElem_toArray, List.getElem_cons_zero, List.getElem_cons_succ]
             refine wpAnyH_ready (rs := [11]) (by kernel_rfl) (by simp) ?_
             refine AllReadyH.cons rfl (fun Kc hK => ?_) ?_
             · (
        refine step_append_src rfl _ _ 22 rfl w7.heap.size 24 i0 _ 2 8 Try.underlying22 hi hz0 hz1 hz2 rfl two_pos vb 0 (pcells ([] : List (Int × Int))) ?_ rfl _ 1 (pcells [(x0, x1)]) rfl ?_ (pcells_one _) hm3 hm4 ?_ ?_
        · first | exact own2 | exact own2.alloc _
        · first
          | (refine SlAt.block (e := 24) (fr := (0, 0)) #[.int .u32 x0, .int .u32 x1] _ rfl (hx_grown grow2 ?_ ?_) rfl one_len
             · repeat' (first | exact hx_new (by simp) | apply hx_alloc | apply hx_drew)
             · simp [Value.ownBlock])
          | (refine SlAt.block (e := 24) (fr := (0, 0)) #[.int .u32 x0, .int .u32 x1] _ rfl ?_ rfl one_len
             repeat' (first | exact hx_new (by simp) | apply hx_alloc | apply hx_drew))
        · have := bel2.size
          simp
          omega
        intro vc w5 own3 grow3 _
        have bel3 : Below w7.heap.size w7 w5 := Below.grown (by first | exact bel2 | exact bel2.alloc bel2.size _) grow3 (by have := bel2.size; simp; omega) (fun k hk => (own2.lt k hk).1))
               refine hK.out _ _ (keep2 bel3 hlt7 hc07 hc17) (fun hHeld => ?_)
               clear hK Kc
               try simp only [Act.put, List.setIfInBounds_toArray, List.set_cons_zero, List.set_cons_succ, List.getElem_toArray, List.getElem_cons_zero, List.getElem_cons_succ]
               refine wpAnyH_ready (rs := [12]) (by kernel_rfl) (by simp) ?_
               refine AllReadyH.cons rfl (fun Kc hK => ?_) ?_
               · go_simp
                 refine (rOverlap_val _ _ (([] : List (Int × Int)) ++ [(x0, x1)]) _ ((pcells_append _ _).symm ▸ SlAt.ofOwn own3) (inTick_snoc HL.out HX.out)).mono ?_
                 rintro e w6 ⟨rfl, hb6⟩
                 have bel6 := Lib.hid (bel3.trans (hb6.mono bel3.size))
                 clear hb6
                 try dsimp only
                 refine hK.out _ _ (keep2 bel6.out hlt7 hc07 hc17) (fun hHeld => ?_)
                 clear hK Kc
                 try simp only [Act.put, List.setIfInBounds_toArray, List.set_cons_zero, List.set_cons_succ, List.getElem_toArray, List.getElem_cons_zero, List.getElem_cons_succ]
                 refine wpAnyH_take (i := 13) (v := ?_) rfl (by kernel_rfl) (by kernel_rfl) (by kernel_rfl) (fun _ _ _ h => h) (Or.inl ⟨by rfl, ?_⟩) (by assumption) ?_
                 rotate_left
                 · intro W hSw
                   try dsimp only at hSw
                   go_simp
                   try with_reducible rfl
                 try simp only [Act.put, List.setIfInBounds_toArray, List.set_cons_zero, List.set_cons_succ, List.getElem_toArray, List.getElem_cons_zero, List.getElem_cons_succ]
                 refine wpAnyH_take (i := 14) (v := ?_) rfl (by kernel_rfl) (by kernel_rfl) (by kernel_rfl) (fun _ _ _ h => h) (Or.inl ⟨by rfl, ?_⟩) (by assumption) ?_
                 rotate_left
                 · intro W hSw
                   try dsimp only at hSw
                   go_simp
                   try with_reducible rfl
                 try simp only [Act.put, List.setIfInBounds_toArray, List.set_cons_zero, List.set_cons_succ, List.getElem_toArray, List.getElem_cons_zero, List.getElem_cons_succ]
                 refine wpAnyH_take (i := 15) (v := ?_) rfl (by kernel_rfl) (by kernel_rfl) (by kernel_rfl) (fun _ _ _ h => h) (Or.inl ⟨by rfl, ?_⟩) (by assumption) ?_
                 rotate_left
                 · intro W hSw
                   try dsimp only at hSw
                   go_simp
                   try with_reducible rfl
                 try simp only [Act.put, List.setIfInBounds_toArray, List.set_cons_zero, List.set_cons_succ, List.getElem_toArray, List.getElem_cons_zero, List.getElem_cons_succ]
                 refine wpAnyH_take (i := 16) (v := ?_) rfl (by kernel_rfl) (by kernel_rfl) (by kernel_rfl) (fun _ _ _ h => h) (Or.inl ⟨by rfl, ?_⟩) (by assumption) ?_
                 rotate_left
                 · intro W hSw
                   try dsimp only at hSw
                   go_simp
                   try with_reducible rfl
                 try simp only [Act.put, List.setIfInBounds_toArray, List.set_cons_zero, List.set_cons_succ, List.getElem_toArray, List.getElem_cons_zero, List.getElem_cons_succ]
                 refine wpAnyH_take (i := 17) (v := ?_) rfl (by kernel_rfl) (by kernel_rfl) (by kernel_rfl) (fun _ _ _ h => h) (Or.inl ⟨by rfl, ?_⟩) (by assumption) ?_
                 rotate_left
                 · intro W hSw
                   try dsimp only at hSw
                   go_simp
                   try with_reducible rfl
                 try simp only [Act.put, List.setIfInBounds_toArray, List.set_cons_zero, List.set_cons_succ, List.getElem_toArray, List.getElem_cons_zero, List.getElem_cons_succ]
                 refine wpAnyH_take (i := 18) (v := ?_) rfl (by kernel_rfl) (by kernel_rfl) (by kernel_rfl) (fun _ _ _ h => h) (Or.inl ⟨by rfl, ?_⟩) (by assumption) ?_
                 rotate_left
                 · intro W hSw
                   try dsimp only at hSw
                   go_simp
                   try with_reducible rfl
                 try simp only [Act.put, List.setIfInBounds_toArray, List.set_cons_zero, List.set_cons_succ, List.getElem_toArray, List.getElem_cons_zero, List.getElem_cons_succ]
                 refine wpAnyH_take (i := 19) (v := ?_) rfl (by kernel_rfl) (by kernel_rfl) (by kernel_rfl) (fun _ _ _ h => h) (Or.inl ⟨by rfl, ?_⟩) (by assumption) ?_
                 rotate_left
                 · intro W hSw
                   try dsimp only at hSw
                   go_simp
                   try with_reducible rfl
                 try simp only [Act.put, List.setIfInBounds_toArray, List.set_cons_zero, List.set_cons_succ, List.getElem_toArray, List.getElem_cons_zero, List.getElem_cons_succ]
                 refine wpAnyH_take (i := 20) (v := undef) rfl (by kernel_rfl) (by kernel_rfl) (by kernel_rfl) (fun _ _ _ h => h) (Or.inr ⟨by rfl, rfl⟩) (by assumption) ?_
                 try simp only [Act.put, List.setIfInBounds_toArray, List.set_cons_zero, List.set_cons_succ, List.getElem_toArray, List.getElem_cons_zero, List.getElem_cons_succ]
                 refine wpAnyH_take (i := 21) (v := undef) rfl (by kernel_rfl) (by kernel_rfl) (by kernel_rfl) (fun _ _ _ h => h) (Or.inr ⟨by rfl, rfl⟩) (by assumption) ?_
                 try simp only [Act.put, List.setIfInBounds_toArray, List.set_cons_zero, List.set_cons_succ, List.getElem_toArray, List.getElem_cons_zero, List.getElem_cons_succ]
                 refine wpAnyH_take (i := 22) (v := undef) rfl (by kernel_rfl) (by kernel_rfl) (by kernel_rfl) (fun _ _ _ h => h) (Or.inr ⟨by rfl, rfl⟩) (by assumption) ?_
                 try simp only [Act.put, List.setIfInBounds_toArray, List.set_cons_zero, List.set_cons_succ, List.getElem_toArray, List.getElem_cons_zero, List.getElem_cons_succ]
                 refine wpAnyH_take (i := 23) (v := ?_) rfl (by kernel_rfl) (by kernel_rfl) (by kernel_rfl) (fun _ _ _ h => h) (Or.inl ⟨by rfl, ?_⟩) (by assumption) ?_
                 rotate_left
                 · intro W hSw
                   try dsimp only at hSw
                   go_simp
                   try with_reducible rfl
                 try simp only [Act.put, List.setIfInBounds_toArray, List.set_cons_zero, List.set_cons_succ, List.getElem_toArray, List.getElem_cons_zero, List.getElem_cons_succ]
                 refine wpAnyH_take (i := 24) (v := ?_) rfl (by kernel_rfl) (by kernel_rfl) (by kernel_rfl) (fun _ _ _ h => h) (Or.inl ⟨by rfl, ?_⟩) (by assumption) ?_
                 rotate_left
                 · intro W hSw
                   try dsimp only at hSw
                   go_simp
                   try with_reducible rfl
                 try simp only [Act.put, List.setIfInBounds_toArray, List.set_cons_zero, List.set_cons_succ, List.getElem_toArray, List.getElem_cons_zero, List.getElem_cons_succ]
                 refine wpAnyH_take (i := 25) (v := ?_) rfl (by kernel_rfl) (by kernel_rfl) (by kernel_rfl) (fun _ _ _ h => h) (Or.inl ⟨by rfl, ?_⟩) (by assumption) ?_
                 rotate_left
                 · intro W hSw
                   try dsimp only at hSw
                   go_simp
                   try with_reducible rfl
                 try simp only [Act.put, List.setIfInBounds_toArray, List.set_cons_zero, List.set_cons_succ, List.getElem_toArray, List.getElem_cons_zero, List.getElem_cons_succ]
                 refine wpAnyH_done (by kernel_rfl) ?_ _
                 go_wp2_with fail
                 go_meet
                 exact ⟨rfl, HB7.out.below bel6.out⟩
               exact AllReadyH.nil
             exact AllReadyH.nil
           exact AllReadyH.nil
         refine AllReadyH.cons rfl (fun Kc hK => ?_) ?_
         · go_simp
           refine hK.out _ _ (by go_keep) (fun hHeld => ?_)
           clear hK Kc
           try simp only [Act.put, List.setIfInBounds_toArray, List.set_cons_zero, List.set_cons_succ, List.getElem_toArray, List.getElem_cons_zero, List.getElem_cons_succ]
           refine wpAnyH_ready (rs := [8]) (by kernel_rfl) (by simp) ?_
           refine AllReadyH.cons rfl (fun Kc hK => ?_) ?_
           · (
        refine step_append_src rfl _ _ 22 rfl w7.heap.size 24 i0 _ 2 8 Try.underlying22 hi hz0 hz1 hz2 rfl two_pos _ 0 [] (own_empty ?_ ?_) rfl _ 0 (pcells ([] : List (Int × Int))) rfl ?_ (pcells_one _) hm1 hm2 ?_ ?_
        · go_size
        · repeat' (first | exact hx_new (by simp) | apply hx_alloc | apply hx_drew)
        · exact HV.out.below (HB7.out.bel.trans (Below.mono (B := w7.heap.size) (by first | exact (Below.refl _ _).alloc (Nat.le_refl _) _ | exact ((Below.refl _ _).alloc (Nat.le_refl _) _).drew | exact (((Below.refl _ _).alloc (Nat.le_refl _) _).alloc (by go_size) _).drew | exact ((Below.refl _ _).alloc (Nat.le_refl _) _).alloc (by go_size) _) (by have := HB7.out.lt; omega)))
        · go_size
        intro vb w4 own2 grow2 _
        try simp only [Nat.zero_add, List.nil_append] at own2
        have bel2 : Below w7.heap.size w7 w4 := Below.grown (by first | exact (Below.refl _ _).alloc (Nat.le_refl _) _ | exact ((Below.refl _ _).alloc (Nat.le_refl _) _).drew | exact (((Below.refl _ _).alloc (Nat.le_refl _) _).alloc (by go_size) _).drew | exact ((Below.refl _ _).alloc (Nat.le_refl _) _).alloc (by go_size) _) grow2 (by go_size) (fun k hk => by simp [Value.ownBlock] at hk; omega))
             refine hK.out _ _ (keep2 bel2 hlt7 hc07 hc17) (fun hHeld => ?_)
             clear hK Kc
             try simp only [Act.put, List.setIfInBounds_toArray, List.set_cons_zero, List.set_cons_succ, List.getElem_toArray, List.getElem_cons_zero, List.getElem_cons_succ]
             refine wpAnyH_ready (rs := [11]) (by kernel_rfl) (by simp) ?_
             refine AllReadyH.cons rfl (fun Kc hK => ?_) ?_
             · (
        refine step_append_src rfl _ _ 22 rfl w7.heap.size 24 i0 _ 2 8 Try.underlying22 hi hz0 hz1 hz2 rfl two_pos vb 0 (pcells ([] : List (Int × Int))) ?_ rfl _ 1 (pcells [(x0, x1)]) rfl ?_ (pcells_one _) hm3 hm4 ?_ ?_
        · first | exact own2 | exact own2.alloc _
        · first
          | (refine SlAt.block (e := 24) (fr := (0, 0)) #[.int .u32 x0, .int .u32 x1] _ rfl (hx_grown grow2 ?_ ?_) rfl one_len
             · repeat' (first | exact hx_new (by simp) | apply hx_alloc | apply hx_drew)
             · simp [Value.ownBlock])
          | (refine SlAt.block (e := 24) (fr := (0, 0)) #[.int .u32 x0, .int .u32 x1] _ rfl ?_ rfl one_len
             repeat' (first | exact hx_new (by simp) | apply hx_alloc | apply hx_drew))
        · have := bel2.size
          simp
          omega
        intro vc w5 own3 grow3 _
        have bel3 : Below w7.heap.size w7 w5 := Below.grown (by first | exact bel2 | exact bel2.alloc bel2.size _) grow3 (by have := bel2.size; simp; omega) (fun k hk => (own2.lt k hk).1))
               refine hK.out _ _ (keep2 bel3 hlt7 hc07 hc17) (fun hHeld => ?_)
               clear hK Kc
               try simp only [Act.put, List.setIfInBounds_toArray, List.set_cons_zero, List.set_cons_succ, List.getElem_toArray, List.getElem_cons_zero, List.getElem_cons_succ]
               refine wpAnyH_ready (rs := [12]) (by kernel_rfl) (by simp) ?_
               refine AllReadyH.cons rfl (fun Kc hK => ?_) ?_
               · go_simp
                 refine (rOverlap_val _ _ (([] : List (Int × Int)) ++ [(x0, x1)]) _ ((pcells_append _ _).symm ▸ SlAt.ofOwn own3) (inTick_snoc HL.out HX.out)).mono ?_
                 rintro e w6 ⟨rfl, hb6⟩
                 have bel6 := Lib.hid (bel3.trans (hb6.mono bel3.size))
                 clear hb6
                 try dsimp only
                 refine hK.out _ _ (keep2 bel6.out hlt7 hc07 hc17) (fun hHeld => ?_)
                 clear hK Kc
                 try simp only [Act.put, List.setIfInBounds_toArray, List.set_cons_zero, List.set_cons_succ, List.getElem_toArray, List.getElem_cons_zero, List.getElem_cons_succ]
                 refine wpAnyH_take (i := 13) (v := ?_) rfl (by kernel_rfl) (by kernel_rfl) (by kernel_rfl) (fun _ _ _ h => h) (Or.inl ⟨by rfl, ?_⟩) (by assumption) ?_
                 rotate_left
                 · intro W hSw
                   try dsimp only at hSw
                   go_simp
                   try with_reducible rfl
                 try simp only [Act.put, List.setIfInBounds_toArray, List.set_cons_zero, List.set_cons_succ, List.getElem_toArray, List.getElem_cons_zero, List.getElem_cons_succ]
                 refine wpAnyH_take (i := 14) (v := ?_) rfl (by kernel_rfl) (by kernel_rfl) (by kernel_rfl) (fun _ _ _ h => h) (Or.inl ⟨by rfl, ?_⟩) (by assumption) ?_
                 rotate_left
                 · intro W hSw
                   try dsimp only at hSw
                   go_simp
                   try with_reducible rfl
                 try simp only [Act.put, List.setIfInBounds_toArray, List.set_cons_zero, List.set_cons_succ, List.getElem_toArray, List.getElem_cons_zero, List.getElem_cons_succ]
                 refine wpAnyH_take (i := 15) (v := ?_) rfl (by kernel_rfl) (by kernel_rfl) (by kernel_rfl) (fun _ _ _ h => h) (Or.inl ⟨by rfl, ?_⟩) (by assumption) ?_
                 rotate_left
                 · intro W hSw
                   try dsimp only at hSw
                   go_simp
                   try with_reducible rfl
                 try simp only [Act.put, List.setIfInBounds_toArray, List.set_cons_zero, List.set_cons_succ, List.getElem_toArray, List.getElem_cons_zero, List.getElem_cons_succ]
                 refine wpAnyH_take (i := 16) (v := ?_) rfl (by kernel_rfl) (by kernel_rfl) (by kernel_rfl) (fun _ _ _ h => h) (Or.inl ⟨by rfl, ?_⟩) (by assumption) ?_
                 rotate_left
                 · intro W hSw
                   try dsimp only at hSw
                   go_simp
                   try with_reducible rfl
                 try simp only [Act.put, List.setIfInBounds_toArray, List.set_cons_zero, List.set_cons_succ, List.getElem_toArray, List.getElem_cons_zero, List.getElem_cons_succ]
                 refine wpAnyH_take (i := 17) (v := ?_) rfl (by kernel_rfl) (by kernel_rfl) (by kernel_rfl) (fun _ _ _ h => h) (Or.inl ⟨by rfl, ?_⟩) (by assumption) ?_
                 rotate_left
                 · intro W hSw
                   try dsimp only at hSw
                   go_simp
                   try with_reducible rfl
                 try simp only [Act.put, List.setIfInBounds_toArray, List.set_cons_zero, List.set_cons_succ, List.getElem_toArray, List.getElem_cons_zero, List.getElem_cons_succ]
                 refine wpAnyH_take (i := 18) (v := ?_) rfl (by kernel_rfl) (by kernel_rfl) (by kernel_rfl) (fun _ _ _ h => h) (Or.inl ⟨by rfl, ?_⟩) (by assumption) ?_
                 rotate_left
                 · intro W hSw
                   try dsimp only at hSw
                   go_simp
                   try with_reducible rfl
                 try simp only [Act.put, List.setIfInBounds_toArray, List.set_cons_zero, List.set_cons_succ, List.getElem_toArray, List.getElem_cons_zero, List.getElem_cons_succ]
                 refine wpAnyH_take (i := 19) (v := ?_) rfl (by kernel_rfl) (by kernel_rfl) (by kernel_rfl) (fun _ _ _ h => h) (Or.inl ⟨by rfl, ?_⟩) (by assumption) ?_
                 rotate_left
                 · intro W hSw
                   try dsimp only at hSw
                   go_simp
                   try with_reducible rfl
                 try simp only [Act.put, List.setIfInBounds_toArray, List.set_cons_zero, List.set_cons_succ, List.getElem_toArray, List.getElem_cons_zero, List.getElem_cons_succ]
                 refine wpAnyH_take (i := 20) (v := undef) rfl (by kernel_rfl) (by kernel_rfl) (by kernel_rfl) (fun _ _ _ h => h) (Or.inr ⟨by rfl, rfl⟩) (by assumption) ?_
                 try simp only [Act.put, List.setIfInBounds_toArray, List.set_cons_zero, List.set_cons_succ, List.getElem_toArray, List.getElem_cons_zero, List.getElem_cons_succ]
                 refine wpAnyH_take (i := 21) (v := undef) rfl (by kernel_rfl) (by kernel_rfl) (by kernel_rfl) (fun _ _ _ h => h) (Or.inr ⟨by rfl, rfl⟩) (by assumption) ?_
                 try simp only [Act.put, List.setIfInBounds_toArray, List.set_cons_zero, List.set_cons_succ, List.getElem_toArray, List.getElem_cons_zero, List.getElem_cons_succ]
                 refine wpAnyH_take (i := 22) (v := undef) rfl (by kernel_rfl) (by kernel_rfl) (by kernel_rfl) (fun _ _ _ h => h) (Or.inr ⟨by rfl, rfl⟩) (by assumption) ?_
                 try simp only [Act.put, List.setIfInBounds_toArray, List.set_cons_zero, List.set_cons_succ, List.getElem_toArray, List.getElem_cons_zero, List.getElem_cons_succ]
                 refine wpAnyH_take (i := 23) (v := ?_) rfl (by kernel_rfl) (by kernel_rfl) (by kernel_rfl) (fun _ _ _ h => h) (Or.inl ⟨by rfl, ?_⟩) (by assumption) ?_
                 rotate_left
                 · intro W hSw
                   try dsimp only at hSw
                   go_simp
                   try with_reducible rfl
                 try simp only [Act.put, List.setIfInBounds_toArray, List.set_cons_zero, List.set_cons_succ, List.getElem_toArray, List.getElem_cons_zero, List.getElem_cons_succ]
                 refine wpAnyH_take (i := 24) (v := ?_) rfl (by kernel_rfl) (by kernel_rfl) (by kernel_rfl) (fun _ _ _ h => h) (Or.inl ⟨by rfl, ?_⟩) (by assumption) ?_
                 rotate_left
                 · intro W hSw
                   try dsimp only at hSw
                   go_simp
                   try with_reducible rfl
                 try simp only [Act.put, List.setIfInBounds_toArray, List.set_cons_zero, List.set_cons_succ, List.getElem_toArray, List.getElem_cons_zero, List.getElem_cons_succ]
                 refine wpAnyH_take (i := 25) (v := ?_) rfl (by kernel_rfl) (by kernel_rfl) (by kernel_rfl) (fun _ _ _ h => h) (Or.inl ⟨by rfl, ?_⟩) (by assumption) ?_
                 rotate_left
                 · intro W hSw
                   try dsimp only at hSw
                   go_simp
                   try with_reducible rfl
                 try simp only [Act.put, List.setIfInBounds_toArray, List.set_cons_zero, List.set_cons_succ, List.getElem_toArray, List.getElem_cons_zero, List.getElem_cons_succ]
                 refine wpAnyH_done (by kernel_rfl) ?_ _
                 go_wp2_with fail
                 go_meet
                 exact ⟨rfl, HB7.out.below bel6.out⟩
               exact AllReadyH.nil
             exact AllReadyH.nil
           exact AllReadyH.nil
         exact AllReadyH.nil
       refine AllReadyH.cons rfl (fun Kc hK => ?_) ?_
       · go_simp
         refine hK.out _ _ (by go_keep) (fun hHeld => ?_)
         clear hK Kc
         try simp only [Act.put, List.setIfInBounds_toArray, List.set_cons_zero, List.set_cons_succ, List.getElem_toArray, List.getElem_cons_zero, List.getElem_cons_succ]
         refine wpAnyH_ready (rs := [6]) (by kernel_rfl) (by simp) ?_
         refine AllReadyH.cons rfl (fun Kc hK => ?_) ?_
         · go_simp
           refine hK.out _ _ (by go_keep) (fun hHeld => ?_)
           clear hK Kc
           try simp only [Act.put, List.setIfInBounds_toArray, List.set_cons_zero, List.set_cons_succ, List.getElem_toArray, List.getElem_cons_zero, List.getElem_cons_succ]
           refine wpAnyH_ready (rs := [8]) (by kernel_rfl) (by simp) ?_
           refine AllReadyH.cons rfl (fun Kc hK => ?_) ?_
           · (
        refine step_append_src rfl _ _ 22 rfl w7.heap.size 24 i0 _ 2 8 Try.underlying22 hi hz0 hz1 hz2 rfl two_pos _ 0 [] (own_empty ?_ ?_) rfl _ 0 (pcells ([] : List (Int × Int))) rfl ?_ (pcells_one _) hm1 hm2 ?_ ?_
        · go_size
        · repeat' (first | exact hx_new (by simp) | apply hx_alloc | apply hx_drew)
        · exact HV.out.below (HB7.out.bel.trans (Below.mono (B := w7.heap.size) (by first | exact (Below.refl _ _).alloc (Nat.le_refl _) _ | exact ((Below.refl _ _).alloc (Nat.le_refl _) _).drew | exact (((Below.refl _ _).alloc (Nat.le_refl _) _).alloc (by go_size) _).drew | exact ((Below.refl _ _).alloc (Nat.le_refl _) _).alloc (by go_size) _) (by have := HB7.out.lt; omega)))
        · go_size
        intro vb w4 own2 grow2 _
        try simp only [Nat.zero_add, List.nil_append] at own2
        have bel2 : Below w7.heap.size w7 w4 := Below.grown (by first | exact (Below.refl _ _).alloc (Nat.le_refl _) _ | exact ((Below.refl _ _).alloc (Nat.le_refl _) _).drew | exact (((Below.refl _ _).alloc (Nat.le_refl _) _).alloc (by go_size) _).drew | exact ((Below.refl _ _).alloc (Nat.le_refl _) _).alloc (by go_size) _) grow2 (by go_size) (fun k hk => by simp [Value.ownBlock] at hk; omega))
             refine hK.out _ _ (keep2 bel2 hlt7 hc07 hc17) (fun hHeld => ?_)
             clear hK Kc
             try simp only [Act.put, List.setIfInBounds_toArray, List.set_cons_zero, List.set_cons_succ, List.getElem_toArray, List.getElem_cons_zero, List.getElem_cons_succ]
             refine wpAnyH_ready (rs := [11]) (by kernel_rfl) (by simp) ?_
             refine AllReadyH.cons rfl (fun Kc hK => ?_) ?_
             · (
        refine step_append_src rfl _ _ 22 rfl w7.heap.size 24 i0 _ 2 8 Try.underlying22 hi hz0 hz1 hz2 rfl two_pos vb 0 (pcells ([] : List (Int × Int))) ?_ rfl _ 1 (pcells [(x0, x1)]) rfl ?_ (pcells_one _) hm3 hm4 ?_ ?_
        · first | exact own2 | exact own2.alloc _
        · first
          | (refine SlAt.block (e := 24) (fr := (0, 0)) #[.int .u32 x0, .int .u32 x1] _ rfl (hx_grown grow2 ?_ ?_) rfl one_len
             · repeat' (first | exact hx_new (by simp) | apply hx_alloc | apply hx_drew)
             · simp [Value.ownBlock])
          | (refine SlAt.block (e := 24) (fr := (0, 0)) #[.int .u32 x0, .int .u32 x1] _ rfl ?_ rfl one_len
             repeat' (first | exact hx_new (by simp) | apply hx_alloc | apply hx_drew))
        · have := bel2.size
          simp
          omega
        intro vc w5 own3 grow3 _
        have bel3 : Below w7.heap.size w7 w5 := Below.grown (by first | exact bel2 | exact bel2.alloc bel2.size _) grow3 (by have := bel2.size; simp; omega) (fun k hk => (own2.lt k hk).1))
               refine hK.out _ _ (keep2 bel3 hlt7 hc07 hc17) (fun hHeld => ?_)
               clear hK Kc
               try simp only [Act.put, List.setIfInBounds_toArray, List.set_cons_zero, List.set_cons_succ, List.getElem_toArray, List.getElem_cons_zero, List.getElem_cons_succ]
               refine wpAnyH_ready (rs := [12]) (by kernel_rfl) (by simp) ?_
               refine AllReadyH.cons rfl (fun Kc hK => ?_) ?_
               · go_simp
                 refine (rOverlap_val _ _ (([] : List (Int × Int)) ++ [(x0, x1)]) _ ((pcells_append _ _).symm ▸ SlAt.ofOwn own3) (inTick_snoc HL.out HX.out)).mono ?_
                 rintro e w6 ⟨rfl, hb6⟩
                 have bel6 := Lib.hid (bel3.trans (hb6.mono bel3.size))
                 clear hb6
                 try dsimp only
                 refine hK.out _ _ (keep2 bel6.out hlt7 hc07 hc17) (fun hHeld => ?_)
                 clear hK Kc
                 try simp only [Act.put, List.setIfInBounds_toArray, List.set_cons_zero, List.set_cons_succ, List.getElem_toArray, List.getElem_cons_zero, List.getElem_cons_succ]
                 refine wpAnyH_take (i := 13) (v := ?_) rfl (by kernel_rfl) (by kernel_rfl) (by kernel_rfl) (fun _ _ _ h => h) (Or.inl ⟨by rfl, ?_⟩) (by assumption) ?_
                 rotate_left
                 · intro W hSw
                   try dsimp only at hSw
                   go_simp
                   try with_reducible rfl
                 try simp only [Act.put, List.setIfInBounds_toArray, List.set_cons_zero, List.set_cons_succ, List.getElem_toArray, List.getElem_cons_zero, List.getElem_cons_succ]
                 refine wpAnyH_take (i := 14) (v := ?_) rfl (by kernel_rfl) (by kernel_rfl) (by kernel_rfl) (fun _ _ _ h => h) (Or.inl ⟨by rfl, ?_⟩) (by assumption) ?_
                 rotate_left
                 · intro W hSw
                   try dsimp only at hSw
                   go_simp
                   try with_reducible rfl
                 try simp only [Act.put, List.setIfInBounds_toArray, List.set_cons_zero, List.set_cons_succ, List.getElem_toArray, List.getElem_cons_zero, List.getElem_cons_succ]
                 refine wpAnyH_take (i := 15) (v := ?_) rfl (by kernel_rfl) (by kernel_rfl) (by kernel_rfl) (fun _ _ _ h => h) (Or.inl ⟨by rfl, ?_⟩) (by assumption) ?_
                 rotate_left
                 · intro W hSw
                   try dsimp only at hSw
                   go_simp
                   try with_reducible rfl
                 try simp only [Act.put, List.setIfInBounds_toArray, List.set_cons_zero, List.set_cons_succ, List.getElem_toArray, List.getElem_cons_zero, List.getElem_cons_succ]
                 refine wpAnyH_take (i := 16) (v := ?_) rfl (by kernel_rfl) (by kernel_rfl) (by kernel_rfl) (fun _ _ _ h => h) (Or.inl ⟨by rfl, ?_⟩) (by assumption) ?_
                 rotate_left
                 · intro W hSw
                   try dsimp only at hSw
                   go_simp
                   try with_reducible rfl
                 try simp only [Act.put, List.setIfInBounds_toArray, List.set_cons_zero, List.set_cons_succ, List.getElem_toArray, List.getElem_cons_zero, List.getElem_cons_succ]
                 refine wpAnyH_take (i := 17) (v := ?_) rfl (by kernel_rfl) (by kernel_rfl) (by kernel_rfl) (fun _ _ _ h => h) (Or.inl ⟨by rfl, ?_⟩) (by assumption) ?_
                 rotate_left
                 · intro W hSw
                   try dsimp only at hSw
                   go_simp
                   try with_reducible rfl
                 try simp only [Act.put, List.setIfInBounds_toArray, List.set_cons_zero, List.set_cons_succ, List.getElem_toArray, List.getElem_cons_zero, List.getElem_cons_succ]
                 refine wpAnyH_take (i := 18) (v := ?_) rfl (by kernel_rfl) (by kernel_rfl) (by kernel_rfl) (fun _ _ _ h => h) (Or.inl ⟨by rfl, ?_⟩) (by assumption) ?_
                 rotate_left
                 · intro W hSw
                   try dsimp only at hSw
                   go_simp
                   try with_reducible rfl
                 try simp only [Act.put, List.setIfInBounds_toArray, List.set_cons_zero, List.set_cons_succ, List.getElem_toArray, List.getElem_cons_zero, List.getElem_cons_succ]
                 refine wpAnyH_take (i := 19) (v := ?_) rfl (by kernel_rfl) (by kernel_rfl) (by kernel_rfl) (fun _ _ _ h => h) (Or.inl ⟨by rfl, ?_⟩) (by assumption) ?_
                 rotate_left
                 · intro W hSw
                   try dsimp only at hSw
                   go_simp
                   try with_reducible rfl
                 try simp only [Act.put, List.setIfInBounds_toArray, List.set_cons_zero, List.set_cons_succ, List.getElem_toArray, List.getElem_cons_zero, List.getElem_cons_succ]
                 refine wpAnyH_take (i := 20) (v := undef) rfl (by kernel_rfl) (by kernel_rfl) (by kernel_rfl) (fun _ _ _ h => h) (Or.inr ⟨by rfl, rfl⟩) (by assumption) ?_
                 try simp only [Act.put, List.setIfInBounds_toArray, List.set_cons_zero, List.set_cons_succ, List.getElem_toArray, List.getElem_cons_zero, List.getElem_cons_succ]
                 refine wpAnyH_take (i := 21) (v := undef) rfl (by kernel_rfl) (by kernel_rfl) (by kernel_rfl) (fun _ _ _ h => h) (Or.inr ⟨by rfl, rfl⟩) (by assumption) ?_
                 try simp only [Act.put, List.setIfInBounds_toArray, List.set_cons_zero, List.set_cons_succ, List.getElem_toArray, List.getElem_cons_zero, List.getElem_cons_succ]
                 refine wpAnyH_take (i := 22) (v := undef) rfl (by kernel_rfl) (by kernel_rfl) (by kernel_rfl) (fun _ _ _ h => h) (Or.inr ⟨by rfl, rfl⟩) (by assumption) ?_
                 try simp only [Act.put, List.setIfInBounds_toArray, List.set_cons_zero, List.set_cons_succ, List.getElem_toArray, List.getElem_cons_zero, List.getElem_cons_succ]
                 refine wpAnyH_take (i := 23) (v := ?_) rfl (by kernel_rfl) (by kernel_rfl) (by kernel_rfl) (fun _ _ _ h => h) (Or.inl ⟨by rfl, ?_⟩) (by assumption) ?_
                 rotate_left
                 · intro W hSw
                   try dsimp only at hSw
                   go_simp
                   try with_reducible rfl
                 try simp only [Act.put, List.setIfInBounds_toArray, List.set_cons_zero, List.set_cons_succ, List.getElem_toArray, List.getElem_cons_zero, List.getElem_cons_succ]
                 refine wpAnyH_take (i := 24) (v := ?_) rfl (by kernel_rfl) (by kernel_rfl) (by kernel_rfl) (fun _ _ _ h => h) (Or.inl ⟨by rfl, ?_⟩) (by assumption) ?_
                 rotate_left
                 · intro W hSw
                   try dsimp only at hSw
                   go_simp
                   try with_reducible rfl
                 try simp only [Act.put, List.setIfInBounds_toArray, List.set_cons_zero, List.set_cons_succ, List.getElem_toArray, List.getElem_cons_zero, List.getElem_cons_succ]
                 refine wpAnyH_take (i := 25) (v := ?_) rfl (by kernel_rfl) (by kernel_rfl) (by kernel_rfl) (fun _ _ _ h => h) (Or.inl ⟨by rfl, ?_⟩) (by assumption) ?_
                 rotate_left
                 · intro W hSw
                   try dsimp only at hSw
                   go_simp
                   try with_reducible rfl
                 try simp only [Act.put, List.setIfInBounds_toArray, List.set_cons_zero, List.set_cons_succ, List.getElem_toArray, List.getElem_cons_zero, List.getElem_cons_succ]
                 refine wpAnyH_done (by kernel_rfl) ?_ _
                 go_wp2_with fail
                 go_meet
                 exact ⟨rfl, HB7.out.below bel6.out⟩
               exact AllReadyH.nil
             exact AllReadyH.nil
           exact AllReadyH.nil
         exact AllReadyH.nil
       exact AllReadyH.nil
     exact AllReadyH.nil
    case rest =>
     obtain ⟨rfl, hH7⟩ := hcut
     go_wp2_with fail
     go_ret
     exact ⟨rfl, hH7.bel⟩
set_option maxHeartbeats 2000000 in
theorem CapOverlaps_zero (a : Addr) (cap : Nat) (hcm : cap ≤ maxLen) (x0 x1 : Int) (hx : InTick [(x0, x1)]) (w : World)  :
    Calls Try.prog 3 #[.slice (some a) 0 cap, .agg #[.int .u32 x0, .int .u32 x1]] w fun e w' => e = .returned (.bool true) ∧ Below w.heap.size w w' := by
  obtain ⟨i0, hi, hz0, hz1, hz2⟩ := info_parts Try.info24
  have HX := Lib.hid hx
  have HL : Hid (InTick ([] : List (Int × Int))) := fun x hx => by simp at hx
  have HV : Hid (SlAt w (.slice (some a) 0 cap) 0 2 (pcells ([] : List (Int × Int)))) := ⟨rfl, _, _, rfl, Nat.zero_le _, hcm, (fun h => by cases h), fun a ha h0 => by omega⟩
  have hm1 : 0 + 0 ≤ maxLen := by unfold maxLen; omega
  have hm2 : (0 + 0) * 8 ≤ 140737488355328 := by omega
  have hm3 : 0 + 1 ≤ maxLen := by unfold maxLen; omega
  have hm4 : (0 + 1) * 8 ≤ 140737488355328 := by omega
  clear hx
  go_enter Try.func3, Try.ntmps3
  go_wp2_with fail
  refine (awake_any _).mono ?_; rintro e w1 ⟨rfl, hb⟩; have HB0 := Lib.hid hb; clear hb
  have hH : Held w x0 x1 w1 := by
    have hb := HB0.out
    have h0 : Held w x0 x1 (w.alloc (.cells #[.int .u32 x0, .int .u32 x1] 24)) := ⟨(Below.refl _ _).alloc (Nat.le_refl _) _, by simp, by simp, by simp⟩
    exact h0.below hb
  have HB := Lib.hid hH
  clear HB0 hH
  go_wp2_with (at_builtin; go_must (
        refine wpList_append_src rfl _ _ 22 rfl w1.heap.size 24 i0 _ 2 8 Try.underlying22 hi hz0 hz1 hz2 rfl two_pos _ 0 [] (own_empty ?_ ?_) rfl _ 0 (pcells ([] : List (Int × Int))) rfl ?_ (pcells_one _) hm1 hm2 ?_ ?_
        · go_size
        · repeat' (first | exact hx_new (by simp) | apply hx_alloc | apply hx_drew)
        · exact HV.out.below (HB.out.bel.trans (Below.mono (B := w1.heap.size) (by first | exact (Below.refl _ _).alloc (Nat.le_refl _) _ | exact ((Below.refl _ _).alloc (Nat.le_refl _) _).drew | exact (((Below.refl _ _).alloc (Nat.le_refl _) _).alloc (by go_size) _).drew | exact ((Below.refl _ _).alloc (Nat.le_refl _) _).alloc (by go_size) _) (by have := HB.out.lt; omega)))
        · go_size
        intro va w2 own1 grow1 _
        try simp only [Nat.zero_add, List.nil_append] at own1
        have bel1 : Below w1.heap.size w1 w2 := Below.grown (by first | exact (Below.refl _ _).alloc (Nat.le_refl _) _ | exact ((Below.refl _ _).alloc (Nat.le_refl _) _).drew | exact (((Below.refl _ _).alloc (Nat.le_refl _) _).alloc (by go_size) _).drew | exact ((Below.refl _ _).alloc (Nat.le_refl _) _).alloc (by go_size) _) grow1 (by go_size) (fun k hk => by simp [Value.ownBlock] at hk; omega)))
  have H3 := SlAt.ofOwn own1
  have hH2 := Lib.hid (HB.out.below bel1)
  clear own1 grow1 HB
  refine (Overlap_val _ _ _ _ H3 HL.out).mono ?_
  rintro e w3 ⟨rfl, hb3⟩
  have hH3 := hH2.out.below hb3
  clear H3 hb3 hH2 bel1
  have HB := Lib.hid hH3
  obtain ⟨_, _, hc0, hc1⟩ := hH3
  have hlt3 := HB.out.lt
  go_wp2_with fail
  go_cut [6] (fun s6 W => s6 = .int .i64 (overlapOf (([] : List (Int × Int)) ++ [(x0, x1)])) ∧ Held w x0 x1 W)
  case first =>
   go_region_held3 (fun W => W.cell? ⟨w.heap.size, 0, none⟩ = some (.int .u32 x0) ∧ W.cell? ⟨w.heap.size, 1, none⟩ = some (.int .u32 x1)) (first | go_keep | exact keep2 bel6.out hlt3 hc0 hc1 | exact keep2 bel3 hlt3 hc0 hc1 | exact keep2 bel2 hlt3 hc0 hc1)
    ((first
      | (have _ := own3; go_simp; go_at_call 11; go_must (refine (Overlap_val _ _ (([] : List (Int × Int)) ++ [(x0, x1)]) _ ((pcells_append _ _).symm ▸ SlAt.ofOwn own3) (inTick_snoc HL.out HX.out)).mono ?_; rintro e w6 ⟨rfl, hb6⟩; have bel6 := Lib.hid (bel3.trans (hb6.mono bel3.size)); clear hb6))
      | (have _ := own2; go_must (
        refine step_append_src rfl _ _ 22 rfl w3.heap.size 24 i0 _ 2 8 Try.underlying22 hi hz0 hz1 hz2 rfl two_pos vb 0 (pcells ([] : List (Int × Int))) ?_ rfl _ 1 (pcells [(x0, x1)]) rfl ?_ (pcells_one _) hm3 hm4 ?_ ?_
        · first | exact own2 | exact own2.alloc _
        · first
          | (refine SlAt.block (e := 24) (fr := (0, 0)) #[.int .u32 x0, .int .u32 x1] _ rfl (hx_grown grow2 ?_ ?_) rfl one_len
             · repeat' (first | exact hx_new (by simp) | apply hx_alloc | apply hx_drew)
             · simp [Value.ownBlock])
          | (refine SlAt.block (e := 24) (fr := (0, 0)) #[.int .u32 x0, .int .u32 x1] _ rfl ?_ rfl one_len
             repeat' (first | exact hx_new (by simp) | apply hx_alloc | apply hx_drew))
        · have := bel2.size
          simp
          omega
        intro vc w5 own3 grow3 _
        have bel3 : Below w3.heap.size w3 w5 := Below.grown (by first | exact bel2 | exact bel2.alloc bel2.size _) grow3 (by have := bel2.size; simp; omega) (fun k hk => (own2.lt k hk).1)))
      | (
        refine step_append_src rfl _ _ 22 rfl w3.heap.size 24 i0 _ 2 8 Try.underlying22 hi hz0 hz1 hz2 rfl two_pos _ 0 [] (own_empty ?_ ?_) rfl _ 0 (pcells ([] : List (Int × Int))) rfl ?_ (pcells_one _) hm1 hm2 ?_ ?_
        · go_size
        · repeat' (first | exact hx_new (by simp) | apply hx_alloc | apply hx_drew)
        · exact HV.out.below (HB.out.bel.trans (Below.mono (B := w3.heap.size) (by first | exact (Below.refl _ _).alloc (Nat.le_refl _) _ | exact ((Below.refl _ _).alloc (Nat.le_refl _) _).drew | exact (((Below.refl _ _).alloc (Nat.le_refl _) _).alloc (by go_size) _).drew | exact ((Below.refl _ _).alloc (Nat.le_refl _) _).alloc (by go_size) _) (by have := HB.out.lt; omega)))
        · go_size
        intro vb w4 own2 grow2 _
        try simp only [Nat.zero_add, List.nil_append] at own2
        have bel2 : Below w3.heap.size w3 w4 := Below.grown (by first | exact (Below.refl _ _).alloc (Nat.le_refl _) _ | exact ((Below.refl _ _).alloc (Nat.le_refl _) _).drew | exact (((Below.refl _ _).alloc (Nat.le_refl _) _).alloc (by go_size) _).drew | exact ((Below.refl _ _).alloc (Nat.le_refl _) _).alloc (by go_size) _) grow2 (by go_size) (fun k hk => by simp [Value.ownBlock] at hk; omega))))
   all_goals
    go_wp2_with fail
    go_meet
    exact ⟨rfl, HB.out.below bel6.out⟩
  case rest =>
    obtain ⟨rfl, hH6⟩ := hcut
    have HB := Lib.hid hH6
    obtain ⟨_, _, hc0, hc1⟩ := hH6
    have hlt3 := HB.out.lt
    go_wp2_with fail
    go_cut [4] (fun s4 W => s4 = .bool true ∧ Held w x0 x1 W)
    case first =>
     refine wp_region_held_drew (S := fun W => W.cell? ⟨w.heap.size, 0, none⟩ = some (.int .u32 x0) ∧ W.cell? ⟨w.heap.size, 1, none⟩ = some (.int .u32 x1)) (by kernel_rfl) (by go_keep) (fun hHeld => ?_)
     refine wpAnyH_take (i := 0) (v := ?_) rfl (by kernel_rfl) (by kernel_rfl) (by kernel_rfl) (fun _ _ _ h => h) (Or.inl ⟨by rfl, ?_⟩) (by assumption) ?_
     rotate_left
     · intro W hSw
       try dsimp only at hSw
       go_simp
       try with_reducible rfl
     try simp only [Act.put, List.setIfInBounds_toArray, List.set_cons_zero, List.set_cons_succ, List.getElem_toArray, List.getElem_cons_zero, List.getElem_cons_succ]
     refine wpAnyH_take (i := 1) (v := ?_) rfl (by kernel_rfl) (by kernel_rfl) (by kernel_rfl) (fun _ _ _ h => h) (Or.inl ⟨by rfl, ?_⟩) (by assumption) ?_
     rotate_left
     · intro W hSw
       try dsimp only at hSw
       go_simp
       try with_reducible rfl
     try simp only [Act.put, List.setIfInBounds_toArray, List.set_cons_zero, List.set_cons_succ, List.getElem_toArray, List.getElem_cons_zero, List.getElem_cons_succ]
     refine wpAnyH_ready (rs := [2]) (by kernel_rfl) (by simp) ?_
     refine AllReadyH.cons rfl (fun Kc hK => ?_) ?_
     · go_simp
       refine (rOverlap_val _ _ ([] : List (Int × Int)) _ (HV.out.below HB.out.bel.drew) HL.out).mono ?_
       rintro e w7 ⟨rfl, hb7⟩
       have belc := HB.out.drew.below hb7
       have HB7 := Lib.hid belc
       clear hb7
       obtain ⟨_, _, hc07, hc17⟩ := belc
       have hlt7 := HB7.out.lt
       try dsimp only
       refine hK.out _ _ (⟨hc07, hc17⟩) (fun hHeld => ?_)
       clear hK Kc
       try simp only [Act.put, List.setIfInBounds_toArray, List.set_cons_zero, List.set_cons_succ, List.getElem_toArray, List.getElem_cons_zero, List.getElem_cons_succ]
       refine wpAnyH_take (i := 3) (v := ?_) rfl (by kernel_rfl) (by kernel_rfl) (by kernel_rfl) (fun _ _ _ h => h) (Or.inl ⟨by rfl, ?_⟩) (by assumption) ?_
       rotate_left
       · intro W hSw
         try dsimp only at hSw
         go_simp
         try with_reducible rfl
       try simp only [Act.put, List.setIfInBounds_toArray, List.set_cons_zero, List.set_cons_succ, List.getElem_toArray, List.getElem_cons_zero, List.getElem_cons_succ]
       refine wpAnyH_take (i := 4) (v := ?_) rfl (by kernel_rfl) (by kernel_rfl) (by kernel_rfl) (fun _ _ _ h => h) (Or.inl ⟨by rfl, ?_⟩) (by assumption) ?_
       rotate_left
       · intro W hSw
         try dsimp only at hSw
         go_simp
         try with_reducible rfl
       try simp only [Act.put, List.setIfInBounds_toArray, List.set_cons_zero, List.set_cons_succ, List.getElem_toArray, List.getElem_cons_zero, List.getElem_cons_succ]
       refine wpAnyH_take (i := 5) (v := ?_) rfl (by kernel_rfl) (by kernel_rfl) (by kernel_rfl) (fun _ _ _ h => h) (Or.inl ⟨by rfl, ?_⟩) (by assumption) ?_
       rotate_left
       · intro W hSw
         try dsimp only at hSw
         go_simp
         try with_reducible rfl
       try simp only [Act.put, List.setIfInBounds_toArray, List.set_cons_zero, List.set_cons_succ, List.getElem_toArray, List.getElem_cons_zero, List.getElem_cons_succ]
       refine wpAnyH_take (i := 7) (v := ?_) rfl (by kernel_rfl) (by kernel_rfl) (by kernel_rfl) (fun _ _ _ h => h) (Or.inl ⟨by rfl, ?_⟩) (by assumption) ?_
       rotate_left
       · intro W hSw
         try dsimp only at hSw
         go_simp
         try with_reducible rfl
       try simp only [Act.put, List.setIfInBounds_toArray, List.set_cons_zero, List.set_cons_succ, List.getElem_toArray, List.getElem_cons_zero, List.getElem_cons_succ]
       refine wpAnyH_take (i := 9) (v := ?_) rfl (by kernel_rfl) (by kernel_rfl) (by kernel_rfl) (fun _ _ _ h => h) (Or.inl ⟨by rfl, ?_⟩) (by assumption) ?_
       rotate_left
       · intro W hSw
         try dsimp only at hSw
         go_simp
         try with_reducible rfl
       try simp only [Act.put, List.setIfInBounds_toArray, List.set_cons_zero, List.set_cons_succ, List.getElem_toArray, List.getElem_cons_zero, List.getElem_cons_succ]
       refine wpAnyH_ready (rs := [6, 10]) (by kernel_rfl) (by simp) ?_
       refine AllReadyH.cons rfl (fun Kc hK => ?_) ?_
       · go_simp
         refine hK.out _ _ (by go_keep) (fun hHeld => ?_)
         clear hK Kc
         try simp only [Act.put, List.setIfInBounds_toArray, List.set_cons_zero, List.set_cons_succ, List.getElem_toArray, List.getElem_cons_zero, List.getElem_cons_succ]
         refine wpAnyH_ready (rs := [8, 10]) (by kernel_rfl) (by simp) ?_
         refine AllReadyH.cons rfl (fun Kc hK => ?_) ?_
         · (
        refine step_append_src rfl _ _ 22 rfl w7.heap.size 24 i0 _ 2 8 Try.underlying22 hi hz0 hz1 hz2 rfl two_pos _ 0 [] (own_empty ?_ ?_) rfl _ 0 (pcells ([] : List (Int × Int))) rfl ?_ (pcells_one _) hm1 hm2 ?_ ?_
        · go_size
        · repeat' (first | exact hx_new (by simp) | apply hx_alloc | apply hx_drew)
        · exact HV.out.below (HB7.out.bel.trans (Below.mono (B := w7.heap.size) (by first | exact (Below.refl _ _).alloc (Nat.le_refl _) _ | exact ((Below.refl _ _).alloc (Nat.le_refl _) _).drew | exact (((Below.refl _ _).alloc (Nat.le_refl _) _).alloc (by go_size) _).drew | exact ((Below.refl _ _).alloc (Nat.le_refl _) _).alloc (by go_size) _) (by have := HB7.out.lt; omega)))
        · go_size
        intro vb w4 own2 grow2 _
        try simp only [Nat.zero_add, List.nil_append] at own2
        have bel2 : Below w7.heap.size w7 w4 := Below.grown (by first | exact (Below.refl _ _).alloc (Nat.le_refl _) _ | exact ((Below.refl _ _).alloc (Nat.le_refl _) _).drew | exact (((Below.refl _ _).alloc (Nat.le_refl _) _).alloc (by go_size) _).drew | exact ((Below.refl _ _).alloc (Nat.le_refl _) _).alloc (by go_size) _) grow2 (by go_size) (fun k hk => by simp [Value.ownBlock] at hk; omega))
           refine hK.out _ _ (keep2 bel2 hlt7 hc07 hc17) (fun hHeld => ?_)
           clear hK Kc
           try simp only [Act.put, List.setIfInBounds_toArray, List.set_cons_zero, List.set_cons_succ, List.getElem_toArray, List.getElem_cons_zero, List.getElem_cons_succ]
           refine wpAnyH_ready (rs := [10]) (by kernel_rfl) (by simp) ?_
           refine AllReadyH.cons rfl (fun Kc hK => ?_) ?_
           · go_simp
             refine hK.out _ _ (by go_keep) (fun hHeld => ?_)
             clear hK Kc
             try simp only [Act.put, List.setIfInBounds_toArray, List.set_cons_zero, List.set_cons_succ, List.getElem_toArray, List.getElem_cons_zero, List.getElem_cons_succ]
             refine wpAnyH_ready (rs := [11]) (by kernel_rfl) (by simp) ?_
             refine AllReadyH.cons rfl (fun Kc hK => ?_) ?_
             · (
        refine step_append_src rfl _ _ 22 rfl w7.heap.size 24 i0 _ 2 8 Try.underlying22 hi hz0 hz1 hz2 rfl two_pos vb 0 (pcells ([] : List (Int × Int))) ?_ rfl _ 1 (pcells [(x0, x1)]) rfl ?_ (pcells_one _) hm3 hm4 ?_ ?_
        · first | exact own2 | exact own2.alloc _
        · first
          | (refine SlAt.block (e := 24) (fr := (0, 0)) #[.int .u32 x0, .int .u32 x1] _ rfl (hx_grown grow2 ?_ ?_) rfl one_len
             · repeat' (first | exact hx_new (by simp) | apply hx_alloc | apply hx_drew)
             · simp [Value.ownBlock])
          | (refine SlAt.block (e := 24) (fr := (0, 0)) #[.int .u32 x0, .int .u32 x1] _ rfl ?_ rfl one_len
             repeat' (first | exact hx_new (by simp) | apply hx_alloc | apply hx_drew))
        · have := bel2.size
          simp
          omega
        intro vc w5 own3 grow3 _
        have bel3 : Below w7.heap.size w7 w5 := Below.grown (by first | exact bel2 | exact bel2.alloc bel2.size _) grow3 (by have := bel2.size; simp; omega) (fun k hk => (own2.lt k hk).1))
               refine hK.out _ _ (keep2 bel3 hlt7 hc07 hc17) (fun hHeld => ?_)
               clear hK Kc
               try simp only [Act.put, List.setIfInBounds_toArray, List.set_cons_zero, List.set_cons_succ, List.getElem_toArray, List.getElem_cons_zero, List.getElem_cons_succ]
               refine wpAnyH_ready (rs := [12]) (by kernel_rfl) (by simp) ?_
               refine AllReadyH.cons rfl (fun Kc hK => ?_) ?_
               · go_simp
                 refine (rOverlap_val _ _ (([] : List (Int × Int)) ++ [(x0, x1)]) _ ((pcells_append _ _).symm ▸ SlAt.ofOwn own3) (inTick_snoc HL.out HX.out)).mono ?_
                 rintro e w6 ⟨rfl, hb6⟩
                 have bel6 := Lib.hid (bel3.trans (hb6.mono bel3.size))
                 clear hb6
                 try dsimp only
                 refine hK.out _ _ (keep2 bel6.out hlt7 hc07 hc17) (fun hHeld => ?_)
                 clear hK Kc
                 try simp only [Act.put, List.setIfInBounds_toArray, List.set_cons_zero, List.set_cons_succ, List.getElem_toArray, List.getElem_cons_zero, List.getElem_cons_succ]
                 refine wpAnyH_take (i := 13) (v := ?_) rfl (by kernel_rfl) (by kernel_rfl) (by kernel_rfl) (fun _ _ _ h => h) (Or.inl ⟨by rfl, ?_⟩) (by assumption) ?_
                 rotate_left
                 · intro W hSw
                   try dsimp only at hSw
                   go_simp
                   try with_reducible rfl
                 try simp only [Act.put, List.setIfInBounds_toArray, List.set_cons_zero, List.set_cons_succ, List.getElem_toArray, List.getElem_cons_zero, List.getElem_cons_succ]
                 refine wpAnyH_take (i := 14) (v := ?_) rfl (by kernel_rfl) (by kernel_rfl) (by kernel_rfl) (fun _ _ _ h => h) (Or.inl ⟨by rfl, ?_⟩) (by assumption) ?_
                 rotate_left
                 · intro W hSw
                   try dsimp only at hSw
                   go_simp
                   try with_reducible rfl
                 try simp only [Act.put, List.setIfInBounds_toArray, List.set_cons_zero, List.set_cons_succ, List.getElem_toArray, List.getElem_cons_zero, List.getElem_cons_succ]
                 refine wpAnyH_take (i := 15) (v := ?_) rfl (by kernel_rfl) (by kernel_rfl) (by kernel_rfl) (fun _ _ _ h => h) (Or.inl ⟨by rfl, ?_⟩) (by assumption) ?_
                 rotate_left
                 · intro W hSw
                   try dsimp only at hSw
                   go_simp
                   try with_reducible rfl
                 try simp only [Act.put, List.setIfInBounds_toArray, List.set_cons_zero, List.set_cons_succ, List.getElem_toArray, List.getElem_cons_zero, List.getElem_cons_succ]
                 refine wpAnyH_take (i := 16) (v := ?_) rfl (by kernel_rfl) (by kernel_rfl) (by kernel_rfl) (fun _ _ _ h => h) (Or.inl ⟨by rfl, ?_⟩) (by assumption) ?_
                 rotate_left
                 · intro W hSw
                   try dsimp only at hSw
                   go_simp
                   try with_reducible rfl
                 try simp only [Act.put, List.setIfInBounds_toArray, List.set_cons_zero, List.set_cons_succ, List.getElem_toArray, List.getElem_cons_zero, List.getElem_cons_succ]
                 refine wpAnyH_take (i := 17) (v := ?_) rfl (by kernel_rfl) (by kernel_rfl) (by kernel_rfl) (fun _ _ _ h => h) (Or.inl ⟨by rfl, ?_⟩) (by assumption) ?_
                 rotate_left
                 · intro W hSw
                   try dsimp only at hSw
                   go_simp
                   try with_reducible rfl
                 try simp only [Act.put, List.setIfInBounds_toArray, List.set_cons_zero, List.set_cons_succ, List.getElem_toArray, List.getElem_cons_zero, List.getElem_cons_succ]
                 refine wpAnyH_take (i := 18) (v := ?_) rfl (by kernel_rfl) (by kernel_rfl) (by kernel_rfl) (fun _ _ _ h => h) (Or.inl ⟨by rfl, ?_⟩) (by assumption) ?_
                 rotate_left
                 · intro W hSw
                   try dsimp only at hSw
                   go_simp
                   try with_reducible rfl
                 try simp only [Act.put, List.setIfInBounds_toArray, List.set_cons_zero, List.set_cons_succ, List.getElem_toArray, List.getElem_cons_zero, List.getElem_cons_succ]
                 refine wpAnyH_take (i := 19) (v := ?_) rfl (by kernel_rfl) (by kernel_rfl) (by kernel_rfl) (fun _ _ _ h => h) (Or.inl ⟨by rfl, ?_⟩) (by assumption) ?_
                 rotate_left
                 · intro W hSw
                   try dsimp only at hSw
                   go_simp
                   try with_reducible rfl
                 try simp only [Act.put, List.setIfInBounds_toArray, List.set_cons_zero, List.set_cons_succ, List.getElem_toArray, List.getElem_cons_zero, List.getElem_cons_succ]
                 refine wpAnyH_take (i := 20) (v := undef) rfl (by kernel_rfl) (by kernel_rfl) (by kernel_rfl) (fun _ _ _ h => h) (Or.inr ⟨by rfl, rfl⟩) (by assumption) ?_
                 try simp only [Act.put, List.setIfInBounds_toArray, List.set_cons_zero, List.set_cons_succ, List.getElem_toArray, List.getElem_cons_zero, List.getElem_cons_succ]
                 refine wpAnyH_take (i := 21) (v := undef) rfl (by kernel_rfl) (by kernel_rfl) (by kernel_rfl) (fun _ _ _ h => h) (Or.inr ⟨by rfl, rfl⟩) (by assumption) ?_
                 try simp only [Act.put, List.setIfInBounds_toArray, List.set_cons_zero, List.set_cons_succ, List.getElem_toArray, List.getElem_cons_zero, List.getElem_cons_succ]
                 refine wpAnyH_take (i := 22) (v := undef) rfl (by kernel_rfl) (by kernel_rfl) (by kernel_rfl) (fun _ _ _ h => h) (Or.inr ⟨by rfl, rfl⟩) (by assumption) ?_
                 try simp only [Act.put, List.setIfInBounds_toArray, List.set_cons_zero, List.set_cons_succ, List.getElem_toArray, List.getElem_cons_zero, List.getElem_cons_succ]
                 refine wpAnyH_take (i := 23) (v := ?_) rfl (by kernel_rfl) (by kernel_rfl) (by kernel_rfl) (fun _ _ _ h => h) (Or.inl ⟨by rfl, ?_⟩) (by assumption) ?_
                 rotate_left
                 · intro W hSw
                   try dsimp only at hSw
                   go_simp
                   try with_reducible rfl
                 try simp only [Act.put, List.setIfInBounds_toArray, List.set_cons_zero, List.set_cons_succ, List.getElem_toArray, List.getElem_cons_zero, List.getElem_cons_succ]
                 refine wpAnyH_take (i := 24) (v := ?_) rfl (by kernel_rfl) (by kernel_rfl) (by kernel_rfl) (fun _ _ _ h => h) (Or.inl ⟨by rfl, ?_⟩) (by assumption) ?_
                 rotate_left
                 · intro W hSw
                   try dsimp only at hSw
                   go_simp
                   try with_reducible rfl
                 try simp only [Act.put, List.setIfInBounds_toArray, List.set_cons_zero, List.set_cons_succ, List.getElem_toArray, List.getElem_cons_zero, List.getElem_cons_succ]
                 refine wpAnyH_take (i := 25) (v := ?_) rfl (by kernel_rfl) (by kernel_rfl) (by kernel_rfl) (fun _ _ _ h => h) (Or.inl ⟨by rfl, ?_⟩) (by assumption) ?_
                 rotate_left
                 · intro W hSw
                   try dsimp only at hSw
                   go_simp
                   try with_reducible rfl
                 try simp only [Act.put, List.setIfInBounds_toArray, List.set_cons_zero, List.set_cons_succ, List.getElem_toArray, List.getElem_cons_zero, List.getElem_cons_succ]
                 refine wpAnyH_done (by kernel_rfl) ?_ _
                 go_wp2_with fail
                 go_meet
                 exact ⟨rfl, HB7.out.below bel6.out⟩
               exact AllReadyH.nil
             exact AllReadyH.nil
           exact AllReadyH.nil
         refine AllReadyH.cons rfl (fun Kc hK => ?_) ?_
         · go_simp
           refine hK.out _ _ (by go_keep) (fun hHeld => ?_)
           clear hK Kc
           try simp only [Act.put, List.setIfInBounds_toArray, List.set_cons_zero, List.set_cons_succ, List.getElem_toArray, List.getElem_cons_zero, List.getElem_cons_succ]
           refine wpAnyH_ready (rs := [8]) (by kernel_rfl) (by simp) ?_
           refine AllReadyH.cons rfl (fun Kc hK => ?_) ?_
           · (
        refine step_append_src rfl _ _ 22 rfl w7.heap.size 24 i0 _ 2 8 Try.underlying22 hi hz0 hz1 hz2 rfl two_pos _ 0 [] (own_empty ?_ ?_) rfl _ 0 (pcells ([] : List (Int × Int))) rfl ?_ (pcells_one _) hm1 hm2 ?_ ?_
        · go_size
        · repeat' (first | exact hx_new (by simp) | apply hx_alloc | apply hx_drew)
        · exact HV.out.below (HB7.out.bel.trans (Below.mono (B := w7.heap.size) (by first | exact (Below.refl _ _).alloc (Nat.le_refl _) _ | exact ((Below.refl _ _).alloc (Nat.le_refl _) _).drew | exact (((Below.refl _ _).alloc (Nat.le_refl _) _).alloc (by go_size) _).drew | exact ((Below.refl _ _).alloc (Nat.le_refl _) _).alloc (by go_size) _) (by have := HB7.out.lt; omega)))
        · go_size
        intro vb w4 own2 grow2 _
        try simp only [Nat.zero_add, List.nil_append] at own2
        have bel2 : Below w7.heap.size w7 w4 := Below.grown (by first | exact (Below.refl _ _).alloc (Nat.le_refl _) _ | exact ((Below.refl _ _).alloc (Nat.le_refl _) _).drew | exact (((Below.refl _ _).alloc (Nat.le_refl _) _).alloc (by go_size) _).drew | exact ((Below.refl _ _).alloc (Nat.le_refl _) _).alloc (by go_size) _) grow2 (by go_size) (fun k hk => by simp [Value.ownBlock] at hk; omega))
             refine hK.out _ _ (keep2 bel2 hlt7 hc07 hc17) (fun hHeld => ?_)
             clear hK Kc
             try simp only [Act.put, List.setIfInBounds_toArray, List.set_cons_zero, List.set_cons_succ, List.getElem_toArray, List.getElem_cons_zero, List.getElem_cons_succ]
             refine wpAnyH_ready (rs := [11]) (by kernel_rfl) (by simp) ?_
             refine AllReadyH.cons rfl (fun Kc hK => ?_) ?_
             · (
        refine step_append_src rfl _ _ 22 rfl w7.heap.size 24 i0 _ 2 8 Try.underlying22 hi hz0 hz1 hz2 rfl two_pos vb 0 (pcells ([] : List (Int × Int))) ?_ rfl _ 1 (pcells [(x0, x1)]) rfl ?_ (pcells_one _) hm3 hm4 ?_ ?_
        · first | exact own2 | exact own2.alloc _
        · first
          | (refine SlAt.block (e := 24) (fr := (0, 0)) #[.int .u32 x0, .int .u32 x1] _ rfl (hx_grown grow2 ?_ ?_) rfl one_len
             · repeat' (first | exact hx_new (by simp) | apply hx_alloc | apply hx_drew)
             · simp [Value.ownBlock])
          | (refine SlAt.block (e := 24) (fr := (0, 0)) #[.int .u32 x0, .int .u32 x1] _ rfl ?_ rfl one_len
             repeat' (first | exact hx_new (by simp) | apply hx_alloc | apply hx_drew))
        · have := bel2.size
          simp
          omega
        intro vc w5 own3 grow3 _
        have bel3 : Below w7.heap.size w7 w5 := Below.grown (by first | exact bel2 | exact bel2.alloc bel2.size _) grow3 (by have := bel2.size; simp; omega) (fun k hk => (own2.lt k hk).1))
               refine hK.out _ _ (keep2 bel3 hlt7 hc07 hc17) (fun hHeld => ?_)
               clear hK Kc
               try simp only [Act.put, List.setIfInBounds_toArray, List.set_cons_zero, List.set_cons_succ, List.getElem_toArray, List.getElem_cons_zero, List.getElem_cons_succ]
               refine wpAnyH_ready (rs := [12]) (by kernel_rfl) (by simp) ?_
               refine AllReadyH.cons rfl (fun Kc hK => ?_) ?_
               · go_simp
                 refine (rOverlap_val _ _ (([] : List (Int × Int)) ++ [(x0, x1)]) _ ((pcells_append _ _).symm ▸ SlAt.ofOwn own3) (inTick_snoc HL.out HX.out)).mono ?_
                 rintro e w6 ⟨rfl, hb6⟩
                 have bel6 := Lib.hid (bel3.trans (hb6.mono bel3.size))
                 clear hb6
                 try dsimp only
                 refine hK.out _ _ (keep2 bel6.out hlt7 hc07 hc17) (fun hHeld => ?_)
                 clear hK Kc
                 try simp only [Act.put, List.setIfInBounds_toArray, List.set_cons_zero, List.set_cons_succ, List.getElem_toArray, List.getElem_cons_zero, List.getElem_cons_succ]
                 refine wpAnyH_take (i := 13) (v := ?_) rfl (by kernel_rfl) (by kernel_rfl) (by kernel_rfl) (fun _ _ _ h => h) (Or.inl ⟨by rfl, ?_⟩) (by assumption) ?_
                 rotate_left
                 · intro W hSw
                   try dsimp only at hSw
                   go_simp
                   try with_reducible rfl
                 try simp only [Act.put, List.setIfInBounds_toArray, List.set_cons_zero, List.set_cons_succ, List.getElem_toArray, List.getElem_cons_zero, List.getElem_cons_succ]
                 refine wpAnyH_take (i := 14) (v := ?_) rfl (by kernel_rfl) (by kernel_rfl) (by kernel_rfl) (fun _ _ _ h => h) (Or.inl ⟨by rfl, ?_⟩) (by assumption) ?_
                 rotate_left
                 · intro W hSw
                   try dsimp only at hSw
                   go_simp
                   try with_reducible rfl
                 try simp only [Act.put, List.setIfInBounds_toArray, List.set_cons_zero, List.set_cons_succ, List.getElem_toArray, List.getElem_cons_zero, List.getElem_cons_succ]
                 refine wpAnyH_take (i := 15) (v := ?_) rfl (by kernel_rfl) (by kernel_rfl) (by kernel_rfl) (fun _ _ _ h => h) (Or.inl ⟨by rfl, ?_⟩) (by assumption) ?_
                 rotate_left
                 · intro W hSw
                   try dsimp only at hSw
                   go_simp
                   try with_reducible rfl
                 try simp only [Act.put, List.setIfInBounds_toArray, List.set_cons_zero, List.set_cons_succ, List.getElem_toArray, List.getElem_cons_zero, List.getElem_cons_succ]
                 refine wpAnyH_take (i := 16) (v := ?_) rfl (by kernel_rfl) (by kernel_rfl) (by kernel_rfl) (fun _ _ _ h => h) (Or.inl ⟨by rfl, ?_⟩) (by assumption) ?_
                 rotate_left
                 · intro W hSw
                   try dsimp only at hSw
                   go_simp
                   try with_reducible rfl
                 try simp only [Act.put, List.setIfInBounds_toArray, List.set_cons_zero, List.set_cons_succ, List.getElem_toArray, List.getElem_cons_zero, List.getElem_cons_succ]
                 refine wpAnyH_take (i := 17) (v := ?_) rfl (by kernel_rfl) (by kernel_rfl) (by kernel_rfl) (fun _ _ _ h => h) (Or.inl ⟨by rfl, ?_⟩) (by assumption) ?_
                 rotate_left
                 · intro W hSw
                   try dsimp only at hSw
                   go_simp
                   try with_reducible rfl
                 try simp only [Act.put, List.setIfInBounds_toArray, List.set_cons_zero, List.set_cons_succ, List.getElem_toArray, List.getElem_cons_zero, List.getElem_cons_succ]
                 refine wpAnyH_take (i := 18) (v := ?_) rfl (by kernel_rfl) (by kernel_rfl) (by kernel_rfl) (fun _ _ _ h => h) (Or.inl ⟨by rfl, ?_⟩) (by assumption) ?_
                 rotate_left
                 · intro W hSw
                   try dsimp only at hSw
                   go_simp
                   try with_reducible rfl
                 try simp only [Act.put, List.setIfInBounds_toArray, List.set_cons_zero, List.set_cons_succ, List.getElem_toArray, List.getElem_cons_zero, List.getElem_cons_succ]
                 refine wpAnyH_take (i := 19) (v := ?_) rfl (by kernel_rfl) (by kernel_rfl) (by kernel_rfl) (fun _ _ _ h => h) (Or.inl ⟨by rfl, ?_⟩) (by assumption) ?_
                 rotate_left
                 · intro W hSw
                   try dsimp only at hSw
                   go_simp
                   try with_reducible rfl
                 try simp only [Act.put, List.setIfInBounds_toArray, List.set_cons_zero, List.set_cons_succ, List.getElem_toArray, List.getElem_cons_zero, List.getElem_cons_succ]
                 refine wpAnyH_take (i := 20) (v := undef) rfl (by kernel_rfl) (by kernel_rfl) (by kernel_rfl) (fun _ _ _ h => h) (Or.inr ⟨by rfl, rfl⟩) (by assumption) ?_
                 try simp only [Act.put, List.setIfInBounds_toArray, List.set_cons_zero, List.set_cons_succ, List.getElem_toArray, List.getElem_cons_zero, List.getElem_cons_succ]
                 refine wpAnyH_take (i := 21) (v := undef) rfl (by kernel_rfl) (by kernel_rfl) (by kernel_rfl) (fun _ _ _ h => h) (Or.inr ⟨by rfl, rfl⟩) (by assumption) ?_
                 try simp only [Act.put, List.setIfInBounds_toArray, List.set_cons_zero, List.set_cons_succ, List.getElem_toArray, List.getElem_cons_zero, List.getElem_cons_succ]
                 refine wpAnyH_take (i := 22) (v := undef) rfl (by kernel_rfl) (by kernel_rfl) (by kernel_rfl) (fun _ _ _ h => h) (Or.inr ⟨by rfl, rfl⟩) (by assumption) ?_
                 try simp only [Act.put, List.setIfInBounds_toArray, List.set_cons_zero, List.set_cons_succ, List.getElem_toArray, List.getElem_cons_zero, List.getElem_cons_succ]
                 refine wpAnyH_take (i := 23) (v := ?_) rfl (by kernel_rfl) (by kernel_rfl) (by kernel_rfl) (fun _ _ _ h => h) (Or.inl ⟨by rfl, ?_⟩) (by assumption) ?_
                 rotate_left
                 · intro W hSw
                   try dsimp only at hSw
                   go_simp
                   try with_reducible rfl
                 try simp only [Act.put, List.setIfInBounds_toArray, List.set_cons_zero, List.set_cons_succ, List.getElem_toArray, List.getElem_cons_zero, List.getElem_cons_succ]
                 refine wpAnyH_take (i := 24) (v := ?_) rfl (by kernel_rfl) (by kernel_rfl) (by kernel_rfl) (fun _ _ _ h => h) (Or.inl ⟨by rfl, ?_⟩) (by assumption) ?_
                 rotate_left
                 · intro W hSw
                   try dsimp only at hSw
                   go_simp
                   try with_reducible rfl
                 try simp only [Act.put, List.setIfInBounds_toArray, List.set_cons_zero, List.set_cons_succ, List.getElem_toArray, List.getElem_cons_zero, List.getElem_cons_succ]
                 refine wpAnyH_take (i := 25) (v := ?_) rfl (by kernel_rfl) (by kernel_rfl) (by kernel_rfl) (fun _ _ _ h => h) (Or.inl ⟨by rfl, ?_⟩) (by assumption) ?_
                 rotate_left
                 · intro W hSw
                   try dsimp only at hSw
                   go_simp
                   try with_reducible rfl
                 try simp only [Act.put, List.setIfInBounds_toArray, List.set_cons_zero, List.set_cons_succ, List.getElem_toArray, List.getElem_cons_zero, List.getElem_cons_succ]
                 refine wpAnyH_done (by kernel_rfl) ?_ _
                 go_wp2_with fail
                 go_meet
                 exact ⟨rfl, HB7.out.below bel6.out⟩
               exact AllReadyH.nil
             exact AllReadyH.nil
           exact AllReadyH.nil
         exact AllReadyH.nil
       refine AllReadyH.cons rfl (fun Kc hK => ?_) ?_
       · go_simp
         refine hK.out _ _ (by go_keep) (fun hHeld => ?_)
         clear hK Kc
         try simp only [Act.put, List.setIfInBounds_toArray, List.set_cons_zero, List.set_cons_succ, List.getElem_toArray, List.getElem_cons_zero, List.getElem_cons_succ]
         refine wpAnyH_ready (rs := [6]) (by kernel_rfl) (by simp) ?_
         refine AllReadyH.cons rfl (fun Kc hK => ?_) ?_
         · go_simp
           refine hK.out _ _ (by go_keep) (fun hHeld => ?_)
           clear hK Kc
           try simp only [Act.put, List.setIfInBounds_toArray, List.set_cons_zero, List.set_cons_succ, List.getElem_toArray, List.getElem_cons_zero, List.getElem_cons_succ]
           refine wpAnyH_ready (rs := [8]) (by kernel_rfl) (by simp) ?_
           refine AllReadyH.cons rfl (fun Kc hK => ?_) ?_
           · (
        refine step_append_src rfl _ _ 22 rfl w7.heap.size 24 i0 _ 2 8 Try.underlying22 hi hz0 hz1 hz2 rfl two_pos _ 0 [] (own_empty ?_ ?_) rfl _ 0 (pcells ([] : List (Int × Int))) rfl ?_ (pcells_one _) hm1 hm2 ?_ ?_
        · go_size
        · repeat' (first | exact hx_new (by simp) | apply hx_alloc | apply hx_drew)
        · exact HV.out.below (HB7.out.bel.trans (Below.mono (B := w7.heap.size) (by first | exact (Below.refl _ _).alloc (Nat.le_refl _) _ | exact ((Below.refl _ _).alloc (Nat.le_refl _) _).drew | exact (((Below.refl _ _).alloc (Nat.le_refl _) _).alloc (by go_size) _).drew | exact ((Below.refl _ _).alloc (Nat.le_refl _) _).alloc (by go_size) _) (by have := HB7.out.lt; omega)))
        · go_size
        intro vb w4 own2 grow2 _
        try simp only [Nat.zero_add, List.nil_append] at own2
        have bel2 : Below w7.heap.size w7 w4 := Below.grown (by first | exact (Below.refl _ _).alloc (Nat.le_refl _) _ | exact ((Below.refl _ _).alloc (Nat.le_refl _) _).drew | exact (((Below.refl _ _).alloc (Nat.le_refl _) _).alloc (by go_size) _).drew | exact ((Below.refl _ _).alloc (Nat.le_refl _) _).alloc (by go_size) _) grow2 (by go_size) (fun k hk => by simp [Value.ownBlock] at hk; omega))
             refine hK.out _ _ (keep2 bel2 hlt7 hc07 hc17) (fun hHeld => ?_)
             clear hK Kc
             try simp only [Act.put, List.setIfInBounds_toArray, List.set_cons_zero, List.set_cons_succ, List.getElem_toArray, List.getElem_cons_zero, List.getElem_cons_succ]
             refine wpAnyH_ready (rs := [11]) (by kernel_rfl) (by simp) ?_
             refine AllReadyH.cons rfl (fun Kc hK => ?_) ?_
             · (
        refine step_append_src rfl _ _ 22 rfl w7.heap.size 24 i0 _ 2 8 Try.underlying22 hi hz0 hz1 hz2 rfl two_pos vb 0 (pcells ([] : List (Int × Int))) ?_ rfl _ 1 (pcells [(x0, x1)]) rfl ?_ (pcells_one _) hm3 hm4 ?_ ?_
        · first | exact own2 | exact own2.alloc _
        · first
          | (refine SlAt.block (e := 24) (fr := (0, 0)) #[.int .u32 x0, .int .u32 x1] _ rfl (hx_grown grow2 ?_ ?_) rfl one_len
             · repeat' (first | exact hx_new (by simp) | apply hx_alloc | apply hx_drew)
             · simp [Value.ownBlock])
          | (refine SlAt.block (e := 24) (fr := (0, 0)) #[.int .u32 x0, .int .u32 x1] _ rfl ?_ rfl one_len
             repeat' (first | exact hx_new (by simp) | apply hx_alloc | apply hx_drew))
        · have := bel2.size
          simp
          omega
        intro vc w5 own3 grow3 _
        have bel3 : Below w7.heap.size w7 w5 := Below.grown (by first | exact bel2 | exact bel2.alloc bel2.size _) grow3 (by have := bel2.size; simp; omega) (fun k hk => (own2.lt k hk).1))
               refine hK.out _ _ (keep2 bel3 hlt7 hc07 hc17) (fun hHeld => ?_)
               clear hK Kc
               try simp only [Act.put, List.setIfInBounds_toArray, List.set_cons_zero, List.set_cons_succ, List.getElem_toArray, List.getElem_cons_zero, List.getElem_cons_succ]
               refine wpAnyH_ready (rs := [12]) (by kernel_rfl) (by simp) ?_
               refine AllReadyH.cons rfl (fun Kc hK => ?_) ?_
               · go_simp
                 refine (rOverlap_val _ _ (([] : List (Int × Int)) ++ [(x0, x1)]) _ ((pcells_append _ _).symm ▸ SlAt.ofOwn own3) (inTick_snoc HL.out HX.out)).mono ?_
                 rintro e w6 ⟨rfl, hb6⟩
                 have bel6 := Lib.hid (bel3.trans (hb6.mono bel3.size))
                 clear hb6
                 try dsimp only
                 refine hK.out _ _ (keep2 bel6.out hlt7 hc07 hc17) (fun hHeld => ?_)
                 clear hK Kc
                 try simp only [Act.put, List.setIfInBounds_toArray, List.set_cons_zero, List.set_cons_succ, List.getElem_toArray, List.getElem_cons_zero, List.getElem_cons_succ]
                 refine wpAnyH_take (i := 13) (v := ?_) rfl (by kernel_rfl) (by kernel_rfl) (by kernel_rfl) (fun _ _ _ h => h) (Or.inl ⟨by rfl, ?_⟩) (by assumption) ?_
                 rotate_left
                 · intro W hSw
                   try dsimp only at hSw
                   go_simp
                   try with_reducible rfl
                 try simp only [Act.put, List.setIfInBounds_toArray, List.set_cons_zero, List.set_cons_succ, List.getElem_toArray, List.getElem_cons_zero, List.getElem_cons_succ]
                 refine wpAnyH_take (i := 14) (v := ?_) rfl (by kernel_rfl) (by kernel_rfl) (by kernel_rfl) (fun _ _ _ h => h) (Or.inl ⟨by rfl, ?_⟩) (by assumption) ?_
                 rotate_left
                 · intro W hSw
                   try dsimp only at hSw
                   go_simp
                   try with_reducible rfl
                 try simp only [Act.put, List.setIfInBounds_toArray, List.set_cons_zero, List.set_cons_succ, List.getElem_toArray, List.getElem_cons_zero, List.getElem_cons_succ]
                 refine wpAnyH_take (i := 15) (v := ?_) rfl (by kernel_rfl) (by kernel_rfl) (by kernel_rfl) (fun _ _ _ h => h) (Or.inl ⟨by rfl, ?_⟩) (by assumption) ?_
                 rotate_left
                 · intro W hSw
                   try dsimp only at hSw
                   go_simp
                   try with_reducible rfl
                 try simp only [Act.put, List.setIfInBounds_toArray, List.set_cons_zero, List.set_cons_succ, List.getElem_toArray, List.getElem_cons_zero, List.getElem_cons_succ]
                 refine wpAnyH_take (i := 16) (v := ?_) rfl (by kernel_rfl) (by kernel_rfl) (by kernel_rfl) (fun _ _ _ h => h) (Or.inl ⟨by rfl, ?_⟩) (by assumption) ?_
                 rotate_left
                 · intro W hSw
                   try dsimp only at hSw
                   go_simp
                   try with_reducible rfl
                 try simp only [Act.put, List.setIfInBounds_toArray, List.set_cons_zero, List.set_cons_succ, List.getElem_toArray, List.getElem_cons_zero, List.getElem_cons_succ]
                 refine wpAnyH_take (i := 17) (v := ?_) rfl (by kernel_rfl) (by kernel_rfl) (by kernel_rfl) (fun _ _ _ h => h) (Or.inl ⟨by rfl, ?_⟩) (by assumption) ?_
                 rotate_left
                 · intro W hSw
                   try dsimp only at hSw
                   go_simp
                   try with_reducible rfl
                 try simp only [Act.put, List.setIfInBounds_toArray, List.set_cons_zero, List.set_cons_succ, List.getElem_toArray, List.getElem_cons_zero, List.getElem_cons_succ]
                 refine wpAnyH_take (i := 18) (v := ?_) rfl (by kernel_rfl) (by kernel_rfl) (by kernel_rfl) (fun _ _ _ h => h) (Or.inl ⟨by rfl, ?_⟩) (by assumption) ?_
                 rotate_left
                 · intro W hSw
                   try dsimp only at hSw
                   go_simp
                   try with_reducible rfl
                 try simp only [Act.put, List.setIfInBounds_toArray, List.set_cons_zero, List.set_cons_succ, List.getElem_toArray, List.getElem_cons_zero, List.getElem_cons_succ]
                 refine wpAnyH_take (i := 19) (v := ?_) rfl (by kernel_rfl) (by kernel_rfl) (by kernel_rfl) (fun _ _ _ h => h) (Or.inl ⟨by rfl, ?_⟩) (by assumption) ?_
                 rotate_left
                 · intro W hSw
                   try dsimp only at hSw
                   go_simp
                   try with_reducible rfl
                 try simp only [Act.put, List.setIfInBounds_toArray, List.set_cons_zero, List.set_cons_succ, List.getElem_toArray, List.getElem_cons_zero, List.getElem_cons_succ]
                 refine wpAnyH_take (i := 20) (v := undef) rfl (by kernel_rfl) (by kernel_rfl) (by kernel_rfl) (fun _ _ _ h => h) (Or.inr ⟨by rfl, rfl⟩) (by assumption) ?_
                 try simp only [Act.put, List.setIfInBounds_toArray, List.set_cons_zero, List.set_cons_succ, List.getElem_toArray, List.getElem_cons_zero, List.getElem_cons_succ]
                 refine wpAnyH_take (i := 21) (v := undef) rfl (by kernel_rfl) (by kernel_rfl) (by kernel_rfl) (fun _ _ _ h => h) (Or.inr ⟨by rfl, rfl⟩) (by assumption) ?_
                 try simp only [Act.put, List.setIfInBounds_toArray, List.set_cons_zero, List.set_cons_succ, List.getElem_toArray, List.getElem_cons_zero, List.getElem_cons_succ]
                 refine wpAnyH_take (i := 22) (v := undef) rfl (by kernel_rfl) (by kernel_rfl) (by kernel_rfl) (fun _ _ _ h => h) (Or.inr ⟨by rfl, rfl⟩) (by assumption) ?_
                 try simp only [Act.put, List.setIfInBounds_toArray, List.set_cons_zero, List.set_cons_succ, List.getElem_toArray, List.getElem_cons_zero, List.getElem_cons_succ]
                 refine wpAnyH_take (i := 23) (v := ?_) rfl (by kernel_rfl) (by kernel_rfl) (by kernel_rfl) (fun _ _ _ h => h) (Or.inl ⟨by rfl, ?_⟩) (by assumption) ?_
                 rotate_left
                 · intro W hSw
                   try dsimp only at hSw
                   go_simp
                   try with_reducible rfl
                 try simp only [Act.put, List.setIfInBounds_toArray, List.set_cons_zero, List.set_cons_succ, List.getElem_toArray, List.getElem_cons_zero, List.getElem_cons_succ]
                 refine wpAnyH_take (i := 24) (v := ?_) rfl (by kernel_rfl) (by kernel_rfl) (by kernel_rfl) (fun _ _ _ h => h) (Or.inl ⟨by rfl, ?_⟩) (by assumption) ?_
                 rotate_left
                 · intro W hSw
                   try dsimp only at hSw
                   go_simp
                   try with_reducible rfl
                 try simp only [Act.put, List.setIfInBounds_toArray, List.set_cons_zero, List.set_cons_succ, List.getElem_toArray, List.getElem_cons_zero, List.getElem_cons_succ]
                 refine wpAnyH_take (i := 25) (v := ?_) rfl (by kernel_rfl) (by kernel_rfl) (by kernel_rfl) (fun _ _ _ h => h) (Or.inl ⟨by rfl, ?_⟩) (by assumption) ?_
                 rotate_left
                 · intro W hSw
                   try dsimp only at hSw
                   go_simp
                   try with_reducible rfl
                 try simp only [Act.put, List.setIfInBounds_toArray, List.set_cons_zero, List.set_cons_succ, List.getElem_toArray, List.getElem_cons_zero, List.getElem_cons_succ]
                 refine wpAnyH_done (by kernel_rfl) ?_ _
                 go_wp2_with fail
                 go_meet
                 exact ⟨rfl, HB7.out.below bel6.out⟩
               exact AllReadyH.nil
             exact AllReadyH.nil
           exact AllReadyH.nil
         exact AllReadyH.nil
       exact AllReadyH.nil
     exact AllReadyH.nil
    case rest =>
     obtain ⟨rfl, hH7⟩ := hcut
     go_wp2_with fail
     go_ret
     exact ⟨rfl, hH7.bel⟩
set_option maxHeartbeats 400000 in
theorem CapOverlaps_more (b off len cap k : Nat) (l LL : List (Int × Int)) (x0 x1 : Int) (hx : InTick [(x0, x1)]) (w : World) (h0 : 0 < len) (hcap : len ≤ cap) (hcm : cap ≤ maxLen) (hb : b < w.heap.size) (ht : InTick l) (hk : k = min len 100) (hLL : LL = l.take k) (hll : LL.length = k) (hcell : ∀ i, i < len → w.cell? ⟨b, off + i * 2, none⟩ = some (.int .u32 (l.getD i (0, 0)).1) ∧ w.cell? ⟨b, off + i * 2 + 1, none⟩ = some (.int .u32 (l.getD i (0, 0)).2)) :
    Calls Try.prog 3 #[.slice (some ⟨b, off, none⟩) len cap, .agg #[.int .u32 x0, .int .u32 x1]] w fun e w' => e = .returned (.bool true) ∧ Below w.heap.size w w' := by
  obtain ⟨i0, hi, hz0, hz1, hz2⟩ := info_parts Try.info24
  have HX := Lib.hid hx
  have HV : Hid (SlAt w (.slice (some ⟨b, off, none⟩) k cap) k 2 (pcells LL)) := by
    refine SlAt.mk w b off k cap 2 _ (by rw [pcells_length]; omega) (by omega) hcm hb (fun j u hu => ?_)
    have hj : j < k * 2 := by
      have := (List.getElem?_eq_some_iff.1 hu).1
      rw [pcells_length] at this
      omega
    obtain ⟨g1, g2⟩ := pcells_get LL (j / 2) (by omega)
    obtain ⟨c1, c2⟩ := hcell (j / 2) (by omega)
    have e : LL.getD (j / 2) (0, 0) = l.getD (j / 2) (0, 0) := by rw [hLL]; simp [List.getD, show j / 2 < k by omega]
    rw [e] at g1 g2
    rcases Nat.mod_two_eq_zero_or_one j with h | h
    · have ej : j / 2 * 2 = j := by omega
      rw [ej] at g1 c1
      rw [c1, ← g1, hu]
    · have ej : j / 2 * 2 + 1 = j := by omega
      rw [ej] at g2
      rw [Nat.add_assoc, ej] at c2
      rw [c2, ← g2, hu]
  have HL : Hid (InTick LL) := fun x hx => ht x (by rw [hLL] at hx; exact List.mem_of_mem_take hx)
  have hless : overlapOf (LL ++ [(x0, x1)]) ≤ overlapOf LL := overlap_less _ _ (by intro h; rw [h] at hll; simp at hll; omega)
  have hq : ((k : Int) == 0) = false := by simp; omega
  have hmin : (if (100 : Int) < (len : Int) then (100 : Int) else (len : Int)) = (k : Int) := by rw [hk]; split <;> omega
  have hk100 : k ≤ 100 := by omega
  have hkc : k ≤ cap := by omega
  unfold maxLen at hcm
  clear ht hcell hLL hk hll
  have hm1 : 0 + k ≤ maxLen := by unfold maxLen; omega
  have hm2 : (0 + k) * 8 ≤ 140737488355328 := by omega
  have hm3 : k + 1 ≤ maxLen := by unfold maxLen; omega
  have hm4 : (k + 1) * 8 ≤ 140737488355328 := by omega
  clear hx
  go_enter Try.func3, Try.ntmps3
  go_wp2_with fail
  refine (awake_any _).mono ?_; rintro e w1 ⟨rfl, hb⟩; have HB0 := Lib.hid hb; clear hb
  have hH : Held w x0 x1 w1 := by
    have hb := HB0.out
    have h0 : Held w x0 x1 (w.alloc (.cells #[.int .u32 x0, .int .u32 x1] 24)) := ⟨(Below.refl _ _).alloc (Nat.le_refl _) _, by simp, by simp, by simp⟩
    exact h0.below hb
  have HB := Lib.hid hH
  clear HB0 hH
  go_wp2_with (at_builtin; go_must (
        refine wpList_append_src rfl _ _ 22 rfl w1.heap.size 24 i0 _ 2 8 Try.underlying22 hi hz0 hz1 hz2 rfl two_pos _ 0 [] (own_empty ?_ ?_) rfl _ k (pcells LL) rfl ?_ (pcells_one _) hm1 hm2 ?_ ?_
        · go_size
        · repeat' (first | exact hx_new (by simp) | apply hx_alloc | apply hx_drew)
        · exact HV.out.below (HB.out.bel.trans (Below.mono (B := w1.heap.size) (by first | exact (Below.refl _ _).alloc (Nat.le_refl _) _ | exact ((Below.refl _ _).alloc (Nat.le_refl _) _).drew | exact (((Below.refl _ _).alloc (Nat.le_refl _) _).alloc (by go_size) _).drew | exact ((Below.refl _ _).alloc (Nat.le_refl _) _).alloc (by go_size) _) (by have := HB.out.lt; omega)))
        · go_size
        intro va w2 own1 grow1 _
        try simp only [Nat.zero_add, List.nil_append] at own1
        have bel1 : Below w1.heap.size w1 w2 := Below.grown (by first | exact (Below.refl _ _).alloc (Nat.le_refl _) _ | exact ((Below.refl _ _).alloc (Nat.le_refl _) _).drew | exact (((Below.refl _ _).alloc (Nat.le_refl _) _).alloc (by go_size) _).drew | exact ((Below.refl _ _).alloc (Nat.le_refl _) _).alloc (by go_size) _) grow1 (by go_size) (fun k hk => by simp [Value.ownBlock] at hk; omega)))
  have H3 := SlAt.ofOwn own1
  have hH2 := Lib.hid (HB.out.below bel1)
  clear own1 grow1 HB
  refine (Overlap_val _ _ _ _ H3 HL.out).mono ?_
  rintro e w3 ⟨rfl, hb3⟩
  have hH3 := hH2.out.below hb3
  clear H3 hb3 hH2 bel1
  have HB := Lib.hid hH3
  obtain ⟨_, _, hc0, hc1⟩ := hH3
  have hlt3 := HB.out.lt
  go_wp2_with fail
  go_cut [6] (fun s6 W => s6 = .int .i64 (overlapOf (LL ++ [(x0, x1)])) ∧ Held w x0 x1 W)
  case first =>
   go_region_held3 (fun W => W.cell? ⟨w.heap.size, 0, none⟩ = some (.int .u32 x0) ∧ W.cell? ⟨w.heap.size, 1, none⟩ = some (.int .u32 x1)) (first | go_keep | exact keep2 bel6.out hlt3 hc0 hc1 | exact keep2 bel3 hlt3 hc0 hc1 | exact keep2 bel2 hlt3 hc0 hc1)
    ((first
      | (have _ := own3; go_simp; go_at_call 11; go_must (refine (Overlap_val _ _ (LL ++ [(x0, x1)]) _ ((pcells_append _ _).symm ▸ SlAt.ofOwn own3) (inTick_snoc HL.out HX.out)).mono ?_; rintro e w6 ⟨rfl, hb6⟩; have bel6 := Lib.hid (bel3.trans (hb6.mono bel3.size)); clear hb6))
      | (have _ := own2; go_must (
        refine step_append_src rfl _ _ 22 rfl w3.heap.size 24 i0 _ 2 8 Try.underlying22 hi hz0 hz1 hz2 rfl two_pos vb k (pcells LL) ?_ rfl _ 1 (pcells [(x0, x1)]) rfl ?_ (pcells_one _) hm3 hm4 ?_ ?_
        · first | exact own2 | exact own2.alloc _
        · first
          | (refine SlAt.block (e := 24) (fr := (0, 0)) #[.int .u32 x0, .int .u32 x1] _ rfl (hx_grown grow2 ?_ ?_) rfl one_len
             · repeat' (first | exact hx_new (by simp) | apply hx_alloc | apply hx_drew)
             · simp [Value.ownBlock])
          | (refine SlAt.block (e := 24) (fr := (0, 0)) #[.int .u32 x0, .int .u32 x1] _ rfl ?_ rfl one_len
             repeat' (first | exact hx_new (by simp) | apply hx_alloc | apply hx_drew))
        · have := bel2.size
          simp
          omega
        intro vc w5 own3 grow3 _
        have bel3 : Below w3.heap.size w3 w5 := Below.grown (by first | exact bel2 | exact bel2.alloc bel2.size _) grow3 (by have := bel2.size; simp; omega) (fun k hk => (own2.lt k hk).1)))
      | (
        refine step_append_src rfl _ _ 22 rfl w3.heap.size 24 i0 _ 2 8 Try.underlying22 hi hz0 hz1 hz2 rfl two_pos _ 0 [] (own_empty ?_ ?_) rfl _ k (pcells LL) rfl ?_ (pcells_one _) hm1 hm2 ?_ ?_
        · go_size
        · repeat' (first | exact hx_new (by simp) | apply hx_alloc | apply hx_drew)
        · exact HV.out.below (HB.out.bel.trans (Below.mono (B := w3.heap.size) (by first | exact (Below.refl _ _).alloc (Nat.le_refl _) _ | exact ((Below.refl _ _).alloc (Nat.le_refl _) _).drew | exact (((Below.refl _ _).alloc (Nat.le_refl _) _).alloc (by go_size) _).drew | exact ((Below.refl _ _).alloc (Nat.le_refl _) _).alloc (by go_size) _) (by have := HB.out.lt; omega)))
        · go_size
        intro vb w4 own2 grow2 _
        try simp only [Nat.zero_add, List.nil_append] at own2
        have bel2 : Below w3.heap.size w3 w4 := Below.grown (by first | exact (Below.refl _ _).alloc (Nat.le_refl _) _ | exact ((Below.refl _ _).alloc (Nat.le_refl _) _).drew | exact (((Below.refl _ _).alloc (Nat.le_refl _) _).alloc (by go_size) _).drew | exact ((Below.refl _ _).alloc (Nat.le_refl _) _).alloc (by go_size) _) grow2 (by go_size) (fun k hk => by simp [Value.ownBlock] at hk; omega))))
   all_goals
    go_wp2_with fail
    go_meet
    exact ⟨rfl, HB.out.below bel6.out⟩
  case rest =>
    obtain ⟨rfl, hH6⟩ := hcut
    have HB := Lib.hid hH6
    obtain ⟨_, _, hc0, hc1⟩ := hH6
    have hlt3 := HB.out.lt
    go_wp2_with fail
    go_cut [4] (fun s4 W => s4 = .bool true ∧ Held w x0 x1 W)
    case first =>
     go_region_held3 (fun W => W.cell? ⟨w.heap.size, 0, none⟩ = some (.int .u32 x0) ∧ W.cell? ⟨w.heap.size, 1, none⟩ = some (.int .u32 x1)) (first | go_keep | exact keep2 bel6.out hlt7 hc07 hc17 | exact keep2 bel3 hlt7 hc07 hc17 | exact keep2 bel2 hlt7 hc07 hc17 | exact ⟨hc07, hc17⟩)
      ((first
      | (have _ := own3; go_simp; go_at_call 12; go_must (refine (rOverlap_val _ _ (LL ++ [(x0, x1)]) _ ((pcells_append _ _).symm ▸ SlAt.ofOwn own3) (inTick_snoc HL.out HX.out)).mono ?_; rintro e w6 ⟨rfl, hb6⟩; have bel6 := Lib.hid (bel3.trans (hb6.mono bel3.size)); clear hb6))
      | (have _ := own2; go_must (
        refine step_append_src rfl _ _ 22 rfl w7.heap.size 24 i0 _ 2 8 Try.underlying22 hi hz0 hz1 hz2 rfl two_pos vb k (pcells LL) ?_ rfl _ 1 (pcells [(x0, x1)]) rfl ?_ (pcells_one _) hm3 hm4 ?_ ?_
        · first | exact own2 | exact own2.alloc _
        · first
          | (refine SlAt.block (e := 24) (fr := (0, 0)) #[.int .u32 x0, .int .u32 x1] _ rfl (hx_grown grow2 ?_ ?_) rfl one_len
             · repeat' (first | exact hx_new (by simp) | apply hx_alloc | apply hx_drew)
             · simp [Value.ownBlock])
          | (refine SlAt.block (e := 24) (fr := (0, 0)) #[.int .u32 x0, .int .u32 x1] _ rfl ?_ rfl one_len
             repeat' (first | exact hx_new (by simp) | apply hx_alloc | apply hx_drew))
        · have := bel2.size
          simp
          omega
        intro vc w5 own3 grow3 _
        have bel3 : Below w7.heap.size w7 w5 := Below.grown (by first | exact bel2 | exact bel2.alloc bel2.size _) grow3 (by have := bel2.size; simp; omega) (fun k hk => (own2.lt k hk).1)))
      | (have _ := HB7; go_must (
        refine step_append_src rfl _ _ 22 rfl w7.heap.size 24 i0 _ 2 8 Try.underlying22 hi hz0 hz1 hz2 rfl two_pos _ 0 [] (own_empty ?_ ?_) rfl _ k (pcells LL) rfl ?_ (pcells_one _) hm1 hm2 ?_ ?_
        · go_size
        · repeat' (first | exact hx_new (by simp) | apply hx_alloc | apply hx_drew)
        · exact HV.out.below (HB7.out.bel.trans (Below.mono (B := w7.heap.size) (by first | exact (Below.refl _ _).alloc (Nat.le_refl _) _ | exact ((Below.refl _ _).alloc (Nat.le_refl _) _).drew | exact (((Below.refl _ _).alloc (Nat.le_refl _) _).alloc (by go_size) _).drew | exact ((Below.refl _ _).alloc (Nat.le_refl _) _).alloc (by go_size) _) (by have := HB7.out.lt; omega)))
        · go_size
        intro vb w4 own2 grow2 _
        try simp only [Nat.zero_add, List.nil_append] at own2
        have bel2 : Below w7.heap.size w7 w4 := Below.grown (by first | exact (Below.refl _ _).alloc (Nat.le_refl _) _ | exact ((Below.refl _ _).alloc (Nat.le_refl _) _).drew | exact (((Below.refl _ _).alloc (Nat.le_refl _) _).alloc (by go_size) _).drew | exact ((Below.refl _ _).alloc (Nat.le_refl _) _).alloc (by go_size) _) grow2 (by go_size) (fun k hk => by simp [Value.ownBlock] at hk; omega)))
      | (go_simp; go_at_call 12; go_must (refine (rOverlap_val _ _ LL _ (HV.out.below HB.out.bel.drew) HL.out).mono ?_; rintro e w7 ⟨rfl, hb7⟩; have belc := HB.out.drew.below hb7; have HB7 := Lib.hid belc; clear hb7; obtain ⟨_, _, hc07, hc17⟩ := belc; have hlt7 := HB7.out.lt))))
     all_goals
      go_wp2_with fail
      go_meet
      exact ⟨rfl, HB7.out.below bel6.out⟩
    case rest =>
     obtain ⟨rfl, hH7⟩ := hcut
     go_wp2_with fail
     go_ret
     exact ⟨rfl, hH7.bel⟩
theorem CapOverlaps_law {H : Type} (enc : TypeId × Value → H) : LawWalk enc 3 Try.f3 := by
  intro W base args ds before hval hA _ _
  rw [Try.params3] at hA hval
  obtain ⟨v0, vs0, d0, ds0, p0, q0, hargs, rfl, rfl, h0, r0⟩ := trodAll_cons hA
  obtain ⟨v1, vs1, d1, ds1, p1, q1, rfl, rfl, rfl, h1, r1⟩ := trodAll_cons r0
  obtain ⟨rfl, rfl, rfl⟩ := trodAll_nil r1
  obtain rfl : args = #[v0, v1] := by cases args; simp_all
  obtain ⟨a0, n0, c0, hv0⟩ := okWide_slice Try.underlying22 (hval 0 22 v0 rfl rfl)
  obtain ⟨x0, x1, rfl, wx0, wx1⟩ := open_arr2_val Try.underlying24 Try.underlying23 (by kernel_rfl) (by kernel_rfl) (hval 1 24 v1 rfl rfl) h1
  have hx : InTick [(x0, x1)] := by
    intro y hy
    simp at hy
    subst hy
    have e0 := bounds_u32 wx0
    have e1 := bounds_u32 wx1
    simp only
    omega
  rcases open_pairs Try.underlying22 Try.underlying24 Try.underlying23 (by kernel_rfl) (by kernel_rfl) h0 (by rw [hv0]; rfl) with rfl | ⟨a, len, cap, l, rfl, hlc, hcm, hll, hwf, hcell⟩
  · exact CapOverlaps_nil x0 x1 hx W
  · by_cases hz : len = 0
    · subst hz
      exact CapOverlaps_zero a cap hcm x0 x1 hx W
    · obtain ⟨b, off, rfl, hb, hc⟩ := hcell (by omega)
      exact CapOverlaps_more b off len cap _ l _ x0 x1 hx W (by omega) hlc hcm hb (fun x hx => by obtain ⟨g0, g1⟩ := hwf x hx; have e0 := bounds_u32 g0; have e1 := bounds_u32 g1; omega) rfl rfl (by rw [List.length_take, hll]; omega) hc
set_option maxRecDepth 100000 in
theorem CapOverlaps_lifted (os : Os) (started : os.Started) (H : Type) (enc : TypeId × Value → H) :
    ReturnsInHanded {} Try.checked os 3 .any (Rows.capOverlapsSpec.pre6 enc Try.prog Try.f3 Rows.capOverlapsRow.domain false) (Rows.capOverlapsSpec.post enc Try.prog Try.f3 false true false false) :=
  lift_true started Try.func3 (by kernel_rfl)
    (ChangeSpec.witness6 (enc := enc) (C := Try.checked) false ⟨#[], #[.slice none 0 0, .agg #[.int .u32 0, .int .u32 0]], []⟩ 8 (by kernel_rfl) (by kernel_rfl) (by kernel_rfl) (by kernel_rfl))
    rfl rfl (by kernel_rfl) (fun ds h => by match ds, h with | [a0, a1], _ => rfl) (CapOverlaps_law enc)
theorem CapOverlaps_over : Rows.capOverlapsRow.holds Try.pinned (OpenSpec.ofChange Rows.capOverlapsSpec) :=
  OpenClaim.holds_of_wide 3 Try.f3 rfl rfl rfl rfl rfl rfl rfl ⟨rfl, rfl, rfl, rfl, rfl⟩ rfl rfl rfl rfl rfl (by kernel_rfl) Try.func3 (by kernel_rfl)
    (of_decide_eq_true (by kernel_rfl)) (by unfold Func.isWrapper; rw [if_neg (of_decide_eq_false (by kernel_rfl))]; exact ⟨rfl, rfl⟩)
    (fun os started H enc _ => CapOverlaps_lifted os started H enc)
theorem CapOverlaps_holds : Rows.CapOverlapsSaid := CapOverlaps_over
#print axioms CapOverlaps_holds
end Go.Proofs.Ytdafbepmilidnaa
