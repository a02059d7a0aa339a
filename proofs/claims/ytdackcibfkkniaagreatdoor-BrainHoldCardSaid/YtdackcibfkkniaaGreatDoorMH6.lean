/- BrainHold: nothing is ordered up to the tick to which it holds. -/
import Derived.Test.YtdackcibfkkniaaGreatDoorMH5
set_option synthInstance.maxSize 9999
set_option synthInstance.maxHeartbeats 400000
set_option maxRecDepth 100000
namespace Go.Proofs.YtdackcibfkkniaaGreatDoor
open Go.RowKit
namespace BN
abbrev ncE (cr : List (Nat × Nat)) : List (Int × Value) := cr.map fun p : Nat × Nat => ((p.1 : Int), Value.int .i64 (p.2 : Int))
theorem nc_get (cr : List (Nat × Nat)) (id : Nat) : alGet (id : Int) (ncE cr) = (nGet id cr).map fun v : Nat => Value.int .i64 (v : Int) := by
 induction cr with
 | nil => rfl
 | cons x cr ih =>
  simp only [List.map_cons, alGet, nGet]
  by_cases h : x.1 = id
  ·rw [if_pos h, if_pos (by omega)]; rfl
  ·rw [if_neg h, if_neg (by omega)]; exact ih
theorem nc_put (cr : List (Nat × Nat)) (id v : Nat) : alPut (id : Int) (.int .i64 (v : Int)) (ncE cr) = ncE (nPut id v cr) := by
 induction cr with
 | nil => rfl
 | cons x cr ih =>
  simp only [List.map_cons, alPut, nPut]
  by_cases h : x.1 = id
  ·rw [if_pos h, if_pos (by omega)]; rfl
  ·rw [if_neg h, if_neg (by omega)]; exact congrArg _ ih
def crStep (cr : List (Nat × Nat)) (n : Nd) : List (Nat × Nat) := if runOf n.rk ≠ 0 then nPut (runOf n.rk) (nLook (runOf n.rk) cr + 1) cr else cr
def crOf (l : List Nd) : List (Nat × Nat) := l.foldl crStep []
theorem crOf_snoc (l : List Nd) (n : Nd) : crOf (l ++ [n]) = crStep (crOf l) n := by rw [crOf, List.foldl_append]; rfl
theorem cntOf_snoc (l : List Nd) (n : Nd) (id : Nat) : cntOf (l ++ [n]) id = cntOf l id + if runOf n.rk = id then 1 else 0 := by
 unfold cntOf
 rw [List.filter_append, List.length_append]
 congr 1
 by_cases h : runOf n.rk = id
 ·simp [h]
 ·simp [h]
theorem cr_get (l : List Nd) : (keys (crOf l)).Nodup ∧ ∀ id, nGet id (crOf l) = if id ≠ 0 ∧ 0 < cntOf l id then some (cntOf l id) else none := by
 have key : ∀ (l m : List Nd), ((keys (crOf m)).Nodup ∧ ∀ id, nGet id (crOf m) = if id ≠ 0 ∧ 0 < cntOf m id then some (cntOf m id) else none) → ((keys (crOf (m ++ l))).Nodup ∧ ∀ id, nGet id (crOf (m ++ l)) = if id ≠ 0 ∧ 0 < cntOf (m ++ l) id then some (cntOf (m ++ l) id) else none) := by
  intro l
  induction l with
  | nil => intro m h; rw [List.append_nil]; exact h
  | cons n l ih =>
   intro m h
   have e : m ++ n :: l = (m ++ [n]) ++ l := by simp
   rw [e]
   refine ih (m ++ [n]) ?_
   rw [crOf_snoc]
   unfold crStep
   by_cases hr : runOf n.rk ≠ 0
   ·rw [if_pos hr]
    refine ⟨nPut_keys _ _ h.1, fun id => ?_⟩
    rw [nGet_put, cntOf_snoc]
    by_cases e2 : id = runOf n.rk
    ·rw [if_pos e2, if_pos e2.symm, if_pos ⟨by rw [e2]; exact hr, by omega⟩]
     congr 1
     rw [nLook, h.2, ← e2]
     split
     ·rfl
     ·rename_i h3
      have h3 : ¬ (id ≠ 0 ∧ 0 < cntOf m id) := h3
      have : cntOf m id = 0 := by
       have : id ≠ 0 := by rw [e2]; exact hr
       exact Classical.byContradiction fun h4 => h3 ⟨this, by omega⟩
      rw [this]; rfl
    ·have hz : (if runOf n.rk = id then 1 else 0) = 0 := if_neg (fun e3 => e2 e3.symm)
     rw [if_neg e2, hz, Nat.add_zero]
     exact h.2 id
   ·rw [if_neg hr]
    refine ⟨h.1, fun id => ?_⟩
    rw [h.2, cntOf_snoc]
    by_cases e2 : runOf n.rk = id
    ·have : id = 0 := by rw [← e2]; exact Classical.byContradiction hr
     rw [if_neg (fun h => h.1 this), if_neg (fun h => h.1 this)]
    ·rw [if_neg e2, Nat.add_zero]
 have := key l [] ⟨List.nodup_nil, fun id => by rw [if_neg (fun h => absurd h.2 (by simp [cntOf]))]; rfl⟩
 simpa using this
def hit (s : Sm) (l : List Nd) (id : Nat) : Bool := match jobOf s.jobs id with
 | none => false
 | some j => ranB l j
def ranN (s : Sm) (l : List Nd) (id : Nat) : Nat := nLook id s.ran + if hit s l id then 1 else 0
theorem nLook_put (k v : Nat) (l : List (Nat × Nat)) (i : Nat) : nLook i (nPut k v l) = if i = k then v else nLook i l := by
 unfold nLook
 rw [nGet_put]
 split <;> rfl
theorem ranR_look (s : Sm) (l : List Nd) (hn : (s.jobs.map (·.id)).Nodup) (id : Nat) : nLook id (ranR s l) = ranN s l id := by
 unfold ranR ranN hit
 have key : ∀ (js : List Jo) (r : List (Nat × Nat)), (js.map (·.id)).Nodup → nLook id (js.foldl (fun r j => if ranB l j then nPut j.id (nLook j.id r + 1) r else r) r) = nLook id r + if (match jobOf js id with | none => false | some j => ranB l j) = true then 1 else 0 := by
  intro js
  induction js with
  | nil => intro r _; rfl
  | cons j js ih =>
   intro r hn
   rw [List.map_cons, List.nodup_cons] at hn
   rw [List.foldl_cons, ih _ hn.2]
   have e : jobOf (j :: js) id = if j.id = id then some j else jobOf js id := by
    unfold jobOf
    rw [List.find?_cons]
    by_cases h : j.id = id
    ·rw [if_pos h, decide_eq_true h]
    ·rw [if_neg h, decide_eq_false h]
   rw [e]
   by_cases h : j.id = id
   ·have hno : jobOf js id = none := List.find?_eq_none.2 fun x hx => by
     have : x.id ≠ id := fun e9 => hn.1 (List.mem_map.2 ⟨x, hx, by rw [e9, h]⟩)
     simp [this]
    rw [if_pos h, hno]
    dsimp only
    by_cases hb : ranB l j = true
    ·rw [if_pos hb, if_pos hb, nLook_put, if_pos h.symm, h]; rfl
    ·rw [if_neg hb, if_neg hb]; rfl
   ·rw [if_neg h]
    by_cases hb : ranB l j = true
    ·rw [if_pos hb, nLook_put, if_neg (fun e9 => h e9.symm)]
    ·rw [if_neg hb]
 exact key s.jobs s.ran hn
def ranG (b : Nat) (g : Nat → Nat) : Assn := fun h => ∃ l : List (Int × Value), (∀ id : Nat, (alGet (id : Int) l).getD (.int .i64 0) = .int .i64 (g id : Nat)) ∧ mapL b .u32 l h
theorem Ent.ranG {b : Nat} {f : List (Nat × Nat)} {g : Nat → Nat} (h : ∀ id, g id = nLook id f) (Γ : List Assn) : Ent (ranM b f :: Γ) (ranG b g :: Γ) := Ent.mono1 Γ fun _ ⟨l, a, b⟩ => ⟨l, fun id => by rw [a, h], b⟩
theorem Ent.ranU {b : Nat} {f : List (Nat × Nat)} {g : Nat → Nat} (h : ∀ id, g id = nLook id f) (Γ : List Assn) : Ent (BN.ranG b g :: Γ) (ranM b f :: Γ) := Ent.mono1 Γ fun _ ⟨l, a, b⟩ => ⟨l, fun id => by rw [a, h], b⟩
section
variable {n : Nat} {md : Bool} {w0 : WM md} {ρ : Env} {Γ Δ : List Assn} {φ : Act → World → Prop}
theorem S.ranOpen (b : Nat) (g : Nat → Nat) [q : Pick (ranG b g) Γ Δ] (f : ∀ l : List (Int × Value), (∀ id : Nat, (alGet (id : Int) l).getD (.int .i64 0) = .int .i64 (g id : Nat)) → S n w0 ρ (mapL b .u32 l :: Δ) φ) : S n w0 ρ Γ φ := by
 intro a w ha hs hx
 obtain ⟨h0, l0, h1, h2, d, l1, l2, ⟨l, q1, q2⟩, s⟩ := hs.ent q.ent
 exact f l q1 a w ha ⟨h0, l0, h1, h2, d, l1, l2, q2, s⟩ hx
theorem Ent.ranClose {b : Nat} {g : Nat → Nat} {l : List (Int × Value)} (h : ∀ id : Nat, (alGet (id : Int) l).getD (.int .i64 0) = .int .i64 (g id : Nat)) (Γ : List Assn) : Ent (mapL b .u32 l :: Γ) (BN.ranG b g :: Γ) := Ent.mono1 Γ fun _ s => ⟨l, h, s⟩
end
theorem jo_get (js : List Jo) (id : Nat) : alGet (id : Int) (js.map joE) = (jobOf js id).map fun j => Value.agg (joC j).toArray := by
 unfold jobOf
 induction js with
 | nil => rfl
 | cons j js ih =>
  rw [List.map_cons, List.find?_cons]
  simp only [alGet]
  by_cases h : j.id = id
  ·rw [if_pos (by omega), decide_eq_true h]; rfl
  ·rw [if_neg (by omega), decide_eq_false h]; exact ih
theorem alGet_putI (z : Int) (v : Value) (l : List (Int × Value)) (y : Int) : alGet y (alPut z v l) = if y = z then some v else alGet y l := by
 induction l with
 | nil =>
  simp only [alPut, alGet]
 | cons x l ih =>
  simp only [alPut]
  by_cases h : z = x.1
  ·rw [if_pos h]
   simp only [alGet]
   by_cases h2 : y = z
   ·rw [if_pos h2, if_pos h2]
   ·rw [if_neg h2, if_neg h2, if_neg (by omega)]
  ·rw [if_neg h]
   simp only [alGet]
   by_cases h2 : y = x.1
   ·rw [if_pos h2, if_pos h2, if_neg (by omega)]
   ·rw [if_neg h2, if_neg h2, ih]
theorem S.mapAs {n : Nat} {md : Bool} {w0 : WM md} {ρ : Env} {Γ : List Assn} {φ : Act → World → Prop} (b : Nat) {kk : IntKind} {l : List (Int × Value)} (l' : List (Int × Value)) {Δ : List Assn} [h : HasM Γ b kk l Δ] (hl : l = l') (k : S n w0 ρ (mapL b kk l' :: Δ) φ) : S n w0 ρ Γ φ := S.ent h.ent (by subst hl; exact k)
theorem hit_no {s : Sm} {l : List Nd} {id : Nat} (h : id ∉ keys (crOf l)) : hit s l id = false := by
 have h1 := (cr_get l).2 id
 rw [nGet_none.2 h] at h1
 have h2 : ¬ (id ≠ 0 ∧ 0 < cntOf l id) := fun h2 => by rw [if_pos h2] at h1; cases h1
 unfold hit
 cases hj : jobOf s.jobs id with
 | none => rfl
 | some j =>
  have hid : j.id = id := by have h9 := List.find?_some hj; exact of_decide_eq_true h9
  cases hb : ranB l j with
  | false => exact hb
  | true =>
   simp only [ranB, Bool.and_eq_true, decide_eq_true_eq] at hb
   rw [hid] at hb
   exact absurd ⟨hb.1.1, hb.2⟩ h2
structure StOk (s : Sm) : Prop where
 tk : TkOk s
 now : s.now + 1 ≤ 4294967295
 am : amAll s.nd = true
 am2 : amAll (s.nd.map (ndTick (s.now + 1))) = true
 ws : WSav s.b
 o7 : s.b.orders.length ≤ 700000
 n16 : s.cn ≤ 16
 rn : ∀ id, nLook id s.ran ≤ s.now
theorem tick_len (now : Nat) (n : Nd) : (ndTick now n).inn = n.inn ∧ (ndTick now n).out = n.out ∧ (ndTick now n).up = n.up ∧ (ndTick now n).wrong = n.wrong := by
 unfold ndTick
 split
 ·split <;> exact ⟨rfl, rfl, rfl, rfl⟩
 ·exact ⟨rfl, rfl, rfl, rfl⟩
theorem qLe.tick {l : List Nd} {k : Nat} (h : qLe l k) (now : Nat) : qLe (l.map (ndTick now)) k := fun n hn => by
 obtain ⟨m, hm, rfl⟩ := List.mem_map.1 hn
 obtain ⟨e1, e2, _⟩ := tick_len now m
 rw [e1, e2]; exact h m hm
abbrev stNd (s : Sm) : List Nd := if (tickR s.b (s.now + 1)).1 ≠ 0 then setWrong (s.nd.map (ndTick (s.now + 1))) else s.nd.map (ndTick (s.now + 1))
theorem stickR_eq (s : Sm) : stickR s = takeR { s with now := s.now + 1, ran := ranR s (s.nd.map (ndTick (s.now + 1))), b := (tickR s.b (s.now + 1)).2, nd := stNd s, ok := s.ok && stB s } := rfl
set_option maxHeartbeats 8000000 in
theorem stick_S (p : Nat) (s : Sm) (hk : StOk s) {W : World} (hW : TabW W) : Spec Tryz.prog 55 [pt p] [SP p s, old W] fun Γ _ Θ => Θ = SP p (stickR s) :: old W :: Γ := by
 have hn1 := hk.tk.n1
 have hnow := hk.now
 have hlen := hk.tk.len
 have hkd := hk.tk.d
 have hki := hk.tk.i
 refine Zbd Tryz.func55 rfl Tryz.ntmps55 fun w0 Γ => Zsh ?_
 refine S.spOpen p s fun b ps nv ns rb jb gb db wb iv dv wv hF => ?_
 have hnn := hF.nn
 refine S.mapNodup jb fun hnd0 => ?_
 have hjn : (s.jobs.map (·.id)).Nodup := by
  rw [List.map_map] at hnd0
  refine List.pairwise_map.2 ((List.pairwise_map.1 hnd0).imp fun h e => h ?_)
  exact congrArg (fun n : Nat => (n : Int)) e
 refine S.ownLen nv fun hv1 hv2 hv3 => ?_
 rw [List.length_map] at hv1
 have hmx : maxLen ≤ 9223372036854775807 := by unfold maxLen; omega
 obtain ⟨L, hL⟩ : ∃ L, L = s.nd.map (ndTick (s.now + 1)) := ⟨_, rfl⟩
 have hLl : L.length = s.cn := by rw [hL, List.length_map, hlen]
 refine ZY 6 ?_
 refine Zv (q_add rfl rfl (inU32 (by omega) (by omega))) ?_
 refine ZY 6 ?_
 refine Zp (S.makeMap .u32 rfl ?_)
 intro b15
 refine ZY 5 ?_
 refine S.mapAs b15 (ncE []) rfl ?_
 refine S.blkAs p (smC { s with now := s.now + 1 } b nv rb jb gb db wb iv dv wv).toArray rfl ?_
 refine ZY 8 ?_
 refine Zl (fun fz ρ' Γ' => ∃ (e : Nat) (ns : List No) (cr : List (Nat × Nat)), fz = s.nd.length - e ∧ e ≤ s.nd.length ∧ cr = crOf (L.take e) ∧ ns.map (·.2) = L.take e ++ s.nd.drop e ∧ ρ' = [(0, pt p), (2, .map (some b15)), (19, nv.v), (20, .int .i64 (nv.n : Int)), (21, .int .i64 (e : Int))] ∧   Γ' = mapL b15 .u32 (ncE cr) :: blk p 55 (smC { s with now := s.now + 1 } b nv rb jb gb db wb iv dv wv).toArray :: BP b s.b ps :: own nv 103 1 (ns.map noV) :: alls ns noB :: ranM rb s.ran :: mapL jb .u32 (s.jobs.map joE) :: mapL gb .u32 (setT s.gone) :: mapL db .u32 (setT s.done) :: imgs iv s.images :: warM wb :: lstM dv s.fu :: lstM wv s.fu :: old W :: Γ) (m := _) (⟨0, ns, [], rfl, by omega, rfl, by rw [List.take_zero, List.drop_zero]; exact hF.nd, rfl, rfl⟩) ?_
 rintro fz ρ' Γ' ⟨e, ns, cr, hfz, he, hcr, hns, rfl, rfl⟩
 refine ZY 5 ?_
 refine Zj ef (fun h1 => ?_) (fun h1 => ?_)
 ·refine S.ownSome nv (by omega) fun nb nof hna _ _ _ => ?_
  obtain ⟨x, hx⟩ := getE (show e < s.nd.length by omega)
  have hLx : L[e]? = some (ndTick (s.now + 1) x) := by rw [hL, List.getElem?_map, hx]; rfl
  have hLt : L.take (e + 1) = L.take e ++ [ndTick (s.now + 1) x] := by rw [List.take_add_one, hLx]; rfl
  have hxx : (L.take e ++ s.nd.drop e)[e]? = some x := by
   rw [List.getElem?_append_right (by rw [List.length_take]; omega), List.length_take, Nat.min_eq_left (by omega), Nat.sub_self, List.getElem?_drop, Nat.add_zero]; exact hx
  obtain ⟨q, hq⟩ := ns_at hns hxx
  obtain ⟨m1, m2⟩ := ns_set hq (ndTick (s.now + 1) x)
  have hns2 : (ns.set e (q, ndTick (s.now + 1) x)).map (·.2) = L.take (e + 1) ++ s.nd.drop (e + 1) := by
   rw [m2, hns, List.set_append_right _ _ (by rw [List.length_take]; omega), List.length_take, Nat.min_eq_left (by omega), Nat.sub_self, hLt, List.append_assoc]
   congr 1
   have hkl := List.getElem?_eq_some_iff.1 hx
   rw [List.drop_eq_getElem_cons hkl.1]
   rfl
  have ham : amB x.rk = true := List.all_eq_true.1 hk.am x (List.mem_of_getElem? hx)
  have ham2 : amB (ndTick (s.now + 1) x).rk = true := List.all_eq_true.1 hk.am2 _ (by rw [← hL]; exact List.mem_of_getElem? hLx)
  have hcr2 : crOf (L.take (e + 1)) = crStep cr (ndTick (s.now + 1) x) := by rw [hLt, crOf_snoc, hcr]
  have hcrl : ∀ id, nLook id cr ≤ 1000 := fun id => by
   rw [nLook, hcr, (cr_get _).2]
   split
   ·have : cntOf (L.take e) id ≤ (L.take e).length := List.length_filter_le _ _
    rw [List.length_take] at this
    have := hk.tk.fu
    show cntOf (L.take e) id ≤ 1000
    have := hk.n16
    omega
   ·exact Nat.zero_le _
  refine S.conv (alls ns noB) (Ent.allsAt noB hq _) ?_
  refine ZY 5 ?_
  refine Zv (Zx (e) ef (hna) ef (by omega)) ?_
  refine Zv (Zo (nv) (e) ef (hna) (by rw [List.getElem?_map, hq]; rfl)) ?_
  refine ZY 8 ?_
  refine Zy ?_
  refine Zp (Zc1 Ze (ntick_S q x (s.now + 1) ham) ?_)
  rintro v Θ rfl
  refine ZY 4 ?_
  refine Zp (Zcp Ze (running_S q (ndTick (s.now + 1) x) ham2) ?_)
  obtain ⟨j0, hj0⟩ : ∃ j0, j0 = runOf (ndTick (s.now + 1) x).rk := ⟨_, rfl⟩
  rw [← hj0]
  refine S.conv3 (NI q (ndTick (s.now + 1) x)) (alls (ns.take e) noB) (alls (ns.drop (e + 1)) noB) (Ent.allsBack noB (x' := ((q, ndTick (s.now + 1) x) : No)) hq _) ?_
  rw [← m1]
  refine ZY 7 ?_
  refine Zj ef (fun h2 => ?_) (fun h2 => ?_)
  ·have hcr3 : crStep cr (ndTick (s.now + 1) x) = nPut j0 (nLook j0 cr + 1) cr := by rw [crStep, ← hj0, if_pos (by omega)]
   have hlo := hcrl j0
   obtain ⟨c0, hc0⟩ : ∃ c0, c0 = nLook j0 cr := ⟨_, rfl⟩
   rw [← hc0] at hcr3 hlo
   refine ZY 3 ?_
   refine Zv (q_lookup1 (.int .i64 (c0 : Int)) Tryz.underlying44 Tryz.underlying31 Tryz.zv3.h rfl rfl rfl (by rw [nc_get, hc0, nLook]; cases nGet j0 cr <;> rfl)) ?_
   refine Zv (Za ef ef) ?_
   refine Zp (S.mapUpdate Tryz.underlying44 Tryz.underlying31 rfl rfl rfl rfl ?_)
   rw [show ((c0 : Int) + 1) = ((c0 + 1 : Nat) : Int) by omega, nc_put]
   refine ZY 2 ?_
   refine S.mapAs b15 (ncE (crOf (L.take (e + 1)))) (by rw [hcr2, hcr3]) ?_
   refine Zv (Za ef ef) ?_
   refine ZY 2 ?_
   exact ZX (fz - 1) (⟨e + 1, ns.set e (q, ndTick (s.now + 1) x), crOf (L.take (e + 1)), by omega, by omega, rfl, hns2, rfl, rfl⟩) (by omega)
  ·have hcr3 : crStep cr (ndTick (s.now + 1) x) = cr := by rw [crStep, ← hj0, if_neg (by omega)]
   refine ZY 2 ?_
   refine S.mapAs b15 (ncE (crOf (L.take (e + 1)))) (by rw [hcr2, hcr3]) ?_
   refine Zv (Za ef ef) ?_
   refine ZY 2 ?_
   exact ZX (fz - 1) (⟨e + 1, ns.set e (q, ndTick (s.now + 1) x), crOf (L.take (e + 1)), by omega, by omega, rfl, hns2, rfl, rfl⟩) (by omega)
 ·rw [show L.take e = L by rw [show e = L.length by omega, List.take_length], show s.nd.drop e = [] by rw [show e = s.nd.length by omega, List.drop_length], List.append_nil] at hns
  rw [show L.take e = L by rw [show e = L.length by omega, List.take_length]] at hcr
  obtain ⟨CR, hCR⟩ : ∃ CR, CR = cr := ⟨_, rfl⟩
  rw [← hCR] at hcr ⊢
  have hCR := hcr
  obtain ⟨hcn, hcg⟩ := cr_get L
  rw [← hCR] at hcn hcg
  refine S.conv (ranM rb s.ran) (Ent.ranG (g := fun id => nLook id s.ran) (fun _ => rfl) _) ?_
  refine ZY 5 ?_
  refine Zp (S.range Tryz.underlying44 rfl rfl ?_)
  intro r41
  refine ZY 2 ?_
  refine Zl (fun fz ρ' Γ' => ∃ (left : List (Int × Value)) (cur : Option (Int × Value)) (jl : List (Nat × Nat)) (g : Nat → Nat), fz = left.length ∧ left = ncE jl ∧ (∀ y ∈ jl, y ∈ CR) ∧ (keys jl).Nodup ∧ (∀ id, g id = if id ∈ keys jl then nLook id s.ran else ranN s L id) ∧ ρ' = [(0, pt p), (41, .pointer (some ⟨r41, 0, none⟩))] ∧   Γ' = rngM r41 b15 .u32 (ncE CR) left cur :: blk p 55 (smC { s with now := s.now + 1 } b nv rb jb gb db wb iv dv wv).toArray :: BP b s.b ps :: own nv 103 1 (ns.map noV) :: alls ns noB :: ranG rb g :: mapL jb .u32 (s.jobs.map joE) :: mapL gb .u32 (setT s.gone) :: mapL db .u32 (setT s.done) :: imgs iv s.images :: warM wb :: lstM dv s.fu :: lstM wv s.fu :: old W :: Γ) (m := _) (⟨ncE CR, none, CR, fun id => nLook id s.ran, rfl, rfl, fun y hy => hy, hcn, fun id => by by_cases hi : id ∈ keys CR; (rw [if_pos hi]); (rw [if_neg hi, ranN, hit_no (by rw [← hCR]; exact hi)]; rfl), rfl, rfl⟩) ?_
  rintro fz ρ' Γ' ⟨left, cur, jl, g, hfz, hleft, hsub, hjn2, hg, rfl, rfl⟩
  refine ZY 2 ?_
  refine Zp (S.nextR rfl rfl (fun hl42 => ?_) (fun i42 z42 v42 hi42 => ?_))
  ·obtain rfl : jl = [] := by
    rw [hl42] at hleft
    exact List.map_eq_nil_iff.1 hleft.symm
   refine S.conv (ranG rb g) (Ent.ranU (f := ranR s L) (fun id => by rw [hg, if_neg (by simp), ranR_look s L hjn]) _) ?_
   obtain ⟨s3, hs3⟩ : ∃ s3 : Sm, s3 = { s with now := s.now + 1, ran := ranR s L, b := (tickR s.b (s.now + 1)).2, nd := stNd s, ok := s.ok && stB s } := ⟨_, rfl⟩
   have hT : stickR s = takeR s3 := by rw [stickR_eq, hs3, hL]
   have hstn : stNd s = if (tickR s.b (s.now + 1)).1 ≠ 0 then setWrong L else L := by rw [hL]
   refine S.bpOk b s.b ps fun hok => ?_
   obtain ⟨_, hto⟩ := tick_after hok hk.ws (now := s.now + 1) hk.now
   have htb := Sm3.tick s.b (s.now + 1)
   have htbi := htb.im
   have htbd := htb.dn
   have ho7 := hk.o7
   have hqL : qLe (stNd s) s.fu := by
    rw [hstn]
    split
    ·rw [hL]; exact (hk.tk.q.tick _).wrong
    ·rw [hL]; exact hk.tk.q.tick _
   have hlL : (stNd s).length = s.cn := by
    rw [hstn]
    split
    ·rw [setWrong_len, hLl]
    ·exact hLl
   have hk3 : TkOk s3 := by
    rw [hs3]
    exact ⟨hlL, hn1, hqL, hk.tk.im, hk.tk.fu, by show (tickR s.b (s.now + 1)).2.orders.length ≤ _; omega, by show (tickR s.b (s.now + 1)).2.images.length ≤ _; omega, by show (tickR s.b (s.now + 1)).2.done.length ≤ _; omega⟩
   refine ZY 7 ?_
   refine Zd ([blk p 55 (smC { s with now := s.now + 1 } b nv rb jb gb db wb iv dv wv).toArray]) [] (Zra 0 8) ?_
   refine ZY 8 ?_
   refine Z1 (i := 8) ef ef ?_
   refine  (Zcp Ze (Tick_S b s.b ps (s.now + 1) hk.now hk.ws hk.o7 hW) ?_)
   refine Zk [9] ?_
   refine Zy ?_
   refine ZD ?_
   refine Zj ef (fun h5 => ?_) (fun h5 => ?_)
   ·rw [if_pos h5] at hstn
    refine S.ownSome nv (by omega) fun nb nof hna _ _ _ => ?_
    obtain ⟨x0, hx0⟩ := getE (show 0 < L.length by omega)
    obtain ⟨q0, hq0⟩ := ns_at hns hx0
    have hsw : setWrong L = L.set 0 { x0 with wrong := true } := setWrong_set hx0
    obtain ⟨m1, m2⟩ := ns_set hq0 { x0 with wrong := true }
    rw [hns] at m2
    refine ZY 5 ?_
    refine Zv (Zx (0) ef (hna) ef (by omega)) ?_
    refine Zv (Zo (nv) (0) ef (hna) (by rw [List.getElem?_map, hq0]; rfl)) ?_
    refine S.conv (alls ns noB) (Ent.allsAt noB hq0 _) ?_
    refine S.niOpen q0 x0 fun nrb niv nov rs os hN => ?_
    refine ZY 4 ?_
    refine S.niClose q0 { x0 with wrong := true } nrb niv nov rs os ⟨hN.rk, hN.os, hN.i, hN.o⟩ ?_
    refine S.conv3 (noB ((q0, { x0 with wrong := true }) : No)) (alls (ns.take 0) noB) (alls (ns.drop (0 + 1)) noB) (Ent.allsBack noB (x' := ((q0, { x0 with wrong := true }) : No)) hq0 _) ?_
    rw [← m1]
    refine S.sub (smX p s3 b ps nv (ns.set 0 (q0, { x0 with wrong := true })) rb jb gb db wb iv dv wv (old W :: Γ)) (e := by subst hs3; infer_instance) ?_
    refine S.spClose p s3 b ps nv (ns.set 0 (q0, { x0 with wrong := true })) rb jb gb db wb iv dv wv ⟨by rw [hs3]; show _ = stNd s; rw [m2, hstn, hsw], by rw [hs3]; show nv.n = (stNd s).length; omega, by rw [hs3]; exact hF.im⟩ ?_
    refine ZY 2 ?_
    refine Zp (Zc1 Ze (take_S p s3 hk3) ?_)
    rintro v Θ rfl
    refine Zy ?_
    exact Zfn ef Zq (by rw [hT])
   ·rw [if_neg h5] at hstn
    refine Zy ?_
    refine S.sub (smX p s3 b ps nv ns rb jb gb db wb iv dv wv (old W :: Γ)) (e := by subst hs3; infer_instance) ?_
    refine S.spClose p s3 b ps nv ns rb jb gb db wb iv dv wv ⟨by rw [hs3]; show _ = stNd s; rw [hns, hstn], by rw [hs3]; show nv.n = (stNd s).length; omega, by rw [hs3]; exact hF.im⟩ ?_
    refine ZY 2 ?_
    refine Zp (Zc1 Ze (take_S p s3 hk3) ?_)
    rintro v Θ rfl
    refine Zy ?_
    exact Zfn ef Zq (by rw [hT])
  ·obtain ⟨x, hx, hxe⟩ : ∃ x, jl[i42]? = some x ∧ ((x.1 : Int), Value.int .i64 (x.2 : Int)) = (z42, v42) := by
    rw [hleft, List.getElem?_map] at hi42
    exact Option.map_eq_some_iff.1 hi42
   simp only [Prod.mk.injEq] at hxe
   obtain ⟨rfl, rfl⟩ := hxe
   have hxm := List.mem_of_getElem? hx
   have hgx := nGet_of_mem (k := x.1) (v := x.2) hcn (hsub x hxm)
   rw [hcg] at hgx
   obtain ⟨hx0, hxc, hxk⟩ : x.1 ≠ 0 ∧ 0 < cntOf L x.1 ∧ cntOf L x.1 = x.2 := by
    split at hgx
    ·rename_i h; exact ⟨h.1, h.2, Option.some.inj hgx⟩
    ·cases hgx
   have hlen2 : (left.eraseIdx i42).length < fz := by
    rw [hfz, List.length_eraseIdx_of_lt (by have := (List.getElem?_eq_some_iff.1 hi42).1; exact this)]
    have := (List.getElem?_eq_some_iff.1 hi42).1
    omega
   have hle : (left.eraseIdx i42) = ncE (jl.eraseIdx i42) := by rw [hleft]; exact (map_eraseIdx' _ jl i42).symm
   have hsub2 : ∀ y ∈ jl.eraseIdx i42, y ∈ CR := fun y hy => hsub y (List.mem_of_mem_eraseIdx hy)
   have hpe := perm_erase hx
   have hjn3 : (x.1 :: keys (jl.eraseIdx i42)).Nodup := (hpe.map Prod.fst).nodup_iff.1 hjn2
   rw [List.nodup_cons] at hjn3
   have hkm : ∀ id, id ∈ keys jl ↔ id = x.1 ∨ id ∈ keys (jl.eraseIdx i42) := fun id => ((hpe.map Prod.fst).mem_iff).trans List.mem_cons
   have hgo : g x.1 = nLook x.1 s.ran := by rw [hg, if_pos ((hkm _).2 (.inl rfl))]
   have hrn := hk.rn x.1
   refine ZY 8 ?_
   refine Zv (q_entryR rfl) ?_
   refine ZY 6 ?_
   rcases hj : jobOf s.jobs x.1 with _ | j
   ·have hhit : hit s L x.1 = false := by rw [hit, hj]
    refine ZY 7 ?_
    refine Zv (q_lookup1 (.agg #[.int .u32 0, .int .u8 0, .int .i64 0, .int .i64 0, .int .u8 0, .int .i64 0]) Tryz.underlying49 Tryz.underlying31 Tryz.zv35.h rfl rfl rfl (by rw [jo_get, hj]; rfl)) ?_
    refine ZY 3 ?_
    refine Zj ef (fun h4 => ?_) (fun h4 => ?_)
    ·exact absurd h4 (by omega)
    ·have hhit : hit s L x.1 = false := by
      first
       | exact hhit
       | (rw [hit, hj]; show ranB L j = false; rw [ranB, hjid, decide_eq_false (show ¬ cntOf L x.1 = j.k by omega), Bool.and_false]; rfl)
     have hg2 : ∀ id, g id = if id ∈ keys (jl.eraseIdx i42) then nLook id s.ran else ranN s L id := fun id => by
      rw [hg]
      by_cases hi : id = x.1
      ·rw [if_pos ((hkm id).2 (.inl hi)), if_neg (by rw [hi]; exact hjn3.1), ranN, hi, hhit]; rfl
      ·by_cases h9 : id ∈ keys (jl.eraseIdx i42)
       ·rw [if_pos h9, if_pos ((hkm id).2 (.inr h9))]
       ·rw [if_neg h9, if_neg (fun h => by rcases (hkm id).1 h with h | h; exact hi h; exact h9 h)]
     refine Zy ?_
     first | exact ZX (left.eraseIdx i42).length ⟨left.eraseIdx i42, some ((x.1 : Int), Value.int .i64 (x.2 : Int)), jl.eraseIdx i42, fun id => if id = x.1 then g0 + 1 else g id, rfl, hle, hsub2, hjn3.2, hg2, rfl, rfl⟩ hlen2 | exact ZX (left.eraseIdx i42).length ⟨left.eraseIdx i42, some ((x.1 : Int), Value.int .i64 (x.2 : Int)), jl.eraseIdx i42, g, rfl, hle, hsub2, hjn3.2, hg2, rfl, rfl⟩ hlen2
   ·have hjid : j.id = x.1 := by have h9 := List.find?_some hj; exact of_decide_eq_true h9
    refine ZY 7 ?_
    refine Zv (q_lookup1 (.agg (joC j).toArray) Tryz.underlying49 Tryz.underlying31 Tryz.zv35.h rfl rfl rfl (by rw [jo_get, hj]; rfl)) ?_
    refine ZY 3 ?_
    refine Zj ef (fun h4 => ?_) (fun h4 => ?_)
    ·have hhit : hit s L x.1 = true := by rw [hit, hj]; simp only [ranB, hjid, Bool.and_eq_true, decide_eq_true_eq]; exact ⟨⟨hx0, by omega⟩, hxc⟩
     refine S.ranOpen rb g fun lst hlst => ?_
     obtain ⟨g0, hg0⟩ : ∃ g0, g0 = g x.1 := ⟨_, rfl⟩
     have hl0 := hlst x.1
     rw [← hg0] at hl0 hgo
     refine ZY 6 ?_
     refine Zv (q_lookup1 (.int .i64 (g0 : Int)) Tryz.underlying44 Tryz.underlying31 Tryz.zv3.h rfl rfl rfl (hl0.symm)) ?_
     refine Zv (Za ef ef) ?_
     refine Zp (S.mapUpdate Tryz.underlying44 Tryz.underlying31 rfl rfl rfl rfl ?_)
     refine Zy ?_
     refine S.conv (mapL rb .u32 (alPut (x.1 : Int) (.int .i64 ((g0 : Int) + 1)) lst)) (Ent.ranClose (g := fun id => if id = x.1 then g0 + 1 else g id) (fun id => by
      rw [alGet_putI]
      by_cases hi : id = x.1
      ·rw [if_pos (by omega), if_pos hi]; show Value.int .i64 ((g0 : Int) + 1) = _; congr 1
      ·rw [if_neg (by omega), if_neg hi]; exact hlst id) _) ?_
     have hg2 : ∀ id, (fun id => if id = x.1 then g0 + 1 else g id) id = if id ∈ keys (jl.eraseIdx i42) then nLook id s.ran else ranN s L id := fun id => by
      show (if id = x.1 then g0 + 1 else g id) = _
      by_cases hi : id = x.1
      ·rw [if_pos hi, if_neg (by rw [hi]; exact hjn3.1), ranN, hi, hhit, hgo]; rfl
      ·rw [if_neg hi, hg]
       by_cases h9 : id ∈ keys (jl.eraseIdx i42)
       ·rw [if_pos h9, if_pos ((hkm id).2 (.inr h9))]
       ·rw [if_neg h9, if_neg (fun h => by rcases (hkm id).1 h with h | h; exact hi h; exact h9 h)]
     first | exact ZX (left.eraseIdx i42).length ⟨left.eraseIdx i42, some ((x.1 : Int), Value.int .i64 (x.2 : Int)), jl.eraseIdx i42, fun id => if id = x.1 then g0 + 1 else g id, rfl, hle, hsub2, hjn3.2, hg2, rfl, rfl⟩ hlen2 | exact ZX (left.eraseIdx i42).length ⟨left.eraseIdx i42, some ((x.1 : Int), Value.int .i64 (x.2 : Int)), jl.eraseIdx i42, g, rfl, hle, hsub2, hjn3.2, hg2, rfl, rfl⟩ hlen2
    ·have hhit : hit s L x.1 = false := by
      first
       | exact hhit
       | (rw [hit, hj]; show ranB L j = false; rw [ranB, hjid, decide_eq_false (show ¬ cntOf L x.1 = j.k by omega), Bool.and_false]; rfl)
     have hg2 : ∀ id, g id = if id ∈ keys (jl.eraseIdx i42) then nLook id s.ran else ranN s L id := fun id => by
      rw [hg]
      by_cases hi : id = x.1
      ·rw [if_pos ((hkm id).2 (.inl hi)), if_neg (by rw [hi]; exact hjn3.1), ranN, hi, hhit]; rfl
      ·by_cases h9 : id ∈ keys (jl.eraseIdx i42)
       ·rw [if_pos h9, if_pos ((hkm id).2 (.inr h9))]
       ·rw [if_neg h9, if_neg (fun h => by rcases (hkm id).1 h with h | h; exact hi h; exact h9 h)]
     refine Zy ?_
     first | exact ZX (left.eraseIdx i42).length ⟨left.eraseIdx i42, some ((x.1 : Int), Value.int .i64 (x.2 : Int)), jl.eraseIdx i42, fun id => if id = x.1 then g0 + 1 else g id, rfl, hle, hsub2, hjn3.2, hg2, rfl, rfl⟩ hlen2 | exact ZX (left.eraseIdx i42).length ⟨left.eraseIdx i42, some ((x.1 : Int), Value.int .i64 (x.2 : Int)), jl.eraseIdx i42, g, rfl, hle, hsub2, hjn3.2, hg2, rfl, rfl⟩ hlen2
theorem tkB_ok {s : Sm} (h : tkB s = true) : TkOk s := by
 simp only [tkB, Bool.and_eq_true, decide_eq_true_eq, List.all_eq_true] at h
 obtain ⟨⟨⟨⟨⟨⟨⟨h1, h2⟩, h3⟩, h4⟩, h5⟩, h6⟩, h7⟩, h8⟩ := h
 exact ⟨h1, h2, h3, h4, h5, h6, h7, h8⟩
theorem nLook_le {l : List (Nat × Nat)} {k : Nat} (h : ∀ x ∈ l, x.2 ≤ k) (id : Nat) : nLook id l ≤ k := by
 unfold nLook
 cases hg : nGet id l with
 | none => exact Nat.zero_le _
 | some v => exact h _ (nGet_mem hg)
theorem stB_ok {s : Sm} (h : stB s = true) : StOk s := by
 simp only [stB, Bool.and_eq_true, decide_eq_true_eq] at h
 obtain ⟨⟨⟨⟨⟨⟨⟨h1, h2⟩, h3⟩, h4⟩, h5⟩, h6⟩, h7⟩, h8⟩ := h
 refine ⟨tkB_ok h1, h2, h3, h4, fun x hx h0 => ?_, h6, h7, fun id => nLook_le (fun x hx => of_decide_eq_true (List.all_eq_true.1 h8 x hx)) id⟩
 have := List.all_eq_true.1 h5 x hx
 rw [Bool.or_eq_true, decide_eq_true_eq] at this
 rcases this with h9 | h9
 ·exact absurd h0 h9
 ·exact Option.isNone_iff_eq_none.1 h9
end BN
end Go.Proofs.YtdackcibfkkniaaGreatDoor
namespace Go.Proofs.YtdackcibfkkniaaGreatDoor
open Go.RowKit
namespace BN
section
variable {s : Sm} {i : Nat} {n : Nd}
theorem dv_down {back : Bool} (h : s.nd[i]? = some n) (hu : n.up = false) : deliverR s i back = (false, s) := by rw [deliverR, h]; dsimp only; rw [if_pos hu]
theorem dv_back0 (h : s.nd[i]? = some n) (ho : n.out = []) : deliverR s i true = (false, s) := by
 rw [deliverR, h]; dsimp only; rw [ho]
 split <;> rfl
theorem dv_back {x : Nt × List Int} {l : List (Nt × List Int)} (h : s.nd[i]? = some n) (hu : ¬ n.up = false) (ho : n.out = x :: l) : deliverR s i true = (true, takeR { hear1 s i n x l with ok := s.ok && ntB x && tkB s && decide (s.b.orders.length ≤ 800000) && decide (s.b.images.length ≤ 800000) && tkB (hear1 s i n x l) }) := by rw [deliverR, h]; dsimp only; rw [if_neg hu, if_pos rfl, ho]
theorem dv_in0 (h : s.nd[i]? = some n) (ho : n.inn = []) : deliverR s i false = (false, s) := by
 rw [deliverR, h]; dsimp only; rw [ho]
 split <;> rfl
theorem dv_in {x : Nt} {l : List Nt} (h : s.nd[i]? = some n) (hu : ¬ n.up = false) (ho : n.inn = x :: l) : deliverR s i false = (true, { act1 s i n x l with ok := s.ok && amB n.rk && tkB s }) := by rw [deliverR, h]; dsimp only; rw [if_neg hu, if_neg (by decide), ho]
end
theorem TkOk.withOk {s : Sm} (h : TkOk s) (o : Bool) : TkOk { s with ok := o } := ⟨h.len, h.n1, h.q, h.im, h.fu, h.o, h.i, h.d⟩
theorem takeR_ok (s : Sm) : (takeR s).ok = s.ok := rfl
set_option maxHeartbeats 8000000 in
theorem deliver_S (p : Nat) (s : Sm) (i : Nat) (back : Bool) (hi : i < s.nd.length) (hok : (deliverR s i back).2.ok = true) : Spec Tryz.prog 57 [pt p, .int .i64 (i : Int), .bool back] [SP p s] fun Γ v Θ => v = .bool (deliverR s i back).1 ∧ Θ = SP p (deliverR s i back).2 :: Γ := by
 obtain ⟨n, hn⟩ := getE hi
 refine Zbd Tryz.func57 rfl Tryz.ntmps57 fun w0 Γ => Zsh ?_
 refine S.spOpen p s fun b ps nv ns rb jb gb db wb iv dv wv hF => ?_
 have hnn := hF.nn
 refine S.ownSome nv (by omega) fun nb nof hna _ _ _ => ?_
 obtain ⟨q, hq⟩ := ns_at hF.nd hn
 refine S.conv (alls ns noB) (Ent.allsAt noB hq _) ?_
 refine S.niOpen q n fun nrb niv nov rs os hN => ?_
 have hNi := hN.i
 have hNo := hN.o
 refine ZY 5 ?_
 cases back
 ·skip
  refine ZY 6 ?_
  refine Zv (Zx (i) ef (hna) ef (by omega)) ?_
  refine Zv (Zo (nv) (i) ef (hna) (by rw [List.getElem?_map, hq]; rfl)) ?_
  refine ZY 8 ?_
  refine ZY 3 ?_
  refine Zi ef (fun h1 => ?_) (fun h1 => ?_)
  ·have hd := dv_down (back := false) hn (by simpa using h1)
   refine ZY 5 ?_
   refine S.niClose q n nrb niv nov rs os hN ?_
   refine S.conv3 (noB ((q, n) : No)) (alls (ns.take i) noB) (alls (ns.drop (i + 1)) noB) (Ent.allsBack' noB hq _) ?_
   refine S.spClose p s b ps nv ns rb jb gb db wb iv dv wv hF ?_
   exact Zf ef Zq (⟨by rw [hd]; rfl, by rw [hd]⟩)
  ·have hup : ¬ n.up = false := by simpa using h1
   refine ZY 8 ?_
   refine ZY 8 ?_
   refine ZY 8 ?_
   refine ZY 6 ?_
   refine Zj ef (fun h3 => ?_) (fun h3 => ?_)
   ·obtain ⟨x, l, hxl⟩ : ∃ x l, n.inn = x :: l := by
     cases ho : n.inn with
     | nil => exfalso; rw [ho, List.length_nil] at hNi; omega
     | cons x l => exact ⟨x, l, rfl⟩
    have hd := dv_in hn hup hxl
    rw [hd] at hok ⊢
    simp only [Bool.and_eq_true, decide_eq_true_eq] at hok
    obtain ⟨⟨k1, k2⟩, k3⟩ := hok
    have hk := tkB_ok k3
    have hko := (hk.q n (List.mem_of_getElem? hn)).2
    have hkf := hk.fu
    have hlo : 1 ≤ niv.n := by rw [hxl, List.length_cons] at hNi; omega
    refine S.conv (own niv 72 13 (n.inn.flatMap niC)) (show Ent _ (own niv 72 13 ((x :: l).flatMap niC) :: _) by rw [hxl]; exact Ent.refl _) ?_
    refine S.ownSome niv (by omega) fun ob oof hoa _ _ _ => ?_
    obtain ⟨s3, hs3⟩ : ∃ s3 : Sm, s3 = { act1 s i n x l with ok := s.ok && amB n.rk && tkB s } := ⟨_, rfl⟩
    rw [← hs3]
    obtain ⟨m1, m2⟩ := ns_set hq (actR { n with inn := l } x)
    rw [hF.nd] at m2
    refine ZY 6 ?_
    refine Zv (Zx (0) ef (hoa) ef (by omega)) ?_
    refine Zv (q_loadOwS (niv) (0 * 13) [_, _, _, _, _, _, _, _, _, _, _, _, _] Eo.h rfl hoa (by first | rfl | exact Nat.add_assoc _ _ _ | omega) rfl (flat_seg (enc := niC) (sz := 13) (fun _ => rfl) (show (x :: l)[0]? = some x from rfl))) ?_
    refine Zp (S.alloc Tryz.z72.h rfl ?_)
    intro b9
    refine Zp (Zs ef ef (cs' := [_, _, _, _, _, _, _, _, _, _, _, _, _]) ef ?_)
    refine ZY 8 ?_
    refine Zp (S.sliceDrop (s := niv) (1) Eo.h rfl rfl rfl (hlo) rfl ?_)
    intro niv2 hniv2
    rw [show ((x :: l).flatMap niC).drop (1 * 13) = l.flatMap niC from List.drop_left' rfl]
    refine ZY 8 ?_
    refine S.niClose q { n with inn := l } nrb niv2 nov rs os ⟨hN.rk, hN.os, by rw [hxl, List.length_cons] at hNi; show niv2.n = l.length; omega, hN.o⟩ ?_
    refine Zp (Zc1 Ze (act_S q { n with inn := l } x k2 (by show n.out.length ≤ _; omega)) ?_)
    rintro v Θ rfl
    refine ZY 3 ?_
    refine S.conv3 (NI q (actR { n with inn := l } x)) (alls (ns.take i) noB) (alls (ns.drop (i + 1)) noB) (Ent.allsBack noB (x' := ((q, actR { n with inn := l } x) : No)) hq _) ?_
    rw [← m1]
    refine S.conv (lstM dv s.fu) (Ent.lstLe dv (k' := s.fu + 1) (by omega) _) ?_
    refine S.conv (lstM wv s.fu) (Ent.lstLe wv (k' := s.fu + 1) (by omega) _) ?_
    refine S.sub (smX p s3 b ps nv (ns.set i (q, actR { n with inn := l } x)) rb jb gb db wb iv dv wv Γ) (e := by subst hs3; infer_instance) ?_
    refine S.spClose p s3 b ps nv (ns.set i (q, actR { n with inn := l } x)) rb jb gb db wb iv dv wv ⟨by rw [hs3]; exact m2, by rw [hs3]; show nv.n = (s.nd.set i _).length; rw [List.length_set]; exact hnn, by rw [hs3]; exact hF.im⟩ ?_
    refine ZY 3 ?_
    exact Zf ef Zq (⟨rfl, rfl⟩)
   ·have hd := dv_in0 hn (show n.inn = [] from List.eq_nil_of_length_eq_zero (by omega))
    refine ZY 6 ?_
    refine S.niClose q n nrb niv nov rs os hN ?_
    refine S.conv3 (noB ((q, n) : No)) (alls (ns.take i) noB) (alls (ns.drop (i + 1)) noB) (Ent.allsBack' noB hq _) ?_
    refine S.spClose p s b ps nv ns rb jb gb db wb iv dv wv hF ?_
    exact Zf ef Zq (⟨by rw [hd]; rfl, by rw [hd]⟩)
 ·skip
  refine ZY 6 ?_
  refine Zv (Zx (i) ef (hna) ef (by omega)) ?_
  refine Zv (Zo (nv) (i) ef (hna) (by rw [List.getElem?_map, hq]; rfl)) ?_
  refine ZY 8 ?_
  refine ZY 3 ?_
  refine Zi ef (fun h1 => ?_) (fun h1 => ?_)
  ·have hd := dv_down (back := true) hn (by simpa using h1)
   refine ZY 5 ?_
   refine S.niClose q n nrb niv nov rs os hN ?_
   refine S.conv3 (noB ((q, n) : No)) (alls (ns.take i) noB) (alls (ns.drop (i + 1)) noB) (Ent.allsBack' noB hq _) ?_
   refine S.spClose p s b ps nv ns rb jb gb db wb iv dv wv hF ?_
   exact Zf ef Zq (⟨by rw [hd]; rfl, by rw [hd]⟩)
  ·have hup : ¬ n.up = false := by simpa using h1
   refine ZY 8 ?_
   refine ZY 6 ?_
   refine Zj ef (fun h2 => ?_) (fun h2 => ?_)
   ·obtain ⟨x, l, hxl⟩ : ∃ x l, n.out = x :: l := by
     cases ho : n.out with
     | nil => exfalso; rw [ho, List.length_nil] at hNo; omega
     | cons x l => exact ⟨x, l, rfl⟩
    obtain ⟨o, os2, rfl⟩ : ∃ o os2, os = o :: os2 := by
     cases ho : os with
     | nil => have := hN.os; rw [ho, hxl] at this; cases this
     | cons o os2 => exact ⟨o, os2, rfl⟩
    have hoo := hN.os
    rw [hxl, List.map_cons, List.cons.injEq] at hoo
    obtain ⟨rfl, rfl⟩ := hoo
    have hd := dv_back hn hup hxl
    rw [hd] at hok ⊢
    rw [takeR_ok] at hok
    simp only [Bool.and_eq_true, decide_eq_true_eq] at hok
    obtain ⟨⟨⟨⟨⟨k1, k2⟩, k3⟩, k4⟩, k5⟩, k6⟩ := hok
    have k2' := k2
    simp only [ntB, Bool.and_eq_true, decide_eq_true_eq] at k2'
    obtain ⟨⟨⟨e1, e2⟩, e3⟩, e4⟩ := k2'
    have hlo : 1 ≤ nov.n := by rw [hxl, List.length_cons] at hNo; omega
    refine S.ownSome nov (by omega) fun ob oof hoa _ _ _ => ?_
    refine S.conv (alls (o :: os2) otB) (Ent.allsUncons otB o os2 _) ?_
    refine S.ownLen o.v fun hov1 hov2 hov3 => ?_
    rw [bcells_length, Nat.mul_one, Nat.mul_one] at hov1
    obtain ⟨s3, hs3⟩ : ∃ s3 : Sm, s3 = { hear1 s i n (otR o) (os2.map otR) with ok := s.ok && ntB (otR o) && tkB s && decide (s.b.orders.length ≤ 800000) && decide (s.b.images.length ≤ 800000) && tkB (hear1 s i n (otR o) (os2.map otR)) } := ⟨_, rfl⟩
    have hk3 : TkOk s3 := by rw [hs3]; exact (tkB_ok (s := hear1 s i n (otR o) (os2.map otR)) k6).withOk _
    rw [← hs3]
    obtain ⟨m1, m2⟩ := ns_set hq { n with out := os2.map otR }
    rw [hF.nd] at m2
    refine ZY 6 ?_
    refine Zv (Zx (0) ef (hoa) ef (by omega)) ?_
    refine Zv (q_loadOwS (nov) (0 * 13) [_, _, _, _, _, _, _, _, _, _, _, _, _] Eo.h rfl hoa (by first | rfl | exact Nat.add_assoc _ _ _ | omega) rfl (flat_seg (enc := otC) (sz := 13) (fun _ => rfl) (show (o :: os2)[0]? = some o from rfl))) ?_
    refine Zp (S.alloc Tryz.z72.h rfl ?_)
    intro b8
    refine Zp (Zs ef ef (cs' := [_, _, _, _, _, _, _, _, _, _, _, _, _]) ef ?_)
    refine ZY 8 ?_
    refine Zp (S.sliceDrop (s := nov) (1) Eo.h rfl rfl rfl (hlo) rfl ?_)
    intro nov2 hnov2
    rw [show ((o :: os2).flatMap otC).drop (1 * 13) = os2.flatMap otC from List.drop_left' (otC_len o)]
    refine ZY 5 ?_
    refine Zd ([blk p 55 (smC s b nv rb jb gb db wb iv dv wv).toArray, blk b8 72 (otC o).toArray]) [] (Zra 0 6) ?_
    refine ZY 6 ?_
    refine Z1 (i := 6) ef ef ?_
    refine  (Zcp Ze (Hear_S b s.b ps i o.x (otB o) o.v o.bs hov1.symm e4 RdS.own ⟨e2, e3⟩ e1 (by omega) (by omega)) ?_)
    refine Zk [] ?_
    refine ZD ?_
    refine ZY 3 ?_
    refine S.niClose q { n with out := os2.map otR } nrb niv nov2 rs os2 ⟨hN.rk, rfl, hN.i, by rw [hxl, List.length_cons] at hNo; show nov2.n = (os2.map otR).length; omega⟩ ?_
    refine S.conv3 (noB ((q, { n with out := os2.map otR }) : No)) (alls (ns.take i) noB) (alls (ns.drop (i + 1)) noB) (Ent.allsBack noB (x' := ((q, { n with out := os2.map otR }) : No)) hq _) ?_
    rw [← m1]
    refine S.sub (smX p s3 b ps nv (ns.set i (q, { n with out := os2.map otR })) rb jb gb db wb iv dv wv Γ) (e := by subst hs3; infer_instance) ?_
    refine S.spClose p s3 b ps nv (ns.set i (q, { n with out := os2.map otR })) rb jb gb db wb iv dv wv ⟨by rw [hs3]; exact m2, by rw [hs3]; show nv.n = (s.nd.set i _).length; rw [List.length_set]; exact hnn, by rw [hs3]; exact hF.im⟩ ?_
    refine Zp (Zc1 Ze (take_S p s3 hk3) ?_)
    rintro v Θ rfl
    refine ZY 6 ?_
    exact Zf ef Zq (⟨rfl, rfl⟩)
   ·have hd := dv_back0 hn (show n.out = [] from List.eq_nil_of_length_eq_zero (by omega))
    refine ZY 8 ?_
    refine ZY 8 ?_
    refine ZY 6 ?_
    refine S.niClose q n nrb niv nov rs os hN ?_
    refine S.conv3 (noB ((q, n) : No)) (alls (ns.take i) noB) (alls (ns.drop (i + 1)) noB) (Ent.allsBack' noB hq _) ?_
    refine S.spClose p s b ps nv ns rb jb gb db wb iv dv wv hF ?_
    exact Zf ef Zq (⟨by rw [hd]; rfl, by rw [hd]⟩)
theorem pb_nil {s : Sm} {ok : Bool} (h : s.images = []) : publishR s ok = (false, s) := by rw [publishR, h]
theorem pb_cons {s : Sm} {ok : Bool} {x : Im} {l : List Im} (h : s.images = x :: l) : publishR s ok = (true, takeR { pub1 s x l ok with ok := s.ok && tkB s && decide (s.b.orders.length ≤ 800000) && decide (s.b.done.length ≤ 800000) && tkB (pub1 s x l ok) }) := by rw [publishR, h]
set_option maxHeartbeats 4000000 in
theorem publish_S (p : Nat) (s : Sm) (ok : Bool) (hok : (publishR s ok).2.ok = true) : Spec Tryz.prog 58 [pt p, .bool ok] [SP p s] fun Γ v Θ => v = .bool (publishR s ok).1 ∧ Θ = SP p (publishR s ok).2 :: Γ := by
 refine Zbd Tryz.func58 rfl Tryz.ntmps58 fun w0 Γ => Zsh ?_
 refine S.spOpen p s fun b ps nv ns rb jb gb db wb iv dv wv hF => ?_
 have him := hF.im
 refine ZY 8 ?_
 refine ZY 6 ?_
 refine Zj ef (fun h1 => ?_) (fun h1 => ?_)
 ·have hd := pb_nil (ok := ok) (show s.images = [] from List.eq_nil_of_length_eq_zero (by omega))
  refine ZY 5 ?_
  refine S.spClose p s b ps nv ns rb jb gb db wb iv dv wv hF ?_
  exact Zf ef Zq (⟨by rw [hd]; rfl, by rw [hd]⟩)
 ·obtain ⟨x, l, hxl⟩ : ∃ x l, s.images = x :: l := by
   cases ho : s.images with
   | nil => exfalso; rw [ho, List.length_nil] at him; omega
   | cons x l => exact ⟨x, l, rfl⟩
  have hd := pb_cons (ok := ok) hxl
  rw [hd] at hok
  rw [takeR_ok] at hok
  simp only [Bool.and_eq_true, decide_eq_true_eq] at hok
  obtain ⟨⟨⟨⟨k1, k2⟩, k3⟩, k4⟩, k5⟩ := hok
  obtain ⟨s3, hs3⟩ : ∃ s3 : Sm, s3 = { pub1 s x l ok with ok := s.ok && tkB s && decide (s.b.orders.length ≤ 800000) && decide (s.b.done.length ≤ 800000) && tkB (pub1 s x l ok) } := ⟨_, rfl⟩
  have hk3 : TkOk s3 := by rw [hs3]; exact (tkB_ok (s := pub1 s x l ok) k5).withOk _
  rw [← hs3] at hd
  refine S.imgsOpen iv s.images fun io hio => ?_
  obtain ⟨o, io2, rfl⟩ : ∃ o io2, io = o :: io2 := by
   cases ho : io with
   | nil => rw [ho, hxl] at hio; cases hio
   | cons o io2 => exact ⟨o, io2, rfl⟩
  rw [hxl, List.map_cons, List.cons.injEq] at hio
  obtain ⟨rfl, rfl⟩ := hio
  have hlo : 1 ≤ iv.n := by rw [hxl, List.length_cons] at him; omega
  refine S.ownSome iv (by omega) fun ob oof hoa _ _ _ => ?_
  refine ZY 7 ?_
  refine Zv (Zx (0) ef (hoa) ef (by omega)) ?_
  refine Zv (q_loadOwS (iv) (0 * 4) [_, _, _, _] Eo.h rfl hoa (by first | rfl | exact Nat.add_assoc _ _ _ | omega) rfl (flat_seg (enc := igC) (sz := 4) (fun _ => rfl) (show (o :: io2)[0]? = some o from rfl))) ?_
  refine Zp (S.alloc Tryz.z60.h rfl ?_)
  intro b5
  refine Zp (Zs ef ef (cs' := [_, _, _, _]) ef ?_)
  refine ZY 8 ?_
  refine Zp (S.sliceDrop (s := iv) (1) Eo.h rfl rfl rfl (hlo) rfl ?_)
  intro iv2 hiv2
  rw [show ((o :: io2).flatMap igC).drop (1 * 4) = io2.flatMap igC from List.drop_left' rfl]
  refine ZY 5 ?_
  refine Zd ([blk p 55 (smC s b nv rb jb gb db wb iv2 dv wv).toArray, blk b5 60 (igC o).toArray]) [] (Zra 0 9) ?_
  refine ZY 8 ?_
  refine Zy ?_
  refine Z1 (i := 9) ef ef ?_
  refine  (Zcp Ze (Published_S b s.b ps o.2.job o.2.ver ok (by omega) (by omega)) ?_)
  refine Zk [] ?_
  refine ZD ?_
  refine ZY 3 ?_
  refine S.conv (alls (o :: io2) igB) ((Ent.allsUncons igB o io2 _).trans (Ent.drop _ _)) ?_
  refine S.conv2 (own iv2 60 4 (io2.flatMap igC)) (alls io2 igB) (Ent.toImgs iv2 io2 _) ?_
  refine S.sub (smX p s3 b ps nv ns rb jb gb db wb iv2 dv wv Γ) (e := by subst hs3; infer_instance) ?_
  refine S.spClose p s3 b ps nv ns rb jb gb db wb iv2 dv wv ⟨by rw [hs3]; exact hF.nd, by rw [hs3]; exact hF.nn, by rw [hs3]; rw [hxl, List.length_cons] at him; show iv2.n = (io2.map _).length; omega⟩ ?_
  refine Zp (Zc1 Ze (take_S p s3 hk3) ?_)
  rintro v Θ rfl
  refine ZY 6 ?_
  exact Zf ef Zq (⟨by rw [hd]; rfl, by rw [hd]⟩)
end BN
end Go.Proofs.YtdackcibfkkniaaGreatDoor
namespace Go.Proofs.YtdackcibfkkniaaGreatDoor
open Go.RowKit
namespace BN
theorem deliver_ok {s : Sm} {i : Nat} {back : Bool} (h : (deliverR s i back).2.ok = true) : s.ok = true := by
 cases hn : s.nd[i]? with
 | none => rw [deliverR, hn] at h; exact h
 | some n =>
  by_cases hu : n.up = false
  ·rw [dv_down hn hu] at h; exact h
  ·cases back with
   | true =>
    cases ho : n.out with
    | nil => rw [dv_back0 hn ho] at h; exact h
    | cons x l =>
     rw [dv_back hn hu ho, takeR_ok] at h
     simp only [Bool.and_eq_true] at h
     exact h.1.1.1.1.1
   | false =>
    cases ho : n.inn with
    | nil => rw [dv_in0 hn ho] at h; exact h
    | cons x l =>
     rw [dv_in hn hu ho] at h
     simp only [Bool.and_eq_true] at h
     exact h.1.1
theorem publish_ok {s : Sm} {o : Bool} (h : (publishR s o).2.ok = true) : s.ok = true := by
 cases hi : s.images with
 | nil => rw [pb_nil hi] at h; exact h
 | cons x l =>
  rw [pb_cons hi, takeR_ok] at h
  simp only [Bool.and_eq_true] at h
  exact h.1.1.1.1
theorem roundUp_ok {s : Sm} {o : Bool} : ∀ {i : Nat}, (roundUp s o i).2.ok = true → s.ok = true
 | 0, h => h
 | _ + 1, h => roundUp_ok (deliver_ok (deliver_ok h))
theorem calmUp_ok : ∀ {k : Nat} {s : Sm}, (calmUp s k).ok = true → s.ok = true
 | 0, _, h => h
 | k + 1, s, h => by
  simp only [calmUp] at h
  split at h
  ·exact publish_ok (roundUp_ok (calmUp_ok h))
  ·exact publish_ok (roundUp_ok h)
theorem stick_ok {s : Sm} (h : (stickR s).ok = true) : s.ok = true ∧ stB s = true := by
 rw [stickR_eq, takeR_ok] at h
 simpa only [Bool.and_eq_true] using h
theorem takeR_len (s : Sm) : (takeR s).nd.length = s.nd.length := by
 show (List.foldl doneR (ordsR s.nd s.b.orders, s.done) s.b.done).1.length = _
 rw [donesR_len, ordsR_len]
theorem deliver_len (s : Sm) (i : Nat) (back : Bool) : (deliverR s i back).2.nd.length = s.nd.length := by
 cases hn : s.nd[i]? with
 | none => rw [deliverR, hn]
 | some n =>
  by_cases hu : n.up = false
  ·rw [dv_down hn hu]
  ·cases back with
   | true =>
    cases ho : n.out with
    | nil => rw [dv_back0 hn ho]
    | cons x l => rw [dv_back hn hu ho, takeR_len]; exact List.length_set
   | false =>
    cases ho : n.inn with
    | nil => rw [dv_in0 hn ho]
    | cons x l => rw [dv_in hn hu ho]; exact List.length_set
theorem roundUp_len (s : Sm) (o : Bool) : ∀ i, (roundUp s o i).2.nd.length = s.nd.length
 | 0 => rfl
 | i + 1 => by
  show (deliverR (deliverR (roundUp s o i).2 i false).2 i true).2.nd.length = _
  rw [deliver_len, deliver_len, roundUp_len s o i]
theorem roundUp_le {s : Sm} {o : Bool} {i : Nat} : ∀ {k : Nat}, (roundUp s o (i + k)).2.ok = true → (roundUp s o i).2.ok = true
 | 0, h => h
 | k + 1, h => roundUp_le (k := k) (deliver_ok (deliver_ok h))
theorem calmUp_succ (s : Sm) (k : Nat) : calmUp s (k + 1) = if (roundUp (publishR s true).2 (publishR s true).1 (publishR s true).2.nd.length).1 then calmUp (roundUp (publishR s true).2 (publishR s true).1 (publishR s true).2.nd.length).2 k else (roundUp (publishR s true).2 (publishR s true).1 (publishR s true).2.nd.length).2 := rfl
set_option maxHeartbeats 4000000 in
theorem calm_S (p : Nat) (s : Sm) (hok : (calmR s).ok = true) {W : World} (hW : TabW W) : Spec Tryz.prog 28 [pt p] [SP p s, old W] fun Γ _ Θ => Θ = SP p (calmR s) :: old W :: Γ := by
 obtain ⟨k1, k2⟩ := stick_ok (calmUp_ok hok)
 obtain ⟨T, hT⟩ : ∃ T, T = calmR s := ⟨_, rfl⟩
 rw [← hT] at hok ⊢
 refine Zbd Tryz.func28 rfl Tryz.ntmps28 fun w0 Γ => Zsh ?_
 obtain ⟨s0, hs0⟩ : ∃ s0, s0 = stickR s := ⟨_, rfl⟩
 refine ZY 3 ?_
 refine Zp (Zc1 Ze (stick_S p s (stB_ok k2) hW) ?_)
 rintro v Θ rfl
 rw [← hs0]
 refine ZY 6 ?_
 refine Zl (fun fz ρ' Γ' => ∃ (k : Nat) (t : Sm), fz = 3000 - k ∧ k ≤ 3000 ∧ calmUp t fz = T ∧ ρ' = [(0, pt p), (2, .int .i64 (k : Int))] ∧ Γ' = SP p t :: old W :: Γ) (m := _) (⟨0, s0, rfl, by omega, by rw [hs0]; exact hT.symm, rfl, rfl⟩) ?_
 rintro fz ρ' Γ' ⟨k, t, hfz, hk, ht, rfl, rfl⟩
 refine ZY 6 ?_
 refine Zj ef (fun h1 => ?_) (fun h1 => ?_)
 ·obtain ⟨fy, rfl⟩ : ∃ fy, fz = fy + 1 := ⟨fz - 1, by omega⟩
  rw [calmUp_succ] at ht
  obtain ⟨t1, ht1⟩ : ∃ t1, t1 = publishR t true := ⟨_, rfl⟩
  rw [← ht1] at ht
  have hro : (roundUp t1.2 t1.1 t1.2.nd.length).2.ok = true := by
   split at ht
   ·rw [← ht] at hok; exact calmUp_ok hok
   ·rw [← ht] at hok; exact hok
  have hpo : (publishR t true).2.ok = true := by rw [← ht1]; exact roundUp_ok hro
  refine ZY 6 ?_
  refine Zp (Zcp Ze (publish_S p t true hpo) ?_)
  rw [← ht1]
  refine S.spOpen p t1.2 fun b ps nv ns rb jb gb db wb iv dv wv hF => ?_
  have hnn := hF.nn
  refine S.ownLen nv fun hv1 hv2 hv3 => ?_
  rw [List.length_map] at hv1
  have hmx : maxLen ≤ 9223372036854775807 := by unfold maxLen; omega
  refine ZY 8 ?_
  refine ZY 2 ?_
  refine S.spClose p t1.2 b ps nv ns rb jb gb db wb iv dv wv hF ?_
  refine ZY 3 ?_
  refine Zl (fun fy2 ρ' Γ' => ∃ (i : Nat) (r : Bool × Sm), fy2 = t1.2.nd.length - i ∧ i ≤ t1.2.nd.length ∧ r = roundUp t1.2 t1.1 i ∧ ρ' = [(0, pt p), (2, .int .i64 (k : Int)), (3, .bool r.1), (17, .int .i64 (nv.n : Int)), (18, .int .i64 (i : Int))] ∧ Γ' = SP p r.2 :: old W :: Γ) (m := _) (⟨0, t1, rfl, by omega, rfl, rfl, rfl⟩) ?_
  rintro fy2 ρ' Γ' ⟨i, r, hfy2, hi, hr, rfl, rfl⟩
  refine ZY 5 ?_
  refine Zj ef (fun h2 => ?_) (fun h2 => ?_)
  ·have hr1 : roundUp t1.2 t1.1 (i + 1) = ((deliverR (deliverR r.2 i false).2 i true).1 || (deliverR r.2 i false).1 || r.1, (deliverR (deliverR r.2 i false).2 i true).2) := by rw [hr]; rfl
   have hro1 : (roundUp t1.2 t1.1 (i + 1)).2.ok = true := roundUp_le (k := t1.2.nd.length - (i + 1)) (by rw [Nat.add_sub_cancel' (by omega)]; exact hro)
   have hil : i < r.2.nd.length := by rw [hr, roundUp_len]; omega
   obtain ⟨q1, hq1⟩ : ∃ q1, q1 = deliverR r.2 i false := ⟨_, rfl⟩
   rw [← hq1] at hr1
   obtain ⟨q2, hq2⟩ : ∃ q2, q2 = deliverR q1.2 i true := ⟨_, rfl⟩
   rw [← hq2] at hr1
   have hq2o : q2.2.ok = true := by rw [hr1] at hro1; exact hro1
   have hq1o : q1.2.ok = true := by rw [hq2] at hq2o; exact deliver_ok hq2o
   have hil1 : i < q1.2.nd.length := by rw [hq1, deliver_len]; exact hil
   obtain ⟨sm, hsm⟩ : ∃ sm, sm = (q1.1 || r.1) := ⟨_, rfl⟩
   obtain ⟨sm2, hsm2⟩ : ∃ sm2, sm2 = (q2.1 || sm) := ⟨_, rfl⟩
   rw [Bool.or_assoc, ← hsm, ← hsm2] at hr1
   refine ZY 2 ?_
   refine Zc (fun ρ' Γ' => ρ' = [(0, pt p), (2, .int .i64 (k : Int)), (3, .bool sm2), (17, .int .i64 (nv.n : Int)), (18, .int .i64 (i : Int))] ∧ Γ' = SP p q2.2 :: old W :: Γ) ?_ ?_
   ·refine ZY 7 ?_
    refine Zc (fun ρ' Γ' => ρ' = [(0, pt p), (2, .int .i64 (k : Int)), (3, .bool sm), (4, .int .i64 (i : Int)), (17, .int .i64 (nv.n : Int)), (18, .int .i64 (i : Int))] ∧ Γ' = SP p q1.2 :: old W :: Γ) ?_ ?_
    ·refine ZY 3 ?_
     refine Zp (Zcp Ze (deliver_S p r.2 i false hil (by rw [← hq1]; exact hq1o)) ?_)
     rw [← hq1]
     refine Zy ?_
     refine Zbb 24 ef (fun hg8_3 => ?_) (fun hg8_3 => ?_)
     ·refine ZY 4 ?_
      rw [hsm, hg8_3]
      exact ZM ⟨rfl, rfl⟩
     ·refine ZY 4 ?_
      rw [hsm, hg8_3]
      exact ZM ⟨rfl, rfl⟩
    ·rintro ρ' Γ' ⟨rfl, rfl⟩
     refine ZY 3 ?_
     refine Zp (Zcp Ze (deliver_S p q1.2 i true hil1 (by rw [← hq2]; exact hq2o)) ?_)
     rw [← hq2]
     refine Zy ?_
     refine Zbb 30 ef (fun hg9_3 => ?_) (fun hg9_3 => ?_)
     ·refine ZY 4 ?_
      rw [hsm2, hg9_3]
      exact ZM ⟨rfl, rfl⟩
     ·refine ZY 4 ?_
      rw [hsm2, hg9_3]
      exact ZM ⟨rfl, rfl⟩
   ·rintro ρ' Γ' ⟨rfl, rfl⟩
    refine Zy ?_
    refine Zv (Za ef ef) ?_
    refine ZY 2 ?_
    exact ZX (fy2 - 1) (⟨i + 1, (sm2, q2.2), by omega, by omega, hr1.symm, rfl, rfl⟩) (by omega)
  ·rw [show i = t1.2.nd.length by omega] at hr
   rw [← hr] at ht
   refine ZY 6 ?_
   refine Zi ef (fun h3 => ?_) (fun h3 => ?_)
   ·rw [show r.1 = false by simpa using h3] at ht
    rw [if_neg (by decide)] at ht
    refine Zy ?_
    exact Zf ef Zq (by rw [← ht])
   ·rw [show r.1 = true by simpa using h3, if_pos rfl] at ht
    refine ZY 3 ?_
    refine Zv (Za ef ef) ?_
    refine ZY 2 ?_
    exact ZX (fy) (⟨k + 1, r.2, by omega, by omega, ht, rfl, rfl⟩) (by omega)
 ·obtain rfl : fz = 0 := by omega
  replace ht : t = T := ht
  refine Zy ?_
  exact Zfn ef Zq (by rw [← ht])
end BN
end Go.Proofs.YtdackcibfkkniaaGreatDoor
namespace Go.Proofs.YtdackcibfkkniaaGreatDoor
open Go.RowKit
namespace BN
theorem config_S (n r q g : Nat) (hn : n ≤ 255) (hr : r ≤ 255) (hq : q ≤ 255) (hg : g ≤ 255) : Spec Tryz.prog 10 [.int .u8 (n : Int), .int .u8 (r : Int), .int .u8 (q : Int), .int .u8 (g : Int)] [] fun Γ v Θ => v = .agg #[.int .i64 ((1 + n % 6 : Nat) : Int), .int .i64 ((1 + r % 4 : Nat) : Int), .int .i64 ((1 + q % 6 : Nat) : Int), .int .i64 ((1 + g % 9 : Nat) : Int)] ∧ Θ = Γ := by
 refine Zbd Tryz.func10 rfl Tryz.ntmps10 fun w0 Γ => Zsh ?_
 refine ZY 2 ?_
 refine Zp (S.alloc Tryz.z25.h rfl ?_)
 intro b8
 refine ZY 4 ?_
 refine Zv (q_rem rfl rfl (⟨by omega, by omega⟩)) ?_
 refine Zv (q_conv Tryz.it3.h (by rw [Tryz.underlying5]; rfl) rfl (inI64 (by omega) (by omega))) ?_
 refine Zv (Za ef ef) ?_
 refine Zy ?_
 refine Zv (q_rem rfl rfl (⟨by omega, by omega⟩)) ?_
 refine Zv (q_conv Tryz.it3.h (by rw [Tryz.underlying5]; rfl) rfl (inI64 (by omega) (by omega))) ?_
 refine Zv (Za ef ef) ?_
 refine Zy ?_
 refine Zv (q_rem rfl rfl (⟨by omega, by omega⟩)) ?_
 refine Zv (q_conv Tryz.it3.h (by rw [Tryz.underlying5]; rfl) rfl (inI64 (by omega) (by omega))) ?_
 refine Zv (Za ef ef) ?_
 refine Zy ?_
 refine Zv (q_rem rfl rfl (⟨by omega, by omega⟩)) ?_
 refine Zv (q_conv Tryz.it3.h (by rw [Tryz.underlying5]; rfl) rfl (inI64 (by omega) (by omega))) ?_
 refine Zv (Za ef ef) ?_
 refine Zv (q_build (pvs := [(_, _), (_, _), (_, _), (_, _)]) [_, _, _, _] Tryz.z25.h Tryz.p25.h ⟨⟨rfl, rfl⟩, ⟨rfl, rfl⟩, ⟨rfl, rfl⟩, ⟨rfl, rfl⟩, trivial⟩ rfl) ?_
 refine Zp (Zs ef ef (cs' := [_, _, _, _]) ef ?_)
 refine ZY 2 ?_
 exact Zf ef Zq (⟨rfl, rfl⟩)
abbrev nd0 : Nd := ⟨true, [], [], [], false⟩
theorem ran0 (b : Nat) (Γ : List Assn) : Ent (mapL b .u32 [] :: Γ) (ranM b [] :: Γ) := Ent.mono1 Γ fun _ s => ⟨[], fun _ => rfl, s⟩
theorem lst0 (k : Nat) (Γ : List Assn) : Ent Γ (lstM SV.nil k :: Γ) := (show Ent Γ (own SV.nil 31 1 (idsV []) :: Γ) from Ent.ownNil 31 1).trans (Ent.lst SV.nil (l := []) (Nat.zero_le _) rfl Γ)
theorem niE (p rb : Nat) (up wr : Bool) (Γ : List Assn) : Ent (blk p 107 #[.bool up, .map (some rb), SV.nil.v, SV.nil.v, .bool wr] :: mapL rb .u32 [] :: Γ) (NI p ⟨up, [], [], [], wr⟩ :: Γ) := by
 have h1 : Ent Γ (own SV.nil 72 13 (([] : List Nt).flatMap niC) :: own SV.nil 72 13 (([] : List Ot).flatMap otC) :: alls ([] : List Ot) otB :: Γ) := (Ent.allsNil otB Γ).trans ((Ent.ownNil 72 13).trans (Ent.ownNil 72 13))
 have h2 : Ent (blk p 107 #[.bool up, .map (some rb), SV.nil.v, SV.nil.v, .bool wr] :: mapL rb .u32 [] :: Γ) (ndX p ⟨up, [], [], [], wr⟩ rb SV.nil SV.nil [] [] Γ) := Ent.cons _ (Ent.cons _ ((Ent.allsNil roB Γ).trans (Ent.cons _ h1)))
 exact h2.trans ((Ent.pack (ndX p ⟨up, [], [], [], wr⟩ rb SV.nil SV.nil [] [] []) Γ).trans (Ent.mono1 Γ fun _ s => ⟨rb, SV.nil, SV.nil, [], [], ⟨rfl, rfl, rfl, rfl⟩, s⟩))
theorem ni0 (p rb : Nat) (Γ : List Assn) : Ent (blk p 107 #[.bool true, .map (some rb), SV.nil.v, SV.nil.v, .bool false] :: mapL rb .u32 [] :: Γ) (NI p nd0 :: Γ) := niE p rb true false Γ
def upTo (b : Br) (i : Nat) : Br := (List.range i).foldl (fun b (i : Nat) => (upR' b i).2) b
theorem upTo_succ (b : Br) (i : Nat) : upTo b (i + 1) = (upR' (upTo b i) (i : Nat)).2 := by rw [upTo, List.range_succ, List.foldl_append]; rfl
set_option maxHeartbeats 4000000 in
theorem begin_S (N R Q G : Nat) (hR1 : 1 ≤ R) (hR8 : R ≤ 8) (hN1 : 1 ≤ N) (hN16 : N ≤ 16) (hQ1 : 1 ≤ Q) (hQ2 : Q ≤ 1000) (hG1 : 1 ≤ G) (hG2 : G ≤ 1000) :
  Spec Tryz.prog 19 [.agg #[.int .i64 (N : Int), .int .i64 (R : Int), .int .i64 (Q : Int), .int .i64 (G : Int)]] [] fun Γ v Θ => ∃ p, v = pt p ∧ Θ = SP p (beginR N R Q G) :: Γ := by
 refine Zbd Tryz.func19 rfl Tryz.ntmps19 fun w0 Γ => Zsh ?_
 obtain ⟨B0, hB0⟩ : ∃ B0, B0 = beginR N R Q G := ⟨_, rfl⟩
 obtain ⟨n0, hn0⟩ : ∃ n0, n0 = newR N R Q G 0 := ⟨_, rfl⟩
 rw [← hB0]
 refine ZY 2 ?_
 refine Zp (S.box (cs := [_, _, _, _]) rfl rfl rfl ?_)
 intro b1
 refine ZY 5 ?_
 refine Zp (Zc1 Ze (BNew_S N R Q G 0 hR1 hR8 hN1 hN16 hQ1 hQ2 hG1 hG2) ?_)
 rintro v Θ ⟨b, ps, rfl, rfl⟩
 rw [← hn0]
 refine ZY 8 ?_
 refine ZY 8 ?_
 refine ZF ef ?_
 refine ZY 5 ?_
 refine Zp (S.makeMap .u32 rfl ?_)
 intro b20
 refine Zp (S.makeMap .u32 rfl ?_)
 intro b21
 refine Zp (S.makeMap .u32 rfl ?_)
 intro b22
 refine Zp (S.makeMap .u32 rfl ?_)
 intro b23
 refine Zp (S.makeMap .u32 rfl ?_)
 intro b24
 refine Zv (q_build (pvs := [(_, _), (_, _), (_, _), (_, _), (_, _), (_, _), (_, _), (_, _)]) [_, _, _, _, _, _, _, _, _, _, _, _, _, _, _, _] Tryz.z55.h Tryz.p55.h ⟨⟨rfl, rfl⟩, ⟨rfl, rfl⟩, ⟨rfl, rfl⟩, ⟨rfl, rfl⟩, ⟨rfl, rfl⟩, ⟨rfl, rfl⟩, ⟨rfl, rfl⟩, ⟨rfl, rfl⟩, trivial⟩ rfl) ?_
 refine Zp (S.box (cs := [_, _, _, _, _, _, _, _, _, _, _, _, _, _, _, _]) rfl rfl rfl ?_)
 intro b26
 refine ZY 5 ?_
 refine S.blkAs b26 (smC B0 b SV.nil b20 b21 b22 b23 b24 SV.nil SV.nil SV.nil).toArray (by rw [hB0]; rfl) ?_
 refine S.ent (Ent.allsNil noB _) ?_
 refine S.ent (show Ent _ (own SV.nil 103 1 (([] : List No).map noV) :: _) from Ent.ownNil 103 1) ?_
 refine ZY 5 ?_
 refine Zl (fun fz ρ' Γ' => ∃ (i : Nat) (nv : SV) (ns : List No) (b0 : Br), fz = N - i ∧ i ≤ N ∧ nv.n = i ∧ ns.map (·.2) = List.replicate i nd0 ∧ b0 = upTo n0 i ∧ ρ' = [(3, pt b), (5, pt b26), (28, .int .i64 (N : Int)), (29, .int .i64 (i : Int))] ∧ Γ' = blk b26 55 (smC B0 b nv b20 b21 b22 b23 b24 SV.nil SV.nil SV.nil).toArray :: own nv 103 1 (ns.map noV) :: alls ns noB :: BP b b0 ps :: mapL b20 .u32 [] :: mapL b21 .u32 [] :: mapL b22 .u32 [] :: mapL b23 .u32 [] :: mapL b24 .u32 [] :: Γ) (m := _) (⟨0, SV.nil, [], n0, rfl, by omega, rfl, rfl, rfl, rfl, rfl⟩) ?_
 rintro fz ρ' Γ' ⟨i, nv, ns, b0, hfz, hi, hnv, hns, hb0, rfl, rfl⟩
 refine ZY 5 ?_
 refine Zj ef (fun h2 => ?_) (fun h2 => ?_)
 ·refine ZY 8 ?_
  refine ZY 7 ?_
  refine Zp (S.makeMap .u32 rfl ?_)
  intro b37
  refine Zv (q_build (pvs := [(_, _), (_, _)]) [_, _, _, _, _] Tryz.z107.h Tryz.p107.h ⟨⟨rfl, rfl⟩, ⟨rfl, rfl⟩, trivial⟩ rfl) ?_
  refine Zp (S.box (cs := [_, _, _, _, _]) rfl rfl rfl ?_)
  intro b39
  refine Zp (S.buildSlice (pvs := [(_, _)]) [_] Tryz.underlying48 Tryz.inf103.h rfl rfl ⟨⟨rfl, rfl⟩, trivial⟩ rfl rfl ?_)
  intro b40
  refine Zp (S.appendOw (s := nv) (1) ([pt b39]) Tryz.underlying48 Tryz.inf103.h rfl rfl rfl (blk_slAt (b := b40) rfl (by unfold maxLen; omega)) (by first | rfl | exact allOne_bcells _) (⟨by omega, by omega⟩) rfl ?_)
  intro nv2 hnv2
  rw [show ns.map noV ++ [pt b39] = (ns ++ [((b39, nd0) : No)]).map noV by rw [List.map_append]; rfl]
  refine ZY 7 ?_
  refine Zp (Zcp Ze (Up_S b b0 ps i) ?_)
  refine ZY 2 ?_
  refine S.conv2 (blk b39 107 #[.bool true, .map (some b37), SV.nil.v, SV.nil.v, .bool false]) (mapL b37 .u32 []) (ni0 b39 b37 _) ?_
  refine S.conv2 (NI b39 nd0) (alls ns noB) (Ent.allsSnoc noB ns ((b39, nd0) : No) _) ?_
  refine Zv (Za ef ef) ?_
  refine ZY 2 ?_
  exact ZX (fz - 1) (⟨i + 1, nv2, ns ++ [(b39, nd0)], (upR' b0 (i : Nat)).2, by omega, by omega, by omega, by rw [List.map_append, hns, List.replicate_succ']; rfl, by rw [hb0, upTo_succ], rfl, rfl⟩) (by omega)
 ·obtain rfl : i = N := by omega
  refine ZY 7 ?_
  refine S.conv (mapL b20 .u32 []) (ran0 b20 _) ?_
  refine S.conv (mapL b24 .u32 []) (Ent.war b24 [] _) ?_
  refine S.ent (lst0 0 _) ?_
  refine S.ent (lst0 0 _) ?_
  refine S.ent (imgs0 _) ?_
  refine S.sub (blk b26 55 (smC B0 b nv b20 b21 b22 b23 b24 SV.nil SV.nil SV.nil).toArray :: BP b b0 ps :: own nv 103 1 (ns.map noV) :: alls ns noB :: ranM b20 [] :: mapL b21 .u32 [] :: mapL b22 .u32 [] :: mapL b23 .u32 [] :: imgs SV.nil [] :: warM b24 :: lstM SV.nil 0 :: lstM SV.nil 0 :: Γ) ?_
  refine S.ent (show Ent _ (smX b26 B0 b ps nv ns b20 b21 b22 b23 b24 SV.nil SV.nil SV.nil Γ) by subst hB0; subst hb0; subst hn0; exact Ent.refl _) ?_
  refine S.spClose b26 B0 b ps nv ns b20 b21 b22 b23 b24 SV.nil SV.nil SV.nil ⟨by rw [hns, hB0]; rfl, by rw [hB0, hnv]; exact List.length_replicate.symm, by rw [hB0]; rfl⟩ ?_
  exact Zf ef Zq (⟨b26, rfl, rfl⟩)
end BN
end Go.Proofs.YtdackcibfkkniaaGreatDoor
namespace Go.Proofs.YtdackcibfkkniaaGreatDoor
open Go.RowKit
namespace BN
def sA : Sm := { beginR 2 1 5 3 with jobs := [⟨1, 0, 2, 3⟩], b := (addR (beginR 2 1 5 3).b (newJ 1 0 2 3 0 0)).2 }
def aw : Nat → Sm
 | 0 => sA
 | k + 1 => calmR (aw k)
theorem aw200 : (aw 200).ok = true ∧ 1 ∈ (aw 200).done ∧ 3 ≤ nLook 1 (aw 200).ran ∧ (aw 200).b.js = [] := by decide +kernel
theorem S.ranOpenM {n : Nat} {md : Bool} {w0 : WM md} {ρ : Env} {Γ Δ : List Assn} {φ : Act → World → Prop} (b : Nat) (f : List (Nat × Nat)) [q : Pick (ranM b f) Γ Δ] (k : ∀ l : List (Int × Value), (∀ id : Nat, (alGet (id : Int) l).getD (.int .i64 0) = .int .i64 (nLook id f : Nat)) → S n w0 ρ (mapL b .u32 l :: Δ) φ) : S n w0 ρ Γ φ := by
 intro a w ha hs hx
 obtain ⟨h0, l0, h1, h2, d, l1, l2, ⟨l, q1, q2⟩, s⟩ := hs.ent q.ent
 exact k l q1 a w ha ⟨h0, l0, h1, h2, d, l1, l2, q2, s⟩ hx
theorem aw_ok {k : Nat} (h : k ≤ 200) : (aw k).ok = true := by
 have key : ∀ j, j + k ≤ 200 → (aw (j + k)).ok = true → (aw k).ok = true := by
  intro j
  induction j with
  | zero => intro _ h; rwa [Nat.zero_add] at h
  | succ j ih =>
   intro hj hk
   refine ih (by omega) ?_
   rw [show j + 1 + k = (j + k) + 1 by omega] at hk
   exact (stick_ok (calmUp_ok hk)).1
 refine key (200 - k) (by omega) ?_
 rw [show 200 - k + k = 200 by omega]
 exact aw200.1
theorem sA_add : addOk (beginR 2 1 5 3).b (newJ 1 0 2 3 0 0) = true ∧ (beginR 2 1 5 3).b.js.length ≤ 999 ∧ (beginR 2 1 5 3).b.orders.length ≤ 900000 ∧ (beginR 2 1 5 3).b.done.length ≤ 900000 := by decide +kernel
set_option maxHeartbeats 4000000 in
theorem awake_S {W : World} (hW : TabW W) : Spec Tryz.prog 9 [] [old W] fun Γ v Θ => v = .bool true ∧ Θ = old W :: Γ := by
 obtain ⟨B0, hB0⟩ : ∃ B0, B0 = beginR 2 1 5 3 := ⟨_, rfl⟩
 obtain ⟨d1, d2, d3, d4⟩ := sA_add
 rw [← hB0] at d1 d2 d3 d4
 obtain ⟨A0, hA0⟩ : ∃ A0, A0 = sA := ⟨_, rfl⟩
 have hA1 : A0 = { B0 with jobs := [⟨1, 0, 2, 3⟩], b := (addR B0.b (newJ 1 0 2 3 0 0)).2 } := by rw [hA0, hB0]; rfl
 refine Zbd Tryz.func9 rfl Tryz.ntmps9 fun w0 Γ => Zsh ?_
 refine ZY 6 ?_
 refine Zv (q_build (pvs := [(_, _), (_, _), (_, _), (_, _)]) [_, _, _, _] Tryz.z25.h Tryz.p25.h ⟨⟨rfl, rfl⟩, ⟨rfl, rfl⟩, ⟨rfl, rfl⟩, ⟨rfl, rfl⟩, trivial⟩ rfl) ?_
 refine Zp (Zc1 Ze (begin_S 2 1 5 3 (by omega) (by omega) (by omega) (by omega) (by omega) (by omega) (by omega) (by omega)) ?_)
 rintro v Θ ⟨p, rfl, rfl⟩
 rw [← hB0]
 refine ZY 8 ?_
 refine ZF ef ?_
 refine ZY 4 ?_
 refine S.spOpen p B0 fun b ps nv ns rb jb gb db wb iv dv wv hF => ?_
 refine S.mapAs jb [] (by rw [hB0]; rfl) ?_
 refine ZY 3 ?_
 refine Zv (q_build (pvs := [(_, _), (_, _), (_, _)]) [_, _, _, _, _, _] Tryz.z35.h Tryz.p35.h ⟨⟨rfl, rfl⟩, ⟨rfl, rfl⟩, ⟨rfl, rfl⟩, trivial⟩ rfl) ?_
 refine Zp (S.mapUpdate Tryz.underlying49 Tryz.underlying31 rfl rfl rfl rfl ?_)
 refine S.mapAs jb (([⟨1, 0, 2, 3⟩] : List Jo).map joE) rfl ?_
 refine ZY 2 ?_
 refine Zd ([blk p 55 (smC B0 b nv rb jb gb db wb iv dv wv).toArray, mapL jb .u32 (([⟨1, 0, 2, 3⟩] : List Jo).map joE)]) [] (Zra 0 9) ?_
 refine ZY 8 ?_
 refine Zw ef (q_lookup1 (.agg (joC ⟨1, 0, 2, 3⟩).toArray) Tryz.underlying49 Tryz.underlying31 Tryz.zv35.h rfl rfl rfl (rfl)) ?_
 refine Z1 (i := 9) ef ef ?_
 refine  (Zc1 Ze (Add_S b B0.b ps 1 0 2 3 0 0 0 (by omega) d1 d2 d3 d4) ?_)
 rintro v Θ ⟨ps2, rfl, rfl⟩
 refine Zk [] ?_
 refine ZD ?_
 refine ZY 3 ?_
 refine S.sub (smX p A0 b ps2 nv ns rb jb gb db wb iv dv wv (old W :: Γ)) (e := by rw [hA1]; infer_instance) ?_
 refine S.spClose p A0 b ps2 nv ns rb jb gb db wb iv dv wv ⟨by rw [hA1]; exact hF.nd, by rw [hA1]; exact hF.nn, by rw [hA1]; exact hF.im⟩ ?_
 refine ZY 3 ?_
 refine Zl (fun fz ρ' Γ' => ∃ (k : Nat) (t : Sm), fz = 200 - k ∧ k ≤ 200 ∧ t = aw k ∧ ρ' = [(1, pt p), (21, .int .i64 (k : Int))] ∧ Γ' = SP p t :: old W :: Γ) (m := _) (⟨0, A0, rfl, by omega, hA0, rfl, rfl⟩) ?_
 rintro fz ρ' Γ' ⟨k, t, hfz, hk, ht, rfl, rfl⟩
 refine ZY 5 ?_
 refine Zj ef (fun h2 => ?_) (fun h2 => ?_)
 ·refine ZY 5 ?_
  refine Zp (Zc1 Ze (calm_S p t (by rw [ht]; exact aw_ok (k := k + 1) (by omega)) hW) ?_)
  rintro v Θ rfl
  refine ZY 2 ?_
  refine Zv (Za ef ef) ?_
  refine ZY 2 ?_
  exact ZX (fz - 1) (⟨k + 1, calmR t, by omega, by omega, by rw [ht]; rfl, rfl, rfl⟩) (by omega)
 ·rw [show k = 200 by omega] at ht
  obtain ⟨_, e1, e2, e3⟩ := aw200
  rw [← ht] at e1 e2 e3
  refine S.spOpen p t fun b ps nv ns rb jb gb db wb iv dv wv hF => ?_
  refine ZY 7 ?_
  refine Zv (q_lookup1 (.bool true) Tryz.underlying50 Tryz.underlying31 Tryz.zv4.h rfl rfl rfl (by rw [show alGet 1 (setT t.done) = some (.bool true) from (setT_get t.done 1).trans (if_pos e1)]; rfl)) ?_
  refine ZY 5 ?_
  refine S.ranOpenM rb t.ran fun lst hlst => ?_
  obtain ⟨c0, hc0⟩ : ∃ c0, c0 = nLook 1 t.ran := ⟨_, rfl⟩
  have hl0 := hlst 1
  rw [← hc0] at e2 hl0
  refine Zvg ef ef ef (q_lookup1 (.int .i64 (c0 : Int)) Tryz.underlying44 Tryz.underlying31 Tryz.zv3.h rfl rfl rfl (hl0.symm)) ?_
  refine ZY 3 ?_
  refine Zu 39 true ef ((decide_eq_true (by omega))) ?_
  refine ZY 4 ?_
  refine Zg ef ef ef (Zc1 Ze (Jobs_S b t.b ps) ?_)
  rintro v Θ ⟨tv, rfl, htv, rfl⟩
  rw [e3] at htv
  refine ZY 6 ?_
  exact Zf ef Zq (⟨by rw [decide_eq_true (show (tv.n : Int) = 0 by rw [htv]; rfl)]; rfl, rfl⟩)
end BN
end Go.Proofs.YtdackcibfkkniaaGreatDoor
namespace Go.Proofs.YtdackcibfkkniaaGreatDoor
open Go.RowKit
namespace BN
structure HoldI (b : Br) (N H t k : Nat) : Prop where
 n : b.nodes = N
 h : b.hold = H
 now : b.now = t
 o : b.orders = []
 d : b.done = []
 s : b.stops = none
 g : b.gen = 0
 js : ∀ x ∈ b.js, x.at_ = [] ∧ x.sav = none
 l : b.js.length ≤ k
section
variable {b : Br} {N H t k : Nat}
theorem HoldI.up (h : HoldI b N H t k) (z : Int) : HoldI (upR' b z).2 N H t k := by
 unfold upR'
 split
 ·exact h
 ·exact ⟨h.n, h.h, h.now, h.o, h.d, h.s, h.g, h.js, h.l⟩
theorem HoldI.take (h : HoldI b N H t k) : HoldI { b with orders := [] } N H t k := ⟨h.n, h.h, h.now, rfl, h.d, h.s, h.g, h.js, h.l⟩
theorem each_same {f : Br → Bj → Br} {b : Br} (hf : ∀ x ∈ b.js, f b x = b) : ∀ l : List Nat, each f b l = b
 | [] => rfl
 | id :: l => by
  have e : (match getJ b.js id with | none => b | some x => f b x) = b := by
   cases hg : getJ b.js id with
   | none => rfl
   | some x => exact hf x (List.mem_of_find?_eq_some hg)
  show each f (match getJ b.js id with | none => b | some x => f b x) l = b
  rw [e]
  exact each_same hf l
theorem HoldI.lost (h : HoldI b N H t k) (z : Int) : HoldI (lostR b z).2 N H t k := by
 unfold lostR
 split
 ·exact h
 ·obtain ⟨b1, hb1⟩ : ∃ b1 : Br, b1 = { b with up := sDel b.up z.toNat, m := (Go.Proofs.YtdackcibfkkniaaGreatDoor.upR b.m z false).2, orders := b.orders.filter fun o => decide (o.1 ≠ z.toNat) } := ⟨_, rfl⟩
  have h1 : HoldI b1 N H t k := by rw [hb1]; exact ⟨h.n, h.h, h.now, by show b.orders.filter _ = []; rw [h.o]; rfl, h.d, h.s, h.g, h.js, h.l⟩
  show HoldI (stopHeardR (each (lostJ z.toNat) { b with up := sDel b.up z.toNat, m := (Go.Proofs.YtdackcibfkkniaaGreatDoor.upR b.m z false).2, orders := b.orders.filter fun o => decide (o.1 ≠ z.toNat) } b.ids) z.toNat) N H t k
  rw [← hb1, each_same (fun x hx => by rw [lostJ, (h1.js x hx).1, if_neg (List.not_mem_nil)]) b.ids, stopHeardR, h1.s]
  exact h1
theorem HoldI.tick (h : HoldI b N H t k) (ht : t + 1 ≤ H) : tickR b (t + 1) = (0, { b with now := t + 1 }) ∧ HoldI { b with now := t + 1 } N H (t + 1) k :=
 ⟨tick_hold (by rw [h.now]; omega) (by rw [h.h]; exact ht), ⟨h.n, h.h, rfl, h.o, h.d, h.s, h.g, h.js, h.l⟩⟩
theorem insJ_length (x : Bj) : ∀ js : List Bj, (insJ x js).length = js.length + 1
 | [] => rfl
 | y :: l => by
  rw [insJ]
  split
  ·rfl
  ·rw [List.length_cons, insJ_length x l]; rfl
theorem HoldI.add (h : HoldI b N H t k) (id q : Nat) : HoldI (addR b (newJ id 0 q 5 0 0)).2 N H t (k + 1) := by
 have hl := h.l
 have h0 : HoldI b N H t (k + 1) := ⟨h.n, h.h, h.now, h.o, h.d, h.s, h.g, h.js, by omega⟩
 unfold addR
 split
 ·exact h0
 ·split
  ·exact h0
  ·show HoldI (finishR { b with js := insJ (newJ id 0 q 5 0 0) b.js } (newJ id 0 q 5 0 0)) N H t (k + 1)
   rw [finishR, if_pos (.inl (by show 0 < 5; omega))]
   refine ⟨h.n, h.h, h.now, h.o, h.d, h.s, h.g, fun x hx => ?_, ?_⟩
   ·obtain ⟨y, hy, rfl⟩ := List.mem_map.1 hx
    split
    ·exact ⟨rfl, rfl⟩
    ·rcases mem_insJ.1 hy with e | e
     ·subst e; exact ⟨rfl, rfl⟩
     ·exact h.js y e
   ·show (setJ _ _).length ≤ _
    rw [setJ_len, insJ_length]; omega
theorem HoldI.ws (h : HoldI b N H t k) : WSav b := fun x hx _ => (h.js x hx).2
theorem HoldI.mono (h : HoldI b N H t k) {k' : Nat} (hk : k ≤ k') : HoldI b N H t k' := ⟨h.n, h.h, h.now, h.o, h.d, h.s, h.g, h.js, Nat.le_trans h.l hk⟩
end
theorem add_good {b : Br} {N H t k id q : Nat} (h : HoldI b N H t k) (h1 : id ≠ 0) (h2 : 1 ≤ q) (h3 : q ≤ N) : addOk b (newJ id 0 q 5 0 0) = true := by
 simp [addOk, h1, h2, h3, h.n]
set_option maxHeartbeats 4000000 in
theorem BrainHold_S (n r hold : Nat) (ws gs : List Int) (s t : SV) (hn : n ≤ 255) (hr : r ≤ 255) (hh : hold ≤ 255) {W : World} (hW : TabW W) (hs : BW W s ws) (ht : BW W t gs) : LawS 3 [.int .u8 (n : Int), .int .u8 (r : Int), .int .u8 (hold : Int), s.v, t.v] W := by
 refine Zbd Tryz.func3 rfl Tryz.ntmps3 fun w0 Γ => Zsh ?_
 have hRs : RdS (old W) s s.n 1 (bcells ws) := by rw [hs.len]; exact RdS.old hs.at_
 have hRt : RdS (old W) t t.n 1 (bcells gs) := by rw [ht.len]; exact RdS.old ht.at_
 have hsl := hs.len
 have htl := ht.len
 refine S.rCap hRs fun _ hc1 hc2 => ?_
 refine S.rCap hRt fun _ hd1 hd2 => ?_
 have hmx : maxLen ≤ 9223372036854775807 := by unfold maxLen; omega
 obtain ⟨N, hN⟩ : ∃ N, N = 1 + n % 6 := ⟨_, rfl⟩
 obtain ⟨R, hR⟩ : ∃ R, R = 1 + r % 4 := ⟨_, rfl⟩
 obtain ⟨H, hH⟩ : ∃ H, H = hold % 40 := ⟨_, rfl⟩
 refine ZY 7 ?_
 refine Zp (Zcp Ze (awake_S hW) ?_)
 refine ZY 2 ?_
 refine ZF ef ?_
 refine ZY 5 ?_
 refine Zp (Zcp Ze (config_S n r 2 3 hn hr (by omega) (by omega)) ?_)
 rw [← hN, ← hR]
 refine Zp (S.alloc Tryz.z25.h rfl ?_)
 intro b11
 refine Zp (Zs ef ef (cs' := [_, _, _, _]) ef ?_)
 refine ZY 5 ?_
 refine Zv (q_rem rfl rfl (⟨by omega, by omega⟩)) ?_
 refine Zv (q_conv Tryz.it31.h (by rw [Tryz.underlying5]; rfl) rfl (inU32 (by omega) (by omega))) ?_
 refine Zp (Zc1 Ze (BNew_S N R (1 + 2 % 6) (1 + 3 % 9) (hold % 40) (by omega) (by omega) (by omega) (by omega) (by omega) (by omega) (by omega) (by omega)) ?_)
 rintro v Θ ⟨b, ps, rfl, rfl⟩
 rw [← hH]
 obtain ⟨n0, hn0⟩ : ∃ n0, n0 = newR N R (1 + 2 % 6) (1 + 3 % 9) H := ⟨_, rfl⟩
 have hi0 : HoldI n0 N H 0 0 := by rw [hn0]; exact ⟨rfl, rfl, rfl, rfl, rfl, rfl, rfl, fun x hx => (by cases hx), Nat.le_refl _⟩
 rw [← hn0]
 refine ZY 8 ?_
 refine ZY 4 ?_
 refine ZF ef ?_
 refine ZY 8 ?_
 refine Zy ?_
 refine Zl (fun fz ρ' Γ' => ∃ (i : Nat) (b0 : Br), fz = N - i ∧ i ≤ N ∧ HoldI b0 N H 0 0 ∧ ρ' = [(2, .int .u8 (hold : Int)), (3, s.v), (4, t.v), (11, pt b11), (12, pt b), (35, .int .i64 (N : Int)), (36, .int .i64 (i : Int))] ∧ Γ' = blk b11 25 #[.int .i64 (N : Int), .int .i64 (R : Int), .int .i64 ((1 + 2 % 6 : Nat) : Int), .int .i64 ((1 + 3 % 9 : Nat) : Int)] :: BP b b0 ps :: old W :: Γ) (m := _) (⟨0, n0, rfl, by omega, hi0, rfl, rfl⟩) ?_
 rintro fz ρ' Γ' ⟨i, b0, hfz, hi, hi1, rfl, rfl⟩
 refine ZY 5 ?_
 refine Zj ef (fun h3 => ?_) (fun h3 => ?_)
 ·refine ZY 8 ?_
  refine ZY 3 ?_
  refine Zp (Zcp Ze (Up_S b b0 ps i) ?_)
  refine ZY 2 ?_
  refine Zv (Za ef ef) ?_
  refine ZY 2 ?_
  exact ZX (fz - 1) (⟨i + 1, (upR' b0 (i : Nat)).2, by omega, by omega, hi1.up _, rfl, rfl⟩) (by omega)
 ·refine ZY 8 ?_
  refine Zy ?_
  refine Zl (fun fz ρ' Γ' => ∃ (i : Nat) (b0 : Br) (ps : Nat → Nat), fz = ws.length - i ∧ i ≤ ws.length ∧ HoldI b0 N H 0 (min i 10) ∧ ρ' = [(2, .int .u8 (hold : Int)), (4, t.v), (11, pt b11), (12, pt b), (43, s.v), (44, .int .i64 s.n), (45, .int .i64 (i : Int))] ∧ Γ' = blk b11 25 #[.int .i64 (N : Int), .int .i64 (R : Int), .int .i64 ((1 + 2 % 6 : Nat) : Int), .int .i64 ((1 + 3 % 9 : Nat) : Int)] :: BP b b0 ps :: old W :: Γ) (m := _) (⟨0, b0, ps, rfl, by omega, hi1, rfl, rfl⟩) ?_
  rintro fz ρ' Γ' ⟨i, b0, ps, hfz, hi, hi1, rfl, rfl⟩
  refine ZY 5 ?_
  refine Zj ef (fun h4 => ?_) (fun h4 => ?_)
  ·refine S.rSome hRs (by omega) fun sb so hsa => ?_
   obtain ⟨x, hx⟩ := getE (show i < ws.length by omega)
   have hxr := hs.rng x (List.mem_of_getElem? hx)
   obtain ⟨g, rfl⟩ : ∃ g : Nat, x = g := ⟨x.toNat, by omega⟩
   have hm1 := Int.emod_lt_of_pos (g : Int) (show (0 : Int) < N by omega)
   have hm2 := Int.emod_nonneg (g : Int) (show (N : Int) ≠ 0 by omega)
   have hm3 := Nat.mod_lt g (show 0 < N by omega)
   refine ZY 6 ?_
   refine Zv (Zx (i) ef (hsa) ef (by omega)) ?_
   refine Zv (q_loadR hRs i Eo.h rfl hsa (by omega) (by omega) (by rw [bcells, List.getElem?_map, hx]; rfl)) ?_
   refine ZY 8 ?_
   refine Zj ef (fun h5 => ?_) (fun h5 => ?_)
   ·refine ZY 3 ?_
    refine Zv (Za ef ef) ?_
    refine Zv (q_conv Tryz.it31.h (by rw [Tryz.underlying3]; rfl) rfl (inU32 (by omega) (by omega))) ?_
    refine Zy ?_
    refine Zv (q_conv Tryz.it3.h (by rw [Tryz.underlying5]; rfl) rfl (inI64 (by omega) (by omega))) ?_
    refine ZY 2 ?_
    refine Zv (q_rem rfl rfl (⟨by omega, by omega⟩)) ?_
    refine Zv (Za ef ef) ?_
    refine Zv (q_build (pvs := [(_, _), (_, _), (_, _)]) [_, _, _, _, _, _] Tryz.z35.h Tryz.p35.h ⟨⟨rfl, rfl⟩, ⟨rfl, rfl⟩, ⟨rfl, rfl⟩, trivial⟩ rfl) ?_
    refine Zp (Zc1 Ze (Add_S b b0 ps (i + 1) 0 (1 + g % N) 5 0 0 0 (by omega) (add_good hi1 (by omega) (by omega) (by omega)) (by have := hi1.l; omega) (by rw [hi1.o]; exact Nat.zero_le _) (by rw [hi1.d]; exact Nat.zero_le _)) ?_)
    rintro v Θ ⟨ps2, rfl, rfl⟩
    refine Zy ?_
    have hi2 : HoldI (addR b0 (newJ (i + 1) 0 (1 + g % N) 5 0 0)).2 N H 0 (min (i + 1) 10) := (hi1.add _ _).mono (by omega)
    refine Zy ?_
    refine Zv (Za ef ef) ?_
    refine ZY 2 ?_
    first | exact ZX (fz - 1) ⟨i + 1, _, ps2, by omega, by omega, hi2, rfl, rfl⟩ (by omega) | exact ZX (fz - 1) ⟨i + 1, b0, ps, by omega, by omega, hi2, rfl, rfl⟩ (by omega)
   ·have hi2 : HoldI b0 N H 0 (min (i + 1) 10) := hi1.mono (by omega)
    refine ZY 2 ?_
    refine Zv (Za ef ef) ?_
    refine ZY 2 ?_
    first | exact ZX (fz - 1) ⟨i + 1, _, ps2, by omega, by omega, hi2, rfl, rfl⟩ (by omega) | exact ZX (fz - 1) ⟨i + 1, b0, ps, by omega, by omega, hi2, rfl, rfl⟩ (by omega)
  ·replace hi1 := hi1.mono (show min i 10 ≤ 10 by omega)
   refine ZY 5 ?_
   skip
   refine Zv (q_rem rfl rfl (⟨by omega, by omega⟩)) ?_
   refine Zv (q_conv Tryz.it31.h (by rw [Tryz.underlying5]; rfl) rfl (inU32 (by omega) (by omega))) ?_
   refine ZY 3 ?_
   refine Zl (fun fz ρ' Γ' => ∃ (i : Nat) (b0 : Br), fz = H - i ∧ i ≤ H ∧ HoldI b0 N H i 10 ∧ ρ' = [(4, t.v), (11, pt b11), (12, pt b), (67, .int .u32 (H : Int)), (68, .int .u32 (i : Int))] ∧ Γ' = blk b11 25 #[.int .i64 (N : Int), .int .i64 (R : Int), .int .i64 ((1 + 2 % 6 : Nat) : Int), .int .i64 ((1 + 3 % 9 : Nat) : Int)] :: BP b b0 ps :: old W :: Γ) (m := _) (⟨0, b0, rfl, by omega, hi1, by rw [hH], rfl⟩) ?_
   rintro fz ρ' Γ' ⟨i, b0, hfz, hi, hi1, rfl, rfl⟩
   refine ZY 5 ?_
   refine Zj ef (fun h6 => ?_) (fun h6 => ?_)
   ·obtain ⟨e1, hi2⟩ := hi1.tick (show i + 1 ≤ H by omega)
    refine ZY 8 ?_
    refine ZY 5 ?_
    refine Zv (Za ef ef) ?_
    refine Zp (Zcp Ze (Tick_S b b0 ps (i + 1) (by omega) hi1.ws (by rw [hi1.o]; exact Nat.zero_le _) hW) ?_)
    rw [e1]
    obtain ⟨b1, hb1⟩ : ∃ b1 : Br, b1 = { b0 with now := i + 1 } := ⟨_, rfl⟩
    rw [← hb1] at hi2 ⊢
    refine ZY 2 ?_
    refine ZF ef ?_
    refine ZY 5 ?_
    refine Zv (q_conv Tryz.it3.h (by rw [Tryz.underlying31]; rfl) rfl (inI64 (by omega) (by omega))) ?_
    refine ZY 4 ?_
    refine Zc (fun ρ' Γ' => ∃ b2, HoldI b2 N H (i + 1) 10 ∧ ρ' = [(4, t.v), (11, pt b11), (12, pt b), (67, .int .u32 (H : Int)), (68, .int .u32 (i : Int))] ∧ Γ' = blk b11 25 #[.int .i64 (N : Int), .int .i64 (R : Int), .int .i64 ((1 + 2 % 6 : Nat) : Int), .int .i64 ((1 + 3 % 9 : Nat) : Int)] :: BP b b2 ps :: old W :: Γ) ?_ ?_
    ·refine Zj ef (fun h8 => ?_) (fun h8 => ?_)
     ·refine S.rSome hRt (by omega) fun tb tf hta => ?_
      obtain ⟨x, hx⟩ := getE (show i < gs.length by omega)
      have hxr := ht.rng x (List.mem_of_getElem? hx)
      obtain ⟨g, rfl⟩ : ∃ g : Nat, x = g := ⟨x.toNat, by omega⟩
      have hm1 := Int.emod_lt_of_pos (g : Int) (show (0 : Int) < N by omega)
      have hm2 := Int.emod_nonneg (g : Int) (show (N : Int) ≠ 0 by omega)
      refine Zy ?_
      refine Zd0 (Zra 0 9) ?_
      refine ZY 2 ?_
      refine Zw ef (Zx (i) ef (hta) ef (by omega)) ?_
      refine Zw ef (q_loadR hRt i Eo.h rfl hta (by omega) (by omega) (by rw [bcells, List.getElem?_map, hx]; rfl)) ?_
      refine Zw ef (q_conv Tryz.it3.h (by rw [Tryz.underlying5]; rfl) rfl (inI64 (by omega) (by omega))) ?_
      refine ZY 2 ?_
      refine Zw ef (q_rem rfl rfl (⟨by omega, by omega⟩)) ?_
      refine Zy ?_
      refine ZD ?_
      refine ZY 4 ?_
      refine Zp (Zcp Ze (Lost_S b b1 ps ((g : Int) % (N : Int)) (by rw [hi2.o]; exact Nat.zero_le _)) ?_)
      refine ZY 2 ?_
      refine Zj ef (fun h9 => ?_) (fun h9 => ?_)
      ·refine ZY 3 ?_
       refine Zp (Zcp Ze (Up_S b (lostR b1 ((g : Int) % (N : Int))).2 ps ((g : Int) % (N : Int))) ?_)
       refine Zy ?_
       have hi3 := (hi2.lost ((g : Int) % (N : Int))).up ((g : Int) % (N : Int))
       exact S.meet ⟨_, hi3, rfl, rfl⟩ ⟨rfl, rfl, rfl, rfl, rfl, trivial⟩ Sub.ent
      ·have hi3 := hi2.lost ((g : Int) % (N : Int))
       refine Zy ?_
       exact S.meet ⟨_, hi3, rfl, rfl⟩ ⟨rfl, rfl, rfl, rfl, rfl, trivial⟩ Sub.ent
     ·have hi3 := hi2
      refine Zy ?_
      exact S.meet ⟨_, hi3, rfl, rfl⟩ ⟨rfl, rfl, rfl, rfl, rfl, trivial⟩ Sub.ent
    ·rintro ρ' Γ' ⟨b2, hi4, rfl, rfl⟩
     refine ZY 3 ?_
     refine Zp (Zc1 Ze (Take_S b b2 ps) ?_)
     rintro v Θ ⟨tv, rfl, htv, rfl⟩
     rw [hi4.o, List.length_nil] at htv
     obtain ⟨b3, hb3⟩ : ∃ b3 : Br, b3 = { b2 with orders := [] } := ⟨_, rfl⟩
     have hi5 : HoldI b3 N H (i + 1) 10 := by rw [hb3]; exact hi4.take
     rw [← hb3]
     refine ZY 3 ?_
     refine Zu 100 false ef ((decide_eq_false (by omega))) ?_
     refine Zy ?_
     refine Zg ef ef ef (Zcp Ze (Resting_S b b3 ps) ?_)
     rw [hi5.s]
     refine ZY 4 ?_
     refine Zg ef ef ef (Zcp Ze (Gen_S b b3 ps) ?_)
     rw [hi5.g]
     refine ZY 3 ?_
     refine ZF ef ?_
     refine ZY 2 ?_
     refine Zv (Za ef ef) ?_
     refine ZY 2 ?_
     exact ZX (fz - 1) (⟨i + 1, b3, by omega, by omega, hi5, rfl, rfl⟩) (by omega)
   ·refine ZY 6 ?_
    exact Zf ef Zq (⟨rfl, rfl⟩)
end BN
open Go.ChangeShapes Go.WideShapes Go.ChangeAt
theorem BrainHold_law {H : Type} (enc : TypeId × Value → H) : LawWalkT enc Rows.brainHoldRow.laid 3 Tryz.f3 := by
 intro W base args ds before hval hA _ _ hL
 rw [Tryz.params3] at hA hval
 obtain ⟨v0, vs0, d0, ds0, p0, q0, hargs, rfl, rfl, h0, r0⟩ := trodAll_cons hA
 obtain ⟨v1, vs1, d1, ds1, p1, q1, rfl, rfl, rfl, h1, r1⟩ := trodAll_cons r0
 obtain ⟨v2, vs2, d2, ds2, p2, q2, rfl, rfl, rfl, h2, r2⟩ := trodAll_cons r1
 obtain ⟨v3, vs3, d3, ds3, p3, q3, rfl, rfl, rfl, h3, r3⟩ := trodAll_cons r2
 obtain ⟨v4, vs4, d4, ds4, p4, q4, rfl, rfl, rfl, h4, r4⟩ := trodAll_cons r3
 obtain ⟨rfl, rfl, rfl⟩ := trodAll_nil r4
 obtain rfl : args = #[v0, v1, v2, v3, v4] := by cases args; simp_all
 obtain ⟨n, rfl, hn⟩ := arg_int Tryz.underlying5 (hval 0 5 v0 rfl rfl) h0
 obtain ⟨r, rfl, hr⟩ := arg_int Tryz.underlying5 (hval 1 5 v1 rfl rfl) h1
 obtain ⟨h, rfl, hh⟩ := arg_int Tryz.underlying5 (hval 2 5 v2 rfl rfl) h2
 obtain ⟨s, ws, e2, hs⟩ := rd_bytes (arg_slice 4 Tryz.underlying22 (by kernel_rfl) (hval 3 22 v3 rfl rfl) h3)
 simp only [List.cons.injEq, and_true] at e2
 subst e2
 obtain ⟨t, gs, e3, ht⟩ := rd_bytes (arg_slice 4 Tryz.underlying22 (by kernel_rfl) (hval 4 22 v4 rfl rfl) h4)
 simp only [List.cons.injEq, and_true] at e3
 subst e3
 have hn := u8_rng hn
 have hr := u8_rng hr
 have hh := u8_rng hh
 obtain ⟨n, rfl⟩ : ∃ m : Nat, n = m := ⟨n.toNat, by omega⟩
 obtain ⟨r, rfl⟩ : ∃ m : Nat, r = m := ⟨r.toNat, by omega⟩
 obtain ⟨h, rfl⟩ : ∃ m : Nat, h = m := ⟨h.toNat, by omega⟩
 exact law_run (BN.BrainHold_S n r h ws gs s t (by omega) (by omega) (by omega) (tabW_of rfl hL) hs ht)
set_option maxRecDepth 100000 in
theorem BrainHold_met (os : Os) (args : Array Value) : laidMetH Tryz.prog Rows.brainHoldRow.laid ((World.doorLaid Tryz.prog 14 os).forCall (fun _ _ => 0) ⟨#[], args, []⟩).memory :=
 laidMetH_of_parts3 (fuel := 8) (laidMet_of_run' 8 (by kernel_rfl) (by kernel_rfl)) (by kernel_rfl) (by kernel_rfl)
set_option maxRecDepth 100000 in
theorem BrainHold_lifted (os : Os) (started : os.Started) (H : Type) (enc : TypeId × Value → H) :
  ReturnsInHanded {} Tryz.checked os 3 .any (fun w args => (Rows.brainHoldSpec.pre enc Tryz.prog Tryz.f3 [] false w args ∧ laidMetH Tryz.prog Rows.brainHoldRow.laid w) ∧ sizedMet enc Tryz.prog Tryz.f3 (OpenSpec.ofChange Rows.brainHoldSpec) false w args) (Rows.brainHoldSpec.post enc Tryz.prog Tryz.f3 false true false false) :=
 lift_trueT started Tryz.func3 (by kernel_rfl)
  (ChangeSpec.witness_shaped (enc := enc) (C := Tryz.checked) (os := os) (X := fun w _ => laidMetH Tryz.prog Rows.brainHoldRow.laid w) false (World.doorLaid Tryz.prog 14 os) #[.int .u8 0, .int .u8 0, .int .u8 0, .slice none 0 0, .slice none 0 0] 8 rfl (World.shaped_of_RefB (by kernel_rfl) (by kernel_rfl)) (by kernel_rfl) (by kernel_rfl) (by kernel_rfl) (BrainHold_met os _))
  rfl rfl (by kernel_rfl) (fun ds h => by match ds, h with | [a0, a1, a2, a3, a4], _ => rfl) (BrainHold_law enc)
theorem BrainHold_over : Rows.brainHoldRow.holds Tryz.pinned (OpenSpec.ofChange Rows.brainHoldSpec) :=
 OpenClaim.holds_of_wide 3 Tryz.f3 rfl rfl rfl rfl rfl rfl rfl ⟨rfl, rfl, rfl, rfl, rfl⟩ rfl rfl rfl rfl rfl (by kernel_rfl) Tryz.func3 (by kernel_rfl)
  (of_decide_eq_true (by kernel_rfl)) (by unfold Func.isWrapper; first | (rw [if_pos (by decide +kernel)]; kernel_rfl) | (rw [if_neg (by decide +kernel)]; exact ⟨rfl, rfl⟩))
  (fun os started H enc _ => BrainHold_lifted os started H enc)
theorem BrainHold_holds : Rows.BrainHoldCardSaid :=
 Claim7.holds_tied_plain_at .later [] [.data] true (true, "4872c1f8a3b510e83d0b533b5dde514eb1aba5b287cb337591b3ec3084a339dd") true
  BrainHold_over (fun _ h => by cases h) (by kernel_rfl) (fun _ h => by cases h) brainHold_row_tie rfl ⟨rfl, rfl⟩ (by kernel_rfl) rfl
  (fun f fn hf hfn => by
   obtain rfl : f = 3 := Option.some.inj ((show Tryz.prog.funcNamed "quadrille/quadrillelaw19.BrainHold" = some 3 by kernel_rfl).symm.trans hf) |>.symm
   obtain rfl : fn = Tryz.f3 := (Option.some.inj (Tryz.func3.symm.trans hfn)).symm
   exact ⟨by kernel_rfl, fun j t ht => by
    rw [Tryz.params3] at ht
    have hm : t ∈ [5, 5, 5, 22, 22] := by simpa using Array.mem_of_getElem? ht
    have hall : ([5, 5, 5, 22, 22].all fun u => !Tryz.prog.wantsStandIn u) = true := by kernel_rfl
    exact (show Tryz.prog.wantsStandIn t = false by simpa using List.all_eq_true.1 hall t hm)⟩)
  (by kernel_rfl)
#print axioms BrainHold_holds
end Go.Proofs.YtdackcibfkkniaaGreatDoor
