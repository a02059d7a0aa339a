/- Texts put together. -/
import Derived.Test.YtdackcibfkkniaaGreatDoorMH3
set_option maxRecDepth 20000
set_option synthInstance.maxSize 9999
set_option synthInstance.maxHeartbeats 400000
namespace Go.Proofs.YtdackcibfkkniaaGreatDoor
open Go.RowKit
namespace BN
abbrev ntC (x : Nt) (v : SV) : List Value := [.int .u8 (x.kind : Int), .int .u8 (x.node : Int), .int .u32 (x.epoch : Int), .int .u32 (x.life : Int), .int .u32 (x.tick : Int), .int .u32 (x.gen : Int), .int .u32 (x.job : Int), .int .u32 (x.ver : Int), .int .u8 (x.rank : Int), .int .i64 (x.credit : Int), .int .u32 (x.frm : Int), .int .u32 (x.til : Int), v.v]
abbrev odC (o : Od) : List Value := [.int .i64 (o.1 : Int), .int .u8 (o.2.kind : Int), .int .u8 (o.2.node : Int), .int .u32 (o.2.epoch : Int), .int .u32 (o.2.life : Int), .int .u32 (o.2.tick : Int), .int .u32 (o.2.gen : Int), .int .u32 (o.2.job : Int), .int .u32 (o.2.ver : Int), .int .u8 (o.2.rank : Int), .int .i64 (o.2.credit : Int), .int .u32 (o.2.frm : Int), .int .u32 (o.2.til : Int), .slice none 0 0]
theorem odC_len : ∀ o, (odC o).length = 14 := fun _ => rfl
abbrev pt (b : Nat) : Value := .pointer (some ⟨b, 0, none⟩)
abbrev bjC (x : Bj) (av : SV) (lb db rb sb : Option Nat) : List Value :=
 [.int .u32 (x.id : Int), .int .u8 (x.tier : Int), .int .i64 (x.k : Int), .int .i64 (x.w : Int), .int .u8 (x.state : Int), .int .i64 (x.credit : Int), av.v, .map lb, .int .i64 (x.work : Int), .int .u32 (x.ver : Int), .pointer (sb.map fun b => ⟨b, 0, none⟩), .bool x.warned, .int .u32 (x.till : Int), .map db, .bool x.again, .bool x.done, .map rb]
def ranE (r : List (Nat × Nat × Nat)) : List (Int × Value) := r.map fun y => ((y.1 : Int), Value.agg #[.int .u32 (y.2.1 : Int), .int .u32 (y.2.2 : Int)])
def optR (b : Option Nat) (s : Option (List (Nat × Nat × Nat))) : Assn := match b, s with
 | none, none => fun _ => True
 | some b, some s => mapL b .i64 (ranE s)
 | _, _ => fun _ => False
abbrev Bb := SV × List Int
abbrev bbV (p : Bb) : Value := p.1.v
abbrev bbB (p : Bb) : Assn := own p.1 5 1 (bcells p.2)
def blobs (v : SV) (bs : List (List Int)) : Assn := fun h => ∃ os : List Bb, os.map (·.2) = bs ∧ stars [own v 22 1 (os.map bbV), alls os bbB] h
def savB (b : Option Nat) (id : Nat) (s : Option Sv) : Assn := match b, s with
 | none, none => fun _ => True
 | some b, some s => fun h => ∃ (hb : Nat) (v : SV), stars [blk b 131 #[.int .u32 (id : Int), .int .u32 (s.ver : Int), .int .i64 (s.credit : Int), v.v, .map (some hb), .bool s.told], mapL hb .i64 (setE s.have_), if s.told then (fun _ => True) else blobs v s.bs] h
 | _, _ => fun _ => False
def JI (p : Nat) (x : Bj) : Assn := fun h => ∃ (av : SV) (lb db rb sb : Option Nat), av.n = x.at_.length ∧ lb.isSome = x.loaded.isSome ∧ db.isSome = x.drops.isSome ∧ rb.isSome = x.ran.isSome ∧ sb.isSome = x.sav.isSome ∧
 stars [blk p 90 (bjC x av lb db rb sb).toArray, own av 3 1 (nds x.at_), optS lb x.loaded, optS db x.drops, optR rb x.ran, savB sb x.id x.sav] h
abbrev Ig := SV × Im
abbrev igC (p : Ig) : List Value := [.int .u32 (p.2.job : Int), .int .u32 (p.2.ver : Int), .int .i64 (p.2.credit : Int), p.1.v]
abbrev igB (p : Ig) : Assn := blobs p.1 p.2.bs
def imgs (v : SV) (l : List Im) : Assn := fun h => ∃ os : List Ig, os.map (·.2) = l ∧ stars [own v 60 4 (os.flatMap igC), alls os igB] h
structure JOk (N : Nat) (x : Bj) : Prop where
 id1 : 1 ≤ x.id
 id2 : x.id ≤ 4294967295
 tier : x.tier ≤ 3
 k1 : 1 ≤ x.k
 kn : x.k ≤ N
 w : x.w ≤ 10000
 cr : x.credit ≤ x.w
 wk : x.work ≤ x.w
 rise : x.at_.Pairwise (· < ·)
 at_ : ∀ n ∈ x.at_, n < N
 drop : ∀ d, x.drops = some d → d.Nodup
 lod : ∀ d, x.loaded = some d → d.Nodup
 ran : ∀ r, x.ran = some r → ∀ y ∈ r, y.2.1 ≤ 4294967295 ∧ y.2.2 ≤ 4294967295
 ld : x.state = 1 → x.loaded.isSome = true
 svl : ∀ s, x.sav = some s → s.bs.length = x.at_.length ∧ s.credit ≤ x.w
structure BrOk (b : Br) : Prop where
 R : b.m.R = b.rows
 N : b.m.N = b.nodes
 mok : MxOk b.m
 srt : JsOk b.js
 job : ∀ x ∈ b.js, JOk b.nodes x
 few : b.js.length ≤ 1000
 q1 : 1 ≤ b.quantum
 q2 : b.quantum ≤ 1000
 g1 : 1 ≤ b.grace
 g2 : b.grace ≤ 1000
 now : b.now ≤ 4294967295
 fin : b.fin ≤ 4294967295
 mem : b.members.length ≤ 1000
 stp : ∀ d, b.stops = some d → d.Nodup
abbrev bC (st : Br) (ub jb mb : Nat) (ov iv dv mv : SV) (sb : Option Nat) : List Value :=
 [.int .i64 (st.nodes : Int), .int .i64 (st.rows : Int), .int .i64 (st.quantum : Int), .int .i64 (st.grace : Int), .int .u32 (st.hold : Int), .int .u32 (st.now : Int), .map (some ub), .map (some jb), pt mb, ov.v, iv.v, dv.v, .int .u32 (st.gen : Int), .int .i64 st.row, mv.v, .int .u32 (st.fin : Int), .map sb, .bool st.stopped]
abbrev jI (ps : Nat → Nat) (x : Bj) : Assn := JI (ps x.id) x
abbrev bX (b : Nat) (st : Br) (ps : Nat → Nat) (ub jb mb : Nat) (ov iv dv mv : SV) (sb : Option Nat) (l : List (Int × Value)) (Γ : List Assn) : List Assn :=
 blk b 84 (bC st ub jb mb ov iv dv mv sb).toArray :: mapL ub .i64 (setE st.up) :: mapL jb .u32 l :: alls st.js (jI ps) :: MI mb st.m :: own ov 97 14 (st.orders.flatMap odC) :: imgs iv st.images :: own dv 31 1 (idsV st.done) :: own mv 31 1 (idsV st.members) :: optS sb st.stops :: Γ
structure BF (st : Br) (ps : Nat → Nat) (ov iv dv mv : SV) (sb : Option Nat) (l : List (Int × Value)) : Prop where
 ok : BrOk st
 perm : l.Perm (st.js.map (jE ps))
 on : ov.n = st.orders.length
 im : iv.n = st.images.length
 dn : dv.n = st.done.length
 mn : mv.n = st.members.length
 sn : sb.isSome = st.stops.isSome
def BP (b : Nat) (st : Br) (ps : Nat → Nat) : Assn := fun h => ∃ (ub jb mb : Nat) (ov iv dv mv : SV) (sb : Option Nat) (l : List (Int × Value)), BF st ps ov iv dv mv sb l ∧ stars (bX b st ps ub jb mb ov iv dv mv sb l []) h
section
variable {n : Nat} {md : Bool} {w0 : WM md} {ρ : Env} {Γ Δ : List Assn} {φ : Act → World → Prop}
theorem S.bpOpen (b : Nat) (st : Br) (ps : Nat → Nat) [p : Pick (BP b st ps) Γ Δ] (k : ∀ ub jb mb ov iv dv mv sb l, BF st ps ov iv dv mv sb l → S n w0 ρ (bX b st ps ub jb mb ov iv dv mv sb l Δ) φ) : S n w0 ρ Γ φ := by
 intro a w ha hs hx
 obtain ⟨h0, l0, h1, h2, d, l1, l2, ⟨ub, jb, mb, ov, iv, dv, mv, sb, l, q1, q2⟩, s⟩ := hs.ent p.ent
 exact k ub jb mb ov iv dv mv sb l q1 a w ha ⟨h0, l0, (Ent.unpack (bX b st ps ub jb mb ov iv dv mv sb l []) Δ) _ ⟨h1, h2, d, l1, l2, q2, s⟩⟩ hx
theorem Ent.bp {b : Nat} {st : Br} {ps : Nat → Nat} {ub jb mb : Nat} {ov iv dv mv : SV} {sb : Option Nat} {l : List (Int × Value)} (h : BF st ps ov iv dv mv sb l) (Γ : List Assn) : Ent (bX b st ps ub jb mb ov iv dv mv sb l Γ) (BP b st ps :: Γ) :=
 (Ent.pack (bX b st ps ub jb mb ov iv dv mv sb l []) Γ).trans (Ent.mono1 Γ fun _ s => ⟨ub, jb, mb, ov, iv, dv, mv, sb, l, h, s⟩)
theorem S.bpClose (b : Nat) (st : Br) (ps : Nat → Nat) (ub jb mb : Nat) (ov iv dv mv : SV) (sb : Option Nat) (l : List (Int × Value)) (h : BF st ps ov iv dv mv sb l) [q : Picks (bX b st ps ub jb mb ov iv dv mv sb l []) Γ Δ] (k : S n w0 ρ (BP b st ps :: Δ) φ) : S n w0 ρ Γ φ :=
 S.ent (q.ent.trans (Ent.bp h Δ)) k
theorem S.bpOk (b : Nat) (st : Br) (ps : Nat → Nat) [p : Pick (BP b st ps) Γ Δ] (k : BrOk st → S n w0 ρ Γ φ) : S n w0 ρ Γ φ := by
 intro a w ha hs hx
 obtain ⟨_, _, _, _, _, _, _, _, _, _, _, q1, _⟩ := (hs.ent p.ent).head
 exact k q1.ok a w ha hs hx
theorem S.jiOpen (p : Nat) (x : Bj) [q : Pick (JI p x) Γ Δ] (k : ∀ av lb db rb sb, av.n = x.at_.length → lb.isSome = x.loaded.isSome → db.isSome = x.drops.isSome → rb.isSome = x.ran.isSome → sb.isSome = x.sav.isSome → S n w0 ρ (blk p 90 (bjC x av lb db rb sb).toArray :: own av 3 1 (nds x.at_) :: optS lb x.loaded :: optS db x.drops :: optR rb x.ran :: savB sb x.id x.sav :: Δ) φ) : S n w0 ρ Γ φ := by
 intro a w ha hs hx
 obtain ⟨h0, l0, h1, h2, d, l1, l2, ⟨av, lb, db, rb, sb, q1, q2, q3, q4, q5, q6⟩, s⟩ := hs.ent q.ent
 exact k av lb db rb sb q1 q2 q3 q4 q5 a w ha ⟨h0, l0, (Ent.unpack [blk p 90 (bjC x av lb db rb sb).toArray, own av 3 1 (nds x.at_), optS lb x.loaded, optS db x.drops, optR rb x.ran, savB sb x.id x.sav] Δ) _ ⟨h1, h2, d, l1, l2, q6, s⟩⟩ hx
theorem S.jiClose (p : Nat) (x : Bj) (av : SV) (lb db rb sb : Option Nat) (h1 : av.n = x.at_.length) (h2 : lb.isSome = x.loaded.isSome) (h3 : db.isSome = x.drops.isSome) (h4 : rb.isSome = x.ran.isSome) (h5 : sb.isSome = x.sav.isSome)
  [q : Picks [blk p 90 (bjC x av lb db rb sb).toArray, own av 3 1 (nds x.at_), optS lb x.loaded, optS db x.drops, optR rb x.ran, savB sb x.id x.sav] Γ Δ] (k : S n w0 ρ (JI p x :: Δ) φ) : S n w0 ρ Γ φ :=
 S.ent (q.ent.trans ((Ent.pack [_, _, _, _, _, _] Δ).trans (Ent.mono1 Δ fun _ s => ⟨av, lb, db, rb, sb, h1, h2, h3, h4, h5, s⟩))) k
end
theorem Spec.bpOk {b : Nat} {st : Br} {ps : Nat → Nat} {P : Program} {f : FuncId} {args : List Value} {pre : List Assn} {post : List Assn → Value → List Assn → Prop} {md : Bool} (h : BrOk st → Spec P f args (BP b st ps :: pre) post md) : Spec P f args (BP b st ps :: pre) post md := by
 intro Γ w hs
 obtain ⟨_, _, _, _, _, _, _, _, _, _, _, q1, _⟩ := hs.head
 exact h q1.ok Γ w hs
end BN
end Go.Proofs.YtdackcibfkkniaaGreatDoor
namespace Go.Proofs.YtdackcibfkkniaaGreatDoor
open Go.RowKit
namespace BN
abbrev rkC (r : Rk) : List Value := [.int .u8 (r.place : Int), .bool r.run, .int .u32 (r.gen : Int), .int .u32 (r.frm : Int), .int .u32 (r.til : Int)]
abbrev Ro := Nat × Rk × Nat
abbrev roE (o : Ro) : Int × Value := ((o.1 : Int), pt o.2.2)
abbrev roB (o : Ro) : Assn := blk o.2.2 111 (rkC o.2.1).toArray
abbrev roR (o : Ro) : Nat × Rk := (o.1, o.2.1)
structure Ot where
 x : Nt
 v : SV
 bs : List Int
abbrev otC (o : Ot) : List Value := ntC o.x o.v
abbrev otB (o : Ot) : Assn := own o.v 5 1 (bcells o.bs)
abbrev otR (o : Ot) : Nt × List Int := (o.x, o.bs)
abbrev niC (x : Nt) : List Value := ntC x SV.nil
abbrev ndX (p : Nat) (nd : Nd) (rb : Nat) (iv ov : SV) (rs : List Ro) (os : List Ot) (Γ : List Assn) : List Assn :=
 blk p 107 #[.bool nd.up, .map (some rb), iv.v, ov.v, .bool nd.wrong] :: mapL rb .u32 (rs.map roE) :: alls rs roB :: own iv 72 13 (nd.inn.flatMap niC) :: own ov 72 13 (os.flatMap otC) :: alls os otB :: Γ
structure NF (nd : Nd) (iv ov : SV) (rs : List Ro) (os : List Ot) : Prop where
 rk : rs.map roR = nd.rk
 os : os.map otR = nd.out
 i : iv.n = nd.inn.length
 o : ov.n = nd.out.length
def NI (p : Nat) (nd : Nd) : Assn := fun h => ∃ (rb : Nat) (iv ov : SV) (rs : List Ro) (os : List Ot), NF nd iv ov rs os ∧ stars (ndX p nd rb iv ov rs os []) h
abbrev joC (j : Jo) : List Value := [.int .u32 (j.id : Int), .int .u8 (j.tier : Int), .int .i64 (j.k : Int), .int .i64 (j.w : Int), .int .u8 0, .int .i64 0]
abbrev joE (j : Jo) : Int × Value := ((j.id : Int), .agg (joC j).toArray)
abbrev setT (l : List Nat) : List (Int × Value) := l.map fun n : Nat => ((n : Int), Value.bool true)
def ranM (b : Nat) (f : List (Nat × Nat)) : Assn := fun h => ∃ l : List (Int × Value), (∀ id : Nat, (alGet (id : Int) l).getD (.int .i64 0) = .int .i64 (nLook id f : Nat)) ∧ mapL b .u32 l h
def warM (b : Nat) : Assn := fun h => ∃ l : List (Int × Value), mapL b .u32 l h
def lstM (v : SV) (n : Nat) : Assn := fun h => ∃ l : List Nat, l.length ≤ n ∧ v.n = l.length ∧ own v 31 1 (idsV l) h
abbrev smC (s : Sm) (b : Nat) (nv : SV) (rb jb gb db wb : Nat) (iv dv wv : SV) : List Value :=
 [pt b, .int .i64 (s.cn : Int), .int .i64 (s.cr : Int), .int .i64 (s.cq : Int), .int .i64 (s.cg : Int), nv.v, .int .u32 (s.now : Int), .int .u32 (s.next : Int), .map (some rb), .map (some jb), .map (some gb), .map (some db), iv.v, .map (some wb), dv.v, wv.v]
abbrev No := Nat × Nd
abbrev noB (o : No) : Assn := NI o.1 o.2
abbrev noV (o : No) : Value := pt o.1
abbrev smX (p : Nat) (s : Sm) (b : Nat) (ps : Nat → Nat) (nv : SV) (ns : List No) (rb jb gb db wb : Nat) (iv dv wv : SV) (Γ : List Assn) : List Assn :=
 blk p 55 (smC s b nv rb jb gb db wb iv dv wv).toArray :: BP b s.b ps :: own nv 103 1 (ns.map noV) :: alls ns noB :: ranM rb s.ran :: mapL jb .u32 (s.jobs.map joE) :: mapL gb .u32 (setT s.gone) :: mapL db .u32 (setT s.done) :: imgs iv s.images :: warM wb :: lstM dv s.fu :: lstM wv s.fu :: Γ
structure SF (s : Sm) (nv : SV) (ns : List No) (iv : SV) : Prop where
 nd : ns.map (·.2) = s.nd
 nn : nv.n = s.nd.length
 im : iv.n = s.images.length
def SP (p : Nat) (s : Sm) : Assn := fun h => ∃ (b : Nat) (ps : Nat → Nat) (nv : SV) (ns : List No) (rb jb gb db wb : Nat) (iv dv wv : SV), SF s nv ns iv ∧ stars (smX p s b ps nv ns rb jb gb db wb iv dv wv []) h
section
variable {n : Nat} {md : Bool} {w0 : WM md} {ρ : Env} {Γ Δ : List Assn} {φ : Act → World → Prop}
theorem S.niOpen (p : Nat) (nd : Nd) [q : Pick (NI p nd) Γ Δ] (k : ∀ rb iv ov rs os, NF nd iv ov rs os → S n w0 ρ (ndX p nd rb iv ov rs os Δ) φ) : S n w0 ρ Γ φ := by
 intro a w ha hs hx
 obtain ⟨h0, l0, h1, h2, d, l1, l2, ⟨rb, iv, ov, rs, os, q1, q2⟩, s⟩ := hs.ent q.ent
 exact k rb iv ov rs os q1 a w ha ⟨h0, l0, (Ent.unpack (ndX p nd rb iv ov rs os []) Δ) _ ⟨h1, h2, d, l1, l2, q2, s⟩⟩ hx
theorem S.niClose (p : Nat) (nd : Nd) (rb : Nat) (iv ov : SV) (rs : List Ro) (os : List Ot) (h : NF nd iv ov rs os) [q : Picks (ndX p nd rb iv ov rs os []) Γ Δ] (k : S n w0 ρ (NI p nd :: Δ) φ) : S n w0 ρ Γ φ :=
 S.ent (q.ent.trans ((Ent.pack (ndX p nd rb iv ov rs os []) Δ).trans (Ent.mono1 Δ fun _ s => ⟨rb, iv, ov, rs, os, h, s⟩))) k
theorem S.spOpen (p : Nat) (s : Sm) [q : Pick (SP p s) Γ Δ] (k : ∀ b ps nv ns rb jb gb db wb iv dv wv, SF s nv ns iv → S n w0 ρ (smX p s b ps nv ns rb jb gb db wb iv dv wv Δ) φ) : S n w0 ρ Γ φ := by
 intro a w ha hs hx
 obtain ⟨h0, l0, h1, h2, d, l1, l2, ⟨b, ps, nv, ns, rb, jb, gb, db, wb, iv, dv, wv, q1, q2⟩, s'⟩ := hs.ent q.ent
 exact k b ps nv ns rb jb gb db wb iv dv wv q1 a w ha ⟨h0, l0, (Ent.unpack (smX p s b ps nv ns rb jb gb db wb iv dv wv []) Δ) _ ⟨h1, h2, d, l1, l2, q2, s'⟩⟩ hx
theorem S.spClose (p : Nat) (s : Sm) (b : Nat) (ps : Nat → Nat) (nv : SV) (ns : List No) (rb jb gb db wb : Nat) (iv dv wv : SV) (h : SF s nv ns iv) [q : Picks (smX p s b ps nv ns rb jb gb db wb iv dv wv []) Γ Δ] (k : S n w0 ρ (SP p s :: Δ) φ) : S n w0 ρ Γ φ :=
 S.ent (q.ent.trans ((Ent.pack (smX p s b ps nv ns rb jb gb db wb iv dv wv []) Δ).trans (Ent.mono1 Δ fun _ s' => ⟨b, ps, nv, ns, rb, jb, gb, db, wb, iv, dv, wv, h, s'⟩))) k
end
end BN
end Go.Proofs.YtdackcibfkkniaaGreatDoor
namespace Go.Proofs.YtdackcibfkkniaaGreatDoor
open Go.RowKit
namespace BN
section
variable {α : Type}
theorem nGet_put (k : Nat) (v : α) (l : List (Nat × α)) (i : Nat) : nGet i (nPut k v l) = if i = k then some v else nGet i l := by
 induction l with
 | nil =>
  simp only [nPut, nGet]
  by_cases h : k = i
  ·rw [if_pos h, if_pos h.symm]
  ·rw [if_neg h, if_neg (fun e => h e.symm)]
 | cons x l ih =>
  unfold nPut
  by_cases hx : x.1 = k
  ·rw [if_pos hx]
   simp only [nGet]
   by_cases h : k = i
   ·rw [if_pos h, if_pos h.symm]
   ·rw [if_neg h, if_neg (fun e => h e.symm), if_neg (by omega)]
  ·rw [if_neg hx]
   simp only [nGet]
   by_cases h : x.1 = i
   ·rw [if_pos h, if_neg (by omega), if_pos h]
   ·rw [if_neg h, ih, if_neg h]
abbrev keys (l : List (Nat × α)) : List Nat := l.map (·.1)
theorem nGet_none {k : Nat} {l : List (Nat × α)} : nGet k l = none ↔ k ∉ keys l := by
 induction l with
 | nil => simp [nGet]
 | cons x l ih =>
  simp only [nGet, keys, List.map_cons, List.mem_cons, not_or]
  by_cases h : x.1 = k
  ·rw [if_pos h]; simp [h]
  ·rw [if_neg h, ih]
   exact ⟨fun h2 => ⟨fun e => h e.symm, h2⟩, fun h2 => h2.2⟩
theorem nGet_mem {k : Nat} {v : α} {l : List (Nat × α)} (h : nGet k l = some v) : (k, v) ∈ l := by
 induction l with
 | nil => cases h
 | cons x l ih =>
  simp only [nGet] at h
  split at h
  ·rename_i e; cases h; exact List.mem_cons.2 (.inl (by rw [← e]))
  ·exact List.mem_cons_of_mem _ (ih h)
theorem nGet_of_mem {k : Nat} {v : α} {l : List (Nat × α)} (hn : (keys l).Nodup) (h : (k, v) ∈ l) : nGet k l = some v := by
 induction l with
 | nil => cases h
 | cons x l ih =>
  simp only [keys, List.map_cons, List.nodup_cons] at hn
  simp only [nGet]
  rcases List.mem_cons.1 h with e | h
  ·rw [if_pos (by rw [← e]), ← e]
  ·rw [if_neg (fun e => hn.1 (List.mem_map.2 ⟨_, h, e.symm⟩)), ih hn.2 h]
theorem mem_keys_put {k : Nat} {v : α} {l : List (Nat × α)} {i : Nat} : i ∈ keys (nPut k v l) ↔ i = k ∨ i ∈ keys l := by
 have h1 := nGet_put k v l i
 constructor
 ·intro h
  by_cases e : i = k
  ·exact .inl e
  ·rw [if_neg e] at h1
   refine .inr (Classical.byContradiction fun h2 => ?_)
   rw [nGet_none.2 h2] at h1
   exact nGet_none.1 h1 h
 ·intro h
  refine Classical.byContradiction fun h2 => ?_
  rw [nGet_none.2 h2] at h1
  rcases h with h | h
  ·rw [if_pos h] at h1; cases h1
  ·by_cases e : i = k
   ·rw [if_pos e] at h1; cases h1
   ·rw [if_neg e] at h1; exact nGet_none.1 h1.symm h
theorem nPut_keys (k : Nat) (v : α) {l : List (Nat × α)} (hn : (keys l).Nodup) : (keys (nPut k v l)).Nodup := by
 induction l with
 | nil => simp [nPut, keys]
 | cons x l ih =>
  have hn' := hn
  simp only [keys, List.map_cons, List.nodup_cons] at hn
  unfold nPut
  split
  ·rename_i e; simp only [keys, List.map_cons, List.nodup_cons]; rw [← e]; exact hn
  ·rename_i e
   show (x.1 :: keys (nPut k v l)).Nodup
   rw [List.nodup_cons]
   refine ⟨fun h => ?_, ih hn.2⟩
   rcases mem_keys_put.1 h with h | h
   ·exact e h
   ·exact hn.1 h
end
def noRun (l : Rs) : Prop := ∀ y ∈ l, y.2.run = false
def oneRun (l : Rs) : Prop := ∀ y ∈ l, ∀ z ∈ l, y.2.run = true → z.2.run = true → y.1 = z.1
theorem noRun.one {l : Rs} (h : noRun l) : oneRun l := fun y hy _ _ h1 _ => by rw [h y hy] at h1; cases h1
theorem runOf_some {l : Rs} (h : runOf l ≠ 0) : ∃ r, (runOf l, r) ∈ l ∧ r.run = true := by
 unfold runOf at h ⊢
 cases hf : l.find? (·.2.run) with
 | none => rw [hf] at h; exact absurd rfl h
 | some x => exact ⟨x.2, List.mem_of_find?_eq_some hf, by have h9 := List.find?_some hf; exact h9⟩
def pos (l : Rs) : Prop := ∀ y ∈ l, y.1 ≠ 0
def fin (rk : Rs) (q : List Nt) : Nd := q.foldl actR ⟨true, rk, [], [], false⟩
end BN
end Go.Proofs.YtdackcibfkkniaaGreatDoor
namespace Go.Proofs.YtdackcibfkkniaaGreatDoor
open Go.RowKit
namespace BN
abbrev jT (ps : Nat → Nat) (js : List Bj) (i : Nat) : Assn := alls (js.take i) (jI ps)
abbrev jD (ps : Nat → Nat) (js : List Bj) (i : Nat) : Assn := alls (js.drop (i + 1)) (jI ps)
abbrev jX (p : Nat) (x : Bj) (av : SV) (lb db rb sb : Option Nat) (Γ : List Assn) : List Assn :=
 blk p 90 (bjC x av lb db rb sb).toArray :: own av 3 1 (nds x.at_) :: optS lb x.loaded :: optS db x.drops :: optR rb x.ran :: savB sb x.id x.sav :: Γ
structure JF (x : Bj) (av : SV) (lb db rb sb : Option Nat) : Prop where
 an : av.n = x.at_.length
 l : lb.isSome = x.loaded.isSome
 d : db.isSome = x.drops.isSome
 r : rb.isSome = x.ran.isSome
 s : sb.isSome = x.sav.isSome
abbrev bR (b : Nat) (st : Br) (ps : Nat → Nat) (ub jb mb : Nat) (ov iv dv mv : SV) (sb : Option Nat) (l : List (Int × Value)) (i : Nat) (Γ : List Assn) : List Assn :=
 blk b 84 (bC st ub jb mb ov iv dv mv sb).toArray :: mapL ub .i64 (setE st.up) :: mapL jb .u32 l :: jT ps st.js i :: jD ps st.js i :: MI mb st.m :: own ov 97 14 (st.orders.flatMap odC) :: imgs iv st.images :: own dv 31 1 (idsV st.done) :: own mv 31 1 (idsV st.members) :: optS sb st.stops :: Γ
theorem Ent.third (A B C : Assn) (Γ : List Assn) : Ent (A :: B :: C :: Γ) (C :: A :: B :: Γ) := ((Ent.swap B C Γ).cons A).trans (Ent.swap A C _)
theorem Ent.focus {b : Nat} {st : Br} {ps : Nat → Nat} {ub jb mb : Nat} {ov iv dv mv : SV} {sb : Option Nat} {l : List (Int × Value)} {i : Nat} {x : Bj} (hx : st.js[i]? = some x) (Γ : List Assn) :
  Ent (bX b st ps ub jb mb ov iv dv mv sb l Γ) (JI (ps x.id) x :: bR b st ps ub jb mb ov iv dv mv sb l i Γ) := by
 have h1 : Ent (alls st.js (jI ps) :: MI mb st.m :: own ov 97 14 (st.orders.flatMap odC) :: imgs iv st.images :: own dv 31 1 (idsV st.done) :: own mv 31 1 (idsV st.members) :: optS sb st.stops :: Γ) (JI (ps x.id) x :: jT ps st.js i :: jD ps st.js i :: MI mb st.m :: own ov 97 14 (st.orders.flatMap odC) :: imgs iv st.images :: own dv 31 1 (idsV st.done) :: own mv 31 1 (idsV st.members) :: optS sb st.stops :: Γ) := Ent.allsAt (jI ps) hx _
 exact ((((h1.cons _).cons _).cons _).trans (((Ent.swap _ _ _).cons _).cons _)).trans (((Ent.swap _ _ _).cons _).trans (Ent.swap _ _ _))
theorem Ent.unfocus {b : Nat} {st : Br} {ps : Nat → Nat} {ub jb mb : Nat} {ov iv dv mv : SV} {sb : Option Nat} {l : List (Int × Value)} {i : Nat} {x x' : Bj} (hx : st.js[i]? = some x) (hid : x'.id = x.id) (hset : setJ st.js x' = st.js.set i x') (hF : BF (st.set x') ps ov iv dv mv sb l) (Γ : List Assn) :
  Ent (JI (ps x.id) x' :: bR b st ps ub jb mb ov iv dv mv sb l i Γ) (BP b (st.set x') ps :: Γ) := by
 have h1 : Ent (JI (ps x.id) x' :: jT ps st.js i :: jD ps st.js i :: MI mb st.m :: own ov 97 14 (st.orders.flatMap odC) :: imgs iv st.images :: own dv 31 1 (idsV st.done) :: own mv 31 1 (idsV st.members) :: optS sb st.stops :: Γ) (alls (st.js.set i x') (jI ps) :: MI mb st.m :: own ov 97 14 (st.orders.flatMap odC) :: imgs iv st.images :: own dv 31 1 (idsV st.done) :: own mv 31 1 (idsV st.members) :: optS sb st.stops :: Γ) := by
  rw [← hid]
  exact Ent.allsBack (jI ps) (x' := x') hx _
 have h2 : Ent (bX b (st.set x') ps ub jb mb ov iv dv mv sb l Γ) (BP b (st.set x') ps :: Γ) := Ent.bp hF Γ
 have h3 : (st.set x').js = st.js.set i x' := hset
 rw [← h3] at h1
 exact (((Ent.swap _ _ _).trans ((Ent.swap _ _ _).cons _)).trans (((Ent.swap _ _ _).cons _).cons _)).trans ((((h1.cons _).cons _).cons _).trans h2)
theorem Ent.ungone {b : Nat} {st st' : Br} {ps : Nat → Nat} {ub jb mb : Nat} {ov iv dv mv : SV} {sb : Option Nat} {l : List (Int × Value)} {i : Nat} (hrm : st'.js = st.js.eraseIdx i) (hF : BF st' ps ov iv dv mv sb l) (Γ : List Assn) :
  Ent (bR b { st' with js := st.js } ps ub jb mb ov iv dv mv sb l i Γ) (BP b st' ps :: Γ) := by
 have h1 : ∀ Θ : List Assn, Ent (jT ps st.js i :: jD ps st.js i :: Θ) (alls st'.js (jI ps) :: Θ) := fun Θ => by
  rw [hrm, List.eraseIdx_eq_take_drop_succ]
  exact Ent.allsAppend _ _ _ _
 have h2 : Ent (bX b st' ps ub jb mb ov iv dv mv sb l Γ) (BP b st' ps :: Γ) := Ent.bp hF Γ
 exact ((((h1 _).cons _).cons _).cons _).trans h2
section
variable {n : Nat} {md : Bool} {w0 : WM md} {ρ : Env} {Γ Δ : List Assn} {φ : Act → World → Prop}
theorem S.blkAs (b : Nat) {T : TypeId} {cs : Array Value} (cs' : Array Value) [h : HasB Γ b T cs Δ] (e : cs = cs') (k : S n w0 ρ (blk b T cs' :: Δ) φ) : S n w0 ρ Γ φ := S.ent h.ent (e ▸ k)
theorem S.bjOpen (b : Nat) (st : Br) (ps : Nat → Nat) (x : Bj) (hx : getJ st.js x.id = some x) [p : Pick (BP b st ps) Γ Δ] (k : ∀ ub jb mb ov iv dv mv sb l i av lb db rb qb, BF st ps ov iv dv mv sb l → st.js[i]? = some x → (∀ y : Bj, y.id = x.id → setJ st.js y = st.js.set i y) → rmJ st.js x.id = st.js.eraseIdx i → JF x av lb db rb qb →
  S n w0 ρ (jX (ps x.id) x av lb db rb qb (bR b st ps ub jb mb ov iv dv mv sb l i Δ)) φ) : S n w0 ρ Γ φ := by
 refine S.bpOpen b st ps fun ub jb mb ov iv dv mv sb l hF => ?_
 obtain ⟨i, h1, h2, h3⟩ := getJ_at hF.ok.srt hx
 refine S.ent (Ent.focus h1 Δ) ?_
 refine S.jiOpen (ps x.id) x fun av lb db rb qb q1 q2 q3 q4 q5 => ?_
 exact k ub jb mb ov iv dv mv sb l i av lb db rb qb hF h1 h2 h3 ⟨q1, q2, q3, q4, q5⟩
theorem S.bjClose (b : Nat) (st : Br) (ps : Nat → Nat) (ub jb mb : Nat) (ov iv dv mv : SV) (sb : Option Nat) (l : List (Int × Value)) (i : Nat) {x : Bj} (x' : Bj) (av : SV) (lb db rb qb : Option Nat) (hx : st.js[i]? = some x) (hid : x'.id = x.id) (hset : setJ st.js x' = st.js.set i x') (hF : BF (st.set x') ps ov iv dv mv sb l) (hJ : JF x' av lb db rb qb)
  [q : Picks (jX (ps x.id) x' av lb db rb qb (bR b st ps ub jb mb ov iv dv mv sb l i [])) Γ Δ] (k : S n w0 ρ (BP b (st.set x') ps :: Δ) φ) : S n w0 ρ Γ φ := by
 refine S.ent ?_ k
 have h1 : Ent (jX (ps x.id) x' av lb db rb qb (bR b st ps ub jb mb ov iv dv mv sb l i Δ)) (JI (ps x.id) x' :: bR b st ps ub jb mb ov iv dv mv sb l i Δ) :=
  (Ent.pack (jX (ps x.id) x' av lb db rb qb []) _).trans (Ent.mono1 _ fun _ s => ⟨av, lb, db, rb, qb, hJ.an, hJ.l, hJ.d, hJ.r, hJ.s, s⟩)
 exact q.ent.trans (h1.trans (Ent.unfocus hx hid hset hF Δ))
end
theorem BrOk.set {st : Br} (h : BrOk st) {x : Bj} (hx : JOk st.nodes x) : BrOk (st.set x) := ⟨h.R, h.N, h.mok, setJ_ok h.srt x, fun y hy => by
 obtain ⟨z, hz, e⟩ := List.mem_map.1 hy
 have hj : JOk st.nodes y := by
  rw [← e]
  split
  ·exact hx
  ·exact h.job z hz
 exact hj, by show (setJ st.js x).length ≤ _; rw [setJ_len]; exact h.few, h.q1, h.q2, h.g1, h.g2, h.now, h.fin, h.mem, h.stp⟩
theorem BF.set {st : Br} {ps : Nat → Nat} {ov iv dv mv : SV} {sb : Option Nat} {l : List (Int × Value)} (h : BF st ps ov iv dv mv sb l) {x : Bj} (hx : JOk st.nodes x) : BF (st.set x) ps ov iv dv mv sb l := ⟨h.ok.set hx, by show l.Perm ((setJ st.js x).map (jE ps)); rw [jE_set]; exact h.perm, h.on, h.im, h.dn, h.mn, h.sn⟩
theorem BrOk.at_ {st : Br} (h : BrOk st) {x : Bj} (hx : getJ st.js x.id = some x) : JOk st.nodes x := h.job x (getJ_some hx).1
theorem has_S (b : Nat) (s : List Nat) (n : Nat) : Spec Tryz.prog 73 [.map (some b), .int .i64 (n : Int)] [mapL b .i64 (setE s)] fun Γ v Θ => v = .bool (decide (n ∈ s)) ∧ Θ = mapL b .i64 (setE s) :: Γ := by
 refine Zbd Tryz.func73 rfl Tryz.ntmps73 fun w0 Γ => Zsh ?_
 refine ZY 8 ?_
 refine Zv (q_lookupOk (.agg #[]) (decide (n ∈ s)) Tryz.underlying81 Tryz.underlying3 Tryz.zv134.h rfl rfl rfl (by rw [setE_get]; by_cases h : n ∈ s; (rw [if_pos h, decide_eq_true h]); (rw [if_neg h, decide_eq_false h]))) ?_
 refine ZY 3 ?_
 refine Zp (S.alloc Tryz.z134.h rfl ?_)
 intro b5
 refine Zp (Zs ef ef (cs' := []) ef ?_)
 refine ZY 8 ?_
 exact Zf ef Zq (⟨rfl, rfl⟩)
theorem hasN_S (n : Int) : Spec Tryz.prog 73 [.map none, .int .i64 n] [] fun Γ v Θ => v = .bool false ∧ Θ = Γ := by
 refine Zbd Tryz.func73 rfl Tryz.ntmps73 fun w0 Γ => Zsh ?_
 refine ZY 8 ?_
 refine Zv (q_lookupOkN Tryz.underlying81 Tryz.underlying3 Tryz.zv134.h rfl rfl rfl) ?_
 refine ZY 3 ?_
 refine Zp (S.alloc Tryz.z134.h rfl ?_)
 intro b5
 refine Zp (Zs ef ef (cs' := []) ef ?_)
 refine ZY 8 ?_
 exact Zf ef Zq (⟨rfl, rfl⟩)
theorem hasO_S (b : Option Nat) (s : Option (List Nat)) (n : Nat) : Spec Tryz.prog 73 [.map b, .int .i64 (n : Int)] [optS b s] fun Γ v Θ => v = .bool (decide (n ∈ s.getD [])) ∧ Θ = optS b s :: Γ := by
 cases b with
 | none =>
  cases s with
  | none => exact fun Γ w hs => hasN_S n (optS none none :: Γ) w hs |>.mono fun e w' h => h
  | some s => exact fun Γ w hs => absurd hs.optEq (by simp)
 | some b =>
  cases s with
  | none => exact fun Γ w hs => absurd hs.optEq (by simp)
  | some s => exact has_S b s n
theorem add_S (b : Nat) (s : List Nat) (n : Nat) : Spec Tryz.prog 38 [.map (some b), .int .i64 (n : Int)] [mapL b .i64 (setE s)] fun Γ _ Θ => Θ = mapL b .i64 (setE (sAdd s n)) :: Γ := by
 refine Zbd Tryz.func38 rfl Tryz.ntmps38 fun w0 Γ => Zsh ?_
 refine ZY 3 ?_
 refine Zv (q_build (pvs := []) [] Tryz.z134.h Tryz.p134.h trivial rfl) ?_
 refine Zp (S.mapUpdate Tryz.underlying81 Tryz.underlying3 rfl rfl rfl rfl ?_)
 rw [setE_put]
 refine Zy ?_
 exact Zfn ef Zq (rfl)
theorem order_S (b : Nat) (st : Br) (ub jb mb : Nat) (ov iv dv mv : SV) (sb : Option Nat) (n : Nat) (x : Nt) (os : List Od) (hov : ov.n = os.length) (hl : os.length ≤ 1000000) : Spec Tryz.prog 74 [pt b, .int .i64 (n : Int), .agg (ntC x SV.nil).toArray] [blk b 84 (bC st ub jb mb ov iv dv mv sb).toArray, own ov 97 14 (os.flatMap odC)] fun Γ _ Θ =>
  ∃ ov2 : SV, ov2.n = (os ++ [(n, x)]).length ∧ Θ = blk b 84 (bC st ub jb mb ov2 iv dv mv sb).toArray :: own ov2 97 14 ((os ++ [(n, x)]).flatMap odC) :: Γ := by
 refine Zbd Tryz.func74 rfl Tryz.ntmps74 fun w0 Γ => Zsh ?_
 have hlen : (os ++ [((n, x) : Od)]).length = os.length + 1 := by simp
 refine ZY 2 ?_
 refine Zp (S.box (cs := [_, _, _, _, _, _, _, _, _, _, _, _, _]) rfl rfl rfl ?_)
 intro b5
 refine Zy ?_
 refine Zd ([blk b5 72 (ntC x SV.nil).toArray, blk b 84 (bC st ub jb mb ov iv dv mv sb).toArray]) [12] (Zra 0 8) ?_
 refine ZY 7 ?_
 refine Zw ef (q_build (pvs := [(_, _), (_, _)]) [_, _, _, _, _, _, _, _, _, _, _, _, _, _] Tryz.z97.h Tryz.p97.h ⟨⟨rfl, rfl⟩, ⟨rfl, rfl⟩, trivial⟩ rfl) ?_
 refine Z1 (i := 8) ef ef ?_
 refine (S.buildSlice (pvs := [(_, _)]) [_, _, _, _, _, _, _, _, _, _, _, _, _, _] Tryz.underlying37 Tryz.inf97.h rfl rfl ⟨⟨rfl, rfl⟩, trivial⟩ rfl rfl ?_)
 intro b14
 refine Zk [] ?_
 refine Z1 (i := 9) ef ef ?_
 refine (S.appendOw (s := ov) (1) (odC (n, x)) Tryz.underlying37 Tryz.inf97.h rfl rfl rfl (blk_slAt (b := b14) rfl (by unfold maxLen; omega)) (by first | rfl | exact allOne_bcells _) (⟨by omega, by omega⟩) rfl ?_)
 intro ov2 hov2
 refine Zk [10, 11] ?_
 refine ZY 2 ?_
 refine Z1 (i := 12) ef ef ?_
 refine (S.store (cs' := [_, _, _, _, _, _, _, _, _, _, _, _, _, _, _, _, _, _]) Eo.h rfl rfl rfl rfl rfl ?_)
 refine ZL ([]) [] ?_
 refine ZD ?_
 rw [flat_snoc odC os ((n, x) : Od)]
 exact Zfn ef Zq (⟨ov2, by omega, rfl⟩)
end BN
end Go.Proofs.YtdackcibfkkniaaGreatDoor
namespace Go.Proofs.YtdackcibfkkniaaGreatDoor
open Go.RowKit
theorem Ent.opt1 {q : Nat} {s : Option (List Nat)} {d : List Nat} (h : s = some d) (Γ : List Assn) : Ent (optS (some q) s :: Γ) (mapL q .i64 (setE d) :: Γ) := by rw [h]; exact Ent.refl _
theorem Ent.opt2 {q : Nat} {s : Option (List Nat)} {d : List Nat} (h : s = some d) (Γ : List Assn) : Ent (mapL q .i64 (setE d) :: Γ) (optS (some q) s :: Γ) := by rw [h]; exact Ent.refl _
namespace BN
theorem optRNil (Γ : List Assn) : Ent Γ (optR none none :: Γ) := fun h hs => ⟨HL.emp, h, HL.emp_disj _, HL.emp_le _, HL.le.refl _, trivial, hs⟩
theorem savNil (id : Nat) (Γ : List Assn) : Ent Γ (savB none id none :: Γ) := fun h hs => ⟨HL.emp, h, HL.emp_disj _, HL.emp_le _, HL.le.refl _, trivial, hs⟩
theorem removeR_N (m : Mx) (j : Nat) : (removeR m j).2.R = m.R ∧ (removeR m j).2.N = m.N := by
 unfold removeR
 split <;> exact ⟨rfl, rfl⟩
theorem removeR_ok {m : Mx} (hm : MxOk m) (j : Nat) : MxOk (removeR m j).2 := by
 unfold removeR
 split
 ·exact hm.del j
 ·exact hm
theorem BrOk.mset {st : Br} (h : BrOk st) {m : Mx} (hm : MxOk m) (hR : m.R = st.m.R) (hN : m.N = st.m.N) : BrOk { st with m := m } := ⟨by rw [hR]; exact h.R, by rw [hN]; exact h.N, hm, h.srt, fun x hx => h.job x hx, h.few, h.q1, h.q2, h.g1, h.g2, h.now, h.fin, h.mem, h.stp⟩
theorem BrOk.jset {st : Br} (h : BrOk st) {js : List Bj} (hs : JsOk js) (hj : ∀ x ∈ js, JOk st.nodes x) (hl : js.length ≤ 1000) : BrOk { st with js := js } := ⟨h.R, h.N, h.mok, hs, fun x hx => hj x hx, hl, h.q1, h.q2, h.g1, h.g2, h.now, h.fin, h.mem, h.stp⟩
theorem BrOk.oset {st : Br} (h : BrOk st) (os : List Od) : BrOk { st with orders := os } := ⟨h.R, h.N, h.mok, h.srt, fun x hx => h.job x hx, h.few, h.q1, h.q2, h.g1, h.g2, h.now, h.fin, h.mem, h.stp⟩
theorem BrOk.dset {st : Br} (h : BrOk st) (ds : List Nat) : BrOk { st with done := ds } := ⟨h.R, h.N, h.mok, h.srt, fun x hx => h.job x hx, h.few, h.q1, h.q2, h.g1, h.g2, h.now, h.fin, h.mem, h.stp⟩
theorem set_self {st : Br} (h : BrOk st) {x : Bj} (hx : getJ st.js x.id = some x) : st.set x = st := by
 have := setJ_self h.srt hx
 show { st with js := setJ st.js x } = st
 rw [this]
abbrev anew (x : Bj) : Bj := { id := x.id, tier := x.tier, k := x.k, w := x.w, state := 0, credit := x.credit, work := x.credit, ver := x.ver }
theorem JOk.anew {N : Nat} {x : Bj} (h : JOk N x) : JOk N (anew x) := ⟨h.id1, h.id2, h.tier, h.k1, h.kn, h.w, h.cr, h.cr, List.Pairwise.nil, fun n hn => (by cases hn), fun d hd => (by cases hd), fun d hd => (by cases hd), fun r hr => (by cases hr), fun e => absurd (show (0 : Nat) = 1 from e) (by decide), fun s hs => (by cases hs)⟩
theorem goneR_ok {st : Br} (h : BrOk st) {x : Bj} (hx : JOk st.nodes x) : BrOk (goneR st x) := by
 unfold goneR
 have hm := h.mset (removeR_ok h.mok x.id) (removeR_N _ _).1 (removeR_N _ _).2
 split
 ·split
  ·exact hm.set (x := BN.anew x) hx.anew
  ·exact hm.jset (js := rmJ st.js x.id) (rmJ_ok h.srt _) (fun y hy => h.job y ((List.mem_filter.1 hy).1)) (Nat.le_trans (List.length_filter_le _ _) h.few)
 ·exact h.set hx
theorem goneR_same (st : Br) (x : Bj) : (goneR st x).orders = st.orders ∧ (goneR st x).images = st.images ∧ (goneR st x).done = st.done ∧ (goneR st x).nodes = st.nodes ∧ (goneR st x).up = st.up := by
 unfold goneR
 split
 ·split <;> exact ⟨rfl, rfl, rfl, rfl, rfl⟩
 ·exact ⟨rfl, rfl, rfl, rfl, rfl⟩
theorem gone_S (b : Nat) (st : Br) (ps : Nat → Nat) (x : Bj) (hx : getJ st.js x.id = some x) : Spec Tryz.prog 53 [pt b, pt (ps x.id)] [BP b st ps] fun Γ _ Θ => Θ = BP b (goneR st x) ps :: Γ := by
 refine Spec.bpOk fun hok => ?_
 have hjx := hok.at_ hx
 cases hd : x.drops with
 | none =>
  have hg : goneR st x = st.set x := by rw [goneR, hd, if_neg (by simp)]
  refine Zbd Tryz.func53 rfl Tryz.ntmps53 fun w0 Γ => Zsh ?_
  refine S.bjOpen b st ps x hx fun ub jb mb ov iv dv mv sb l i av lb db rb qb hF hi hset hrm hJ => ?_
  have hdb : db = none := by have := hJ.d; rw [hd] at this; cases db with | none => rfl | some q => cases this
  subst hdb
  refine ZY 7 ?_
  refine Zv (q_eqMN Tryz.underlying81 rfl rfl) ?_
  refine ZY 8 ?_
  refine ZY 3 ?_
  refine S.bjClose b st ps ub jb mb ov iv dv mv sb l i x av lb none rb qb hi rfl (hset x rfl) (hF.set hjx) hJ ?_
  exact Zf ef Zq (by rw [hg])
 | some d =>
  refine Zbd Tryz.func53 rfl Tryz.ntmps53 fun w0 Γ => Zsh ?_
  refine S.bjOpen b st ps x hx fun ub jb mb ov iv dv mv sb l i av lb db rb qb hF hi hset hrm hJ => ?_
  obtain ⟨q, hq⟩ : ∃ q, db = some q := by have := hJ.d; rw [hd] at this; cases db with | none => cases this | some q => exact ⟨q, rfl⟩
  subst hq
  refine S.conv (optS (some q) x.drops) (Ent.opt1 hd _) ?_
  have hml := setE_len d
  refine ZY 7 ?_
  refine Zv (q_eqMN Tryz.underlying81 rfl rfl) ?_
  refine ZY 8 ?_
  refine Zy ?_
  refine Zj ef (fun h1 => ?_) (fun h1 => ?_)
  ·have hg : goneR st x = st.set x := by rw [goneR, hd, if_neg (fun e => by rw [Option.some.inj e] at h1; exact absurd h1 (by decide))]
   refine S.conv (mapL q .i64 (setE d)) (Ent.opt2 hd _) ?_
   refine Zy ?_
   refine S.bjClose b st ps ub jb mb ov iv dv mv sb l i x av lb (some q) rb qb hi rfl (hset x rfl) (hF.set hjx) hJ ?_
   exact Zf ef Zq (by rw [hg])
  ·have hd0 : x.drops = some [] := by rw [hd]; congr; exact List.eq_nil_of_length_eq_zero (by omega)
   have hm := hok.mset (removeR_ok hok.mok x.id) (removeR_N _ _).1 (removeR_N _ _).2
   refine ZY 2 ?_
   refine Zd ([blk (ps x.id) 90 (bjC x av lb (some q) rb qb).toArray, blk b 84 (bC st ub jb mb ov iv dv mv sb).toArray]) [] (Zra 0 9) ?_
   refine ZY 8 ?_
   refine Zy ?_
   refine Z1 (i := 9) ef ef ?_
   refine  (Zcp Ze (Remove_S mb st.m x.id) ?_)
   refine Zk [] ?_
   refine ZD ?_
   refine ZY 8 ?_
   refine Zy ?_
   refine Zi ef (fun h2 => ?_) (fun h2 => ?_)
   ·have ha : x.again = false := by simpa using h2
    have hg : goneR st x = { st with m := (removeR st.m x.id).2, js := rmJ st.js x.id } := by rw [goneR, if_pos hd0, if_neg (by rw [ha]; decide)]
    refine Zy ?_
    refine Zd ([blk (ps x.id) 90 (bjC x av lb (some q) rb qb).toArray, blk b 84 (bC st ub jb mb ov iv dv mv sb).toArray]) [] (Zra 0 9) ?_
    refine ZY 8 ?_
    refine Zy ?_
    refine Z1 (i := 9) ef ef ?_
    refine (S.mapDelete Tryz.underlying82 Tryz.underlying31 rfl rfl rfl ?_)
    refine Zk [] ?_
    refine ZD ?_
    refine Zy ?_
    have hF2 : BF { st with m := (removeR st.m x.id).2, js := rmJ st.js x.id } ps ov iv dv mv sb (alDel (x.id : Int) l) := ⟨by rw [← hg]; exact goneR_ok hok hjx, jE_rm hok.srt hF.perm hx, hF.on, hF.im, hF.dn, hF.mn, hF.sn⟩
    refine S.sub (bR b { st with m := (removeR st.m x.id).2 } ps ub jb mb ov iv dv mv sb (alDel (x.id : Int) l) i Γ) ?_
    refine S.ent (Ent.ungone (st := st) (st' := { st with m := (removeR st.m x.id).2, js := rmJ st.js x.id }) hrm hF2 Γ) ?_
    exact Zf ef Zq (by rw [hg])
   ·have ha : x.again = true := by simpa using h2
    have hg : goneR st x = Br.set { st with m := (removeR st.m x.id).2 } (anew x) := by rw [goneR, if_pos hd0, if_pos ha]
    refine ZY 2 ?_
    refine Zd ([blk (ps x.id) 90 (bjC x av lb (some q) rb qb).toArray]) [16] (Zra 0 16) ?_
    refine ZY 8 ?_
    refine ZY 6 ?_
    refine Zw ef (q_build (pvs := [(_, _), (_, _), (_, _)]) [_, _, _, _, _, _, _, _, _, _, _, _, _, _, _, _, _] Tryz.z90.h Tryz.p90.h ⟨⟨rfl, rfl⟩, ⟨rfl, rfl⟩, ⟨rfl, rfl⟩, trivial⟩ rfl) ?_
    refine Zy ?_
    refine Z1 (i := 16) ef ef ?_
    refine  (Zs ef ef (cs' := [_, _, _, _, _, _, _, _, _, _, _, _, _, _, _, _, _]) ef ?_)
    refine ZL ([]) [] ?_
    refine ZD ?_
    refine ZY 7 ?_
    have hF2 : BF (Br.set { st with m := (removeR st.m x.id).2 } (anew x)) ps ov iv dv mv sb l := ⟨by rw [← hg]; exact goneR_ok hok hjx, by show l.Perm ((setJ st.js (anew x)).map (jE ps)); rw [jE_set]; exact hF.perm, hF.on, hF.im, hF.dn, hF.mn, hF.sn⟩
    refine S.blkAs (ps x.id) (bjC (anew x) SV.nil none none none none).toArray rfl ?_
    refine S.ent (show Ent _ (own SV.nil 3 1 (nds (anew x).at_) :: _) from Ent.ownNil 3 1) ?_
    refine S.ent ((Ent.optNil _).trans ((Ent.optNil _).trans ((optRNil _).trans (savNil x.id _)))) ?_
    refine S.sub (jX (ps x.id) (anew x) SV.nil none none none none (bR b { st with m := (removeR st.m x.id).2 } ps ub jb mb ov iv dv mv sb l i Γ)) ?_
    refine S.bjClose b { st with m := (removeR st.m x.id).2 } ps ub jb mb ov iv dv mv sb l i (anew x) SV.nil none none none none hi rfl (hset (anew x) rfl) hF2 ⟨rfl, rfl, rfl, rfl, rfl⟩ ?_
    exact Zfn ef Zq (by rw [hg])
end BN
end Go.Proofs.YtdackcibfkkniaaGreatDoor
namespace Go.Proofs.YtdackcibfkkniaaGreatDoor
open Go.RowKit
namespace BN
theorem rise_len {l : List Nat} {N : Nat} (h : l.Pairwise (· < ·)) (hN : ∀ n ∈ l, n < N) : l.length ≤ N := by
 have key : ∀ i, (hi : i < l.length) → i ≤ l[i] := by
  intro i
  induction i with
  | zero => intro _; exact Nat.zero_le _
  | succ i ih =>
   intro hi
   have h1 := ih (by omega)
   have h2 := List.pairwise_iff_getElem.1 h i (i + 1) (by omega) hi (by omega)
   omega
 rcases Nat.eq_zero_or_pos l.length with e | e
 ·omega
 ·have h1 := key (l.length - 1) (by omega)
  have h2 := hN _ (List.getElem_mem (show l.length - 1 < l.length by omega))
  omega
theorem BrOk.N16 {st : Br} (h : BrOk st) : st.nodes ≤ 16 := by rw [← h.N]; exact h.mok.N16
theorem BrOk.R8 {st : Br} (h : BrOk st) : st.rows ≤ 8 := by rw [← h.R]; exact h.mok.R8
theorem JOk.len {N : Nat} {x : Bj} (h : JOk N x) : x.at_.length ≤ N := rise_len h.rise h.at_
theorem gone_set (st : Br) {x y : Bj} (h : x.id = y.id) : goneR (st.set x) y = goneR st y := by
 unfold goneR Br.set
 split
 ·split
  ·show ({ st with m := _, js := setJ (setJ st.js x) _ } : Br) = _
   rw [setJ_set (x := x) (y := anew y) st.js h]
  ·show ({ st with m := _, js := rmJ (setJ st.js x) y.id } : Br) = _
   rw [← h, rmJ_set]
 ·show ({ st with js := setJ (setJ st.js x) y } : Br) = _
  rw [setJ_set (x := x) (y := y) st.js h]
theorem set_set (st : Br) {x y : Bj} (h : x.id = y.id) : (st.set x).set y = st.set y := by
 unfold Br.set
 show ({ st with js := setJ (setJ st.js x) y } : Br) = _
 rw [setJ_set (x := x) (y := y) st.js h]
theorem drop_some {x : Bj} {d : List Nat} (h : x.drops = some d) (st : Br) (a : Bool) : dropR st x a = goneR st (dropX x a d) := by rw [dropR, h]
theorem drop_none {x : Bj} (h : x.drops = none) (st : Br) (a : Bool) : dropR st x a = goneR { st with orders := st.orders ++ (upOf st x).map (dropOrd x.id) } (dropX x a (upOf st x)) := by rw [dropR, h]
theorem drop_set (st : Br) {x y : Bj} (h : x.id = y.id) (a : Bool) : dropR (st.set x) y a = dropR st y a := by
 cases hd : y.drops with
 | some d => rw [drop_some hd, drop_some hd]; exact gone_set st h
 | none => rw [drop_none hd, drop_none hd]; exact gone_set { st with orders := st.orders ++ (upOf st y).map (dropOrd y.id) } (x := x) h
theorem get_set (st : Br) {x : Bj} {z : Bj} (hz : getJ st.js x.id = some z) : getJ (st.set x).js x.id = some x := by
 show getJ (setJ st.js x) x.id = some x
 rw [getJ_set, if_pos rfl, hz]
 rfl
theorem JOk.dropX {N : Nat} {x : Bj} (h : JOk N x) (a : Bool) {ds : List Nat} (hd : ds.Nodup) : JOk N (dropX x a ds) := ⟨h.id1, h.id2, h.tier, h.k1, h.kn, h.w, h.cr, h.cr, h.rise, h.at_, fun d e => (by cases e; exact hd), h.lod, h.ran, fun e => absurd (show (3 : Nat) = 1 from e) (by decide), fun s hs => (by cases hs)⟩
theorem upOf_nodup {N : Nat} {x : Bj} (h : JOk N x) (st : Br) : (upOf st x).Nodup := (h.rise.imp fun h => Nat.ne_of_lt h).filter _
theorem upOf_len (st : Br) (x : Bj) : (upOf st x).length ≤ x.at_.length := List.length_filter_le _ _
theorem dropR_ok {st : Br} (h : BrOk st) {x : Bj} (hx : JOk st.nodes x) (a : Bool) : BrOk (dropR st x a) := by
 cases hd : x.drops with
 | some d => rw [drop_some hd]; exact goneR_ok h (hx.dropX a (hx.drop d hd))
 | none => rw [drop_none hd]; exact goneR_ok (h.oset _) (x := dropX x a (upOf st x)) (hx.dropX a (upOf_nodup hx st))
theorem dropR_same (st : Br) (x : Bj) (a : Bool) : (dropR st x a).orders.length ≤ st.orders.length + x.at_.length ∧ (dropR st x a).images = st.images ∧ (dropR st x a).done = st.done ∧ (dropR st x a).nodes = st.nodes ∧ (dropR st x a).up = st.up := by
 cases hd : x.drops with
 | some d =>
  rw [drop_some hd]
  obtain ⟨h1, h2, h3, h4, h5⟩ := goneR_same st (dropX x a d)
  exact ⟨by rw [h1]; omega, h2, h3, h4, h5⟩
 | none =>
  rw [drop_none hd]
  obtain ⟨h1, h2, h3, h4, h5⟩ := goneR_same { st with orders := st.orders ++ (upOf st x).map (dropOrd x.id) } (dropX x a (upOf st x))
  refine ⟨?_, h2, h3, h4, h5⟩
  rw [h1, List.length_append, List.length_map]
  have := upOf_len st x
  omega
theorem drop_S (b : Nat) (st : Br) (ps : Nat → Nat) (x : Bj) (a : Bool) (hx : getJ st.js x.id = some x) (hl : st.orders.length ≤ 900000) : Spec Tryz.prog 52 [pt b, pt (ps x.id), .bool a] [BP b st ps] fun Γ _ Θ => Θ = BP b (dropR st x a) ps :: Γ := by
 refine Spec.bpOk fun hok => ?_
 have hjx := hok.at_ hx
 have hN := hok.N16
 have hal := hjx.len
 cases hd : x.drops with
 | some d =>
  refine Zbd Tryz.func52 rfl Tryz.ntmps52 fun w0 Γ => Zsh ?_
  refine S.bjOpen b st ps x hx fun ub jb mb ov iv dv mv sb l i av lb db rb qb hF hi hset hrm hJ => ?_
  obtain ⟨q, hq⟩ : ∃ q, db = some q := by have := hJ.d; rw [hd] at this; cases db with | none => cases this | some q => exact ⟨q, rfl⟩
  subst hq
  obtain ⟨x1, hx1⟩ : ∃ x1 : Bj, x1 = dropX x a d := ⟨_, rfl⟩
  have hj1 : JOk st.nodes x1 := by rw [hx1]; exact hjx.dropX a (hjx.drop d hd)
  have hid : x1.id = x.id := by rw [hx1]
  have hgo : dropR st x a = goneR (st.set x1) x1 := by rw [gone_set st rfl, drop_some hd, hx1]
  refine Zy ?_
  refine Zc (fun ρ' Γ' => ρ' = [(0, pt b), (1, pt (ps x.id)), (2, .bool a)] ∧ Γ' = blk (ps x.id) 90 (bjC { x with again := a && !x.done } av lb (some q) rb qb).toArray :: own av 3 1 (nds x.at_) :: optS lb x.loaded :: optS (some q) x.drops :: optR rb x.ran :: savB qb x.id x.sav :: bR b st ps ub jb mb ov iv dv mv sb l i Γ) ?_ ?_
  ·refine ZY 4 ?_
   refine Zbb 10 ef (fun hg0_2 => ?_) (fun hg0_2 => ?_)
   ·refine ZY 8 ?_
    refine ZY 2 ?_
    refine S.blkAs (ps x.id) (bjC { x with again := a && !x.done } av lb (some q) rb qb).toArray (by rw [hg0_2]; rfl) ?_
    exact ZM ⟨rfl, rfl⟩
   ·refine ZY 8 ?_
    refine ZY 2 ?_
    refine S.blkAs (ps x.id) (bjC { x with again := a && !x.done } av lb (some q) rb qb).toArray (by rw [hg0_2]; rfl) ?_
    exact ZM ⟨rfl, rfl⟩
  ·rintro ρ' Γ' ⟨rfl, rfl⟩
   refine ZY 8 ?_
   refine ZY 8 ?_
   refine ZY 8 ?_
   refine ZY 2 ?_
   refine Zv (q_eqMN Tryz.underlying81 rfl rfl) ?_
   refine Zy ?_
   refine ZF ef ?_
   refine ZY 8 ?_
   refine ZY 4 ?_
   refine S.blkAs (ps x.id) (bjC x1 av lb (some q) rb none).toArray (by rw [hx1]; rfl) ?_
   refine S.ent (savNil x.id _) ?_
   refine S.conv (optS (some q) x.drops) (show Ent _ (optS (some q) x1.drops :: _) by rw [hx1, hd]; exact Ent.refl _) ?_
   refine S.sub (jX (ps x.id) x1 av lb (some q) rb none (bR b st ps ub jb mb ov iv dv mv sb l i Γ)) (e := by subst hx1; infer_instance) ?_
   refine S.bjClose b st ps ub jb mb ov iv dv mv sb l i x1 av lb (some q) rb none hi hid (hset x1 hid) (hF.set hj1) ⟨by rw [hx1]; exact hJ.an, by rw [hx1]; exact hJ.l, by rw [hx1]; rfl, by rw [hx1]; exact hJ.r, by rw [hx1]; rfl⟩ ?_
   refine Zp (Zc1 Ze ((hid ▸ gone_S b (st.set x1) ps x1 (get_set st (by rw [hid]; exact hx)) : Spec Tryz.prog 53 [pt b, pt (ps x.id)] [BP b (st.set x1) ps] fun Γ _ Θ => Θ = BP b (goneR (st.set x1) x1) ps :: Γ)) ?_)
   rintro v Θ rfl
   refine Zy ?_
   exact Zfn ef Zq (by rw [hgo])
 | none =>
  refine Zbd Tryz.func52 rfl Tryz.ntmps52 fun w0 Γ => Zsh ?_
  refine S.bjOpen b st ps x hx fun ub jb mb ov iv dv mv sb l i av lb db rb qb hF hi hset hrm hJ => ?_
  have hdb : db = none := by have := hJ.d; rw [hd] at this; cases db with | none => rfl | some q => cases this
  subst hdb
  have han := hJ.an
  refine Zy ?_
  refine Zc (fun ρ' Γ' => ρ' = [(0, pt b), (1, pt (ps x.id)), (2, .bool a)] ∧ Γ' = blk (ps x.id) 90 (bjC { x with again := a && !x.done } av lb none rb qb).toArray :: own av 3 1 (nds x.at_) :: optS lb x.loaded :: optR rb x.ran :: bR b st ps ub jb mb ov iv dv mv sb l i Γ) ?_ ?_
  ·refine ZY 4 ?_
   refine Zbb 10 ef (fun hg0_2 => ?_) (fun hg0_2 => ?_)
   ·refine ZY 8 ?_
    refine ZY 2 ?_
    refine S.blkAs (ps x.id) (bjC { x with again := a && !x.done } av lb none rb qb).toArray (by rw [hg0_2]; rfl) ?_
    exact ZM ⟨rfl, rfl⟩
   ·refine ZY 8 ?_
    refine ZY 2 ?_
    refine S.blkAs (ps x.id) (bjC { x with again := a && !x.done } av lb none rb qb).toArray (by rw [hg0_2]; rfl) ?_
    exact ZM ⟨rfl, rfl⟩
  ·rintro ρ' Γ' ⟨rfl, rfl⟩
   refine ZY 8 ?_
   refine ZY 8 ?_
   refine ZY 8 ?_
   refine ZY 2 ?_
   refine Zv (q_eqMN Tryz.underlying81 rfl rfl) ?_
   refine Zy ?_
   refine ZT ef ?_
   refine ZY 3 ?_
   refine Zp (S.makeMap .i64 rfl ?_)
   intro b36
   refine S.conv (mapL b36 .i64 []) (show Ent _ (mapL b36 .i64 (setE []) :: _) from Ent.refl _) ?_
   refine ZY 8 ?_
   refine ZY 3 ?_
   refine S.blkAs (ps x.id) (bjC { x with again := a && !x.done, work := x.credit } av lb (some b36) rb none).toArray rfl ?_
   refine ZY 3 ?_
   refine Zl (fun k ρ' Γ' => ∃ (e : Nat) (ds : List Nat) (os : List Od) (ov2 : SV), k = x.at_.length - e ∧ e ≤ x.at_.length ∧ ds = (x.at_.take e).filter (fun n => decide (n ∈ st.up)) ∧ os = st.orders ++ ds.map (dropOrd x.id) ∧ ov2.n = os.length ∧ ρ' = [(0, pt b), (1, pt (ps x.id)), (42, av.v), (43, .int .i64 (av.n : Int)), (44, .int .i64 (e : Int))] ∧   Γ' = blk (ps x.id) 90 (bjC { x with again := a && !x.done, work := x.credit } av lb (some b36) rb none).toArray :: mapL b36 .i64 (setE ds) :: own av 3 1 (nds x.at_) :: optS lb x.loaded :: optR rb x.ran :: blk b 84 (bC st ub jb mb ov2 iv dv mv sb).toArray :: mapL ub .i64 (setE st.up) :: mapL jb .u32 l :: jT ps st.js i :: jD ps st.js i :: MI mb st.m :: own ov2 97 14 (os.flatMap odC) :: imgs iv st.images :: own dv 31 1 (idsV st.done) :: own mv 31 1 (idsV st.members) :: optS sb st.stops :: Γ) (m := _) (⟨0, [], st.orders, ov, rfl, by omega, rfl, by simp, hF.on, rfl, rfl⟩) ?_
   rintro k ρ' Γ' ⟨e, ds, os, ov2, hk, he, hds, hos, hov2, rfl, rfl⟩
   have hdl : ds.length ≤ x.at_.length := by
    rw [hds]
    exact Nat.le_trans (List.length_filter_le _ _) (by rw [List.length_take]; omega)
   have hol : os.length ≤ 900016 := by rw [hos, List.length_append, List.length_map]; omega
   refine ZY 5 ?_
   refine Zj ef (fun h2 => ?_) (fun h2 => ?_)
   ·refine S.ownSome av (by omega) fun ab ao haa _ _ _ => ?_
    obtain ⟨y, hy⟩ := getE (show e < x.at_.length by omega)
    have htk : x.at_.take (e + 1) = x.at_.take e ++ [y] := by rw [List.take_add_one, hy]; rfl
    refine ZY 5 ?_
    refine Zv (Zx (e) ef (haa) ef (by omega)) ?_
    refine Zv (Zo (av) (e) ef (haa) (by rw [List.getElem?_map, hy]; rfl)) ?_
    refine ZY 8 ?_
    refine Zy ?_
    refine Zp (Zcp Ze (has_S ub st.up y) ?_)
    refine Zy ?_
    refine Zj ef (fun h3 => ?_) (fun h3 => ?_)
    ·have hny : y ∉ ds := fun hm => by
      rw [hds] at hm
      obtain ⟨j, hj, e2⟩ := List.mem_take_iff_getElem.1 (List.mem_filter.1 hm).1
      obtain ⟨he2, e3⟩ := List.getElem?_eq_some_iff.1 hy
      have := List.pairwise_iff_getElem.1 hjx.rise j e (by omega) he2 (by omega)
      omega
     have hds2 : ds ++ [y] = (x.at_.take (e + 1)).filter (fun n => decide (n ∈ st.up)) := by rw [htk, List.filter_append, ← hds]; simp [h3]
     have hos2 : os ++ [(y, { kind := 10, job := x.id })] = st.orders ++ (ds ++ [y]).map (dropOrd x.id) := by rw [hos, List.map_append, List.append_assoc]; rfl
     refine ZY 7 ?_
     refine Zp (Zc1 Ze (add_S b36 ds y) ?_)
     rintro v Θ rfl
     rw [show sAdd ds y = ds ++ [y] from if_neg hny]
     refine ZY 8 ?_
     refine Zy ?_
     refine Zv (q_build (pvs := [(_, _), (_, _)]) [_, _, _, _, _, _, _, _, _, _, _, _, _] Tryz.z72.h Tryz.p72.h ⟨⟨rfl, rfl⟩, ⟨rfl, rfl⟩, trivial⟩ rfl) ?_
     refine Zp (Zc1 Ze (order_S b st ub jb mb ov2 iv dv mv sb y { kind := 10, job := x.id } os hov2 (by omega)) ?_)
     rintro v Θ ⟨ov3, hov3, rfl⟩
     refine ZY 2 ?_
     refine Zv (Za ef ef) ?_
     refine ZY 2 ?_
     first | exact ZX (k - 1) ⟨e + 1, ds ++ [y], os ++ [(y, { kind := 10, job := x.id })], ov3, by omega, by omega, hds2, hos2, hov3, rfl, rfl⟩ (by omega) | exact ZX (k - 1) ⟨e + 1, ds, os, ov2, by omega, by omega, hds2, hos, hov2, rfl, rfl⟩ (by omega)
    ·have hds2 : ds = (x.at_.take (e + 1)).filter (fun n => decide (n ∈ st.up)) := by rw [htk, List.filter_append, ← hds]; simp [h3]
     refine ZY 2 ?_
     refine Zv (Za ef ef) ?_
     refine ZY 2 ?_
     first | exact ZX (k - 1) ⟨e + 1, ds ++ [y], os ++ [(y, { kind := 10, job := x.id })], ov3, by omega, by omega, hds2, hos2, hov3, rfl, rfl⟩ (by omega) | exact ZX (k - 1) ⟨e + 1, ds, os, ov2, by omega, by omega, hds2, hos, hov2, rfl, rfl⟩ (by omega)
   ·have hen : e = x.at_.length := by omega
    rw [hen, List.take_length] at hds
    obtain ⟨x1, hx1⟩ : ∃ x1 : Bj, x1 = dropX x a ds := ⟨_, rfl⟩
    have hdn : ds.Nodup := by rw [hds]; exact (hjx.rise.imp fun h => Nat.ne_of_lt h).filter _
    have hj1 : JOk st.nodes x1 := by rw [hx1]; exact hjx.dropX a hdn
    have hid : x1.id = x.id := by rw [hx1]
    have hgo : dropR st x a = goneR (Br.set { st with orders := os } x1) x1 := by
     rw [gone_set _ rfl, drop_none hd, hx1, hos, hds]
     rfl
    refine ZY 8 ?_
    refine ZY 4 ?_
    refine S.blkAs (ps x.id) (bjC x1 av lb (some b36) rb none).toArray (by rw [hx1]; rfl) ?_
    refine S.ent (savNil x.id _) ?_
    refine S.conv (mapL b36 .i64 (setE ds)) (Ent.opt2 (show x1.drops = some ds by rw [hx1]) _) ?_
    refine S.sub (jX (ps x.id) x1 av lb (some b36) rb none (bR b { st with orders := os } ps ub jb mb ov2 iv dv mv sb l i Γ)) (e := by subst hx1; infer_instance) ?_
    refine S.bjClose b { st with orders := os } ps ub jb mb ov2 iv dv mv sb l i x1 av lb (some b36) rb none hi hid (hset x1 hid) (BF.set (st := { st with orders := os }) ⟨hok.oset os, hF.perm, hov2, hF.im, hF.dn, hF.mn, hF.sn⟩ hj1) ⟨by rw [hx1]; exact hJ.an, by rw [hx1]; exact hJ.l, by rw [hx1]; rfl, by rw [hx1]; exact hJ.r, by rw [hx1]; rfl⟩ ?_
    refine Zp (Zc1 Ze ((hid ▸ gone_S b (Br.set { st with orders := os } x1) ps x1 (get_set { st with orders := os } (by rw [hid]; exact hx)) : Spec Tryz.prog 53 [pt b, pt (ps x.id)] [BP b (Br.set { st with orders := os } x1) ps] fun Γ _ Θ => Θ = BP b (goneR (Br.set { st with orders := os } x1) x1) ps :: Γ)) ?_)
    rintro v Θ rfl
    refine Zy ?_
    exact Zfn ef Zq (by rw [hgo])
end BN
end Go.Proofs.YtdackcibfkkniaaGreatDoor
namespace Go.Proofs.YtdackcibfkkniaaGreatDoor
open Go.RowKit
namespace BN
theorem JOk.dn {N : Nat} {x : Bj} (h : JOk N x) : JOk N { x with done := true } := ⟨h.id1, h.id2, h.tier, h.k1, h.kn, h.w, h.cr, h.wk, h.rise, h.at_, h.drop, h.lod, h.ran, h.ld, h.svl⟩
theorem finish_set (st : Br) {x y : Bj} (h : x.id = y.id) : finishR (st.set x) y = finishR st y := by
 unfold finishR
 split
 ·exact set_set st h
 ·exact drop_set { st with done := st.done ++ [y.id] } (x := x) (y := { y with done := true }) h false
theorem finish_S (b : Nat) (st : Br) (ps : Nat → Nat) (x : Bj) (hx : getJ st.js x.id = some x) (hl : st.orders.length ≤ 900000) (hd : st.done.length ≤ 900000) : Spec Tryz.prog 39 [pt b, pt (ps x.id)] [BP b st ps] fun Γ _ Θ => Θ = BP b (finishR st x) ps :: Γ := by
 refine Spec.bpOk fun hok => ?_
 have hjx := hok.at_ hx
 refine Zbd Tryz.func39 rfl Tryz.ntmps39 fun w0 Γ => Zsh ?_
 refine S.bjOpen b st ps x hx fun ub jb mb ov iv dv mv sb l i av lb db rb qb hF hi hset hrm hJ => ?_
 have hdn := hF.dn
 have hdl : (st.done ++ [x.id]).length = st.done.length + 1 := by simp
 obtain ⟨x1, hx1⟩ : ∃ x1 : Bj, x1 = { x with done := true } := ⟨_, rfl⟩
 have hj1 : JOk st.nodes x1 := by rw [hx1]; exact hjx.dn
 have hid : x1.id = x.id := by rw [hx1]
 have hJ1 : JF x1 av lb db rb qb := by rw [hx1]; exact ⟨hJ.an, hJ.l, hJ.d, hJ.r, hJ.s⟩
 have hids : idsV st.done ++ [.int .u32 (x.id : Int)] = idsV (st.done ++ [x.id]) := by simp
 have hx2 : getJ (Br.set { st with done := st.done ++ [x.id] } x1).js x1.id = some x1 := get_set { st with done := st.done ++ [x.id] } (by rw [hid]; exact hx)
 have hspec : Spec Tryz.prog 52 [pt b, pt (ps x.id), .bool false] [BP b (Br.set { st with done := st.done ++ [x.id] } x1) ps] fun Γ _ Θ => Θ = BP b (dropR (Br.set { st with done := st.done ++ [x.id] } x1) x1 false) ps :: Γ := by
  rw [← hid]
  exact drop_S b _ ps x1 false hx2 hl
 refine ZY 2 ?_
 refine Zd ([blk (ps x.id) 90 (bjC x av lb db rb qb).toArray]) [] (Zra 0 12) ?_
 refine ZY 8 ?_
 refine ZY 4 ?_
 refine Zb 15 ef (fun hg0_11 => ?_) (fun hg0_11 => ?_)
 ·have hg : finishR st x = st.set x := by rw [finishR, if_pos (.inl (by omega))]
  refine Zr (Zra 12 5) ?_
  refine ZY 5 ?_
  refine ZD ?_
  refine ZY 2 ?_
  refine S.bjClose b st ps ub jb mb ov iv dv mv sb l i x av lb db rb qb hi rfl (hset x rfl) (hF.set hjx) hJ ?_
  exact Zf ef Zq (by rw [hg])
 ·refine Zr (Zra 12 5) ?_
  refine ZY 5 ?_
  refine ZD ?_
  refine Zi ef (fun h1 => ?_) (fun h1 => ?_)
  ·have hg : finishR st x = st.set x := by rw [finishR, if_pos (.inr h1)]
   refine Zy ?_
   refine S.bjClose b st ps ub jb mb ov iv dv mv sb l i x av lb db rb qb hi rfl (hset x rfl) (hF.set hjx) hJ ?_
   exact Zf ef Zq (by rw [hg])
  ·have hg : finishR st x = dropR { st with done := st.done ++ [x.id] } x1 false := by rw [finishR, if_neg (by rw [h1]; intro h; rcases h with h | h; omega; cases h), hx1]
   refine ZY 8 ?_
   refine Zy ?_
   refine Zd ([blk (ps x.id) 90 (bjC { x with done := true } av lb db rb qb).toArray, blk b 84 (bC st ub jb mb ov iv dv mv sb).toArray]) [14] (Zra 0 10) ?_
   refine ZY 8 ?_
   refine ZY 2 ?_
   refine Z1 (i := 10) ef ef ?_
   refine (S.buildSlice (pvs := [(_, _)]) [_] Tryz.underlying53 Tryz.inf31.h rfl rfl ⟨⟨rfl, rfl⟩, trivial⟩ rfl rfl ?_)
   intro b34
   refine Zk [] ?_
   refine Z1 (i := 11) ef ef ?_
   refine (S.appendOw (s := dv) (1) ([.int .u32 (x.id : Int)]) Tryz.underlying53 Tryz.inf31.h rfl rfl rfl (blk_slAt (b := b34) rfl (by unfold maxLen; omega)) (by first | rfl | exact allOne_bcells _) (⟨by omega, by omega⟩) rfl ?_)
   intro dv2 hdv2
   rw [hids]
   refine Zk [12, 13] ?_
   refine ZY 2 ?_
   refine Z1 (i := 14) ef ef ?_
   refine (S.store (cs' := [_, _, _, _, _, _, _, _, _, _, _, _, _, _, _, _, _, _]) Eo.h rfl rfl rfl rfl rfl ?_)
   refine ZL ([]) [] ?_
   refine ZD ?_
   refine ZY 3 ?_
   refine S.sub (jX (ps x.id) x1 av lb db rb qb (bR b { st with done := st.done ++ [x.id] } ps ub jb mb ov iv dv2 mv sb l i Γ)) (e := by subst hx1; infer_instance) ?_
   refine S.bjClose b { st with done := st.done ++ [x.id] } ps ub jb mb ov iv dv2 mv sb l i x1 av lb db rb qb hi hid (hset x1 hid) (BF.set (st := { st with done := st.done ++ [x.id] }) ⟨hok.dset _, hF.perm, hF.on, hF.im, by show dv2.n = (st.done ++ [x.id]).length; omega, hF.mn, hF.sn⟩ hj1) hJ1 ?_
   refine Zp (Zc1 Ze (hspec) ?_)
   rintro v Θ rfl
   rw [drop_set { st with done := st.done ++ [x.id] } (x := x1) (y := x1) rfl]
   refine Zy ?_
   exact Zfn ef Zq (by rw [hg])
theorem node_S (b : Nat) (st : Br) (ps : Nat → Nat) (n : Int) (up : Bool) : Spec Tryz.prog 37 [pt b, .int .i64 n, .bool up] [BP b st ps] fun Γ v Θ => v = .int .i64 (nodeR st n up) ∧ Θ = BP b st ps :: Γ := by
 refine Zbd Tryz.func37 rfl Tryz.ntmps37 fun w0 Γ => Zsh ?_
 refine S.bpOpen b st ps fun ub jb mb ov iv dv mv sb l hF => ?_
 refine ZY 8 ?_
 refine ZY 4 ?_
 refine ZF ef ?_
 refine Zy ?_
 refine Zc (fun ρ' Γ' => ρ' = [(0, pt b), (1, .int .i64 n), (2, .bool up), (10, .bool (decide (n < 0 ∨ (st.nodes : Int) ≤ n)))] ∧ Γ' = bX b st ps ub jb mb ov iv dv mv sb l Γ) ?_ ?_
 ·refine ZY 4 ?_
  refine Zb 13 ef (fun hg3_2 => ?_) (fun hg3_2 => ?_)
  ·refine ZY 8 ?_
   refine ZY 2 ?_
   first | (rw [show decide (n < 0 ∨ (st.nodes : Int) ≤ n) = true from decide_eq_true (.inl hg3_2)]; exact S.meet ⟨rfl, rfl⟩ ⟨rfl, rfl, rfl, rfl, trivial⟩ Sub.ent) | (rw [show decide (n < 0 ∨ (st.nodes : Int) ≤ n) = decide ((st.nodes : Int) ≤ n) from decide_eq_decide.2 (by omega)]; exact S.meet ⟨rfl, rfl⟩ ⟨rfl, rfl, rfl, rfl, trivial⟩ Sub.ent)
  ·refine ZY 8 ?_
   refine ZY 2 ?_
   first | (rw [show decide (n < 0 ∨ (st.nodes : Int) ≤ n) = true from decide_eq_true (.inl hg3_2)]; exact S.meet ⟨rfl, rfl⟩ ⟨rfl, rfl, rfl, rfl, trivial⟩ Sub.ent) | (rw [show decide (n < 0 ∨ (st.nodes : Int) ≤ n) = decide ((st.nodes : Int) ≤ n) from decide_eq_decide.2 (by omega)]; exact S.meet ⟨rfl, rfl⟩ ⟨rfl, rfl, rfl, rfl, trivial⟩ Sub.ent)
 ·rintro ρ' Γ' ⟨rfl, rfl⟩
  refine Zj ef (fun h2 => ?_) (fun h2 => ?_)
  ·have hn : nodeR st n up = 1 := by rw [nodeR, if_pos h2]
   refine ZY 5 ?_
   refine S.bpClose b st ps ub jb mb ov iv dv mv sb l hF ?_
   exact Zf ef Zq (⟨by rw [hn]; rfl, rfl⟩)
  ·refine ZY 7 ?_
   refine Zp (Zcp Ze (IsUp_S mb st.m n) ?_)
   refine ZY 4 ?_
   refine Zi ef (fun h3 => ?_) (fun h3 => ?_)
   ·have hn : nodeR st n up = 14 := by rw [nodeR, if_neg h2, if_pos (by simpa using h3)]
    refine ZY 5 ?_
    refine S.bpClose b st ps ub jb mb ov iv dv mv sb l hF ?_
    exact Zf ef Zq (⟨by rw [hn]; rfl, rfl⟩)
   ·have hn : nodeR st n up = 0 := by rw [nodeR, if_neg h2, if_neg (by simpa using h3)]
    refine ZY 6 ?_
    refine S.bpClose b st ps ub jb mb ov iv dv mv sb l hF ?_
    exact Zf ef Zq (⟨by rw [hn]; rfl, rfl⟩)
theorem node_in {st : Br} {n : Int} {up : Bool} (h : nodeR st n up = 0) : 0 ≤ n ∧ n < st.nodes := by
 unfold nodeR at h
 split at h
 ·cases h
 ·omega
theorem upR_N2 (m : Mx) (z : Int) (on : Bool) : (upR m z on).2.R = m.R ∧ (upR m z on).2.N = m.N := by
 unfold upR
 split <;> exact ⟨rfl, rfl⟩
theorem upR_ok2 {m : Mx} (hm : MxOk m) (z : Int) (on : Bool) : MxOk (upR m z on).2 := by
 unfold upR
 split
 ·rename_i h
  have := nodeB_iff.1 h
  exact hm.setUp (by omega) on
 ·exact hm
theorem BrOk.uset {st : Br} (h : BrOk st) (u : List Nat) : BrOk { st with up := u } := ⟨h.R, h.N, h.mok, h.srt, h.job, h.few, h.q1, h.q2, h.g1, h.g2, h.now, h.fin, h.mem, h.stp⟩
theorem Up_S (b : Nat) (st : Br) (ps : Nat → Nat) (n : Int) : Spec Tryz.prog 12 [pt b, .int .i64 n] [BP b st ps] fun Γ v Θ => v = .int .i64 (upR' st n).1 ∧ Θ = BP b (upR' st n).2 ps :: Γ := by
 refine Spec.bpOk fun hok => ?_
 refine Zbd Tryz.func12 rfl Tryz.ntmps12 fun w0 Γ => Zsh ?_
 refine ZY 8 ?_
 refine Zy ?_
 refine Zp (Zcp Ze (node_S b st ps n false) ?_)
 refine ZY 7 ?_
 refine Zj ef (fun h1 => ?_) (fun h1 => ?_)
 ·have hu : upR' st n = (nodeR st n false, st) := by rw [upR', if_pos h1]
  refine ZY 6 ?_
  exact Zf ef Zq (⟨by rw [hu]; rfl, by rw [hu]⟩)
 ·have hr := node_in (Classical.byContradiction h1)
  have hu : upR' st n = ((upR st.m n true).1, { st with up := sAdd st.up n.toNat, m := (upR st.m n true).2 }) := by rw [upR', if_neg h1]
  obtain ⟨k, rfl⟩ : ∃ k : Nat, n = k := ⟨n.toNat, by omega⟩
  refine S.bpOpen b st ps fun ub jb mb ov iv dv mv sb l hF => ?_
  refine ZY 8 ?_
  refine Zp (Zc1 Ze (add_S ub st.up k) ?_)
  rintro v Θ rfl
  refine ZY 8 ?_
  refine Zp (Zcp Ze (Go.Proofs.YtdackcibfkkniaaGreatDoor.Up_S mb st.m k true) ?_)
  refine ZY 3 ?_
  refine S.sub (bX b { st with up := sAdd st.up k, m := (upR st.m k true).2 } ps ub jb mb ov iv dv mv sb l Γ) ?_
  refine S.bpClose b { st with up := sAdd st.up k, m := (upR st.m k true).2 } ps ub jb mb ov iv dv mv sb l ⟨(hok.uset (sAdd st.up k)).mset (upR_ok2 hok.mok k true) (upR_N2 _ _ _).1 (upR_N2 _ _ _).2, hF.perm, hF.on, hF.im, hF.dn, hF.mn, hF.sn⟩ ?_
  exact Zf ef Zq (⟨by rw [hu]; rfl, by rw [hu, Int.toNat_natCast]⟩)
end BN
end Go.Proofs.YtdackcibfkkniaaGreatDoor
namespace Go.Proofs.YtdackcibfkkniaaGreatDoor
open Go.RowKit
theorem rangeS2 {α : Type} {P : Program} {g : Operand} {p : Tmp} {assign body : Code} {Q : Exit → Act → World → Prop} {a : Act} {w : World} {w0 : WM false} {gf : FuncId} {fs cs : List Value} {enc : α → Value} {G : List α → α → Prop} {E : List α → Prop} {pre : List Assn}
  (hg : a.eval g = .func (.func gf) fs.toArray cs.toArray) (he : enterT P gf = true) (hseq : SeqS P gf fs cs enc G E pre) (I : List α → List Assn) {Γ : List Assn} (hs : Sat w (pre ++ (I [] ++ Γ))) (hx : Ext w0 w)
  (A : α → Nat → Act → Prop) (extra : α → Nat → Assn) (hassign : ∀ (l : Nat) (x : α) (W : World) (Δ : List Assn) (K : Act → World → Prop), Sat W Δ → Ext w0 W → (∀ b a' W', A x b a' → Sat W' (extra x b :: Δ) → Ext w0 W' → K a' W') → assign.wpIn (Fence.wide.inRound l) 0 P (Exit.then K (fun _ _ _ => False)) { tmps := a.tmps.setIfInBounds p (enc x), defers := [] } W)
  (hbody : ∀ (l : Nat) (done : List α) (x : α) (b : Nat) (a' : Act) (Θ : List Assn) (W : World), G done x → A x b a' → Sat W (extra x b :: (I done ++ Θ)) → Ext w0 W →
   body.wpIn (Fence.wide.inRound l) 0 P (fun e _ W' => e = .normal ∧ Sat W' (I (done ++ [x]) ++ Θ) ∧ Ext w0 W') a' W)
  (hdone : ∀ (D : Nat) (xs : List α) (W : World), E xs → Sat W (defA D :: (pre ++ (I xs ++ Γ))) → Ext w0 W → Q .normal { a with defers := { target := .collected D, args := #[] } :: a.defers } W) :
  (Code.rangeFunc g #[p] assign body).wpIn Fence.wide 0 P Q a w := by
 refine wpIn_rangeFunc fun fn _ => ?_
 obtain ⟨rec, hrec⟩ : ∃ rec : LoopState → Loop, rec = fun st => { state := st, pending := none, fn, tmps := a.tmps, params := #[p], assign, body, defers := w.heap.size } := ⟨_, rfl⟩
 obtain ⟨W1, hW1⟩ : ∃ W1, (w.alloc (.deferred (some []))).alloc (.loop (rec .ready)) = W1 := ⟨_, rfl⟩
 have hs1 : Sat W1 (loopA (w.heap.size + 1) (rec .ready) :: defA w.heap.size :: (pre ++ (I [] ++ Γ))) := by
  have h1 := hs.newObj (.deferred (some [])) defA fun b => HL.one_self _ _
  have h2 := h1.newObj (.loop (rec .ready)) (fun b => loopA b (rec .ready)) fun b => HL.one_self _ _
  rw [World.size_alloc, hW1] at h2
  exact h2
 have hx1 : Ext w0 W1 := by rw [← hW1]; exact (hx.alloc _).alloc _
 refine ⟨w.heap.size + 1, [{ target := .collected w.heap.size, args := #[] }], W1, { target := .fn (.func gf) cs.toArray, args := fs.toArray ++ #[.func (.yield (w.heap.size + 1)) #[] #[]] }, W1, gf,
  fs.toArray ++ #[.func (.yield (w.heap.size + 1)) #[] #[]] ++ cs.toArray, W1, ?_, ?_, fun _ _ => trivial, ?_, fun h => by simp [Fence.wide] at h, ?_⟩
 ·rw [← hW1, hrec]; exact run_enterLoop_outer _ _ _ _ _
 ·simp only [resolve, hg]
  simp [go_sem]
 ·have hcf : ∀ args w, (callFunc gf args).run P w = .ok (.enter gf args) w := fun args w => by
   unfold enterT at he
   split at he
   ·rename_i f hf
    simp only [Bool.and_eq_true, bne_iff_ne, ne_eq] at he
    obtain ⟨h1, h2⟩ := he
    have h2' : ¬ f.body = none := by cases hb : f.body <;> simp [hb] at h2 ⊢
    simp [callFunc, hf, h1, h2']
   ·cases he
  simp [invoke, go_sem, hcf]
 ·have hent : ∀ (st : LoopState) (done : List α), Ent (loopA (w.heap.size + 1) (rec st) :: defA w.heap.size :: (pre ++ (I done ++ Γ))) (pre ++ ((loopA (w.heap.size + 1) (rec st) :: I done) ++ (defA w.heap.size :: Γ))) := fun st done =>
   ((Ent.cons _ (Ent.cons _ (Ent.pack pre _))).trans ((Ent.cons _ (Ent.swap _ _ _)).trans (Ent.swap _ _ _))).trans ((Ent.cons (stars pre) ((Ent.cons _ ((Ent.cons _ (Ent.pack (I done) Γ)).trans ((Ent.swap _ _ _).trans (Ent.unpack (I done) _)))))).trans (Ent.unpack pre _))
  have hback : ∀ (st : LoopState) (done : List α), Ent (pre ++ ((loopA (w.heap.size + 1) (rec st) :: I done) ++ (defA w.heap.size :: Γ))) (loopA (w.heap.size + 1) (rec st) :: defA w.heap.size :: (pre ++ (I done ++ Γ))) := fun st done =>
   (Ent.pack pre _).trans ((Ent.cons _ (Ent.cons _ ((Ent.pack (I done) _).trans ((Ent.swap _ _ _).trans (Ent.cons _ (Ent.unpack (I done) Γ)))))).trans ((Ent.swap _ _ _).trans (Ent.cons _ ((Ent.swap _ _ _).trans (Ent.cons _ (Ent.unpack pre _))))))
  have hcall := hseq (w.heap.size + 1) w0 (fun done => loopA (w.heap.size + 1) (rec .ready) :: I done) ?_ (defA w.heap.size :: Γ) W1 (hs1.ent (hent _ _)) hx1
  ·obtain ⟨hc1, hc2⟩ := hcall
   refine ⟨trivial, fun fr hr => ?_⟩
   obtain ⟨e, w', f', ⟨⟨v, rfl⟩, xs, hE, hs', hx'⟩, st, rest⟩ := hc2 fr hr
   refine ⟨_, w', f', ?_, st, rest⟩
   have hs2 := hs'.ent (hback _ _)
   have hl2 := hs2.isLoop
   have hend := run_endLoop (P := P) hl2 (by rw [hrec]; simp)
   have hp : (rec .ready).pending = none := by rw [hrec]
   obtain ⟨W2, hW2⟩ : ∃ W2, W2 = w'.putObj (w.heap.size + 1) (.loop { rec .ready with state := .exhausted }) := ⟨_, rfl⟩
   rw [← hW2, hp] at hend
   refine ⟨none, W2, hend, ?_⟩
   rw [hW2]
   refine hdone w.heap.size xs _ hE ?_ ?_
   ·have := hs2.putLoop ({ rec .ready with state := .exhausted })
    exact (this.ent (Ent.drop _ _))
   ·exact hx'.setObj _ _
  ·intro done x Θ W hxs hsat hext
   have hl := (show Sat W (loopA (w.heap.size + 1) (rec .ready) :: (I done ++ Θ)) from hsat).isLoop
   have hy : (Instr.yield (w.heap.size + 1) #[enc x]).run P W = .ok (.round (w.heap.size + 1) fn (a.tmps.setIfInBounds p (enc x)) assign body) W := by
    have := run_yield (P := P) (args := #[enc x]) hl (by rw [hrec]; rfl)
    rw [hrec] at this
    simpa using this
   refine ⟨fn, _, assign, body, hy, roundIn_of_wpIn (F := Fence.wide) trivial ?_⟩
   refine hassign (w.heap.size + 1) x W _ _ hsat hext fun b a' W' hA hsat' hext' => ?_
   have hsat2 : Sat W' (loopA (w.heap.size + 1) (rec .ready) :: (extra x b :: (I done ++ Θ))) := hsat'.ent (Ent.swap _ _ _)
   have hl' := hsat2.isLoop
   have hsB := hsat2.putLoop { rec .ready with state := .busy }
   refine ⟨_, run_beginRound hl' (by rw [hrec]), ?_⟩
   have hsB' : Sat (W'.putObj (w.heap.size + 1) (.loop { rec .ready with state := .busy })) (extra x b :: (I done ++ (loopA (w.heap.size + 1) { rec .ready with state := .busy } :: Θ))) := hsB.ent ((Ent.swap _ _ _).trans (Ent.cons _ (((Ent.cons _ (Ent.pack (I done) Θ)).trans (Ent.swap _ _ _)).trans (Ent.unpack (I done) _))))
   refine wpIn_mono (hbody (w.heap.size + 1) done x b a' _ _ hxs hA hsB' (hext'.setObj _ _)) ?_
   rintro e a3 W3 ⟨rfl, hs3, hx3⟩
   have hs4 : Sat W3 (loopA (w.heap.size + 1) { rec .ready with state := .busy } :: (I (done ++ [x]) ++ Θ)) := hs3.ent ((Ent.pack (I (done ++ [x])) _).trans ((Ent.swap _ _ _).trans (Ent.cons _ (Ent.unpack (I (done ++ [x])) Θ))))
   have hl3 := hs4.isLoop
   have hend := run_endRound (P := P) none hl3
   refine ⟨_, _, hend, rfl, ?_, hx3.setObj _ _⟩
   have := hs4.putLoop ({ rec .ready with state := .ready })
   rw [hrec] at this ⊢
   exact this
section
variable {P : Program} {n : Nat} {ρ : Env} {Γ : List Assn} {Q : Exit → Act → World → Prop}
theorem S.rangeFA {α : Type} {g : Operand} {p q : Nat} {id : Nat} {body : Code} {w0 : WM false} {gf : FuncId} {fs cs : List Value} {enc : α → Value} {G : List α → α → Prop} {E : List α → Prop} {pre Γ' : List Assn} {t1 t2 : TypeId} {s1 s2 : String} {af1 af2 : Array Edge} {T : TypeId} (cells : α → List Value)
  (hg : ev ρ g = some (.func (.func gf) fs.toArray cs.toArray)) (he : enterT P gf = true) (hseq : SeqS P gf fs cs enc G E pre) (I : List α → List Assn) (hI : Ent Γ (pre ++ (I [] ++ Γ'))) (hp : Nat.blt p n = true)
  (hpre : ∀ (w0 : WM false) (l : Nat) (x : α) (Δ : List Assn) (K : Act → World → Prop), (∀ b, S n w0 ((q, .pointer (some ⟨b, 0, none⟩)) :: (p, enc x) :: ρ) (blk b T (cells x).toArray :: Δ) K) → S n w0 ((p, enc x) :: ρ) Δ ((Code.region id #[⟨some q, .alloc T, t1, s1, af1, none⟩, ⟨none, .store T (.tmp q) (.tmp p), t2, s2, af2, none⟩] false).wpIn { Fence.wide with round := some l } 0 P (Exit.then K (fun _ _ _ => False))))
  (hbody : ∀ (l b : Nat) (done : List α) (x : α) (Θ : List Assn), G done x →
   S n w0 ((q, .pointer (some ⟨b, 0, none⟩)) :: (p, enc x) :: ρ) (blk b T (cells x).toArray :: (I done ++ Θ)) (body.wpIn { Fence.wide with round := some l } 0 P fun e _ W' => e = .normal ∧ Sat W' (I (done ++ [x]) ++ Θ) ∧ Ext w0 W'))
  (hdone : ∀ D xs, E xs → S n w0 ρ (defA D :: (pre ++ (I xs ++ Γ'))) (withD [{ target := .collected D, args := #[] }] (Q .normal))) :
  S n w0 ρ Γ ((Code.rangeFunc g #[p] (.region id #[⟨some q, .alloc T, t1, s1, af1, none⟩, ⟨none, .store T (.tmp q) (.tmp p), t2, s2, af2, none⟩] false) body).wp P Q) := by
 intro a w ha hs hx
 refine (wpIn_wide (n := 0)).1 (rangeS2 (ha.ev hg) he hseq I (hs.ent hI) hx (fun x b a' => EnvOk n ((q, .pointer (some ⟨b, 0, none⟩)) :: (p, enc x) :: ρ) a') (fun x b => blk b T (cells x).toArray) ?_ ?_ ?_)
 ·intro l x W Δ K hsW hxW hK
  have ha2 : EnvOk n ((p, enc x) :: ρ) { tmps := a.tmps.setIfInBounds p (enc x), defers := [] } := by
   have h1 := ha.put hp (enc x)
   exact ⟨h1.size, rfl, h1.get⟩
  exact hpre w0 l x Δ K (fun b a' W' ha' hs' hx' => hK b a' W' ha' hs' hx') _ W ha2 hsW hxW
 ·intro l done x b a' Θ W hxs hA hsW hxW
  exact hbody l b done x Θ hxs a' W hA hsW hxW
 ·intro D xs W hE hsW hxW
  have := hdone D xs hE a W ha hsW hxW
  rw [ha.defers]
  exact this
def outB (b : Nat) (T E : TypeId) (sz m : Nat) (done : List Value) : Assn := fun h => ∃ sv : SV, sv.n = m ∧ stars [blk b T #[sv.v], own sv E sz done] h
theorem Ent.outB {b : Nat} {T E : TypeId} {sz m : Nat} {done : List Value} (sv : SV) (hn : sv.n = m) (Γ : List Assn) : Ent (blk b T #[sv.v] :: own sv E sz done :: Γ) (outB b T E sz m done :: Γ) :=
 (Ent.pack [blk b T #[sv.v], own sv E sz done] Γ).trans (Ent.mono1 Γ fun _ p => ⟨sv, hn, p⟩)
theorem S.outB {md : Bool} {w0 : WM md} {φ : Act → World → Prop} {b : Nat} {T E : TypeId} {sz m : Nat} {done : List Value} {Δ : List Assn} [p : Pick (outB b T E sz m done) Γ Δ] (k : ∀ sv : SV, sv.n = m → S n w0 ρ (blk b T #[sv.v] :: own sv E sz done :: Δ) φ) : S n w0 ρ Γ φ := by
 intro a w ha hs hx
 obtain ⟨h0, l, h1, h2, d, l1, l2, ⟨sv, hn, q⟩, s⟩ := hs.ent p.ent
 exact k sv hn a w ha ⟨h0, l, (Ent.unpack [blk b T #[sv.v], own sv E sz done] Δ) _ ⟨h1, h2, d, l1, l2, q, s⟩⟩ hx
end
end Go.Proofs.YtdackcibfkkniaaGreatDoor
namespace Go.Proofs.YtdackcibfkkniaaGreatDoor
open Go.RowKit
namespace BN
abbrev keyP (c mb : Nat) (l : List (Int × Value)) : List Assn := [blk c 82 #[.map (some mb)], mapL mb .u32 l]
theorem keys_seq (c mb : Nat) (l : List (Int × Value)) : SeqS Tryz.prog 104 [] [.pointer (some ⟨c, 0, none⟩)] kv (fun done _ => done.length < l.length) (fun xs => xs.Perm (l.map (·.1))) (keyP c mb l) := by
 intro y w0 J hY Γ w hs hx
 refine callsIn_wide.2 (calls_of_S (n := 14) (l := [.func (.yield y) #[] #[], .pointer (some ⟨c, 0, none⟩)]) (Γ := stars (J []) :: blk c 82 #[.map (some mb)] :: mapL mb .u32 l :: Γ) (w0 := w0) Tryz.func104 rfl Tryz.ntmps104 rfl ?_ (hs.ent (((Ent.cons _ (Ent.cons _ (Ent.pack (J []) Γ))).trans (Ent.cons _ (Ent.swap _ _ _))).trans (Ent.swap _ _ _))) hx)
 show S _ w0 [(0, .func (.yield y) #[] #[]), (1, .pointer (some ⟨c, 0, none⟩))] (stars (J []) :: blk c 82 #[.map (some mb)] :: mapL mb .u32 l :: Γ) _
 refine S.seq fun K1 hK1 => ?_
 refine S.region rfl ?_
 refine S.op (S.q (q_load Eo.h rfl rfl) rfl rfl ?_)
 refine S.op (S.range Tryz.underlying82 rfl rfl ?_)
 intro r5
 first | with_reducible refine S.nilK ?_ | refine S.nil ?_
 refine hK1 _ _ ?_
 refine S.block ?_
 refine S.loop (fun m ρ' Γ' => ∃ (left : List (Int × Value)) (cur : Option (Int × Value)) (L : List Int), m = left.length ∧ (L ++ left.map (·.1)).Perm (l.map (·.1)) ∧ ρ' = [(0, .func (.yield y) #[] #[]), (5, .pointer (some ⟨r5, 0, none⟩))] ∧ Γ' = rngM r5 mb .u32 l left cur :: stars (J L) :: blk c 82 #[.map (some mb)] :: Γ) (m := _) (ρ0 := _) (Γ0 := _) (⟨l, none, [], rfl, List.Perm.refl _, rfl, rfl⟩) (by repeat (first | exact trivial | refine ⟨rfl, ?_⟩)) Sub.ent ?_
 rintro m ρ' Γ' ⟨left, cur, L, hm, hL, rfl, rfl⟩
 refine S.seq fun K2 hK2 => ?_
 refine S.region rfl ?_
 refine S.op (S.nextR rfl rfl (fun hl6 => ?_) (fun i6 z6 v6 hi6 => ?_))
 ·have hl0 : left = [] := hl6
  subst hl0
  rw [List.map_nil, List.append_nil] at hL
  refine S.op (S.q (q_extract rfl rfl) rfl rfl ?_)
  first | with_reducible refine S.nilK ?_ | refine S.nil ?_
  refine hK2 _ _ ?_
  refine S.seq fun K3 hK3 => ?_
  refine S.condF rfl ?_
  refine S.exit ?_
  with_reducible repeat (first | refine S.then_n ?_ | refine S.then_x ?_ | refine S.then_r ?_ | refine S.inBlock_n ?_ | refine S.inBlock_r ?_ | refine S.inBlock_x rfl ?_ | refine S.noGoto_r ?_ | refine S.noGoto_n ?_ | refine S.noGoto_x ?_)
  with_reducible refine S.inBlock_s ?_
  with_reducible repeat (first | refine S.then_n ?_ | refine S.then_x ?_ | refine S.then_r ?_ | refine S.inBlock_n ?_ | refine S.inBlock_r ?_ | refine S.inBlock_x rfl ?_ | refine S.noGoto_r ?_ | refine S.noGoto_n ?_ | refine S.noGoto_x ?_)
  with_reducible repeat (first | refine S.then_n ?_ | refine S.then_x ?_ | refine S.then_r ?_ | refine S.inBlock_n ?_ | refine S.inBlock_r ?_ | refine S.inBlock_x rfl ?_ | refine S.noGoto_r ?_ | refine S.noGoto_n ?_ | refine S.noGoto_x ?_)
  refine S.finR rfl ?_
  exact fun v w hs hx => ⟨⟨v, rfl⟩, _, hL, hs.ent ((Ent.rngM _).trans ((Sub.ent (Δ := blk c 82 #[.map (some mb)] :: mapL mb .u32 l :: stars (J L) :: Γ)).trans (Ent.cons _ (Ent.cons _ (Ent.unpack _ _))))), hx⟩
 ·have hpe := erase_perm hi6
  have hel := hpe.length_eq
  rw [List.length_cons] at hel
  have hL2 : ((L ++ [z6]) ++ (left.eraseIdx i6).map (·.1)).Perm (l.map (·.1)) := by
   rw [List.append_assoc]
   exact (List.Perm.append_left L (hpe.map (·.1)).symm).trans hL
  have hlt : L.length < l.length := by
   have := hL.length_eq
   rw [List.length_append, List.length_map, List.length_map] at this
   omega
  refine S.op (S.q (q_extract rfl rfl) rfl rfl ?_)
  first | with_reducible refine S.nilK ?_ | refine S.nil ?_
  refine hK2 _ _ ?_
  refine S.seq fun K4 hK4 => ?_
  refine S.condT rfl ?_
  refine S.skip ?_
  with_reducible repeat (first | refine S.then_n ?_ | refine S.then_x ?_ | refine S.then_r ?_ | refine S.inBlock_n ?_ | refine S.inBlock_r ?_ | refine S.inBlock_x rfl ?_ | refine S.noGoto_r ?_ | refine S.noGoto_n ?_ | refine S.noGoto_x ?_)
  refine hK4 _ _ ?_
  refine S.block ?_
  refine S.seq fun K5 hK5 => ?_
  refine S.region rfl ?_
  refine S.op (S.q (q_entryR rfl) rfl rfl ?_)
  refine S.op (S.q (q_extract rfl rfl) rfl rfl ?_)
  refine S.op (S.q (q_assign rfl) rfl rfl ?_)
  first | with_reducible refine S.nilK ?_ | refine S.nil ?_
  refine hK5 _ _ ?_
  refine S.seq fun K6 hK6 => ?_
  refine S.regionW rfl ?_
  refine S.opI rfl ?_
  refine  (S.q (q_move rfl) rfl rfl ?_)
  refine S.opI rfl ?_
  refine  (S.q (q_move rfl) rfl rfl ?_)
  refine S.yieldI rfl rfl (fun w hs hx => hY L z6 (rngM r5 mb .u32 l (left.eraseIdx i6) (some (z6, v6)) :: blk c 82 #[.map (some mb)] :: Γ) w hlt (hs.ent ((Ent.swap _ _ _).trans (Ent.unpack _ _))) hx) rfl ?_
  refine S.ent (Ent.pack _ _) ?_
  refine S.opI rfl ?_
  refine  (S.q (q_not rfl) rfl rfl ?_)
  refine S.nilI ?_
  refine hK6 _ _ ?_
  refine S.condF rfl ?_
  refine S.skip ?_
  with_reducible repeat (first | refine S.then_n ?_ | refine S.then_x ?_ | refine S.then_r ?_ | refine S.inBlock_n ?_ | refine S.inBlock_r ?_ | refine S.inBlock_x rfl ?_ | refine S.noGoto_r ?_ | refine S.noGoto_n ?_ | refine S.noGoto_x ?_)
  with_reducible repeat (first | refine S.then_n ?_ | refine S.then_x ?_ | refine S.then_r ?_ | refine S.inBlock_n ?_ | refine S.inBlock_r ?_ | refine S.inBlock_x rfl ?_ | refine S.noGoto_r ?_ | refine S.noGoto_n ?_ | refine S.noGoto_x ?_)
  with_reducible repeat (first | refine S.then_n ?_ | refine S.then_x ?_ | refine S.then_r ?_ | refine S.inBlock_n ?_ | refine S.inBlock_r ?_ | refine S.inBlock_x rfl ?_ | refine S.noGoto_r ?_ | refine S.noGoto_n ?_ | refine S.noGoto_x ?_)
  exact ZX ((left.eraseIdx i6).length) (⟨left.eraseIdx i6, some (z6, v6), L ++ [z6], rfl, hL2, rfl, rfl⟩) (by omega)
theorem Keys_S (mb : Nat) : Spec Tryz.prog 65 [.map (some mb)] [] fun Γ v Θ => ∃ c, v = .func (.func 104) #[] #[.pointer (some ⟨c, 0, none⟩)] ∧ Θ = blk c 82 #[.map (some mb)] :: Γ := by
 refine Zbd Tryz.func65 rfl Tryz.ntmps65 fun w0 Γ => Zsh ?_
 refine ZY 2 ?_
 refine Zp (S.box (cs := [_]) rfl rfl rfl ?_)
 intro b1
 refine ZY 8 ?_
 exact Zf ef Zq (⟨b1, rfl, rfl⟩)
theorem AppendSeq_S (c mb : Nat) (l : List (Int × Value)) (hl : l.length ≤ 65535) : Spec Tryz.prog 136 [.slice none 0 0, .func (.func 104) #[] #[.pointer (some ⟨c, 0, none⟩)]] (keyP c mb l) fun Γ v Θ => ∃ (sv : SV) (xs : List Int), v = sv.v ∧ sv.n = xs.length ∧ xs.Perm (l.map (·.1)) ∧ Θ = own sv 31 1 (xs.map kv) :: blk c 82 #[.map (some mb)] :: mapL mb .u32 l :: Γ := by
 refine Spec.of_bodyM Tryz.func136 rfl Tryz.ntmps136 rfl ?_
 intro w0 Γ
 show S _ w0 [(0, SV.nil.v), (1, .func (.func 104) #[] #[.pointer (some ⟨c, 0, none⟩)])] (blk c 82 #[.map (some mb)] :: mapL mb .u32 l :: Γ) _
 refine S.seq fun K1 hK1 => ?_
 refine S.region rfl ?_
 refine S.op (S.box (cs := [_]) rfl rfl rfl ?_)
 intro b2
 refine S.op (S.q (q_assign rfl) rfl rfl ?_)
 refine S.nilK ?_
 refine hK1 _ _ ?_
 refine S.seq1 ?_
 refine S.seq fun K4 hK4 => ?_
 refine S.region rfl ?_
 refine S.op (S.q (q_move rfl) rfl rfl ?_)
 refine S.nilK ?_
 refine hK4 _ _ ?_
 refine S.block ?_
 refine S.rangeF (fs := []) (cs := [.pointer (some ⟨c, 0, none⟩)]) (enc := kv) (p := 7) (q := 5) rfl Eo.h (keys_seq c mb l) (fun done => [outA b2 53 31 (done.map kv)]) (Γ' := Γ) ?_ rfl rfl ?_ ?_
 ·exact (Sub.ent (Δ := blk c 82 #[.map (some mb)] :: mapL mb .u32 l :: blk b2 53 #[SV.nil.v] :: Γ)).trans (Ent.cons _ (Ent.cons _ ((Ent.cons _ (Ent.ownNil 31 1)).trans (Ent.outA SV.nil rfl _))))
 ·intro y done x Θ hlt
  show S _ w0 _ (outA b2 53 31 (done.map kv) :: Θ) _
  refine S.outA (b := b2) (T := 53) (E := 31) (done := done.map kv) fun sv hsv => ?_
  rw [List.length_map] at hsv
  refine S.blockR (S.regionR rfl ?_)
  refine S.opI rfl ?_
  refine (S.q (q_load Eo.h rfl rfl) rfl rfl ?_)
  refine S.opI rfl ?_
  refine (S.q (q_move rfl) rfl rfl ?_)
  refine S.opI rfl ?_
  refine (S.buildSlice (pvs := [(_, _)]) [_] Tryz.underlying53 Tryz.inf31.h rfl rfl ⟨⟨rfl, rfl⟩, trivial⟩ rfl rfl ?_)
  intro b10
  refine S.opI rfl ?_
  refine (S.appendOw (s := sv) 1 [kv x] Tryz.underlying53 Tryz.inf31.h rfl rfl rfl (blk_slAt (b := b10) rfl (show 1 ≤ maxLen by unfold maxLen; omega)) rfl ⟨by omega, by omega⟩ rfl ?_)
  intro s2 hs2
  refine S.opI rfl ?_
  refine (S.store (cs' := [_]) Eo.h rfl rfl rfl rfl rfl ?_)
  refine S.nilI ?_
  refine S.endR ?_
  have e : done.map kv ++ [kv x] = (done ++ [x]).map kv := by simp
  rw [e]
  exact (Sub.ent (Δ := blk b2 53 #[s2.v] :: own s2 31 1 ((done ++ [x]).map kv) :: Θ)).trans (Ent.outA s2 (by simp [hs2, hsv]) Θ)
 ·intro D xs hxs
  show S _ w0 _ (defA D :: blk c 82 #[.map (some mb)] :: mapL mb .u32 l :: outA b2 53 31 (xs.map kv) :: Γ) _
  refine S.outA (b := b2) (T := 53) (E := 31) (done := xs.map kv) fun sv hsv => ?_
  rw [List.length_map] at hsv
  refine S.seqD (S.regionD rfl ?_)
  refine S.qD (q_load Eo.h rfl rfl) rfl rfl ?_
  refine S.qD (q_assign rfl) rfl rfl ?_
  refine S.nilD (S.retD ?_)
  exact S.finM (rs := [_]) (vs := [_]) Tryz.results136 ⟨rfl, trivial⟩ (Θ := own sv 31 1 (xs.map kv) :: blk c 82 #[.map (some mb)] :: mapL mb .u32 l :: Γ) ⟨sv, xs, rfl, hsv, hxs, rfl⟩ Sub.ent
theorem Collect_S (c mb : Nat) (l : List (Int × Value)) (hl : l.length ≤ 65535) : Spec Tryz.prog 100 [.func (.func 104) #[] #[.pointer (some ⟨c, 0, none⟩)]] (keyP c mb l) fun Γ v Θ => ∃ (sv : SV) (xs : List Int), v = sv.v ∧ sv.n = xs.length ∧ xs.Perm (l.map (·.1)) ∧ Θ = own sv 31 1 (xs.map kv) :: blk c 82 #[.map (some mb)] :: mapL mb .u32 l :: Γ := by
 refine Zbd Tryz.func100 rfl Tryz.ntmps100 fun w0 Γ => Zsh ?_
 refine ZY 7 ?_
 refine Zp (Zc1 Ze (AppendSeq_S c mb l hl) ?_)
 rintro v Θ ⟨sv, xs, rfl, hsn, hxs, rfl⟩
 refine ZY 3 ?_
 exact Zf ef Zq (⟨sv, xs, rfl, hsn, hxs, rfl⟩)
theorem Sorted_S (c mb : Nat) (l : List (Int × Value)) (hl : l.length ≤ 65535) : Spec Tryz.prog 61 [.func (.func 104) #[] #[.pointer (some ⟨c, 0, none⟩)]] (keyP c mb l) fun Γ v Θ => ∃ (sv : SV) (xs : List Int), v = sv.v ∧ sv.n = xs.length ∧ xs.Perm (l.map (·.1)) ∧ xs.Pairwise (· ≤ ·) ∧ Θ = own sv 31 1 (xs.map kv) :: blk c 82 #[.map (some mb)] :: mapL mb .u32 l :: Γ := by
 refine Zbd Tryz.func61 rfl Tryz.ntmps61 fun w0 Γ => Zsh ?_
 refine ZY 7 ?_
 refine Zp (Zc1 Ze (Collect_S c mb l hl) ?_)
 rintro v Θ ⟨sv, xs, rfl, hsn, hxs, rfl⟩
 have hxl : xs.length = l.length := by rw [hxs.length_eq, List.length_map]
 refine ZY 5 ?_
 refine Zp (Zc1 Ze (Sort_S sv xs.toArray (by simpa [hxl] using hl) (by simpa using hsn)) ?_)
 rintro v Θ ⟨R, hR1, hR2, rfl⟩
 have hR1 : R.toList.Perm xs := hR1
 have hRl : sv.n = R.toList.length := by rw [hR1.length_eq, hsn]
 refine ZY 7 ?_
 exact Zf ef Zq (⟨sv, R.toList, rfl, hRl, hR1.trans hxs, hR2, rfl⟩)
abbrev Rn := Nat × Nat × Nat
abbrev rnV (p : Nat × Nat) : Value := .agg #[.int .u32 (p.1 : Int), .int .u32 (p.2 : Int)]
abbrev rnC (p : Nat × Nat) : List Value := [.int .u32 (p.1 : Int), .int .u32 (p.2 : Int)]
abbrev rnE (y : Rn) : Int × Value := ((y.1 : Int), rnV y.2)
abbrev valP (c mb : Nat) (r : List Rn) : List Assn := [blk c 88 #[.map (some mb)], mapL mb .i64 (ranE r)]
theorem vals_seq (c mb : Nat) (r : List Rn) : SeqS Tryz.prog 155 [] [.pointer (some ⟨c, 0, none⟩)] rnV (fun done _ => done.length < r.length) (fun xs => xs.Perm (r.map (·.2))) (valP c mb r) := by
 intro y w0 J hY Γ w hs hx
 refine callsIn_wide.2 (calls_of_S (n := 15) (l := [.func (.yield y) #[] #[], .pointer (some ⟨c, 0, none⟩)]) (Γ := stars (J []) :: blk c 88 #[.map (some mb)] :: mapL mb .i64 (ranE r) :: Γ) (w0 := w0) Tryz.func155 rfl Tryz.ntmps155 rfl ?_ (hs.ent (((Ent.cons _ (Ent.cons _ (Ent.pack (J []) Γ))).trans (Ent.cons _ (Ent.swap _ _ _))).trans (Ent.swap _ _ _))) hx)
 show S _ w0 [(0, .func (.yield y) #[] #[]), (1, .pointer (some ⟨c, 0, none⟩))] (stars (J []) :: blk c 88 #[.map (some mb)] :: mapL mb .i64 (ranE r) :: Γ) _
 refine S.seq fun K1 hK1 => ?_
 refine S.region rfl ?_
 refine S.op (S.q (q_load Eo.h rfl rfl) rfl rfl ?_)
 refine S.op (S.range Tryz.underlying88 rfl rfl ?_)
 intro r6
 first | with_reducible refine S.nilK ?_ | refine S.nil ?_
 refine hK1 _ _ ?_
 refine S.block ?_
 refine S.loop (fun m ρ' Γ' => ∃ (left : List (Int × Value)) (lr : List Rn) (cur : Option (Int × Value)) (L : List (Nat × Nat)), m = left.length ∧ left = lr.map rnE ∧ (L ++ lr.map (·.2)).Perm (r.map (·.2)) ∧ ρ' = [(0, .func (.yield y) #[] #[]), (6, .pointer (some ⟨r6, 0, none⟩))] ∧ Γ' = rngM r6 mb .i64 (ranE r) left cur :: stars (J L) :: blk c 88 #[.map (some mb)] :: Γ) (m := _) (ρ0 := _) (Γ0 := _) (⟨ranE r, r, none, [], rfl, rfl, List.Perm.refl _, rfl, rfl⟩) (by repeat (first | exact trivial | refine ⟨rfl, ?_⟩)) Sub.ent ?_
 rintro m ρ' Γ' ⟨left, lr, cur, L, hm, hlr, hL, rfl, rfl⟩
 refine S.seq fun K2 hK2 => ?_
 refine S.region rfl ?_
 refine S.op (S.nextR rfl rfl (fun hl7 => ?_) (fun i7 z7 v7 hi7 => ?_))
 ·have hl0 : left = [] := hl7
  have hl1 : lr = [] := by rw [hl0] at hlr; exact List.map_eq_nil_iff.1 hlr.symm
  subst hl0
  rw [hl1, List.map_nil, List.append_nil] at hL
  refine S.op (S.q (q_extract rfl rfl) rfl rfl ?_)
  first | with_reducible refine S.nilK ?_ | refine S.nil ?_
  refine hK2 _ _ ?_
  refine S.seq fun K3 hK3 => ?_
  refine S.condF rfl ?_
  refine S.exit ?_
  with_reducible repeat (first | refine S.then_n ?_ | refine S.then_x ?_ | refine S.then_r ?_ | refine S.inBlock_n ?_ | refine S.inBlock_r ?_ | refine S.inBlock_x rfl ?_ | refine S.noGoto_r ?_ | refine S.noGoto_n ?_ | refine S.noGoto_x ?_)
  with_reducible refine S.inBlock_s ?_
  with_reducible repeat (first | refine S.then_n ?_ | refine S.then_x ?_ | refine S.then_r ?_ | refine S.inBlock_n ?_ | refine S.inBlock_r ?_ | refine S.inBlock_x rfl ?_ | refine S.noGoto_r ?_ | refine S.noGoto_n ?_ | refine S.noGoto_x ?_)
  with_reducible repeat (first | refine S.then_n ?_ | refine S.then_x ?_ | refine S.then_r ?_ | refine S.inBlock_n ?_ | refine S.inBlock_r ?_ | refine S.inBlock_x rfl ?_ | refine S.noGoto_r ?_ | refine S.noGoto_n ?_ | refine S.noGoto_x ?_)
  refine S.finR rfl ?_
  exact fun v w hs hx => ⟨⟨v, rfl⟩, _, hL, hs.ent ((Ent.rngM _).trans ((Sub.ent (Δ := blk c 88 #[.map (some mb)] :: mapL mb .i64 (ranE r) :: stars (J L) :: Γ)).trans (Ent.cons _ (Ent.cons _ (Ent.unpack _ _))))), hx⟩
 ·obtain ⟨p, hp, he⟩ : ∃ p : Rn, lr[i7]? = some p ∧ (z7, v7) = rnE p := by
   rw [hlr, List.getElem?_map] at hi7
   cases hg : lr[i7]? with
   | none => rw [hg] at hi7; cases hi7
   | some p => rw [hg] at hi7; exact ⟨p, rfl, (Option.some.inj hi7).symm⟩
  obtain ⟨rfl, rfl⟩ : z7 = (p.1 : Int) ∧ v7 = rnV p.2 := ⟨congrArg Prod.fst he, congrArg Prod.snd he⟩
  have hpe := perm_erase hp
  have hel := hpe.length_eq
  rw [List.length_cons] at hel
  have hL2 : ((L ++ [p.2]) ++ (lr.eraseIdx i7).map (·.2)).Perm (r.map (·.2)) := by
   rw [List.append_assoc]
   exact (List.Perm.append_left L (hpe.map (·.2)).symm).trans hL
  have hlt : L.length < r.length := by
   have := hL.length_eq
   rw [List.length_append, List.length_map, List.length_map] at this
   omega
  have hle : left.eraseIdx i7 = (lr.eraseIdx i7).map rnE := by rw [hlr, map_eraseIdx']
  have hll : left.length = lr.length := by rw [hlr, List.length_map]
  refine S.op (S.q (q_extract rfl rfl) rfl rfl ?_)
  first | with_reducible refine S.nilK ?_ | refine S.nil ?_
  refine hK2 _ _ ?_
  refine S.seq fun K4 hK4 => ?_
  refine S.condT rfl ?_
  refine S.skip ?_
  with_reducible repeat (first | refine S.then_n ?_ | refine S.then_x ?_ | refine S.then_r ?_ | refine S.inBlock_n ?_ | refine S.inBlock_r ?_ | refine S.inBlock_x rfl ?_ | refine S.noGoto_r ?_ | refine S.noGoto_n ?_ | refine S.noGoto_x ?_)
  refine hK4 _ _ ?_
  refine S.block ?_
  refine S.seq fun K5 hK5 => ?_
  refine S.region rfl ?_
  refine S.op (S.q (q_entryR rfl) rfl rfl ?_)
  refine S.op (S.q (q_extract rfl rfl) rfl rfl ?_)
  refine S.op (S.alloc Tryz.z175.h rfl ?_)
  intro b4
  refine S.op (S.storeS (cs' := [_, _]) Eo.h rfl rfl rfl rfl rfl rfl ?_)
  first | with_reducible refine S.nilK ?_ | refine S.nil ?_
  refine hK5 _ _ ?_
  refine S.seq fun K6 hK6 => ?_
  refine S.regionW rfl ?_
  refine S.opI rfl ?_
  refine  (S.q (q_move rfl) rfl rfl ?_)
  refine S.opI rfl ?_
  refine  (S.q (q_loadS [_, _] Eo.h rfl rfl ⟨rfl, rfl, trivial⟩) rfl rfl ?_)
  refine S.yieldI rfl rfl (fun w hs hx => hY L p.2 (blk b4 175 (rnC p.2).toArray :: rngM r6 mb .i64 (ranE r) (left.eraseIdx i7) (some ((p.1 : Int), rnV p.2)) :: blk c 88 #[.map (some mb)] :: Γ) w hlt (hs.ent ((Ent.third _ _ _ _).trans (Ent.unpack _ _))) hx) rfl ?_
  refine S.ent (Ent.pack _ _) ?_
  refine S.opI rfl ?_
  refine  (S.q (q_not rfl) rfl rfl ?_)
  refine S.nilI ?_
  refine hK6 _ _ ?_
  refine S.condF rfl ?_
  refine S.skip ?_
  with_reducible repeat (first | refine S.then_n ?_ | refine S.then_x ?_ | refine S.then_r ?_ | refine S.inBlock_n ?_ | refine S.inBlock_r ?_ | refine S.inBlock_x rfl ?_ | refine S.noGoto_r ?_ | refine S.noGoto_n ?_ | refine S.noGoto_x ?_)
  with_reducible repeat (first | refine S.then_n ?_ | refine S.then_x ?_ | refine S.then_r ?_ | refine S.inBlock_n ?_ | refine S.inBlock_r ?_ | refine S.inBlock_x rfl ?_ | refine S.noGoto_r ?_ | refine S.noGoto_n ?_ | refine S.noGoto_x ?_)
  with_reducible repeat (first | refine S.then_n ?_ | refine S.then_x ?_ | refine S.then_r ?_ | refine S.inBlock_n ?_ | refine S.inBlock_r ?_ | refine S.inBlock_x rfl ?_ | refine S.noGoto_r ?_ | refine S.noGoto_n ?_ | refine S.noGoto_x ?_)
  exact ZX ((left.eraseIdx i7).length) (⟨left.eraseIdx i7, lr.eraseIdx i7, some ((p.1 : Int), rnV p.2), L ++ [p.2], rfl, hle, hL2, rfl, rfl⟩) (by rw [hle, List.length_map]; omega)
theorem Values_S (mb : Nat) : Spec Tryz.prog 132 [.map (some mb)] [] fun Γ v Θ => ∃ c, v = .func (.func 155) #[] #[.pointer (some ⟨c, 0, none⟩)] ∧ Θ = blk c 88 #[.map (some mb)] :: Γ := by
 refine Zbd Tryz.func132 rfl Tryz.ntmps132 fun w0 Γ => Zsh ?_
 refine ZY 2 ?_
 refine Zp (S.box (cs := [_]) rfl rfl rfl ?_)
 intro b1
 refine ZY 8 ?_
 exact Zf ef Zq (⟨b1, rfl, rfl⟩)
theorem AppendSeq2_S (c mb : Nat) (r : List Rn) (hl : r.length ≤ 65535) : Spec Tryz.prog 154 [.slice none 0 0, .func (.func 155) #[] #[.pointer (some ⟨c, 0, none⟩)]] (valP c mb r) fun Γ v Θ => ∃ (sv : SV) (xs : List (Nat × Nat)), v = sv.v ∧ sv.n = xs.length ∧ xs.Perm (r.map (·.2)) ∧ Θ = own sv 175 2 (xs.flatMap rnC) :: blk c 88 #[.map (some mb)] :: mapL mb .i64 (ranE r) :: Γ := by
 refine Spec.of_bodyM Tryz.func154 rfl Tryz.ntmps154 rfl ?_
 intro w0 Γ
 show S _ w0 [(0, SV.nil.v), (1, .func (.func 155) #[] #[.pointer (some ⟨c, 0, none⟩)])] (blk c 88 #[.map (some mb)] :: mapL mb .i64 (ranE r) :: Γ) _
 refine S.seq fun K1 hK1 => ?_
 refine S.region rfl ?_
 refine S.op (S.box (cs := [_]) rfl rfl rfl ?_)
 intro b2
 refine S.op (S.q (q_assign rfl) rfl rfl ?_)
 refine S.nilK ?_
 refine hK1 _ _ ?_
 refine S.seq1 ?_
 refine S.seq fun K4 hK4 => ?_
 refine S.region rfl ?_
 refine S.op (S.q (q_move rfl) rfl rfl ?_)
 refine S.nilK ?_
 refine hK4 _ _ ?_
 refine S.block ?_
 refine S.rangeFA (fs := []) (cs := [.pointer (some ⟨c, 0, none⟩)]) (enc := rnV) (p := 7) (q := 5) (T := 175) rnC rfl Eo.h (vals_seq c mb r) (fun done => [outB b2 205 175 2 done.length (done.flatMap rnC)]) (Γ' := Γ) ?_ rfl ?_ ?_ ?_
 ·exact (Sub.ent (Δ := blk c 88 #[.map (some mb)] :: mapL mb .i64 (ranE r) :: blk b2 205 #[SV.nil.v] :: Γ)).trans (Ent.cons _ (Ent.cons _ ((Ent.cons _ (Ent.ownNil 175 2)).trans (Ent.outB SV.nil rfl _))))
 ·intro w0 l x Δ K hK
  refine S.regionR rfl ?_
  refine S.opI rfl ?_
  refine (S.alloc Tryz.z175.h rfl ?_)
  intro b5
  refine S.opI rfl ?_
  refine (S.storeS (cs' := [_, _]) Eo.h rfl rfl rfl rfl rfl rfl ?_)
  refine S.nilI ?_
  exact hK b5
 ·intro y b5 done x Θ hlt
  show S _ w0 _ (blk b5 175 (rnC x).toArray :: outB b2 205 175 2 done.length (done.flatMap rnC) :: Θ) _
  refine S.outB (b := b2) (T := 205) (E := 175) (sz := 2) (m := done.length) (done := done.flatMap rnC) fun sv hsv => ?_
  refine S.blockR (S.regionR rfl ?_)
  refine S.opI rfl ?_
  refine (S.q (q_load Eo.h rfl rfl) rfl rfl ?_)
  refine S.opI rfl ?_
  refine (S.q (q_loadS [_, _] Eo.h rfl rfl ⟨rfl, rfl, trivial⟩) rfl rfl ?_)
  refine S.opI rfl ?_
  refine (S.buildSlice (pvs := [(_, _)]) [_, _] Tryz.underlying205 Tryz.inf175.h rfl rfl ⟨⟨rfl, rfl⟩, trivial⟩ rfl rfl ?_)
  intro b10
  refine S.opI rfl ?_
  refine (S.appendOw (s := sv) 1 (rnC x) Tryz.underlying205 Tryz.inf175.h rfl rfl rfl (blk_slAt (b := b10) rfl (show 1 ≤ maxLen by unfold maxLen; omega)) rfl ⟨by omega, by omega⟩ rfl ?_)
  intro s2 hs2
  refine S.opI rfl ?_
  refine (S.store (cs' := [_]) Eo.h rfl rfl rfl rfl rfl ?_)
  refine S.nilI ?_
  refine S.endR ?_
  have e : done.flatMap rnC ++ rnC x = (done ++ [x]).flatMap rnC := flat_snoc rnC done x
  rw [e]
  exact (Sub.ent (Δ := blk b2 205 #[s2.v] :: own s2 175 2 ((done ++ [x]).flatMap rnC) :: Θ)).trans (Ent.outB s2 (by simp [hs2, hsv]) Θ)
 ·intro D xs hxs
  show S _ w0 _ (defA D :: blk c 88 #[.map (some mb)] :: mapL mb .i64 (ranE r) :: outB b2 205 175 2 xs.length (xs.flatMap rnC) :: Γ) _
  refine S.outB (b := b2) (T := 205) (E := 175) (sz := 2) (m := xs.length) (done := xs.flatMap rnC) fun sv hsv => ?_
  refine S.seqD (S.regionD rfl ?_)
  refine S.qD (q_load Eo.h rfl rfl) rfl rfl ?_
  refine S.qD (q_assign rfl) rfl rfl ?_
  refine S.nilD (S.retD ?_)
  exact S.finM (rs := [_]) (vs := [_]) Tryz.results154 ⟨rfl, trivial⟩ (Θ := own sv 175 2 (xs.flatMap rnC) :: blk c 88 #[.map (some mb)] :: mapL mb .i64 (ranE r) :: Γ) ⟨sv, xs, rfl, hsv, hxs, rfl⟩ Sub.ent
theorem Collect2_S (c mb : Nat) (r : List Rn) (hl : r.length ≤ 65535) : Spec Tryz.prog 131 [.func (.func 155) #[] #[.pointer (some ⟨c, 0, none⟩)]] (valP c mb r) fun Γ v Θ => ∃ (sv : SV) (xs : List (Nat × Nat)), v = sv.v ∧ sv.n = xs.length ∧ xs.Perm (r.map (·.2)) ∧ Θ = own sv 175 2 (xs.flatMap rnC) :: blk c 88 #[.map (some mb)] :: mapL mb .i64 (ranE r) :: Γ := by
 refine Zbd Tryz.func131 rfl Tryz.ntmps131 fun w0 Γ => Zsh ?_
 refine ZY 7 ?_
 refine Zp (Zc1 Ze (AppendSeq2_S c mb r hl) ?_)
 rintro v Θ ⟨sv, xs, rfl, hsn, hxs, rfl⟩
 refine ZY 3 ?_
 exact Zf ef Zq (⟨sv, xs, rfl, hsn, hxs, rfl⟩)
end BN
end Go.Proofs.YtdackcibfkkniaaGreatDoor
namespace Go.Proofs.YtdackcibfkkniaaGreatDoor
open Go.RowKit
section
variable {P : Program} {n : Nat} {md : Bool} {w0 : WM md} {ρ : Env} {Γ : List Assn} {Q : Exit → Act → World → Prop} {K : Act → World → Prop} {ty : TypeId} {pos : String} {af : Array Edge} {gd : Option (Nat × Bool)}
theorem zeroCells_len (z : Array Value) (m : Nat) : (Builtin.zeroCells z m).toList.length = m * z.size := by simp [Builtin.zeroCells]
theorem zeroCells_one {z : Array Value} (h : ∀ u ∈ z.toList, u.oneCell' = true) (m : Nat) : ∀ u ∈ (Builtin.zeroCells z m).toList, u.oneCell' = true := by
 intro u hu
 simp only [Builtin.zeroCells, Array.toList_map, List.mem_map] at hu
 obtain ⟨i, hi, rfl⟩ := hu
 have hi2 : i < m * z.size := by simpa using hi
 have hz : 0 < z.size := by
  rcases Nat.eq_zero_or_pos z.size with e | e
  ·rw [e, Nat.mul_zero] at hi2; omega
  ·exact e
 have hlt := Nat.mod_lt i hz
 rw [getElem!_pos z (i % z.size) hlt]
 exact h _ (by simp)
theorem run_clear_many {w : World} {t e : TypeId} {ii : TypeInfo} {z : Value} (m : Nat) (hm : 0 < m) (hu : P.underlying t = some (.slice e)) (hi : P.info? e = some ii) (hz : ii.zero = some z) (g off cap : Nat) (cur : Array Value) (hg : Blk w g e cur) (hfit : off + m * z.cells.size ≤ cur.size) (h1 : ∀ u ∈ z.cells.toList, u.oneCell' = true) :
  (Builtin.clear_ #[t] ty #[.slice (some ⟨g, off, none⟩) m cap]).run P w = .ok (.tuple #[]) (w.setRow g (cur.toList.take off ++ (Builtin.zeroCells z.cells m).toList ++ cur.toList.drop (off + (Builtin.zeroCells z.cells m).toList.length)).toArray) := by
 have hst := run_storeCells_at P g off e (Builtin.zeroCells z.cells m).toList 0 cur w hg (by rw [zeroCells_len]; simpa using hfit) (zeroCells_one h1 m)
 simp only [Nat.add_zero] at hst
 obtain ⟨k, rfl⟩ : ∃ k, m = k + 1 := ⟨m - 1, by omega⟩
 simp [Builtin.clear_, run_underlying hu, zeroValue, typeInfo, hi, hz, hst]
theorem S.clearSlack {t e sz by_ : Nat} {zs : List Value} {x : Operand} (s : SV) (m : Nat) {xs : List Value} {p : Option Addr} {q cc : Nat} {Δ : List Assn} {b off : Nat} (hu : P.underlying t = some (.slice e)) (hi : infoT P e = some (zs, sz, by_)) (hzl : Nat.beq zs.length sz = true) (hz1 : allOne zs = true) (hx : ev ρ x = some (.slice p q cc)) [h : HasOw Γ s e sz xs Δ] (hp : s.a = some ⟨b, off, none⟩)
  (hq : q = m) (hpp : 0 < m → p = some ⟨b, off + s.n * sz, none⟩) (hc : s.n + m ≤ s.c) (k : S n w0 ρ (own s e sz xs :: Δ) K) :
  S n w0 ρ Γ (Ow P Q ⟨none, .call { callee := .builtin .clear, args := #[x], argTypes := #[t] }, ty, pos, af, gd⟩ K) := by
 intro a w ha hs hxt
 subst hq
 rcases Nat.eq_zero_or_pos q with hm0 | hm0
 ·subst hm0
  have hr0 : (Builtin.clear_ #[t] ty #[.slice p 0 cc]).run P w = .ok (.tuple #[]) w := by
   cases p <;> simp [Builtin.clear_, run_underlying hu]
  have hr : (execOp a.eval ⟨none, .call { callee := .builtin .clear, args := #[x], argTypes := #[t] }, ty, pos, af, gd⟩).run P w = .ok (.value (.tuple #[])) w := by
   simp [execOp, ha.ev hx, resolve, invoke, builtin, hr0]
  unfold Ow Oper.wp
  rw [hr, Oper.upon_value]
  exact k _ _ (ha.putNone _) (hs.ent h.ent) hxt
 have hpp := hpp hm0
 subst hpp
 unfold infoT at hi
 split at hi
 case h_2 => cases hi
 rename_i i hi'
 split at hi
 case h_2 => cases hi
 rename_i z hz
 simp only [Option.some.injEq, Prod.mk.injEq] at hi
 obtain ⟨rfl, rfl, rfl⟩ := hi
 have hzs := Nat.eq_of_beq_eq_true hzl
 have hO := h.own hs
 obtain ⟨sa, sn, sc⟩ := s
 simp only at hp hc hx hO
 subst hp
 have hlen := hO.1
 rcases hO.2 with ⟨h0, _⟩ | ⟨b', off', c', cur, q1, q2, hB, q4, q5, q6, q7⟩
 ·cases h0
 simp only [SV.v, Value.slice.injEq, Option.some.injEq, Addr.mk.injEq, and_true, true_and] at q1
 obtain ⟨⟨rfl, rfl⟩, rfl⟩ := q1
 have hcm : (sn + q) * i.size ≤ sc * i.size := Nat.mul_le_mul_right _ hc
 rw [Nat.add_mul] at hcm
 have hzs2 : z.cells.size = i.size := by simpa using hzs
 have hfit : off + sn * i.size + q * z.cells.size ≤ cur.size := by rw [hzs2]; omega
 have hzl2 : (Builtin.zeroCells z.cells q).toList.length = q * i.size := by rw [zeroCells_len, hzs2]
 have hr0 := run_clear_many (P := P) (ty := ty) q hm0 hu hi' hz b (off + sn * i.size) cc cur hB hfit (fun v hv => List.all_eq_true.1 hz1 v hv)
 have hr : (execOp a.eval ⟨none, .call { callee := .builtin .clear, args := #[x], argTypes := #[t] }, ty, pos, af, gd⟩).run P w = .ok (.value (.tuple #[])) (w.setRow b (cur.toList.take (off + sn * i.size) ++ (Builtin.zeroCells z.cells q).toList ++ cur.toList.drop (off + sn * i.size + (Builtin.zeroCells z.cells q).toList.length)).toArray) := by
  simp [execOp, ha.ev hx, resolve, invoke, builtin, hr0]
 unfold Ow Oper.wp
 rw [hr, Oper.upon_value]
 refine k _ _ (ha.putNone _) ?_ (hxt.trans ⟨rfl, rfl, rfl, by simp [World.setRow], Nat.le_refl _⟩)
 refine (hs.ent h.ent).ownUpd (b := b) ⟨hlen, .inr ⟨b, off, sc, _, rfl, rfl, setRow_heap w b cur _ e _ hB, q4, q5, ?_, ?_⟩⟩ rfl ⟨rfl, rfl, rfl, by simp [World.setRow], fun k _ hk => setRow_other w b k _ hk, Nat.le_refl _⟩
 ·simp only [List.size_toArray, List.length_append, List.length_take, List.length_drop, Array.length_toList]
  omega
 ·have hlt : (cur.toList.take (off + sn * i.size)).length = off + sn * i.size := by simp; omega
  simp only
  rw [List.append_assoc, List.drop_append_of_le_length (by omega), ← q7, List.drop_take]
  have e2 : off + sn * i.size - off = sn * i.size := by omega
  rw [e2, List.take_left' (by rw [List.length_take, List.length_drop, Array.length_toList]; omega)]
end
end Go.Proofs.YtdackcibfkkniaaGreatDoor
namespace Go.Proofs.YtdackcibfkkniaaGreatDoor
open Go.RowKit
namespace BN
def oI (r : Option Nat) : Int := match r with
 | some i => (i : Int)
 | none => -1
theorem Index_S (R : Assn) (s : SV) (l : List Nat) (n : Int) (hsn : s.n = l.length) (hR : RdS R s s.n 1 (nds l)) : Spec Tryz.prog 93 [s.v, .int .i64 n] [R] fun Γ v Θ => (∃ r : Option Nat, v = .int .i64 (oI r) ∧ (r = none → ∀ x ∈ l, (x : Int) ≠ n) ∧ ∀ i, r = some i → ∃ x : Nat, l[i]? = some x ∧ (x : Int) = n ∧ ∀ y ∈ l.take i, (y : Int) ≠ n) ∧ Θ = R :: Γ := by
 refine Zbd Tryz.func93 rfl Tryz.ntmps93 fun w0 Γ => Zsh ?_
 refine S.rCap hR fun _ hc1 hc2 => ?_
 refine ZY 8 ?_
 refine ZY 4 ?_
 refine Zl (fun q ρ' Γ' => ∃ i : Nat, q = l.length - i ∧ i ≤ l.length ∧ (∀ y ∈ l.take i, (y : Int) ≠ n) ∧ ρ' = [(0, s.v), (1, .int .i64 n), (7, .int .i64 (s.n : Int)), (8, .int .i64 (i : Int))] ∧ Γ' = R :: Γ) (m := _) (⟨0, rfl, by omega, fun y hy => (by cases hy), rfl, rfl⟩) ?_
 rintro q ρ' Γ' ⟨i, hq, hi, hno, rfl, rfl⟩
 refine ZY 5 ?_
 refine Zj ef (fun h1 => ?_) (fun h1 => ?_)
 ·refine S.rSome hR (by omega) fun sb so hsa => ?_
  obtain ⟨x, hx⟩ := getE (show i < l.length by omega)
  have htk : l.take (i + 1) = l.take i ++ [x] := by rw [List.take_add_one, hx]; rfl
  refine ZY 8 ?_
  refine ZY 5 ?_
  refine Zv (Zx (i) ef (hsa) ef (by omega)) ?_
  refine Zv (q_loadR hR i Eo.h rfl hsa (by omega) (by omega) (by rw [List.getElem?_map, hx]; rfl)) ?_
  refine ZY 2 ?_
  refine Zj ef (fun h2 => ?_) (fun h2 => ?_)
  ·refine ZY 6 ?_
   exact Zf ef Zq (⟨⟨some i, rfl, fun h => (by cases h), fun j hj => by cases hj; exact ⟨x, hx, h2.symm, hno⟩⟩, rfl⟩)
  ·have hno2 : ∀ y ∈ l.take (i + 1), (y : Int) ≠ n := fun y hy => by
    rw [htk, List.mem_append, List.mem_singleton] at hy
    rcases hy with hy | rfl
    ·exact hno y hy
    ·exact fun e => h2 e.symm
   refine ZY 2 ?_
   refine Zv (Za ef ef) ?_
   refine ZY 2 ?_
   exact ZX (q - 1) (⟨i + 1, by omega, by omega, hno2, rfl, rfl⟩) (by omega)
 ·rw [show i = l.length by omega, List.take_length] at hno
  refine ZY 6 ?_
  exact Zf ef Zq (⟨⟨none, rfl, fun _ => hno, fun j hj => (by cases hj)⟩, rfl⟩)
theorem Contains_S (R : Assn) (s : SV) (l : List Nat) (n : Nat) (hsn : s.n = l.length) (hR : RdS R s s.n 1 (nds l)) : Spec Tryz.prog 51 [s.v, .int .i64 (n : Int)] [R] fun Γ v Θ => v = .bool (decide (n ∈ l)) ∧ Θ = R :: Γ := by
 refine Zbd Tryz.func51 rfl Tryz.ntmps51 fun w0 Γ => Zsh ?_
 refine ZY 8 ?_
 refine Zp (Zc1 Ze (Index_S R s l (n : Int) hsn hR) ?_)
 rintro v Θ ⟨⟨r, rfl, h1, h2⟩, rfl⟩
 have hb : decide (n ∈ l) = decide ((0 : Int) ≤ oI r) := by
  cases r with
  | none => rw [decide_eq_false (fun hm => h1 rfl n hm rfl)]; rfl
  | some i =>
   obtain ⟨x, hx, e, _⟩ := h2 i rfl
   rw [decide_eq_true (show n ∈ l from (show x = n by omega) ▸ List.mem_of_getElem? hx), decide_eq_true (show (0 : Int) ≤ oI (some i) from by show (0 : Int) ≤ (i : Int); omega)]
 refine ZY 4 ?_
 exact Zf ef Zq (⟨by rw [hb]; rfl, rfl⟩)
theorem lost1_S (t : Nat) (n : Int) (o : Od) : Spec Tryz.prog 49 [.agg (odC o).toArray, pt t] [blk t 3 #[.int .i64 n]] fun Γ v Θ => v = .bool (decide ((o.1 : Int) = n)) ∧ Θ = blk t 3 #[.int .i64 n] :: Γ := by
 refine Zbd Tryz.func49 rfl Tryz.ntmps49 fun w0 Γ => Zsh ?_
 refine ZY 2 ?_
 refine Zp (S.box (cs := [_, _, _, _, _, _, _, _, _, _, _, _, _, _]) rfl rfl rfl ?_)
 intro b2
 refine ZY 8 ?_
 refine ZY 3 ?_
 exact Zf ef Zq (⟨rfl, rfl⟩)
abbrev lostF (t : Nat) : Value := .func (.func 49) #[] #[pt t]
theorem IndexO_S (t : Nat) (n : Int) (s : SV) (os : List Od) (hsn : s.n = os.length) : Spec Tryz.prog 92 [s.v, lostF t] [own s 97 14 (os.flatMap odC), blk t 3 #[.int .i64 n]] fun Γ v Θ => (∃ r : Option Nat, v = .int .i64 (oI r) ∧ (r = none → ∀ x ∈ os, (x.1 : Int) ≠ n) ∧ ∀ i, r = some i → ∃ x : Od, os[i]? = some x ∧ (x.1 : Int) = n ∧ ∀ y ∈ os.take i, (y.1 : Int) ≠ n) ∧ Θ = own s 97 14 (os.flatMap odC) :: blk t 3 #[.int .i64 n] :: Γ := by
 refine Zbd Tryz.func92 rfl Tryz.ntmps92 fun w0 Γ => Zsh ?_
 refine S.ownLen s fun hl1 hl2 hl3 => ?_
 have hmx : maxLen ≤ 9223372036854775807 := by unfold maxLen; omega
 refine ZY 8 ?_
 refine ZY 4 ?_
 refine Zl (fun q ρ' Γ' => ∃ i : Nat, q = os.length - i ∧ i ≤ os.length ∧ (∀ y ∈ os.take i, (y.1 : Int) ≠ n) ∧ ρ' = [(0, s.v), (1, lostF t), (7, .int .i64 (s.n : Int)), (8, .int .i64 (i : Int))] ∧ Γ' = own s 97 14 (os.flatMap odC) :: blk t 3 #[.int .i64 n] :: Γ) (m := _) (⟨0, rfl, by omega, fun y hy => (by cases hy), rfl, rfl⟩) ?_
 rintro q ρ' Γ' ⟨i, hq, hi, hno, rfl, rfl⟩
 refine ZY 5 ?_
 refine Zj ef (fun h1 => ?_) (fun h1 => ?_)
 ·refine S.ownSome s (by omega) fun sb so hsa _ _ _ => ?_
  obtain ⟨x, hx⟩ := getE (show i < os.length by omega)
  have htk : os.take (i + 1) = os.take i ++ [x] := by rw [List.take_add_one, hx]; rfl
  refine ZY 8 ?_
  refine ZY 5 ?_
  refine Zv (Zx (i) ef (hsa) ef (by omega)) ?_
  refine Zv (q_loadOwS (s) (i * 14) [_, _, _, _, _, _, _, _, _, _, _, _, _, _] Eo.h rfl hsa (by first | rfl | exact Nat.add_assoc _ _ _ | omega) rfl (flat_seg (enc := odC) (sz := 14) odC_len hx)) ?_
  refine Zp (S.callC (fs := []) (cs := [pt t]) (vs := [_]) Eo.h rfl ⟨rfl, trivial⟩ (lost1_S t n x) rfl ?_)
  rintro v Θ ⟨rfl, rfl⟩
  refine Zy ?_
  refine Zj ef (fun h2 => ?_) (fun h2 => ?_)
  ·refine ZY 6 ?_
   exact Zf ef Zq (⟨⟨some i, rfl, fun h => (by cases h), fun j hj => by cases hj; exact ⟨x, hx, h2, hno⟩⟩, rfl⟩)
  ·have hno2 : ∀ y ∈ os.take (i + 1), (y.1 : Int) ≠ n := fun y hy => by
    rw [htk, List.mem_append, List.mem_singleton] at hy
    rcases hy with hy | rfl
    ·exact hno y hy
    ·exact h2
   refine ZY 2 ?_
   refine Zv (Za ef ef) ?_
   refine ZY 2 ?_
   exact ZX (q - 1) (⟨i + 1, by omega, by omega, hno2, rfl, rfl⟩) (by omega)
 ·rw [show i = os.length by omega, List.take_length] at hno
  refine ZY 6 ?_
  exact Zf ef Zq (⟨⟨none, rfl, fun _ => hno, fun j hj => (by cases hj)⟩, rfl⟩)
theorem Delete_S (t n : Nat) (s : SV) (os : List Od) (hsn : s.n = os.length) : Spec Tryz.prog 48 [s.v, lostF t] [own s 97 14 (os.flatMap odC), blk t 3 #[.int .i64 (n : Int)]] fun Γ v Θ => ∃ u : SV, v = u.v ∧ u.n = (os.filter fun o => decide (o.1 ≠ n)).length ∧ Θ = own u 97 14 ((os.filter fun o => decide (o.1 ≠ n)).flatMap odC) :: blk t 3 #[.int .i64 (n : Int)] :: Γ := by
 refine Zbd Tryz.func48 rfl Tryz.ntmps48 fun w0 Γ => Zsh ?_
 refine S.ownLen s fun hl1 hl2 hl3 => ?_
 have hmx : maxLen ≤ 9223372036854775807 := by unfold maxLen; omega
 have hself : ∀ l : List Od, (∀ y ∈ l, (y.1 : Int) ≠ (n : Int)) → l.filter (fun o => decide (o.1 ≠ n)) = l := fun l h => List.filter_eq_self.2 fun y hy => decide_eq_true (by have := h y hy; omega)
 refine ZY 8 ?_
 refine Zp (Zc1 Ze (IndexO_S t n s os hsn) ?_)
 rintro v Θ ⟨⟨r, rfl, hr1, hr2⟩, rfl⟩
 refine ZY 8 ?_
 refine Zj ef (fun h1 => ?_) (fun h1 => ?_)
 ·have hrn : r = none := by cases r with | none => rfl | some i => exact absurd h1 (by show ¬ (i : Int) = -1; omega)
  have hfl := hself os (hr1 hrn)
  refine ZY 6 ?_
  exact Zf ef Zq (⟨s, rfl, by rw [hfl]; exact hsn, by rw [hfl]⟩)
 ·obtain ⟨i0, hi0⟩ : ∃ i, r = some i := by cases r with | none => exact absurd rfl h1 | some i => exact ⟨i, rfl⟩
  obtain ⟨x0, hx0, hx1, hx2⟩ := hr2 i0 hi0
  subst hi0
  have hi0l := (List.getElem?_eq_some_iff.1 hx0).1
  have htk0 : os.take (i0 + 1) = os.take i0 ++ [x0] := by rw [List.take_add_one, hx0]; rfl
  have hf0 : os.take i0 = (os.take (i0 + 1)).filter fun o => decide (o.1 ≠ n) := by
   rw [htk0, List.filter_append, hself _ hx2]
   have hxn : x0.1 = n := by omega
   simp [hxn]
  rw [show oI (some i0) = (i0 : Int) from rfl]
  refine ZY 5 ?_
  refine Zv (q_add rfl rfl (inI64 (by omega) (by omega))) ?_
  refine ZY 3 ?_
  refine Zl (fun q ρ' Γ' => ∃ (i j : Nat) (cur : List Od), q = os.length - j ∧ i < j ∧ j ≤ os.length ∧ cur.length = os.length ∧ cur.take i = (os.take j).filter (fun o => decide (o.1 ≠ n)) ∧ cur.drop j = os.drop j ∧ ρ' = [(0, s.v), (1, lostF t), (5, .int .i64 (i : Int)), (6, .int .i64 (j : Int))] ∧ Γ' = own s 97 14 (cur.flatMap odC) :: blk t 3 #[.int .i64 (n : Int)] :: Γ) (m := _) (⟨i0, i0 + 1, os, rfl, by omega, by omega, rfl, hf0, rfl, rfl, rfl⟩) ?_
  rintro q ρ' Γ' ⟨i, j, cur, hq, hij, hj, hcl, hci, hcd, rfl, rfl⟩
  refine ZY 8 ?_
  refine Zj ef (fun h2 => ?_) (fun h2 => ?_)
  ·refine S.ownSome s (by omega) fun sb so hsa _ _ _ => ?_
   obtain ⟨x, hx⟩ := getE (show j < os.length by omega)
   have hxc : cur[j]? = some x := by
    have := congrArg (fun l : List Od => l[0]?) hcd
    simp only [List.getElem?_drop, Nat.add_zero] at this
    rw [this, hx]
   have htk : os.take (j + 1) = os.take j ++ [x] := by rw [List.take_add_one, hx]; rfl
   have hcd2 : cur.drop (j + 1) = os.drop (j + 1) := by rw [← List.drop_drop, hcd, List.drop_drop]
   refine ZY 7 ?_
   refine Zv (Zx (j) ef (hsa) ef (by omega)) ?_
   refine Zv (q_loadOwS (s) (j * 14) [_, _, _, _, _, _, _, _, _, _, _, _, _, _] Eo.h rfl hsa (by first | rfl | exact Nat.add_assoc _ _ _ | omega) rfl (flat_seg (enc := odC) (sz := 14) odC_len hxc)) ?_
   refine Zp (S.alloc Tryz.z97.h rfl ?_)
   intro b7
   refine Zp (Zs ef ef (cs' := [_, _, _, _, _, _, _, _, _, _, _, _, _, _]) ef ?_)
   refine ZY 5 ?_
   refine Zp (S.callC (fs := []) (cs := [pt t]) (vs := [_]) Eo.h rfl ⟨rfl, trivial⟩ (lost1_S t n x) rfl ?_)
   rintro v Θ ⟨rfl, rfl⟩
   refine ZY 2 ?_
   refine Zi ef (fun h3 => ?_) (fun h3 => ?_)
   ·have hne : x.1 ≠ n := fun e => by rw [decide_eq_true (show (x.1 : Int) = n by omega)] at h3; cases h3
    have hil : i < cur.length := by omega
    have hci2 : (cur.set i x).take (i + 1) = (os.take (j + 1)).filter fun o => decide (o.1 ≠ n) := by
     rw [htk, List.filter_append, ← hci, List.take_add_one, List.getElem?_set_self hil, List.take_set_of_le (Nat.le_refl i)]
     simp [hne]
    have hcd3 : (cur.set i x).drop (j + 1) = os.drop (j + 1) := by rw [List.drop_set_of_lt (by omega), hcd2]
    refine ZY 5 ?_
    refine Zv (Zx (i) ef (hsa) ef (by omega)) ?_
    refine Zp (S.storeOwS (s) (i * 14) Eo.h rfl rfl rfl rfl hsa (by first | rfl | exact Nat.add_assoc _ _ _ | omega) (by rw [flat_length odC_len]; show i * 14 + 14 ≤ _; omega) (flat_put odC_len hil x) ?_)
    refine ZY 3 ?_
    refine Zv (q_add rfl rfl (inI64 (by omega) (by omega))) ?_
    refine ZY 4 ?_
    refine Zv (q_add rfl rfl (inI64 (by omega) (by omega))) ?_
    refine ZY 2 ?_
    first | exact ZX (q - 1) ⟨i + 1, j + 1, cur.set i x, by omega, by omega, by omega, by rw [List.length_set]; exact hcl, hci2, hcd3, rfl, rfl⟩ (by omega) | exact ZX (q - 1) ⟨i, j + 1, cur, by omega, by omega, by omega, hcl, hci2, hcd2, rfl, rfl⟩ (by omega)
   ·have heq : x.1 = n := by
     have := of_decide_eq_true (p := (x.1 : Int) = n) (by simpa using h3)
     omega
    have hci2 : cur.take i = (os.take (j + 1)).filter fun o => decide (o.1 ≠ n) := by
     rw [htk, List.filter_append, ← hci]
     simp [heq]
    refine ZY 3 ?_
    refine Zv (q_add rfl rfl (inI64 (by omega) (by omega))) ?_
    refine ZY 2 ?_
    first | exact ZX (q - 1) ⟨i + 1, j + 1, cur.set i x, by omega, by omega, by omega, by rw [List.length_set]; exact hcl, hci2, hcd3, rfl, rfl⟩ (by omega) | exact ZX (q - 1) ⟨i, j + 1, cur, by omega, by omega, by omega, hcl, hci2, hcd2, rfl, rfl⟩ (by omega)
  ·have hjl : j = os.length := by omega
   rw [hjl, List.take_length] at hci
   refine S.ownSome s (by omega) fun sb so hsa _ _ _ => ?_
   refine S.conv (own s 97 14 (cur.flatMap odC)) (Ent.ownTake s 97 14 (cur.flatMap odC) (k := i) (by omega) _) ?_
   rw [flat_take odC_len, hci]
   refine ZY 5 ?_
   refine Zv (q_sliceFrom i Eo.h rfl rfl rfl (by omega)) ?_
   refine Zp (S.clearSlack ⟨s.a, i, s.c⟩ (s.n - i) Tryz.underlying37 Tryz.inf97.h rfl rfl rfl hsa rfl (fun _ => by rw [if_neg (by omega), hsa]; simp [Addr.add]) (by show i + (s.n - i) ≤ s.c; omega) ?_)
   refine ZY 5 ?_
   refine Zv (q_sliceTo (i) Eo.h rfl rfl rfl (by omega)) ?_
   refine ZY 3 ?_
   exact Zf ef Zq (⟨⟨s.a, i, s.c⟩, rfl, by rw [← hci, List.length_take]; show i = _; omega, rfl⟩)
theorem in_S (n : Nat) (hn : n ≤ 1099511627776) : Spec Tryz.prog 125 [.int .i64 (n : Int)] [] fun Γ v Θ => v = .int .i64 (n : Int) ∧ Θ = Γ := by
 refine Zbd Tryz.func125 rfl Tryz.ntmps125 fun w0 Γ => Zsh ?_
 refine ZY 7 ?_
 refine Zv (q_max ((n : Int)) rfl rfl (⟨by omega, by omega, by omega⟩)) ?_
 refine Zv (q_min ((n : Int)) rfl rfl (⟨by omega, by omega, by omega⟩)) ?_
 refine ZY 3 ?_
 exact Zf ef Zq (⟨rfl, rfl⟩)
theorem cadd_S (a b : Nat) (ha : a ≤ 549755813888) (hb : b ≤ 549755813888) : Spec Tryz.prog 134 [.int .i64 (a : Int), .int .i64 (b : Int)] [] fun Γ v Θ => v = .int .i64 (a + b : Nat) ∧ Θ = Γ := by
 refine Zbd Tryz.func134 rfl Tryz.ntmps134 fun w0 Γ => Zsh ?_
 refine ZY 7 ?_
 refine Zp (Zcp Ze (in_S a (by omega)) ?_)
 refine Zy ?_
 refine Zp (Zcp Ze (in_S b (by omega)) ?_)
 refine Zv (Za ef ef) ?_
 refine Zp (Zcp Ze (in_S (a + b) (by omega)) ?_)
 refine ZY 3 ?_
 exact Zf ef Zq (⟨rfl, rfl⟩)
theorem csub_S (a b : Nat) (ha : a ≤ 1099511627776) (hb : b ≤ a) : Spec Tryz.prog 145 [.int .i64 (a : Int), .int .i64 (b : Int)] [] fun Γ v Θ => v = .int .i64 (a - b : Nat) ∧ Θ = Γ := by
 refine Zbd Tryz.func145 rfl Tryz.ntmps145 fun w0 Γ => Zsh ?_
 refine ZY 7 ?_
 refine Zp (Zcp Ze (in_S a (by omega)) ?_)
 refine Zy ?_
 refine Zp (Zcp Ze (in_S b (by omega)) ?_)
 refine Zv (Zm ef ef) ?_
 rw [show (a : Int) - (b : Int) = ((a - b : Nat) : Int) by omega]
 refine Zp (Zcp Ze (in_S (a - b) (by omega)) ?_)
 refine ZY 3 ?_
 exact Zf ef Zq (⟨rfl, rfl⟩)
theorem left_S (a b : Nat) (ha : a ≤ 1099511627776) (hb : b ≤ a) : Spec Tryz.prog 112 [.int .i64 (a : Int), .int .i64 (b : Int)] [] fun Γ v Θ => v = .int .i64 (a - b : Nat) ∧ Θ = Γ := by
 refine Zbd Tryz.func112 rfl Tryz.ntmps112 fun w0 Γ => Zsh ?_
 refine ZY 8 ?_
 refine Zp (Zcp Ze (csub_S a b ha hb) ?_)
 refine ZY 3 ?_
 exact Zf ef Zq (⟨rfl, rfl⟩)
theorem keep_S (a b : Nat) (ha : a ≤ 1099511627776) (hb : b ≤ 1099511627776) : Spec Tryz.prog 133 [.int .i64 (a : Int), .int .i64 0, .int .i64 (b : Int)] [] fun Γ v Θ => v = .int .i64 (min a b : Nat) ∧ Θ = Γ := by
 refine Zbd Tryz.func133 rfl Tryz.ntmps133 fun w0 Γ => Zsh ?_
 refine ZY 7 ?_
 refine Zp (Zcp Ze (in_S a ha) ?_)
 refine Zy ?_
 refine Zp (Zcp Ze (in_S 0 (by omega)) ?_)
 refine Zv (q_max ((a : Int)) rfl rfl (⟨by omega, by show ((0 : Nat) : Int) ≤ _; omega, by omega⟩)) ?_
 refine Zy ?_
 refine Zp (Zcp Ze (in_S b hb) ?_)
 refine Zv (q_min (((min a b : Nat) : Int)) rfl rfl (⟨by omega, by omega, by omega⟩)) ?_
 refine ZY 3 ?_
 exact Zf ef Zq (⟨rfl, rfl⟩)
theorem later_S (t n : Nat) (ht : t ≤ 4294967295) (hn : n ≤ 1000000) : Spec Tryz.prog 83 [.int .u32 (t : Int), .int .i64 (n : Int)] [] fun Γ v Θ => v = .int .u32 (laterR t n : Nat) ∧ Θ = Γ := by
 refine Zbd Tryz.func83 rfl Tryz.ntmps83 fun w0 Γ => Zsh ?_
 have hl : laterR t n = min (t + n) 4294967295 := rfl
 refine ZY 7 ?_
 refine Zv (q_conv Tryz.it3.h (by rw [Tryz.underlying31]; rfl) rfl (inI64 (by omega) (by omega))) ?_
 refine Zy ?_
 refine Zp (Zcp Ze (in_S n (by omega)) ?_)
 refine Zv (Za ef ef) ?_
 refine Zv (q_min (((laterR t n : Nat) : Int)) rfl rfl (⟨by omega, by omega, by omega⟩)) ?_
 refine Zv (q_conv Tryz.it31.h (by rw [Tryz.underlying3]; rfl) rfl (inU32 (by omega) (by omega))) ?_
 refine ZY 3 ?_
 exact Zf ef Zq (⟨rfl, rfl⟩)
end BN
end Go.Proofs.YtdackcibfkkniaaGreatDoor
namespace Go.Proofs.YtdackcibfkkniaaGreatDoor
open Go.RowKit
namespace BN
theorem overlapUp_perm {l m : List (Nat × Nat)} (h : l.Perm m) : ∀ a, overlapUp l a = overlapUp m a := by
 induction h with
 | nil => exact fun _ => rfl
 | cons x _ ih => exact fun a => by rw [overlapUp, overlapUp, ih]
 | swap x y l =>
  intro a
  simp only [overlapUp]
  have e : ((max (max a.1 y.1) x.1, min (min a.2 y.2) x.2) : Nat × Nat) = (max (max a.1 x.1) y.1, min (min a.2 x.2) y.2) := Prod.ext (by show max (max a.1 y.1) x.1 = max (max a.1 x.1) y.1; omega) (by show min (min a.2 y.2) x.2 = min (min a.2 x.2) y.2; omega)
  rw [e]
  split <;> split <;> rfl
 | trans _ _ ih1 ih2 => exact fun a => (ih1 a).trans (ih2 a)
theorem overlapR_perm {l m : List (Nat × Nat)} (h : l.Perm m) : overlapR l = overlapR m := by
 unfold overlapR
 rw [overlapUp_perm h]
 have : (l = []) ↔ m = [] := ⟨fun e => by subst e; exact h.nil_eq.symm, fun e => by subst e; exact h.eq_nil⟩
 by_cases e : l = []
 ·rw [if_pos e, if_pos (this.1 e)]
 ·rw [if_neg e, if_neg (fun q => e (this.2 q))]
theorem overlapR_le (l : List (Nat × Nat)) : overlapR l ≤ 4294967296 := by
 have key : ∀ (l : List (Nat × Nat)) (a p : Nat × Nat), a.2 ≤ 4294967295 → overlapUp l a = some p → p.2 ≤ 4294967295 := by
  intro l
  induction l with
  | nil => intro a p h e; cases e; exact h
  | cons x l ih =>
   intro a p h e
   rw [overlapUp] at e
   split at e
   ·cases e
   ·exact ih _ _ (show min a.2 x.2 ≤ _ by omega) e
 unfold overlapR
 split
 ·omega
 ·split
  ·omega
  ·rename_i f t e
   have := key _ _ _ (by show 4294967295 ≤ 4294967295; omega) e
   split
   ·omega
   ·have : t ≤ 4294967295 := this
    omega
theorem overlap_S (sv : SV) (xs : List (Nat × Nat)) (hsn : sv.n = xs.length) (hb : ∀ x ∈ xs, x.1 ≤ 4294967295 ∧ x.2 ≤ 4294967295) : Spec Tryz.prog 130 [sv.v] [own sv 175 2 (xs.flatMap rnC)] fun Γ v Θ => v = .int .i64 (overlapR xs : Nat) ∧ Θ = own sv 175 2 (xs.flatMap rnC) :: Γ := by
 refine Zbd Tryz.func130 rfl Tryz.ntmps130 fun w0 Γ => Zsh ?_
 refine S.ownLen sv fun hl1 hl2 hl3 => ?_
 have hmx : maxLen ≤ 9223372036854775807 := by unfold maxLen; omega
 refine ZY 8 ?_
 refine ZY 3 ?_
 refine Zj ef (fun h1 => ?_) (fun h1 => ?_)
 ·have he : xs = [] := List.eq_nil_of_length_eq_zero (by omega)
  refine ZY 5 ?_
  exact Zf ef Zq (⟨by subst he; rfl, rfl⟩)
 ·have hne : xs ≠ [] := fun e => by rw [e] at hsn; exact absurd (show sv.n = 0 from hsn) (by omega)
  refine ZY 8 ?_
  refine ZY 6 ?_
  refine Zl (fun q ρ' Γ' => ∃ (i f u : Nat), q = xs.length - i ∧ i ≤ xs.length ∧ f ≤ 4294967295 ∧ u ≤ 4294967295 ∧ overlapUp xs (0, 4294967295) = overlapUp (xs.drop i) (f, u) ∧ ρ' = [(0, sv.v), (3, .int .u32 (f : Int)), (4, .int .u32 (u : Int)), (10, sv.v), (11, .int .i64 (sv.n : Int)), (12, .int .i64 (i : Int))] ∧ Γ' = own sv 175 2 (xs.flatMap rnC) :: Γ) (m := _) (⟨0, 0, 4294967295, rfl, by omega, by omega, by omega, rfl, rfl, rfl⟩) ?_
  rintro q ρ' Γ' ⟨i, f, u, hq, hi, hf, hu, hup, rfl, rfl⟩
  refine ZY 5 ?_
  refine Zj ef (fun h2 => ?_) (fun h2 => ?_)
  ·refine S.ownSome sv (by omega) fun sb so hsa _ _ _ => ?_
   obtain ⟨x, hx⟩ := getE (show i < xs.length by omega)
   have hxb := hb x (List.mem_of_getElem? hx)
   have hdr : xs.drop i = x :: xs.drop (i + 1) := by
    obtain ⟨h1, h2⟩ := List.getElem?_eq_some_iff.1 hx
    rw [List.drop_eq_getElem_cons h1, h2]
   refine ZY 5 ?_
   refine Zv (Zx (i) ef (hsa) ef (by omega)) ?_
   refine Zv (q_loadOwS (sv) (i * 2) [_, _] Eo.h rfl hsa (by first | rfl | exact Nat.add_assoc _ _ _ | omega) rfl (flat_seg (enc := rnC) (sz := 2) (fun _ => rfl) hx)) ?_
   refine Zp (S.alloc Tryz.z175.h rfl ?_)
   intro b6
   refine Zp (Zs ef ef (cs' := [_, _]) ef ?_)
   refine ZY 2 ?_
   refine Zd0 (Zra 0 10) ?_
   refine Zy ?_
   refine Zw ef (q_indexA Tryz.ar175.h rfl rfl (⟨by omega, by omega⟩)) ?_
   refine Zw ef (q_load Eo.h rfl rfl) ?_
   refine Zw ef (q_max (((max f x.1 : Nat) : Int)) rfl rfl (by omega)) ?_
   refine Zy ?_
   refine Zw ef (q_indexA Tryz.ar175.h rfl rfl (⟨by omega, by omega⟩)) ?_
   refine Zw ef (q_load Eo.h rfl rfl) ?_
   refine Zw ef (q_min (((min u x.2 : Nat) : Int)) rfl rfl (by omega)) ?_
   refine ZY 2 ?_
   refine ZD ?_
   refine ZY 2 ?_
   refine Zv (q_indexA Tryz.ar175.h rfl rfl (⟨by omega, by omega⟩)) ?_
   refine Zv (q_load Eo.h rfl rfl) ?_
   refine Zv (q_indexA Tryz.ar175.h rfl rfl (⟨by omega, by omega⟩)) ?_
   refine Zv (q_load Eo.h rfl rfl) ?_
   refine ZY 2 ?_
   refine Zj ef (fun h3 => ?_) (fun h3 => ?_)
   ·have h0 : overlapR xs = 0 := by
     unfold overlapR
     rw [if_neg hne, hup, hdr, overlapUp, if_pos (show x.2 < x.1 by omega)]
    refine ZY 5 ?_
    exact Zf ef Zq (⟨by rw [h0]; rfl, rfl⟩)
   ·have hup2 : overlapUp xs (0, 4294967295) = overlapUp (xs.drop (i + 1)) (max f x.1, min u x.2) := by rw [hup, hdr, overlapUp, if_neg (show ¬ x.2 < x.1 by omega)]
    refine ZY 2 ?_
    refine Zv (Za ef ef) ?_
    refine ZY 2 ?_
    exact ZX (q - 1) (⟨i + 1, max f x.1, min u x.2, by omega, by omega, by omega, by omega, hup2, rfl, rfl⟩) (by omega)
  ·have hov : overlapR xs = if u < f then 0 else u - f + 1 := by
    unfold overlapR
    rw [if_neg hne, hup, show i = xs.length by omega, List.drop_length]
    rfl
   refine ZY 8 ?_
   refine Zj ef (fun h4 => ?_) (fun h4 => ?_)
   ·have h0 : overlapR xs = 0 := by rw [hov, if_pos (by omega)]
    refine ZY 5 ?_
    exact Zf ef Zq (⟨by rw [h0]; rfl, rfl⟩)
   ·have h0 : (overlapR xs : Int) = (u : Int) - (f : Int) + 1 := by rw [hov, if_neg (by omega)]; omega
    refine ZY 5 ?_
    refine Zv (Zm ef ef) ?_
    refine Zv (q_conv Tryz.it3.h (by rw [Tryz.underlying31]; rfl) rfl (inI64 (by omega) (by omega))) ?_
    refine Zv (Za ef ef) ?_
    refine ZY 3 ?_
    exact Zf ef Zq (⟨by rw [h0]; rfl, rfl⟩)
theorem srt_eq : ∀ {l m : List Int}, l.Perm m → l.Pairwise (· ≤ ·) → m.Pairwise (· < ·) → l = m := by
 intro l m h hl hm
 exact h.eq_of_pairwise (fun a b _ _ h1 h2 => Int.le_antisymm h1 h2) hl (hm.imp fun h => Int.le_of_lt h)
abbrev pts (ps : Nat → Nat) (js : List Bj) : List Value := js.map fun x => pt (ps x.id)
theorem all_S (b : Nat) (st : Br) (ps : Nat → Nat) : Spec Tryz.prog 50 [pt b] [BP b st ps] fun Γ v Θ => ∃ av : SV, v = av.v ∧ av.n = st.js.length ∧ Θ = own av 86 1 (pts ps st.js) :: BP b st ps :: Γ := by
 refine Spec.bpOk fun hok => ?_
 refine Zbd Tryz.func50 rfl Tryz.ntmps50 fun w0 Γ => Zsh ?_
 have hfew := hok.few
 refine S.bpOpen b st ps fun ub jb mb ov iv dv mv sb l hF => ?_
 have hll : l.length ≤ 65535 := by rw [hF.perm.length_eq, List.length_map]; omega
 refine ZY 8 ?_
 refine ZY 7 ?_
 refine Zp (Zc1 Ze (Keys_S jb) ?_)
 rintro v Θ ⟨c, rfl, rfl⟩
 refine Zp (Zc1 Ze (Sorted_S c jb l hll) ?_)
 rintro v Θ ⟨sv, xs, rfl, hsv, hxs, hxp, rfl⟩
 have hx0 : xs = st.js.map fun x => (x.id : Int) := by
  refine srt_eq (hxs.trans ?_) hxp ?_
  ·have := hF.perm.map (·.1)
   rw [List.map_map] at this
   exact this
  ·exact List.pairwise_map.2 (hok.srt.imp fun h => by omega)
 have hxl : xs.length = st.js.length := by rw [hx0, List.length_map]
 have hcells : xs.map kv = st.js.map fun x => Value.int .u32 (x.id : Int) := by rw [hx0, List.map_map]; rfl
 rw [hcells]
 refine S.ownLen sv fun hl1 hl2 hl3 => ?_
 have hmx : maxLen ≤ 9223372036854775807 := by unfold maxLen; omega
 refine S.ent (show Ent _ (own SV.nil 86 1 (pts ps (st.js.take 0)) :: _) from Ent.ownNil 86 1) ?_
 refine ZY 4 ?_
 refine Zl (fun q ρ' Γ' => ∃ (i : Nat) (av : SV), q = st.js.length - i ∧ i ≤ st.js.length ∧ av.n = i ∧ ρ' = [(0, pt b), (3, av.v), (11, sv.v), (12, .int .i64 (sv.n : Int)), (13, .int .i64 (i : Int))] ∧ Γ' = own av 86 1 (pts ps (st.js.take i)) :: own sv 31 1 (st.js.map fun x => Value.int .u32 (x.id : Int)) :: bX b st ps ub jb mb ov iv dv mv sb l Γ) (m := _) (⟨0, SV.nil, rfl, by omega, rfl, rfl, rfl⟩) ?_
 rintro q ρ' Γ' ⟨i, av, hq, hi, hav, rfl, rfl⟩
 refine ZY 5 ?_
 refine Zj ef (fun h1 => ?_) (fun h1 => ?_)
 ·refine S.ownSome sv (by omega) fun sb' so hsa _ _ _ => ?_
  obtain ⟨x, hx⟩ := getE (show i < st.js.length by omega)
  have htk : st.js.take (i + 1) = st.js.take i ++ [x] := by rw [List.take_add_one, hx]; rfl
  have hgx : getJ st.js x.id = some x := getJ_mem hok.srt (List.mem_of_getElem? hx)
  refine ZY 5 ?_
  refine Zv (Zx (i) ef (hsa) ef (by omega)) ?_
  refine Zv (Zo (sv) (i) ef (hsa) (by rw [List.getElem?_map, hx]; rfl)) ?_
  refine ZY 8 ?_
  refine Zy ?_
  refine Zv (q_lookup1 (pt (ps x.id)) Tryz.underlying82 Tryz.underlying31 Tryz.zv86.h rfl rfl rfl (by rw [jE_get hok.srt hF.perm, hgx]; rfl)) ?_
  refine Zp (S.buildSlice (pvs := [(_, _)]) [_] Tryz.underlying99 Tryz.inf86.h rfl rfl ⟨⟨rfl, rfl⟩, trivial⟩ rfl rfl ?_)
  intro b24
  refine Zp (S.appendOw (s := av) (1) ([pt (ps x.id)]) Tryz.underlying99 Tryz.inf86.h rfl rfl rfl (blk_slAt (b := b24) rfl (by unfold maxLen; omega)) (by first | rfl | exact allOne_bcells _) (⟨by omega, by omega⟩) rfl ?_)
  intro av2 hav2
  rw [show pts ps (st.js.take i) ++ [pt (ps x.id)] = pts ps (st.js.take (i + 1)) by rw [htk]; simp]
  refine ZY 3 ?_
  refine Zv (Za ef ef) ?_
  refine ZY 2 ?_
  exact ZX (q - 1) (⟨i + 1, av2, by omega, by omega, by omega, rfl, rfl⟩) (by omega)
 ·rw [show i = st.js.length by omega, List.take_length]
  refine ZY 7 ?_
  refine S.bpClose b st ps ub jb mb ov iv dv mv sb l hF ?_
  exact Zf ef Zq (⟨av, rfl, by omega, rfl⟩)
end BN
end Go.Proofs.YtdackcibfkkniaaGreatDoor
namespace Go.Proofs.YtdackcibfkkniaaGreatDoor
open Go.RowKit
namespace BN
theorem wrap32 (n : Nat) : IntKind.u32.wrap ((n : Int) + 1) = ((u32 (n + 1) : Nat) : Int) := by
 simp only [IntKind.wrap, IntKind.bits, IntKind.signed, Bool.false_and, Bool.false_eq_true, if_false]
 show ((n : Int) + 1) % 4294967296 = (((n + 1) % 4294967296 : Nat) : Int)
 omega
theorem zeroRow_nil (m : Nat) : zeroRow [.slice none 0 0] m = (List.replicate m ((SV.nil, []) : Bb)).map bbV := by
 induction m with
 | zero => rfl
 | succ m ih => rw [List.replicate_succ, List.map_cons, ← ih]; rfl
theorem allsNilB (m : Nat) (Γ : List Assn) : Ent Γ (alls (List.replicate m ((SV.nil, []) : Bb)) bbB :: Γ) := by
 induction m with
 | zero => exact Ent.allsNil _ _
 | succ m ih =>
  rw [List.replicate_succ]
  exact (ih.trans (show Ent _ (bbB (SV.nil, []) :: _) from Ent.ownNil 5 1)).trans (Ent.allsCons bbB _ _ _)
theorem Ent.blobs0 (v : SV) (m : Nat) (Γ : List Assn) : Ent (own v 22 1 (zeroRow [.slice none 0 0] m) :: Γ) (blobs v (List.replicate m []) :: Γ) := by
 have h1 : Ent (own v 22 1 (zeroRow [.slice none 0 0] m) :: Γ) (own v 22 1 ((List.replicate m ((SV.nil, []) : Bb)).map bbV) :: alls (List.replicate m ((SV.nil, []) : Bb)) bbB :: Γ) := by
  rw [zeroRow_nil]
  exact (allsNilB m Γ).cons _
 refine h1.trans ((Ent.pack [_, _] Γ).trans (Ent.mono1 Γ fun _ s => ⟨_, ?_, s⟩))
 rw [List.map_replicate]
theorem mapNil (l : List Nat) : l.map (fun _ => ([] : List Int)) = List.replicate l.length [] := List.map_const' ..
section
variable {n : Nat} {md : Bool} {w0 : WM md} {ρ : Env} {Γ Δ : List Assn} {φ : Act → World → Prop}
theorem S.savClose (q hb : Nat) (v : SV) (id ver credit : Nat) (hv : List Nat) (bs : List (List Int)) [p : Picks [blk q 131 #[.int .u32 (id : Int), .int .u32 (ver : Int), .int .i64 (credit : Int), v.v, .map (some hb), .bool false], mapL hb .i64 (setE hv), blobs v bs] Γ Δ] (k : S n w0 ρ (savB (some q) id (some ⟨ver, credit, hv, false, bs⟩) :: Δ) φ) : S n w0 ρ Γ φ :=
 S.ent (p.ent.trans ((Ent.pack [_, _, _] Δ).trans (Ent.mono1 Δ fun _ s => ⟨hb, v, s⟩))) k
theorem S.savToldClose (q hb : Nat) (v : SV) (id ver credit : Nat) (hv : List Nat) (bs : List (List Int)) [p : Picks [blk q 131 #[.int .u32 (id : Int), .int .u32 (ver : Int), .int .i64 (credit : Int), v.v, .map (some hb), .bool true], mapL hb .i64 (setE hv)] Γ Δ] (k : S n w0 ρ (savB (some q) id (some ⟨ver, credit, hv, true, bs⟩) :: Δ) φ) : S n w0 ρ Γ φ :=
 S.ent (p.ent.trans ((((show Ent Δ ((fun _ => True) :: Δ) from fun h hs => ⟨HL.emp, h, HL.emp_disj _, HL.emp_le _, HL.le.refl _, trivial, hs⟩).cons _).cons _).trans ((Ent.pack [_, _, fun _ => True] Δ).trans (Ent.mono1 Δ fun _ s => ⟨hb, v, s⟩)))) k
theorem S.savOpen (q : Nat) (id : Nat) (s : Sv) [p : Pick (savB (some q) id (some s)) Γ Δ] (k : ∀ (hb : Nat) (v : SV), S n w0 ρ (blk q 131 #[.int .u32 (id : Int), .int .u32 (s.ver : Int), .int .i64 (s.credit : Int), v.v, .map (some hb), .bool s.told] :: mapL hb .i64 (setE s.have_) :: (if s.told then (fun _ => True) else blobs v s.bs) :: Δ) φ) : S n w0 ρ Γ φ := by
 intro a w ha hs hx
 obtain ⟨h0, l0, h1, h2, d, l1, l2, ⟨hb, v, q1⟩, s'⟩ := hs.ent p.ent
 exact k hb v a w ha ⟨h0, l0, (Ent.unpack [_, _, _] Δ) _ ⟨h1, h2, d, l1, l2, q1, s'⟩⟩ hx
end
abbrev saveY (x : Bj) : Bj := { x with ver := u32 (x.ver + 1), sav := some ⟨u32 (x.ver + 1), x.work, [], false, x.at_.map fun _ => []⟩ }
theorem JOk.saveY {N : Nat} {x : Bj} (h : JOk N x) : JOk N (saveY x) := ⟨h.id1, h.id2, h.tier, h.k1, h.kn, h.w, h.cr, h.wk, h.rise, h.at_, h.drop, h.lod, h.ran, h.ld, fun s hs => (by cases hs; exact ⟨List.length_map .., h.wk⟩)⟩
theorem saveR_no {st : Br} {x : Bj} (h : x.work = x.credit ∨ x.sav.isSome ∨ x.drops.isSome ∨ x.state ≠ 2) : saveR st x = st.set x := by rw [saveR, if_pos h]
theorem saveR_yes {st : Br} {x : Bj} (h : ¬ (x.work = x.credit ∨ x.sav.isSome ∨ x.drops.isSome ∨ x.state ≠ 2)) : saveR st x = Br.set { st with orders := st.orders ++ x.at_.map (saveOrd (saveY x)) } (saveY x) := by rw [saveR, if_neg h]
theorem saveR_ok {st : Br} (h : BrOk st) {x : Bj} (hx : JOk st.nodes x) : BrOk (saveR st x) := by
 by_cases hc : x.work = x.credit ∨ x.sav.isSome ∨ x.drops.isSome ∨ x.state ≠ 2
 ·rw [saveR_no hc]; exact h.set hx
 ·rw [saveR_yes hc]; exact (h.oset _).set (x := BN.saveY x) hx.saveY
theorem saveR_same (st : Br) (x : Bj) : (saveR st x).orders.length ≤ st.orders.length + x.at_.length ∧ (saveR st x).images = st.images ∧ (saveR st x).done = st.done ∧ (saveR st x).nodes = st.nodes := by
 by_cases hc : x.work = x.credit ∨ x.sav.isSome ∨ x.drops.isSome ∨ x.state ≠ 2
 ·rw [saveR_no hc]; exact ⟨by show st.orders.length ≤ _; omega, rfl, rfl, rfl⟩
 ·rw [saveR_yes hc]; exact ⟨by show (st.orders ++ _).length ≤ _; rw [List.length_append, List.length_map]; omega, rfl, rfl, rfl⟩
theorem save_set (st : Br) {x y : Bj} (h : x.id = y.id) : saveR (st.set x) y = saveR st y := by
 by_cases hc : y.work = y.credit ∨ y.sav.isSome ∨ y.drops.isSome ∨ y.state ≠ 2
 ·rw [saveR_no hc, saveR_no hc]; exact set_set st h
 ·rw [saveR_yes hc, saveR_yes hc]; exact set_set { st with orders := st.orders ++ y.at_.map (saveOrd (saveY y)) } (x := x) (y := saveY y) h
theorem save_S (b : Nat) (st : Br) (ps : Nat → Nat) (x : Bj) (hx : getJ st.js x.id = some x) (hl : st.orders.length ≤ 900000) : Spec Tryz.prog 87 [pt b, pt (ps x.id)] [BP b st ps] fun Γ _ Θ => Θ = BP b (saveR st x) ps :: Γ := by
 refine Spec.bpOk fun hok => ?_
 have hjx := hok.at_ hx
 have hN := hok.N16
 have hal := hjx.len
 refine Spec.of_body Tryz.func87 rfl Tryz.ntmps87 rfl ?_
 intro w0 Γ
 show S _ w0 [(0, pt b), (1, pt (ps x.id))] (BP b st ps :: Γ) _
 refine S.bjOpen b st ps x hx fun ub jb mb ov iv dv mv sb l i av lb db rb qb hF hi hset hrm hJ => ?_
 by_cases hw : x.work = x.credit
 ·have hg : saveR st x = st.set x := saveR_no (.inl hw)
  refine ZS ?_
  refine ZY 2 ?_
  refine Zd ([blk (ps x.id) 90 (bjC x av lb db rb qb).toArray]) [] (Zra 0 11) ?_
  refine ZY 8 ?_
  refine ZY 3 ?_
  refine Zu 16 true ef ((decide_eq_true (by rw [hw]))) ?_
  refine Zr (Zra 11 21) ?_
  refine ZY 8 ?_
  refine ZY 8 ?_
  refine ZY 5 ?_
  refine ZD ?_
  refine ZY 2 ?_
  refine S.bjClose b st ps ub jb mb ov iv dv mv sb l i x av lb db rb qb hi rfl (hset x rfl) (hF.set hjx) hJ ?_
  exact Zf ef Zq (by rw [hg])
 have hwf : decide ((x.work : Int) = (x.credit : Int)) = false := decide_eq_false (by omega)
 cases hs : x.sav with
 | some s =>
  have hg : saveR st x = st.set x := saveR_no (.inr (.inl (by rw [hs]; rfl)))
  obtain ⟨q, hq⟩ : ∃ q, qb = some q := by have := hJ.s; rw [hs] at this; cases qb with | none => cases this | some q => exact ⟨q, rfl⟩
  subst hq
  refine ZS ?_
  refine ZY 2 ?_
  refine Zd ([blk (ps x.id) 90 (bjC x av lb db rb (some q)).toArray]) [] (Zra 0 11) ?_
  refine ZY 8 ?_
  refine ZY 3 ?_
  refine Zu 16 false ef (hwf) ?_
  refine Zr (Zra 11 7) ?_
  refine ZY 7 ?_
  refine Zr (Zra 18 14) ?_
  refine ZY 8 ?_
  refine ZY 6 ?_
  refine ZD ?_
  refine ZY 2 ?_
  refine S.bjClose b st ps ub jb mb ov iv dv mv sb l i x av lb db rb (some q) hi rfl (hset x rfl) (hF.set hjx) hJ ?_
  exact Zf ef Zq (by rw [hg])
 | none =>
 have hqb : qb = none := by have := hJ.s; rw [hs] at this; cases qb with | none => rfl | some q => cases this
 subst hqb
 cases hd : x.drops with
 | some d =>
  have hg : saveR st x = st.set x := saveR_no (.inr (.inr (.inl (by rw [hd]; rfl))))
  obtain ⟨q, hq⟩ : ∃ q, db = some q := by have := hJ.d; rw [hd] at this; cases db with | none => cases this | some q => exact ⟨q, rfl⟩
  subst hq
  refine ZS ?_
  refine ZY 2 ?_
  refine Zd ([blk (ps x.id) 90 (bjC x av lb (some q) rb none).toArray]) [] (Zra 0 11) ?_
  refine ZY 8 ?_
  refine ZY 3 ?_
  refine Zu 16 false ef (hwf) ?_
  refine Zr (Zra 11 7) ?_
  refine ZY 7 ?_
  refine Zr (Zra 18 7) ?_
  refine ZY 4 ?_
  refine Zwg ef ef ef ef (q_neMN Tryz.underlying81 rfl rfl) ?_
  refine ZY 2 ?_
  refine Zr (Zra 25 7) ?_
  refine ZY 7 ?_
  refine ZD ?_
  refine ZY 2 ?_
  refine S.bjClose b st ps ub jb mb ov iv dv mv sb l i x av lb (some q) rb none hi rfl (hset x rfl) (hF.set hjx) hJ ?_
  exact Zf ef Zq (by rw [hg])
 | none =>
  have hdb : db = none := by have := hJ.d; rw [hd] at this; cases db with | none => rfl | some q => cases this
  subst hdb
  have han := hJ.an
  obtain ⟨x1, hx1⟩ : ∃ x1 : Bj, x1 = saveY x := ⟨_, rfl⟩
  have hj1 : JOk st.nodes x1 := by rw [hx1]; exact hjx.saveY
  have hid : x1.id = x.id := by rw [hx1]
  refine ZS ?_
  refine ZY 2 ?_
  refine Zd ([blk (ps x.id) 90 (bjC x av lb none rb none).toArray]) [] (Zra 0 11) ?_
  refine ZY 8 ?_
  refine ZY 3 ?_
  refine Zu 16 false ef (hwf) ?_
  refine Zr (Zra 11 7) ?_
  refine ZY 7 ?_
  refine Zr (Zra 18 7) ?_
  refine ZY 4 ?_
  refine Zwg ef ef ef ef (q_neMN Tryz.underlying81 rfl rfl) ?_
  refine ZY 2 ?_
  refine Zr (Zra 25 7) ?_
  refine ZY 7 ?_
  refine ZD ?_
  refine Zj ef (fun h1 => ?_) (fun h1 => ?_)
  ·have hg : saveR st x = st.set x := saveR_no (.inr (.inr (.inr (by omega))))
   refine Zy ?_
   refine S.bjClose b st ps ub jb mb ov iv dv mv sb l i x av lb none rb none hi rfl (hset x rfl) (hF.set hjx) hJ ?_
   exact Zf ef Zq (by rw [hg])
  ·have hg : saveR st x = Br.set { st with orders := st.orders ++ x.at_.map (saveOrd x1) } x1 := by
    rw [hx1]
    refine saveR_yes fun h => ?_
    rcases h with h | h | h | h
    ·exact hw h
    ·rw [hs] at h; cases h
    ·rw [hd] at h; cases h
    ·exact h (by omega)
   refine ZY 7 ?_
   refine Zv (q_addW rfl rfl) ?_
   rw [wrap32]
   refine ZY 5 ?_
   refine Zd ([blk (ps x.id) 90 (bjC { x with ver := u32 (x.ver + 1) } av lb none rb none).toArray]) [26] (Zra 0 19) ?_
   refine ZY 8 ?_
   refine ZY 8 ?_
   refine ZY 3 ?_
   refine Z2 (i := 19) (j := 21) ef ef ef ?_ ?_
   ·refine (S.makeSlice (av.n) (av.n) Tryz.underlying58 Tryz.inf22.h rfl rfl rfl rfl rfl (by omega) (by omega) rfl ?_)
    intro bv hbv
    refine Zk [20] ?_
    refine Zw ef (q_build (pvs := [(_, _), (_, _), (_, _), (_, _)]) [_, _, _, _] Tryz.z60.h Tryz.p60.h ⟨⟨rfl, rfl⟩, ⟨rfl, rfl⟩, ⟨rfl, rfl⟩, ⟨rfl, rfl⟩, trivial⟩ rfl) ?_
    refine Z1 (i := 21) ef ef ?_
    refine (S.makeMap .i64 rfl ?_)
    intro b66
    refine Zk [22] ?_
    refine Zw ef (q_build (pvs := [(_, _), (_, _)]) [_, _, _, _, _, _] Tryz.z131.h Tryz.p131.h ⟨⟨rfl, rfl⟩, ⟨rfl, rfl⟩, trivial⟩ rfl) ?_
    refine Z1 (i := 23) ef ef ?_
    refine (S.box (cs := [_, _, _, _, _, _]) rfl rfl rfl ?_)
    intro b68
    refine S.conv (mapL b66 .i64 []) (show Ent _ (mapL b66 .i64 (setE []) :: _) from Ent.refl _) ?_
    refine Zk [24, 25] ?_
    refine ZY 2 ?_
    refine Z1 (i := 26) ef ef ?_
    refine (S.store (cs' := [_, _, _, _, _, _, _, _, _, _, _, _, _, _, _, _, _]) Eo.h rfl rfl rfl rfl rfl ?_)
    refine ZL ([]) [] ?_
    refine ZD ?_
    refine ZY 2 ?_
    refine S.blkAs (ps x.id) (bjC { x with ver := u32 (x.ver + 1) } av lb none rb (some b68)).toArray rfl ?_
    refine ZY 8 ?_
    refine Zl (fun k ρ' Γ' => ∃ (e : Nat) (os : List Od) (ov2 : SV), k = x.at_.length - e ∧ e ≤ x.at_.length ∧ os = st.orders ++ (x.at_.take e).map (saveOrd x1) ∧ ov2.n = os.length ∧ ρ' = [(0, pt b), (1, pt (ps x.id)), (74, av.v), (75, .int .i64 (av.n : Int)), (76, .int .i64 (e : Int))] ∧   Γ' = blk (ps x.id) 90 (bjC { x with ver := u32 (x.ver + 1) } av lb none rb (some b68)).toArray :: blk b68 131 #[.int .u32 (x.id : Int), .int .u32 (u32 (x.ver + 1) : Nat), .int .i64 (x.work : Int), bv.v, .map (some b66), .bool false] :: mapL b66 .i64 (setE []) :: own bv 22 1 (zeroRow [.slice none 0 0] av.n) :: own av 3 1 (nds x.at_) :: optS lb x.loaded :: optS none x.drops :: optR rb x.ran :: blk b 84 (bC st ub jb mb ov2 iv dv mv sb).toArray :: mapL ub .i64 (setE st.up) :: mapL jb .u32 l :: jT ps st.js i :: jD ps st.js i :: MI mb st.m :: own ov2 97 14 (os.flatMap odC) :: imgs iv st.images :: own dv 31 1 (idsV st.done) :: own mv 31 1 (idsV st.members) :: optS sb st.stops :: Γ) (m := _) (⟨0, st.orders, ov, rfl, by omega, by simp, hF.on, rfl, rfl⟩) ?_
    rintro k ρ' Γ' ⟨e, os, ov2, hk, he, hos, hov2, rfl, rfl⟩
    have hol : os.length ≤ 900016 := by rw [hos, List.length_append, List.length_map, List.length_take]; omega
    refine ZY 5 ?_
    refine Zj ef (fun h2 => ?_) (fun h2 => ?_)
    ·refine S.ownSome av (by omega) fun ab ao haa _ _ _ => ?_
     obtain ⟨y, hy⟩ := getE (show e < x.at_.length by omega)
     have htk : x.at_.take (e + 1) = x.at_.take e ++ [y] := by rw [List.take_add_one, hy]; rfl
     have hos2 : os ++ [((y, { kind := 8, job := x.id, ver := u32 (x.ver + 1), credit := x.work }) : Od)] = st.orders ++ (x.at_.take (e + 1)).map (saveOrd x1) := by rw [hos, htk, List.map_append, List.append_assoc, hx1]; rfl
     refine ZY 5 ?_
     refine Zv (Zx (e) ef (haa) ef (by omega)) ?_
     refine Zv (Zo (av) (e) ef (haa) (by rw [List.getElem?_map, hy]; rfl)) ?_
     refine ZY 2 ?_
     refine Zd ([blk (ps x.id) 90 (bjC { x with ver := u32 (x.ver + 1) } av lb none rb (some b68)).toArray]) [] (Zra 0 16) ?_
     refine ZY 8 ?_
     refine ZY 7 ?_
     refine Zw ef (q_build (pvs := [(_, _), (_, _), (_, _), (_, _)]) [_, _, _, _, _, _, _, _, _, _, _, _, _] Tryz.z72.h Tryz.p72.h ⟨⟨rfl, rfl⟩, ⟨rfl, rfl⟩, ⟨rfl, rfl⟩, ⟨rfl, rfl⟩, trivial⟩ rfl) ?_
     refine Z1 (i := 16) ef ef ?_
     refine  (Zc1 Ze (order_S b st ub jb mb ov2 iv dv mv sb y { kind := 8, job := x.id, ver := u32 (x.ver + 1), credit := x.work } os hov2 (by omega)) ?_)
     rintro v Θ ⟨ov3, hov3, rfl⟩
     refine Zk [] ?_
     refine ZD ?_
     refine Zy ?_
     refine Zv (Za ef ef) ?_
     refine ZY 2 ?_
     exact ZX (k - 1) (⟨e + 1, os ++ [((y, { kind := 8, job := x.id, ver := u32 (x.ver + 1), credit := x.work }) : Od)], ov3, by omega, by omega, hos2, hov3, rfl, rfl⟩) (by omega)
    ·rw [show e = x.at_.length by omega, List.take_length] at hos
     refine Zy ?_
     refine S.blkAs (ps x.id) (bjC x1 av lb none rb (some b68)).toArray (by rw [hx1]) ?_
     refine S.conv (own bv 22 1 (zeroRow [.slice none 0 0] av.n)) (Ent.blobs0 bv av.n _) ?_
     rw [show List.replicate av.n ([] : List Int) = x.at_.map fun _ => [] by rw [mapNil, han]]
     refine S.savClose b68 b66 bv x.id (u32 (x.ver + 1)) x.work [] (x.at_.map fun _ => []) ?_
     refine S.sub (jX (ps x.id) x1 av lb none rb (some b68) (bR b { st with orders := os } ps ub jb mb ov2 iv dv mv sb l i Γ)) (e := by subst hx1; infer_instance) ?_
     refine S.bjClose b { st with orders := os } ps ub jb mb ov2 iv dv mv sb l i x1 av lb none rb (some b68) hi hid (hset x1 hid) (BF.set (st := { st with orders := os }) ⟨hok.oset os, hF.perm, hov2, hF.im, hF.dn, hF.mn, hF.sn⟩ hj1) ⟨by rw [hx1]; exact hJ.an, by rw [hx1]; exact hJ.l, by rw [hx1]; exact hJ.d, by rw [hx1]; exact hJ.r, by rw [hx1]; rfl⟩ ?_
     exact Zfn ef Zq (by rw [hg, ← hos])
   ·refine (S.makeMap .i64 rfl ?_)
    intro b66
    refine Zk [] ?_
    refine Z1 (i := 19) ef ef ?_
    refine (S.makeSlice (av.n) (av.n) Tryz.underlying58 Tryz.inf22.h rfl rfl rfl rfl rfl (by omega) (by omega) rfl ?_)
    intro bv hbv
    refine Zk [20, 22] ?_
    refine Zw ef (q_build (pvs := [(_, _), (_, _), (_, _), (_, _)]) [_, _, _, _] Tryz.z60.h Tryz.p60.h ⟨⟨rfl, rfl⟩, ⟨rfl, rfl⟩, ⟨rfl, rfl⟩, ⟨rfl, rfl⟩, trivial⟩ rfl) ?_
    refine Zw ef (q_build (pvs := [(_, _), (_, _)]) [_, _, _, _, _, _] Tryz.z131.h Tryz.p131.h ⟨⟨rfl, rfl⟩, ⟨rfl, rfl⟩, trivial⟩ rfl) ?_
    refine Z1 (i := 23) ef ef ?_
    refine (S.box (cs := [_, _, _, _, _, _]) rfl rfl rfl ?_)
    intro b68
    refine S.conv (mapL b66 .i64 []) (show Ent _ (mapL b66 .i64 (setE []) :: _) from Ent.refl _) ?_
    refine Zk [24, 25] ?_
    refine ZY 2 ?_
    refine Z1 (i := 26) ef ef ?_
    refine (S.store (cs' := [_, _, _, _, _, _, _, _, _, _, _, _, _, _, _, _, _]) Eo.h rfl rfl rfl rfl rfl ?_)
    refine ZL ([]) [] ?_
    refine ZD ?_
    refine ZY 2 ?_
    refine S.blkAs (ps x.id) (bjC { x with ver := u32 (x.ver + 1) } av lb none rb (some b68)).toArray rfl ?_
    refine ZY 8 ?_
    refine Zl (fun k ρ' Γ' => ∃ (e : Nat) (os : List Od) (ov2 : SV), k = x.at_.length - e ∧ e ≤ x.at_.length ∧ os = st.orders ++ (x.at_.take e).map (saveOrd x1) ∧ ov2.n = os.length ∧ ρ' = [(0, pt b), (1, pt (ps x.id)), (74, av.v), (75, .int .i64 (av.n : Int)), (76, .int .i64 (e : Int))] ∧   Γ' = blk (ps x.id) 90 (bjC { x with ver := u32 (x.ver + 1) } av lb none rb (some b68)).toArray :: blk b68 131 #[.int .u32 (x.id : Int), .int .u32 (u32 (x.ver + 1) : Nat), .int .i64 (x.work : Int), bv.v, .map (some b66), .bool false] :: mapL b66 .i64 (setE []) :: own bv 22 1 (zeroRow [.slice none 0 0] av.n) :: own av 3 1 (nds x.at_) :: optS lb x.loaded :: optS none x.drops :: optR rb x.ran :: blk b 84 (bC st ub jb mb ov2 iv dv mv sb).toArray :: mapL ub .i64 (setE st.up) :: mapL jb .u32 l :: jT ps st.js i :: jD ps st.js i :: MI mb st.m :: own ov2 97 14 (os.flatMap odC) :: imgs iv st.images :: own dv 31 1 (idsV st.done) :: own mv 31 1 (idsV st.members) :: optS sb st.stops :: Γ) (m := _) (⟨0, st.orders, ov, rfl, by omega, by simp, hF.on, rfl, rfl⟩) ?_
    rintro k ρ' Γ' ⟨e, os, ov2, hk, he, hos, hov2, rfl, rfl⟩
    have hol : os.length ≤ 900016 := by rw [hos, List.length_append, List.length_map, List.length_take]; omega
    refine ZY 5 ?_
    refine Zj ef (fun h2 => ?_) (fun h2 => ?_)
    ·refine S.ownSome av (by omega) fun ab ao haa _ _ _ => ?_
     obtain ⟨y, hy⟩ := getE (show e < x.at_.length by omega)
     have htk : x.at_.take (e + 1) = x.at_.take e ++ [y] := by rw [List.take_add_one, hy]; rfl
     have hos2 : os ++ [((y, { kind := 8, job := x.id, ver := u32 (x.ver + 1), credit := x.work }) : Od)] = st.orders ++ (x.at_.take (e + 1)).map (saveOrd x1) := by rw [hos, htk, List.map_append, List.append_assoc, hx1]; rfl
     refine ZY 5 ?_
     refine Zv (Zx (e) ef (haa) ef (by omega)) ?_
     refine Zv (Zo (av) (e) ef (haa) (by rw [List.getElem?_map, hy]; rfl)) ?_
     refine ZY 2 ?_
     refine Zd ([blk (ps x.id) 90 (bjC { x with ver := u32 (x.ver + 1) } av lb none rb (some b68)).toArray]) [] (Zra 0 16) ?_
     refine ZY 8 ?_
     refine ZY 7 ?_
     refine Zw ef (q_build (pvs := [(_, _), (_, _), (_, _), (_, _)]) [_, _, _, _, _, _, _, _, _, _, _, _, _] Tryz.z72.h Tryz.p72.h ⟨⟨rfl, rfl⟩, ⟨rfl, rfl⟩, ⟨rfl, rfl⟩, ⟨rfl, rfl⟩, trivial⟩ rfl) ?_
     refine Z1 (i := 16) ef ef ?_
     refine  (Zc1 Ze (order_S b st ub jb mb ov2 iv dv mv sb y { kind := 8, job := x.id, ver := u32 (x.ver + 1), credit := x.work } os hov2 (by omega)) ?_)
     rintro v Θ ⟨ov3, hov3, rfl⟩
     refine Zk [] ?_
     refine ZD ?_
     refine Zy ?_
     refine Zv (Za ef ef) ?_
     refine ZY 2 ?_
     exact ZX (k - 1) (⟨e + 1, os ++ [((y, { kind := 8, job := x.id, ver := u32 (x.ver + 1), credit := x.work }) : Od)], ov3, by omega, by omega, hos2, hov3, rfl, rfl⟩) (by omega)
    ·rw [show e = x.at_.length by omega, List.take_length] at hos
     refine Zy ?_
     refine S.blkAs (ps x.id) (bjC x1 av lb none rb (some b68)).toArray (by rw [hx1]) ?_
     refine S.conv (own bv 22 1 (zeroRow [.slice none 0 0] av.n)) (Ent.blobs0 bv av.n _) ?_
     rw [show List.replicate av.n ([] : List Int) = x.at_.map fun _ => [] by rw [mapNil, han]]
     refine S.savClose b68 b66 bv x.id (u32 (x.ver + 1)) x.work [] (x.at_.map fun _ => []) ?_
     refine S.sub (jX (ps x.id) x1 av lb none rb (some b68) (bR b { st with orders := os } ps ub jb mb ov2 iv dv mv sb l i Γ)) (e := by subst hx1; infer_instance) ?_
     refine S.bjClose b { st with orders := os } ps ub jb mb ov2 iv dv mv sb l i x1 av lb none rb (some b68) hi hid (hset x1 hid) (BF.set (st := { st with orders := os }) ⟨hok.oset os, hF.perm, hov2, hF.im, hF.dn, hF.mn, hF.sn⟩ hj1) ⟨by rw [hx1]; exact hJ.an, by rw [hx1]; exact hJ.l, by rw [hx1]; exact hJ.d, by rw [hx1]; exact hJ.r, by rw [hx1]; rfl⟩ ?_
     exact Zfn ef Zq (by rw [hg, ← hos])
abbrev ranX (x : Bj) : Bj := { x with ran := none }
abbrev cntX (x : Bj) (r : List Rn) : Bj := { x with ran := none, work := min (x.work + overlapR (r.map (·.2))) x.w }
theorem JOk.ranX {N : Nat} {x : Bj} (h : JOk N x) : JOk N (ranX x) := ⟨h.id1, h.id2, h.tier, h.k1, h.kn, h.w, h.cr, h.wk, h.rise, h.at_, h.drop, h.lod, fun r hr => (by cases hr), h.ld, h.svl⟩
theorem JOk.cntX {N : Nat} {x : Bj} (h : JOk N x) (r : List Rn) : JOk N (cntX x r) := ⟨h.id1, h.id2, h.tier, h.k1, h.kn, h.w, h.cr, Nat.min_le_right .., h.rise, h.at_, h.drop, h.lod, fun r hr => (by cases hr), h.ld, h.svl⟩
theorem countR_ok {st : Br} (h : BrOk st) {x : Bj} (hx : JOk st.nodes x) : BrOk (countR st x) := by
 unfold countR
 split
 ·exact h.set hx
 ·split
  ·exact h.set (x := BN.ranX x) hx.ranX
  ·exact saveR_ok h (x := BN.cntX x _) (hx.cntX _)
theorem countR_same (st : Br) (x : Bj) : (countR st x).orders.length ≤ st.orders.length + x.at_.length ∧ (countR st x).images = st.images ∧ (countR st x).done = st.done ∧ (countR st x).nodes = st.nodes := by
 unfold countR
 split
 ·exact ⟨by show st.orders.length ≤ _; omega, rfl, rfl, rfl⟩
 ·split
  ·exact ⟨by show st.orders.length ≤ _; omega, rfl, rfl, rfl⟩
  ·exact saveR_same st (cntX x _)
theorem Ent.optR1 {q : Nat} {s : Option (List Rn)} {r : List Rn} (h : s = some r) (Γ : List Assn) : Ent (optR (some q) s :: Γ) (mapL q .i64 (ranE r) :: Γ) := by rw [h]; exact Ent.refl _
theorem Ent.optR2 {q : Nat} {s : Option (List Rn)} {r : List Rn} (h : s = some r) (Γ : List Assn) : Ent (mapL q .i64 (ranE r) :: Γ) (optR (some q) s :: Γ) := by rw [h]; exact Ent.refl _
theorem count_S (b : Nat) (st : Br) (ps : Nat → Nat) (x : Bj) (hx : getJ st.js x.id = some x) (hl : st.orders.length ≤ 900000) : Spec Tryz.prog 95 [pt b, pt (ps x.id)] [BP b st ps] fun Γ _ Θ => Θ = BP b (countR st x) ps :: Γ := by
 refine Spec.bpOk fun hok => ?_
 have hjx := hok.at_ hx
 have hN := hok.N16
 have hal := hjx.len
 refine Spec.of_body Tryz.func95 rfl Tryz.ntmps95 rfl ?_
 intro w0 Γ
 show S _ w0 [(0, pt b), (1, pt (ps x.id))] (BP b st ps :: Γ) _
 refine S.bjOpen b st ps x hx fun ub jb mb ov iv dv mv sb l i av lb db rb qb hF hi hset hrm hJ => ?_
 cases hr : x.ran with
 | none =>
  have hg : countR st x = st.set x := by rw [countR, hr]
  have hrb : rb = none := by have := hJ.r; rw [hr] at this; cases rb with | none => rfl | some q => cases this
  subst hrb
  refine ZS ?_
  refine ZY 8 ?_
  refine ZY 8 ?_
  refine Zy ?_
  refine Zd ([blk (ps x.id) 90 (bjC x av lb db none qb).toArray]) [] [0, 1, 2] ?_
  refine Zy ?_
  refine Zw ef (q_eqMN Tryz.underlying88 rfl rfl) ?_
  refine Zy ?_
  refine Zr (Zra 3 16) ?_
  refine ZY 8 ?_
  refine ZY 8 ?_
  refine ZD ?_
  refine ZY 2 ?_
  refine S.bjClose b st ps ub jb mb ov iv dv mv sb l i x av lb db none qb hi rfl (hset x rfl) (hF.set hjx) hJ ?_
  exact Zf ef Zq (by rw [hg])
 | some r =>
 obtain ⟨q, hq⟩ : ∃ q, rb = some q := by have := hJ.r; rw [hr] at this; cases rb with | none => cases this | some q => exact ⟨q, rfl⟩
 subst hq
 cases hd : x.drops with
 | some d =>
  have hg : countR st x = st.set (ranX x) := by rw [countR, hr]; exact if_pos (.inl (by rw [hd]; rfl))
  obtain ⟨qd, hqd⟩ : ∃ q, db = some q := by have := hJ.d; rw [hd] at this; cases db with | none => cases this | some q => exact ⟨q, rfl⟩
  subst hqd
  refine ZS ?_
  refine ZY 8 ?_
  refine ZY 8 ?_
  refine Zy ?_
  refine Zd ([blk (ps x.id) 90 (bjC (ranX x) av lb (some qd) none qb).toArray]) [] [0, 1, 2] ?_
  refine Zy ?_
  refine Zw ef (q_eqMN Tryz.underlying88 rfl rfl) ?_
  refine Zy ?_
  refine Zr (Zra 3 7) ?_
  refine ZY 4 ?_
  refine Zwg ef ef ef ef (q_neMN Tryz.underlying81 rfl rfl) ?_
  refine ZY 2 ?_
  refine Zr (Zra 10 9) ?_
  refine ZY 8 ?_
  refine Zy ?_
  refine ZD ?_
  refine ZY 2 ?_
  refine S.ent (optRNil _) ?_
  refine S.bjClose b st ps ub jb mb ov iv dv mv sb l i (ranX x) av lb (some qd) none qb hi rfl (hset (ranX x) rfl) (hF.set hjx.ranX) ⟨hJ.an, hJ.l, hJ.d, rfl, hJ.s⟩ ?_
  exact Zf ef Zq (by rw [hg])
 | none =>
  have hdb : db = none := by have := hJ.d; rw [hd] at this; cases db with | none => rfl | some q => cases this
  subst hdb
  have han := hJ.an
  have hrl : (ranE r).length = r.length := List.length_map ..
  refine S.conv (optR (some q) x.ran) (Ent.optR1 hr _) ?_
  obtain ⟨x1, hx1⟩ : ∃ x1 : Bj, x1 = cntX x r := ⟨_, rfl⟩
  have hj1 : JOk st.nodes x1 := by rw [hx1]; exact hjx.cntX r
  have hid : x1.id = x.id := by rw [hx1]
  have hw1 : x1.work = min (x.work + overlapR (r.map (·.2))) x.w := by rw [hx1]
  have hx2 : getJ (st.set x1).js x1.id = some x1 := get_set st (by rw [hid]; exact hx)
  have hspec : Spec Tryz.prog 87 [pt b, pt (ps x.id)] [BP b (st.set x1) ps] fun Γ _ Θ => Θ = BP b (saveR (st.set x1) x1) ps :: Γ := by
   rw [← hid]
   exact save_S b _ ps x1 hx2 hl
  refine ZS ?_
  refine ZY 8 ?_
  refine ZY 8 ?_
  refine Zy ?_
  refine Zd ([blk (ps x.id) 90 (bjC (ranX x) av lb none none qb).toArray, mapL q .i64 (ranE r)]) [] [0, 1, 2] ?_
  refine Zy ?_
  refine Zw ef (q_eqMN Tryz.underlying88 rfl rfl) ?_
  refine Zy ?_
  refine Zr (Zra 3 7) ?_
  refine ZY 4 ?_
  refine Zwg ef ef ef ef (q_neMN Tryz.underlying81 rfl rfl) ?_
  refine ZY 2 ?_
  refine Zr (Zra 10 9) ?_
  refine ZY 8 ?_
  refine Zy ?_
  refine ZD ?_
  refine Zj ef (fun h1 => ?_) (fun h1 => ?_)
  ·have hg : countR st x = st.set (ranX x) := by rw [countR, hr]; exact if_pos (.inr (by omega))
   refine Zy ?_
   refine S.ent (optRNil _) ?_
   refine S.bjClose b st ps ub jb mb ov iv dv mv sb l i (ranX x) av lb none none qb hi rfl (hset (ranX x) rfl) (hF.set hjx.ranX) ⟨hJ.an, hJ.l, hJ.d, rfl, hJ.s⟩ ?_
   exact Zf ef Zq (by rw [hg])
  ·have hg : countR st x = saveR st x1 := by
    rw [hx1, countR, hr]
    exact if_neg (fun h => by
     rcases h with h | h
     ·rw [hd] at h; cases h
     ·exact h (by omega))
   refine ZY 4 ?_
   refine Zp (Zc1 Ze (Values_S q) ?_)
   rintro v Θ ⟨c, rfl, rfl⟩
   refine Zp (Zc1 Ze (Collect2_S c q r (by omega)) ?_)
   rintro v Θ ⟨sv, xs, rfl, hsv, hxs, rfl⟩
   have hxb : ∀ y ∈ xs, y.1 ≤ 4294967295 ∧ y.2 ≤ 4294967295 := fun y hy => by
    obtain ⟨z, hz, e⟩ := List.mem_map.1 ((hxs.mem_iff).1 hy)
    rw [← e]
    exact hjx.ran r hr z hz
   have hov := overlapR_perm hxs
   have hole := overlapR_le xs
   have hwb := hjx.wk
   have hww := hjx.w
   refine Zp (Zcp Ze (overlap_S sv xs hsv hxb) ?_)
   refine ZY 3 ?_
   refine Zd ([blk (ps x.id) 90 (bjC (ranX x) av lb none none qb).toArray]) [15] [0, 1, 2, 3, 4, 5, 7, 8, 9, 10, 11] ?_
   refine ZY 8 ?_
   refine ZY 3 ?_
   refine Z1 (i := 6) ef ef ?_
   refine  (Zcp Ze (cadd_S x.work (overlapR xs) (by omega) (by omega)) ?_)
   refine Zk [] ?_
   refine Z1 (i := 12) ef ef ?_
   refine  (Zc1 Ze (keep_S (x.work + overlapR xs) x.w (by omega) (by omega)) ?_)
   rintro v Θ ⟨rfl, hG⟩
   rw [hG, hov, ← hw1]
   refine Zk [13, 14] ?_
   refine ZY 2 ?_
   refine Z1 (i := 15) ef ef ?_
   refine (S.store (cs' := [_, _, _, _, _, _, _, _, _, _, _, _, _, _, _, _, _]) Eo.h rfl rfl rfl rfl rfl ?_)
   refine ZL ([]) [] ?_
   refine ZD ?_
   refine ZY 3 ?_
   refine S.blkAs (ps x.id) (bjC x1 av lb none none qb).toArray (by rw [hx1]) ?_
   refine S.ent (optRNil _) ?_
   refine S.sub (jX (ps x.id) x1 av lb none none qb (bR b st ps ub jb mb ov iv dv mv sb l i Γ)) (e := by subst hx1; infer_instance) ?_
   refine S.bjClose b st ps ub jb mb ov iv dv mv sb l i x1 av lb none none qb hi hid (hset x1 hid) (hF.set hj1) ⟨by rw [hx1]; exact hJ.an, by rw [hx1]; exact hJ.l, by rw [hx1]; exact hJ.d, by rw [hx1]; rfl, by rw [hx1]; exact hJ.s⟩ ?_
   refine Zp (Zc1 Ze (hspec) ?_)
   rintro v Θ rfl
   rw [save_set st (x := x1) (y := x1) rfl]
   refine Zy ?_
   exact Zfn ef Zq (by rw [hg])
end BN
end Go.Proofs.YtdackcibfkkniaaGreatDoor
namespace Go.Proofs.YtdackcibfkkniaaGreatDoor
open Go.RowKit
namespace BN
theorem set_oth (st : Br) {x : Bj} {id : Nat} (h : id ≠ x.id) : getJ (st.set x).js id = getJ st.js id := by
 show getJ (setJ st.js x) id = _
 rw [getJ_set, if_neg h]
theorem rm_oth (js : List Bj) {id k : Nat} (h : id ≠ k) : getJ (rmJ js k) id = getJ js id := by
 unfold getJ rmJ
 induction js with
 | nil => rfl
 | cons y js ih =>
  by_cases hy : y.id = k
  ·have h1 : decide (y.id ≠ k) = false := by simp [hy]
   have h2 : decide (y.id = id) = false := decide_eq_false (fun e => h (e.symm.trans hy))
   simp only [List.filter_cons, List.find?_cons, h1, h2]
   exact ih
  ·have h1 : decide (y.id ≠ k) = true := by simp [hy]
   simp only [List.filter_cons, List.find?_cons, h1, if_true]
   rw [ih]
theorem gone_oth (st : Br) {x : Bj} {id : Nat} (h : id ≠ x.id) : getJ (goneR st x).js id = getJ st.js id := by
 unfold goneR
 split
 ·split
  ·exact set_oth { st with m := (removeR st.m x.id).2 } (x := anew x) h
  ·exact rm_oth st.js h
 ·exact set_oth st h
theorem drop_oth (st : Br) {x : Bj} (a : Bool) {id : Nat} (h : id ≠ x.id) : getJ (dropR st x a).js id = getJ st.js id := by
 cases hd : x.drops with
 | some d => rw [drop_some hd]; exact gone_oth st (x := dropX x a d) h
 | none => rw [drop_none hd]; exact gone_oth { st with orders := st.orders ++ (upOf st x).map (dropOrd x.id) } (x := dropX x a (upOf st x)) h
theorem save_oth (st : Br) {x : Bj} {id : Nat} (h : id ≠ x.id) : getJ (saveR st x).js id = getJ st.js id := by
 by_cases hc : x.work = x.credit ∨ x.sav.isSome ∨ x.drops.isSome ∨ x.state ≠ 2
 ·rw [saveR_no hc]; exact set_oth st h
 ·rw [saveR_yes hc]; exact set_oth { st with orders := st.orders ++ x.at_.map (saveOrd (saveY x)) } (x := saveY x) h
theorem count_oth (st : Br) {x : Bj} {id : Nat} (h : id ≠ x.id) : getJ (countR st x).js id = getJ st.js id := by
 unfold countR
 split
 ·exact set_oth st h
 ·split
  ·exact set_oth st (x := ranX x) h
  ·exact save_oth st (x := cntX x _) h
structure EachOk (f : Br → Bj → Br) : Prop where
 ok : ∀ st x, BrOk st → getJ st.js x.id = some x → BrOk (f st x)
 oth : ∀ st x id, id ≠ x.id → getJ (f st x).js id = getJ st.js id
 ord : ∀ st x, BrOk st → getJ st.js x.id = some x → (f st x).orders.length ≤ st.orders.length + 16
theorem each_snoc (f : Br → Bj → Br) (st : Br) (l : List Nat) (id : Nat) : each f st (l ++ [id]) = match getJ (each f st l).js id with
  | none => each f st l
  | some x => f (each f st l) x := by
 unfold each
 rw [List.foldl_append]
 rfl
theorem ids_take {st : Br} {e : Nat} {x : Bj} (hx : st.js[e]? = some x) : st.ids.take (e + 1) = st.ids.take e ++ [x.id] := by
 rw [List.take_add_one, List.getElem?_map, hx]
 rfl
structure EachInv (f : Br → Bj → Br) (st : Br) (e : Nat) : Prop where
 ok : BrOk (each f st (st.ids.take e))
 ord : (each f st (st.ids.take e)).orders.length ≤ st.orders.length + 16 * e
 here : ∀ i x, e ≤ i → st.js[i]? = some x → getJ (each f st (st.ids.take e)).js x.id = some x
theorem each_step {f : Br → Bj → Br} {st : Br} {e : Nat} (h : EachInv f st e) {x : Bj} (hx : st.js[e]? = some x) : each f st (st.ids.take (e + 1)) = f (each f st (st.ids.take e)) x := by
 rw [ids_take hx, each_snoc, h.here e x (Nat.le_refl e) hx]
theorem each_inv {f : Br → Bj → Br} (hE : EachOk f) {st : Br} (h : BrOk st) : ∀ e, e ≤ st.js.length → EachInv f st e := by
 intro e
 induction e with
 | zero => exact fun _ => ⟨h, Nat.le_refl _, fun i x _ hx => getJ_mem h.srt (List.mem_of_getElem? hx)⟩
 | succ e ih =>
  intro he
  have hi := ih (by omega)
  obtain ⟨x, hx⟩ := getE (show e < st.js.length by omega)
  have hh := hi.here e x (Nat.le_refl e) hx
  have hs := each_step hi hx
  refine ⟨by rw [hs]; exact hE.ok _ x hi.ok hh, ?_, fun i y hiy hy => ?_⟩
  ·rw [hs]
   have := hE.ord _ x hi.ok hh
   have := hi.ord
   omega
  ·rw [hs, hE.oth _ x _ ?_]
   ·exact hi.here i y (by omega) hy
   ·obtain ⟨h1, h2⟩ := List.getElem?_eq_some_iff.1 hx
    obtain ⟨h3, h4⟩ := List.getElem?_eq_some_iff.1 hy
    have := List.pairwise_iff_getElem.1 h.srt e i h1 h3 (by omega)
    rw [h2, h4] at this
    omega
theorem each_all {f : Br → Bj → Br} {st : Br} {e : Nat} (he : e = st.js.length) : each f st (st.ids.take e) = each f st st.ids := by rw [he, show st.js.length = st.ids.length from (List.length_map ..).symm, List.take_length]
theorem each_ok {f : Br → Bj → Br} (hE : EachOk f) {st : Br} (h : BrOk st) : BrOk (each f st st.ids) := by
 rw [← each_all rfl]
 exact (each_inv hE h _ (Nat.le_refl _)).ok
theorem each_ord {f : Br → Bj → Br} (hE : EachOk f) {st : Br} (h : BrOk st) : (each f st st.ids).orders.length ≤ st.orders.length + 16 * st.js.length := by
 rw [← each_all rfl]
 exact (each_inv hE h _ (Nat.le_refl _)).ord
theorem len16 {st : Br} (h : BrOk st) {x : Bj} (hx : getJ st.js x.id = some x) : x.at_.length ≤ 16 := Nat.le_trans (h.at_ hx).len h.N16
theorem countE : EachOk countR := ⟨fun _ _ h hx => countR_ok h (h.at_ hx), fun st _ _ h => count_oth st h, fun st x h hx => by
 have h1 := (countR_same st x).1
 have h2 := len16 h hx
 omega⟩
theorem saveE : EachOk saveR := ⟨fun _ _ h hx => saveR_ok h (h.at_ hx), fun st _ _ h => save_oth st h, fun st x h hx => by
 have h1 := (saveR_same st x).1
 have h2 := len16 h hx
 omega⟩
theorem save1_S (b : Nat) (st : Br) (ps : Nat → Nat) (hl : st.orders.length ≤ 880000) : Spec Tryz.prog 46 [pt b] [BP b st ps] fun Γ _ Θ => Θ = BP b (each saveR st st.ids) ps :: Γ := by
 refine Spec.bpOk fun hok => ?_
 have hfew := hok.few
 refine Zbd Tryz.func46 rfl Tryz.ntmps46 fun w0 Γ => Zsh ?_
 refine ZY 3 ?_
 refine Zp (Zc1 Ze (all_S b st ps) ?_)
 rintro v Θ ⟨jv, rfl, hjv, rfl⟩
 refine S.ownLen jv fun hl1 hl2 hl3 => ?_
 have hmx : maxLen ≤ 9223372036854775807 := by unfold maxLen; omega
 refine ZY 4 ?_
 refine Zl (fun q ρ' Γ' => ∃ (e : Nat) (t : Br), q = st.js.length - e ∧ e ≤ st.js.length ∧ t = each saveR st (st.ids.take e) ∧ ρ' = [(0, pt b), (5, jv.v), (6, .int .i64 (jv.n : Int)), (7, .int .i64 (e : Int))] ∧ Γ' = own jv 86 1 (pts ps st.js) :: BP b t ps :: Γ) (m := _) (⟨0, st, rfl, by omega, rfl, rfl, rfl⟩) ?_
 rintro q ρ' Γ' ⟨e, t, hq, he, rfl, rfl, rfl⟩
 have hI := each_inv saveE hok e he
 have hIo := hI.ord
 refine ZY 5 ?_
 refine Zj ef (fun h1 => ?_) (fun h1 => ?_)
 ·refine S.ownSome jv (by omega) fun sb so hsa _ _ _ => ?_
  obtain ⟨x, hx⟩ := getE (show e < st.js.length by omega)
  refine ZY 5 ?_
  refine Zv (Zx (e) ef (hsa) ef (by omega)) ?_
  refine Zv (Zo (jv) (e) ef (hsa) (by rw [List.getElem?_map, hx]; rfl)) ?_
  refine ZY 5 ?_
  refine Zp (Zc1 Ze (save_S b _ ps x (hI.here e x (Nat.le_refl e) hx) (by omega)) ?_)
  rintro v Θ rfl
  rw [← each_step hI hx]
  refine ZY 2 ?_
  refine Zv (Za ef ef) ?_
  refine ZY 2 ?_
  exact ZX (q - 1) (⟨e + 1, _, by omega, by omega, rfl, rfl, rfl⟩) (by omega)
 ·have hen : e = st.js.length := by omega
  refine Zy ?_
  exact Zfn ef Zq (by rw [← each_all hen])
theorem BrOk.sset {st : Br} (h : BrOk st) {s : Option (List Nat)} (hs : ∀ d, s = some d → d.Nodup) (a : Bool) : BrOk { st with stops := s, stopped := a } := ⟨h.R, h.N, h.mok, h.srt, fun x hx => h.job x hx, h.few, h.q1, h.q2, h.g1, h.g2, h.now, h.fin, h.mem, hs⟩
theorem stopHeard_S (b : Nat) (st : Br) (ps : Nat → Nat) (n : Nat) (hl : st.orders.length ≤ 880000) : Spec Tryz.prog 54 [pt b, .int .i64 (n : Int)] [BP b st ps] fun Γ _ Θ => Θ = BP b (stopHeardR st n) ps :: Γ := by
 refine Spec.bpOk fun hok => ?_
 have hfew := hok.few
 refine Spec.of_body Tryz.func54 rfl Tryz.ntmps54 rfl ?_
 intro w0 Γ
 show S _ w0 [(0, pt b), (1, .int .i64 (n : Int))] (BP b st ps :: Γ) _
 refine S.bpOpen b st ps fun ub jb mb ov iv dv mv sb l hF => ?_
 cases hs : st.stops with
 | none =>
  have hg : stopHeardR st n = st := by rw [stopHeardR, hs]
  have hsb : sb = none := by have := hF.sn; rw [hs] at this; cases sb with | none => rfl | some q => cases this
  subst hsb
  refine ZS ?_
  refine ZY 7 ?_
  refine Zv (q_eqMN Tryz.underlying81 rfl rfl) ?_
  refine Zy ?_
  refine ZT ef ?_
  refine Zy ?_
  refine S.bpClose b st ps ub jb mb ov iv dv mv none l hF ?_
  exact Zf ef Zq (by rw [hg])
 | some s =>
  obtain ⟨q, hq⟩ : ∃ q, sb = some q := by have := hF.sn; rw [hs] at this; cases sb with | none => cases this | some q => exact ⟨q, rfl⟩
  subst hq
  have hnd := hok.stp s hs
  have hml := setE_len (sDel s n)
  refine S.conv (optS (some q) st.stops) (Ent.opt1 hs _) ?_
  have hok2 : BrOk { st with stops := none, stopped := false } := hok.sset (s := none) (fun d hd => (by cases hd)) false
  refine ZS ?_
  refine ZY 7 ?_
  refine Zv (q_eqMN Tryz.underlying81 rfl rfl) ?_
  refine Zy ?_
  refine ZF ef ?_
  refine ZY 8 ?_
  refine Zp (S.mapDelete Tryz.underlying81 Tryz.underlying3 rfl rfl rfl ?_)
  rw [setE_del n hnd]
  refine ZY 8 ?_
  refine ZY 3 ?_
  refine Zj ef (fun h2 => ?_) (fun h2 => ?_)
  ·have hne : sDel s n ≠ [] := fun e => by rw [e] at h2; exact absurd h2 (by decide)
   have hg : stopHeardR st n = { st with stops := some (sDel s n) } := by rw [stopHeardR, hs]; exact if_pos hne
   refine Zy ?_
   refine S.conv (mapL q .i64 (setE (sDel s n))) (Ent.opt2 (s := some (sDel s n)) rfl _) ?_
   refine S.sub (bX b { st with stops := some (sDel s n) } ps ub jb mb ov iv dv mv (some q) l Γ) ?_
   refine S.bpClose b { st with stops := some (sDel s n) } ps ub jb mb ov iv dv mv (some q) l ⟨hok.sset (s := some (sDel s n)) (fun d hd => by cases hd; exact sDel_nodup hnd n) st.stopped, hF.perm, hF.on, hF.im, hF.dn, hF.mn, rfl⟩ ?_
   exact Zf ef Zq (by rw [hg])
  ·have he0 : sDel s n = [] := List.eq_nil_of_length_eq_zero (by omega)
   have hg : stopHeardR st n = each countR { st with stops := none, stopped := false } st.ids := by rw [stopHeardR, hs]; exact if_neg (fun h => h he0)
   refine ZY 8 ?_
   refine ZY 7 ?_
   refine S.ent (Ent.optNil _) ?_
   refine S.sub (bX b { st with stops := none, stopped := false } ps ub jb mb ov iv dv mv none l Γ) ?_
   refine S.bpClose b { st with stops := none, stopped := false } ps ub jb mb ov iv dv mv none l ⟨hok2, hF.perm, hF.on, hF.im, hF.dn, hF.mn, rfl⟩ ?_
   refine Zp (Zc1 Ze (all_S b { st with stops := none, stopped := false } ps) ?_)
   rintro v Θ ⟨jv, rfl, hjv, rfl⟩
   refine S.ownLen jv fun hl1 hl2 hl3 => ?_
   have hmx : maxLen ≤ 9223372036854775807 := by unfold maxLen; omega
   have hjn : jv.n = st.js.length := hjv
   refine ZY 4 ?_
   refine Zl (fun k ρ' Γ' => ∃ (e : Nat) (t : Br), k = st.js.length - e ∧ e ≤ st.js.length ∧ t = each countR { st with stops := none, stopped := false } (st.ids.take e) ∧ ρ' = [(0, pt b), (29, jv.v), (30, .int .i64 (jv.n : Int)), (31, .int .i64 (e : Int))] ∧ Γ' = own jv 86 1 (pts ps st.js) :: BP b t ps :: Γ) (m := _) (⟨0, { st with stops := none, stopped := false }, rfl, by omega, rfl, rfl, rfl⟩) ?_
   rintro k ρ' Γ' ⟨e, t, hk, he, rfl, rfl, rfl⟩
   have hI := each_inv countE hok2 e he
   have hIo : (each countR { st with stops := none, stopped := false } (st.ids.take e)).orders.length ≤ st.orders.length + 16 * e := hI.ord
   refine ZY 5 ?_
   refine Zj ef (fun h3 => ?_) (fun h3 => ?_)
   ·refine S.ownSome jv (by omega) fun sb so hsa _ _ _ => ?_
    obtain ⟨x, hx⟩ := getE (show e < st.js.length by omega)
    refine ZY 5 ?_
    refine Zv (Zx (e) ef (hsa) ef (by omega)) ?_
    refine Zv (Zo (jv) (e) ef (hsa) (by rw [List.getElem?_map, hx]; rfl)) ?_
    refine ZY 5 ?_
    refine Zp (Zc1 Ze (count_S b (each countR { st with stops := none, stopped := false } (st.ids.take e)) ps x (hI.here e x (Nat.le_refl e) hx) (by omega)) ?_)
    rintro v Θ rfl
    rw [← each_step (st := { st with stops := none, stopped := false }) hI hx]
    refine ZY 2 ?_
    refine Zv (Za ef ef) ?_
    refine ZY 2 ?_
    exact ZX (k - 1) (⟨e + 1, _, by omega, by omega, rfl, rfl, rfl⟩) (by omega)
   ·have hen : e = st.js.length := by omega
    refine Zy ?_
    exact Zfn ef Zq (by rw [hg, ← each_all (st := { st with stops := none, stopped := false }) hen])
end BN
end Go.Proofs.YtdackcibfkkniaaGreatDoor
namespace Go.Proofs.YtdackcibfkkniaaGreatDoor
open Go.RowKit
namespace BN
abbrev delX (x : Bj) (d : List Nat) (n : Nat) : Bj := { x with drops := some (sDel d n) }
theorem JOk.delX {N : Nat} {x : Bj} (h : JOk N x) {d : List Nat} (hd : d.Nodup) (n : Nat) : JOk N (delX x d n) := ⟨h.id1, h.id2, h.tier, h.k1, h.kn, h.w, h.cr, h.wk, h.rise, h.at_, fun e he => (by cases he; exact sDel_nodup hd n), h.lod, h.ran, h.ld, h.svl⟩
theorem lostJ_no {n : Nat} {st : Br} {x : Bj} (h : n ∉ x.at_) : lostJ n st x = st := by rw [lostJ, if_neg h]
theorem lostJ_none {n : Nat} {st : Br} {x : Bj} (h : n ∈ x.at_) (hd : x.drops = none) : lostJ n st x = dropR st x true := by rw [lostJ, if_pos h, hd]
theorem lostJ_some {n : Nat} {st : Br} {x : Bj} (h : n ∈ x.at_) {d : List Nat} (hd : x.drops = some d) : lostJ n st x = goneR st (delX x d n) := by rw [lostJ, if_pos h, hd]
theorem lostE (n : Nat) : EachOk (lostJ n) := by
 refine ⟨fun st x h hx => ?_, fun st x id hid => ?_, fun st x h hx => ?_⟩
 ·by_cases hn : n ∈ x.at_
  ·cases hd : x.drops with
   | none => rw [lostJ_none hn hd]; exact dropR_ok h (h.at_ hx) true
   | some d => rw [lostJ_some hn hd]; exact goneR_ok h ((h.at_ hx).delX ((h.at_ hx).drop d hd) n)
  ·rw [lostJ_no hn]; exact h
 ·by_cases hn : n ∈ x.at_
  ·cases hd : x.drops with
   | none => rw [lostJ_none hn hd]; exact drop_oth st true hid
   | some d => rw [lostJ_some hn hd]; exact gone_oth st (x := delX x d n) hid
  ·rw [lostJ_no hn]
 ·by_cases hn : n ∈ x.at_
  ·cases hd : x.drops with
   | none =>
    rw [lostJ_none hn hd]
    have h1 := (dropR_same st x true).1
    have h2 := len16 h hx
    omega
   | some d =>
    rw [lostJ_some hn hd, (goneR_same st (delX x d n)).1]
    omega
  ·rw [lostJ_no hn]; omega
abbrev lost0 (st : Br) (n : Nat) : Br := { st with up := sDel st.up n, m := (upR st.m n false).2, orders := st.orders.filter fun o => decide (o.1 ≠ n) }
theorem lost0_ok {st : Br} (h : BrOk st) (n : Nat) : BrOk (lost0 st n) := ((h.uset (sDel st.up n)).mset (upR_ok2 h.mok n false) (upR_N2 _ _ _).1 (upR_N2 _ _ _).2).oset _
theorem lostR_bad {st : Br} {n : Int} (h : nodeR st n true ≠ 0) : lostR st n = (nodeR st n true, st) := by rw [lostR, if_pos h]
theorem lostR_good {st : Br} {n : Nat} (h : ¬ nodeR st n true ≠ 0) : lostR st n = (0, stopHeardR (each (lostJ n) (lost0 st n) st.ids) n) := by rw [lostR, if_neg h]; rfl
set_option maxHeartbeats 1000000 in
theorem Lost_S (b : Nat) (st : Br) (ps : Nat → Nat) (n : Int) (hl : st.orders.length ≤ 800000) : Spec Tryz.prog 15 [pt b, .int .i64 n] [BP b st ps] fun Γ v Θ => v = .int .i64 (lostR st n).1 ∧ Θ = BP b (lostR st n).2 ps :: Γ := by
 refine Spec.bpOk fun hok => ?_
 have hfew := hok.few
 refine Zbd Tryz.func15 rfl Tryz.ntmps15 fun w0 Γ => Zsh ?_
 refine ZY 2 ?_
 refine Zp (S.box (cs := [_]) rfl rfl rfl ?_)
 intro b3
 refine ZY 7 ?_
 refine Zp (Zcp Ze (node_S b st ps n true) ?_)
 refine ZY 7 ?_
 refine Zj ef (fun h1 => ?_) (fun h1 => ?_)
 ·have hu := lostR_bad h1
  refine ZY 6 ?_
  exact Zf ef Zq (⟨by rw [hu]; rfl, by rw [hu]⟩)
 ·have hr := node_in (Classical.byContradiction h1)
  obtain ⟨k, rfl⟩ : ∃ k : Nat, n = k := ⟨n.toNat, by omega⟩
  have hu := lostR_good h1
  have hok2 := lost0_ok hok k
  have hfl : (lost0 st k).orders.length ≤ st.orders.length := List.length_filter_le _ _
  refine S.bpOpen b st ps fun ub jb mb ov iv dv mv sb l hF => ?_
  refine S.mapNodup ub fun hnd0 => ?_
  have hnd := setE_nodup hnd0
  refine ZY 2 ?_
  refine Zd ([blk b3 3 #[.int .i64 (k : Int)], blk b 84 (bC st ub jb mb ov iv dv mv sb).toArray]) [] (Zra 0 5) ?_
  refine ZY 5 ?_
  refine Z1 (i := 5) ef ef ?_
  refine (S.mapDelete Tryz.underlying81 Tryz.underlying3 rfl rfl rfl ?_)
  rw [setE_del k hnd]
  refine Zk [] ?_
  refine ZD ?_
  refine Zy ?_
  refine Zd ([blk b3 3 #[.int .i64 (k : Int)], blk b 84 (bC st ub jb mb ov iv dv mv sb).toArray]) [] (Zra 0 5) ?_
  refine ZY 5 ?_
  refine Z1 (i := 5) ef ef ?_
  refine  (Zcp Ze (Go.Proofs.YtdackcibfkkniaaGreatDoor.Up_S mb st.m k false) ?_)
  refine Zk [] ?_
  refine ZD ?_
  refine ZY 8 ?_
  refine Zp (Zc1 Ze (Delete_S b3 k ov st.orders hF.on) ?_)
  rintro v Θ ⟨ov2, rfl, hov2, rfl⟩
  refine ZY 8 ?_
  refine S.sub (blk b3 3 #[.int .i64 (k : Int)] :: bX b (lost0 st k) ps ub jb mb ov2 iv dv mv sb l Γ) ?_
  refine S.bpClose b (lost0 st k) ps ub jb mb ov2 iv dv mv sb l ⟨hok2, hF.perm, hov2, hF.im, hF.dn, hF.mn, hF.sn⟩ ?_
  refine Zp (Zc1 Ze (all_S b (lost0 st k) ps) ?_)
  rintro v Θ ⟨jv, rfl, hjv, rfl⟩
  refine S.ownLen jv fun hl1 hl2 hl3 => ?_
  have hmx : maxLen ≤ 9223372036854775807 := by unfold maxLen; omega
  have hjn : jv.n = st.js.length := hjv
  refine ZY 4 ?_
  refine Zl (fun q ρ' Γ' => ∃ (e : Nat) (t : Br), q = st.js.length - e ∧ e ≤ st.js.length ∧ t = each (lostJ k) (lost0 st k) (st.ids.take e) ∧ ρ' = [(0, pt b), (3, pt b3), (35, jv.v), (36, .int .i64 (jv.n : Int)), (37, .int .i64 (e : Int))] ∧ Γ' = blk b3 3 #[.int .i64 (k : Int)] :: own jv 86 1 (pts ps st.js) :: BP b t ps :: Γ) (m := _) (⟨0, lost0 st k, rfl, by omega, rfl, rfl, rfl⟩) ?_
  rintro q ρ' Γ' ⟨e, t, hq, he, ht, rfl, rfl⟩
  have hI : EachInv (lostJ k) (lost0 st k) e := each_inv (lostE k) hok2 e he
  have hIo := hI.ord
  have hto : t.orders.length ≤ 816000 := by rw [ht]; exact Nat.le_trans hIo (by omega)
  refine ZY 5 ?_
  refine Zj ef (fun h2 => ?_) (fun h2 => ?_)
  ·refine S.ownSome jv (by omega) fun sb so hsa _ _ _ => ?_
   obtain ⟨x, hx⟩ := getE (show e < st.js.length by omega)
   have hgx : getJ t.js x.id = some x := by rw [ht]; exact hI.here e x (Nat.le_refl e) hx
   have hst : each (lostJ k) (lost0 st k) (st.ids.take (e + 1)) = lostJ k t x := by rw [ht]; exact each_step (st := lost0 st k) hI hx
   have hok3 : BrOk t := by rw [ht]; exact hI.ok
   have hjx := hok3.at_ hgx
   refine S.bjOpen b t ps x hgx fun ub jb mb ov iv dv mv sb l i av lb db rb qb hF hi hset hrm hJ => ?_
   refine ZY 5 ?_
   refine Zv (Zx (e) ef (hsa) ef (by omega)) ?_
   refine Zv (Zo (jv) (e) ef (hsa) (by rw [List.getElem?_map, hx]; rfl)) ?_
   refine ZY 4 ?_
   refine Zd ([blk (ps x.id) 90 (bjC x av lb db rb qb).toArray, blk b3 3 #[.int .i64 (k : Int)]]) [] (Zra 0 5) ?_
   refine ZY 5 ?_
   refine Z1 (i := 5) ef ef ?_
   refine  (Zcp Ze (Contains_S (own av 3 1 (nds x.at_)) av x.at_ k hJ.an RdS.own) ?_)
   refine Zk [6] ?_
   refine Zy ?_
   refine ZD ?_
   refine Zi ef (fun h3 => ?_) (fun h3 => ?_)
   ·have hno := lostJ_no (st := t) (show k ∉ x.at_ by simpa using h3)
    refine S.bjClose b t ps ub jb mb ov iv dv mv sb l i x av lb db rb qb hi rfl (hset x rfl) (hF.set hjx) hJ ?_
    rw [set_self hok3 hgx]
    refine ZY 2 ?_
    refine Zv (Za ef ef) ?_
    refine ZY 2 ?_
    first | exact ZX (q - 1) ⟨e + 1, t, by omega, by omega, by rw [hst, hno], rfl, rfl⟩ (by omega) | exact ZX (q - 1) ⟨e + 1, dropR t x true, by omega, by omega, by rw [hst, hyes], rfl, rfl⟩ (by omega) | exact ZX (q - 1) ⟨e + 1, goneR t x1, by omega, by omega, by rw [hst, hyes, hx1], rfl, rfl⟩ (by omega)
   ·have hin : k ∈ x.at_ := by simpa using h3
    refine ZY 7 ?_
    refine Zv (q_eqMN Tryz.underlying81 rfl rfl) ?_
    refine Zy ?_
    refine Zi ef (fun h4 => ?_) (fun h4 => ?_)
    ·have hd : x.drops = none := by have := hJ.d; rw [Option.isNone_iff_eq_none.1 h4] at this; cases e9 : x.drops with | none => rfl | some d => rw [e9] at this; cases this
     have hyes := lostJ_none (st := t) hin hd
     refine S.bjClose b t ps ub jb mb ov iv dv mv sb l i x av lb db rb qb hi rfl (hset x rfl) (hF.set hjx) hJ ?_
     rw [set_self hok3 hgx]
     refine ZY 3 ?_
     refine Zp (Zc1 Ze (drop_S b t ps x true hgx (by omega)) ?_)
     rintro v Θ rfl
     refine ZY 2 ?_
     refine Zv (Za ef ef) ?_
     refine ZY 2 ?_
     first | exact ZX (q - 1) ⟨e + 1, t, by omega, by omega, by rw [hst, hno], rfl, rfl⟩ (by omega) | exact ZX (q - 1) ⟨e + 1, dropR t x true, by omega, by omega, by rw [hst, hyes], rfl, rfl⟩ (by omega) | exact ZX (q - 1) ⟨e + 1, goneR t x1, by omega, by omega, by rw [hst, hyes, hx1], rfl, rfl⟩ (by omega)
    ·obtain ⟨q2, hq2⟩ : ∃ q, db = some q := by cases db with | none => cases h4 | some q => exact ⟨q, rfl⟩
     subst hq2
     obtain ⟨d, hd⟩ : ∃ d, x.drops = some d := by have := hJ.d; cases e9 : x.drops with | none => rw [e9] at this; cases this | some d => exact ⟨d, rfl⟩
     have hyes := lostJ_some (st := t) hin hd
     have hdn := hjx.drop d hd
     refine S.conv (optS (some q2) x.drops) (Ent.opt1 hd _) ?_
     obtain ⟨x1, hx1⟩ : ∃ x1 : Bj, x1 = delX x d k := ⟨_, rfl⟩
     have hj1 : JOk t.nodes x1 := by rw [hx1]; exact hjx.delX hdn k
     have hid : x1.id = x.id := by rw [hx1]
     refine Zy ?_
     refine Zd ([blk (ps x.id) 90 (bjC x av lb (some q2) rb qb).toArray, blk b3 3 #[.int .i64 (k : Int)]]) [] (Zra 0 5) ?_
     refine ZY 5 ?_
     refine Z1 (i := 5) ef ef ?_
     refine (S.mapDelete Tryz.underlying81 Tryz.underlying3 rfl rfl rfl ?_)
     rw [setE_del k hdn]
     refine Zk [] ?_
     refine ZD ?_
     refine ZY 3 ?_
     refine S.conv (mapL q2 .i64 (setE (sDel d k))) (Ent.opt2 (show x1.drops = some (sDel d k) by rw [hx1]) _) ?_
     refine S.blkAs (ps x.id) (bjC x1 av lb (some q2) rb qb).toArray (by rw [hx1]) ?_
     refine S.sub (jX (ps x.id) x1 av lb (some q2) rb qb (bR b t ps ub jb mb ov iv dv mv sb l i (blk b3 3 #[.int .i64 (k : Int)] :: own jv 86 1 (pts ps st.js) :: Γ))) (e := by subst hx1; infer_instance) ?_
     refine S.bjClose b t ps ub jb mb ov iv dv mv sb l i x1 av lb (some q2) rb qb hi hid (hset x1 hid) (hF.set hj1) ⟨by rw [hx1]; exact hJ.an, by rw [hx1]; exact hJ.l, by rw [hx1]; rfl, by rw [hx1]; exact hJ.r, by rw [hx1]; exact hJ.s⟩ ?_
     refine Zp (Zc1 Ze ((hid ▸ gone_S b (t.set x1) ps x1 (get_set t (by rw [hid]; exact hgx)) : Spec Tryz.prog 53 [pt b, pt (ps x.id)] [BP b (t.set x1) ps] fun Γ _ Θ => Θ = BP b (goneR (t.set x1) x1) ps :: Γ)) ?_)
     rintro v Θ rfl
     rw [gone_set t (x := x1) (y := x1) rfl]
     refine ZY 2 ?_
     refine Zv (Za ef ef) ?_
     refine ZY 2 ?_
     first | exact ZX (q - 1) ⟨e + 1, t, by omega, by omega, by rw [hst, hno], rfl, rfl⟩ (by omega) | exact ZX (q - 1) ⟨e + 1, dropR t x true, by omega, by omega, by rw [hst, hyes], rfl, rfl⟩ (by omega) | exact ZX (q - 1) ⟨e + 1, goneR t x1, by omega, by omega, by rw [hst, hyes, hx1], rfl, rfl⟩ (by omega)
  ·have hen : e = st.js.length := by omega
   have htl : t = each (lostJ k) (lost0 st k) st.ids := by rw [ht, ← each_all (st := lost0 st k) hen]
   refine ZY 5 ?_
   refine Zp (Zc1 Ze (stopHeard_S b t ps k (by omega)) ?_)
   rintro v Θ rfl
   rw [htl]
   refine ZY 6 ?_
   exact Zf ef Zq (⟨by rw [hu]; rfl, by rw [hu]⟩)
end BN
end Go.Proofs.YtdackcibfkkniaaGreatDoor
namespace Go.Proofs.YtdackcibfkkniaaGreatDoor
open Go.RowKit
namespace BN
theorem Ent.allsIns (F : Bj → Assn) (x : Bj) : ∀ (js : List Bj) (Γ : List Assn), Ent (F x :: alls js F :: Γ) (alls (insJ x js) F :: Γ)
 | [], Γ => Ent.allsCons F x [] Γ
 | y :: l, Γ => by
  unfold insJ
  split
  ·exact Ent.allsCons F x (y :: l) Γ
  ·exact (((Ent.allsUncons F y l Γ).cons _).trans (Ent.swap _ _ _)).trans (((Ent.allsIns F x l Γ).cons _).trans (Ent.allsCons F y _ Γ))
abbrev psN (ps : Nat → Nat) (id p : Nat) : Nat → Nat := fun i => if i = id then p else ps i
theorem psN_at (ps : Nat → Nat) (id p : Nat) : psN ps id p id = p := if_pos rfl
theorem insE {ps : Nat → Nat} {p : Nat} {x : Bj} {js : List Bj} (h : ∀ y ∈ js, y.id ≠ x.id) (Γ : List Assn) : Ent (JI p x :: alls js (jI ps) :: Γ) (alls (insJ x js) (jI (psN ps x.id p)) :: Γ) := by
 have h1 : js.map (jI ps) = js.map (jI (psN ps x.id p)) := List.map_congr_left fun y hy => by
  show JI (ps y.id) y = JI (psN ps x.id p y.id) y
  rw [show psN ps x.id p y.id = ps y.id from if_neg (h y hy)]
 have h2 : Ent (JI p x :: alls js (jI (psN ps x.id p)) :: Γ) (alls (insJ x js) (jI (psN ps x.id p)) :: Γ) := by
  have := Ent.allsIns (jI (psN ps x.id p)) x js Γ
  rw [show jI (psN ps x.id p) x = JI p x by show JI (psN ps x.id p x.id) x = _; rw [psN_at]] at this
  exact this
 exact ((Ent.allsCongr h1 Γ).cons _).trans h2
theorem insP {ps : Nat → Nat} {p : Nat} {x : Bj} {js : List Bj} {l : List (Int × Value)} (hs : JsOk js) (hp : l.Perm (js.map (jE ps))) (h : getJ js x.id = none) : (alPut (x.id : Int) (pt p) l).Perm ((insJ x js).map (jE (psN ps x.id p))) := by
 have h0 : alGet (x.id : Int) l = none := by rw [jE_get hs hp, h]; rfl
 rw [alPut_new h0]
 have h1 : js.map (jE ps) = js.map (jE (psN ps x.id p)) := List.map_congr_left fun y hy => by
  show jE ps y = _
  simp only [jE, psN, if_neg (getJ_none h y hy)]
 have h2 : jE (psN ps x.id p) x = ((x.id : Int), pt p) := by simp only [jE, psN, if_true]
 refine (List.perm_append_comm).trans ((?_ : List.Perm _ _).trans ((insJ_perm x js).map _).symm)
 show List.Perm (((x.id : Int), pt p) :: l) (jE (psN ps x.id p) x :: js.map (jE (psN ps x.id p)))
 rw [h2, ← h1]
 exact hp.cons _
theorem getJ_ins {x : Bj} {js : List Bj} (hs : JsOk js) (h : ∀ y ∈ js, y.id ≠ x.id) : getJ (insJ x js) x.id = some x := getJ_mem (insJ_ok hs h) (mem_insJ.2 (.inl rfl))
abbrev insB (st : Br) (x : Bj) : Br := { st with js := insJ x st.js }
theorem insB_ok {st : Br} (h : BrOk st) {x : Bj} (hx : JOk st.nodes x) (hn : getJ st.js x.id = none) (hl : st.js.length ≤ 999) : BrOk (insB st x) := h.jset (insJ_ok h.srt (getJ_none hn)) (fun y hy => by
 rcases mem_insJ.1 hy with rfl | hy
 ·exact hx
 ·exact h.job y hy) (by rw [(insJ_perm x st.js).length_eq, List.length_cons]; omega)
theorem newJ_ok {st : Br} {id tier k w credit ver : Nat} (h32 : id ≤ 4294967295) (h : addOk st (newJ id tier k w credit ver) = true) : JOk st.nodes (newJ id tier k w credit ver) := by
 unfold addOk at h
 simp only [Bool.and_eq_true] at h
 obtain ⟨⟨⟨⟨⟨⟨h1, h2⟩, h3⟩, _⟩, h5⟩, h6⟩, h7⟩ := h
 have g1 : id ≠ 0 := of_decide_eq_true h1
 exact ⟨by show 1 ≤ id; omega, h32, of_decide_eq_true h7, of_decide_eq_true h2, of_decide_eq_true h3, of_decide_eq_true h5, of_decide_eq_true h6, of_decide_eq_true h6, List.Pairwise.nil, fun n hn => (by cases hn), fun d hd => (by cases hd), fun d hd => (by cases hd), fun r hr => (by cases hr), fun e => absurd (show (0 : Nat) = 1 from e) (by decide), fun s hs => (by cases hs)⟩
theorem Add_S (b : Nat) (st : Br) (ps : Nat → Nat) (id tier k w credit ver s : Nat) (h32 : id ≤ 4294967295) (hadd : addOk st (newJ id tier k w credit ver) = true) (hfew : st.js.length ≤ 999) (hl : st.orders.length ≤ 900000) (hd : st.done.length ≤ 900000) :
  Spec Tryz.prog 13 [pt b, .agg #[.int .u32 (id : Int), .int .u8 (tier : Int), .int .i64 (k : Int), .int .i64 (w : Int), .int .u8 (s : Int), .int .i64 (credit : Int)], .int .u32 (ver : Int)] [BP b st ps] fun Γ v Θ => ∃ ps', v = .int .i64 (addR st (newJ id tier k w credit ver)).1 ∧ Θ = BP b (addR st (newJ id tier k w credit ver)).2 ps' :: Γ := by
 refine Spec.bpOk fun hok => ?_
 obtain ⟨x, hx⟩ : ∃ x, x = newJ id tier k w credit ver := ⟨_, rfl⟩
 have hjx : JOk st.nodes x := by rw [hx]; exact newJ_ok h32 hadd
 have hxi : x.id = id := by subst hx; rfl
 have hN := hok.N16
 have hk1 : 1 ≤ k := by have := hjx.k1; rw [hx] at this; exact this
 have hkn : k ≤ st.nodes := by have := hjx.kn; rw [hx] at this; exact this
 have hid1 : 1 ≤ id := by have := hjx.id1; rw [hx] at this; exact this
 have hw1 : 1 ≤ w := by
  unfold addOk at hadd
  simp only [Bool.and_eq_true] at hadd
  exact of_decide_eq_true hadd.1.1.1.2
 have hw2 : w ≤ 10000 := by have := hjx.w; rw [hx] at this; exact this
 have hcr : credit ≤ w := by have := hjx.cr; rw [hx] at this; exact this
 have hti : tier ≤ 3 := by have := hjx.tier; rw [hx] at this; exact this
 refine Spec.of_body Tryz.func13 rfl Tryz.ntmps13 rfl ?_
 intro w0 Γ
 show S _ w0 [(0, pt b), (1, .agg #[.int .u32 (id : Int), .int .u8 (tier : Int), .int .i64 (k : Int), .int .i64 (w : Int), .int .u8 (s : Int), .int .i64 (credit : Int)]), (2, .int .u32 (ver : Int))] (BP b st ps :: Γ) _
 refine S.bpOpen b st ps fun ub jb mb ov iv dv mv sb l hF => ?_
 cases hg : getJ st.js id with
 | some y =>
  have hc : addR st (newJ id tier k w credit ver) = (7, st) := by
   unfold addR
   rw [if_neg (by rw [hadd]; decide), if_pos (by show (getJ st.js id).isSome = true; rw [hg]; rfl)]
  refine ZS ?_
  refine ZY 2 ?_
  refine Zp (S.box (cs := [_, _, _, _, _, _]) rfl rfl rfl ?_)
  intro b4
  refine ZY 8 ?_
  refine ZY 2 ?_
  refine ZF ef ?_
  refine Zy ?_
  refine Zd ([blk b4 35 #[.int .u32 (id : Int), .int .u8 (tier : Int), .int .i64 (k : Int), .int .i64 (w : Int), .int .u8 (s : Int), .int .i64 (credit : Int)], blk b 84 (bC st ub jb mb ov iv dv mv sb).toArray]) [] (Zra 0 4) ?_
  refine ZY 4 ?_
  refine Zu 15 false ef ((decide_eq_false (by omega))) ?_
  refine Zr (Zra 4 5) ?_
  refine ZY 5 ?_
  refine Zu 20 false ef ((decide_eq_false (by omega))) ?_
  refine Zr (Zra 9 10) ?_
  refine ZY 8 ?_
  refine ZY 2 ?_
  refine Zu 30 false ef ((decide_eq_false (by omega))) ?_
  refine Zr (Zra 19 5) ?_
  refine ZY 5 ?_
  refine Zu 35 false ef ((decide_eq_false (by omega))) ?_
  refine Zr (Zra 24 5) ?_
  refine ZY 5 ?_
  refine Zu 40 false ef ((decide_eq_false (by omega))) ?_
  refine Zr (Zra 29 5) ?_
  refine ZY 5 ?_
  refine Zu 45 false ef ((decide_eq_false (by omega))) ?_
  refine Zr (Zra 34 7) ?_
  refine ZY 7 ?_
  refine Zu 52 false ef ((decide_eq_false (by omega))) ?_
  refine Zr (Zra 41 5) ?_
  refine ZY 5 ?_
  refine ZD ?_
  refine Zj ef (fun h2 => ?_) (fun h2 => ?_)
  ·exact absurd h2 (by omega)
  ·refine Zy ?_
   refine Zd0 (Zra 0 9) ?_
   refine ZY 6 ?_
   refine Zw ef (q_lookup1 (pt (ps y.id)) Tryz.underlying82 Tryz.underlying31 Tryz.zv86.h rfl rfl rfl (by rw [jE_get hok.srt hF.perm, hg]; rfl)) ?_
   refine ZY 2 ?_
   refine ZD ?_
   refine ZT ef ?_
   refine ZY 5 ?_
   refine S.bpClose b st ps ub jb mb ov iv dv mv sb l hF ?_
   exact Zf ef Zq (⟨ps, by rw [hc]; rfl, by rw [hc]⟩)
 | none =>
  have hgx : getJ st.js x.id = none := by rw [hxi]; exact hg
  have hc : addR st (newJ id tier k w credit ver) = (0, finishR (insB st x) x) := by
   unfold addR
   rw [if_neg (by rw [hadd]; decide), if_neg (by show ¬ (getJ st.js id).isSome = true; rw [hg]; simp), hx]
  have hok2 := insB_ok hok hjx hgx hfew
  refine ZS ?_
  refine ZY 2 ?_
  refine Zp (S.box (cs := [_, _, _, _, _, _]) rfl rfl rfl ?_)
  intro b4
  refine ZY 8 ?_
  refine ZY 2 ?_
  refine ZF ef ?_
  refine Zy ?_
  refine Zd ([blk b4 35 #[.int .u32 (id : Int), .int .u8 (tier : Int), .int .i64 (k : Int), .int .i64 (w : Int), .int .u8 (s : Int), .int .i64 (credit : Int)], blk b 84 (bC st ub jb mb ov iv dv mv sb).toArray]) [] (Zra 0 4) ?_
  refine ZY 4 ?_
  refine Zu 15 false ef ((decide_eq_false (by omega))) ?_
  refine Zr (Zra 4 5) ?_
  refine ZY 5 ?_
  refine Zu 20 false ef ((decide_eq_false (by omega))) ?_
  refine Zr (Zra 9 10) ?_
  refine ZY 8 ?_
  refine ZY 2 ?_
  refine Zu 30 false ef ((decide_eq_false (by omega))) ?_
  refine Zr (Zra 19 5) ?_
  refine ZY 5 ?_
  refine Zu 35 false ef ((decide_eq_false (by omega))) ?_
  refine Zr (Zra 24 5) ?_
  refine ZY 5 ?_
  refine Zu 40 false ef ((decide_eq_false (by omega))) ?_
  refine Zr (Zra 29 5) ?_
  refine ZY 5 ?_
  refine Zu 45 false ef ((decide_eq_false (by omega))) ?_
  refine Zr (Zra 34 7) ?_
  refine ZY 7 ?_
  refine Zu 52 false ef ((decide_eq_false (by omega))) ?_
  refine Zr (Zra 41 5) ?_
  refine ZY 5 ?_
  refine ZD ?_
  refine Zj ef (fun h2 => ?_) (fun h2 => ?_)
  ·exact absurd h2 (by omega)
  ·refine Zy ?_
   refine Zd0 (Zra 0 9) ?_
   refine ZY 6 ?_
   refine Zw ef (q_lookup1 (.pointer none) Tryz.underlying82 Tryz.underlying31 Tryz.zv86.h rfl rfl rfl (by rw [jE_get hok.srt hF.perm, hg]; rfl)) ?_
   refine ZY 2 ?_
   refine ZD ?_
   refine ZF ef ?_
   refine ZY 8 ?_
   refine ZY 4 ?_
   refine Zv (q_build (pvs := [(_, _), (_, _), (_, _)]) [_, _, _, _, _, _, _, _, _, _, _, _, _, _, _, _, _] Tryz.z90.h Tryz.p90.h ⟨⟨rfl, rfl⟩, ⟨rfl, rfl⟩, ⟨rfl, rfl⟩, trivial⟩ rfl) ?_
   refine Zp (S.box (cs := [_, _, _, _, _, _, _, _, _, _, _, _, _, _, _, _, _]) rfl rfl rfl ?_)
   intro b72
   refine ZY 3 ?_
   refine Zd ([blk b4 35 #[.int .u32 (id : Int), .int .u8 (tier : Int), .int .i64 (k : Int), .int .i64 (w : Int), .int .u8 0, .int .i64 (credit : Int)], blk b 84 (bC st ub jb mb ov iv dv mv sb).toArray]) [7] (Zra 0 7) ?_
   refine ZY 7 ?_
   refine Z1 (i := 7) ef ef ?_
   refine (S.mapUpdate Tryz.underlying82 Tryz.underlying31 rfl rfl rfl rfl ?_)
   refine ZL ([]) [] ?_
   refine ZD ?_
   refine ZY 4 ?_
   have hps := psN_at ps id b72
   have hgi : getJ (insB st x).js x.id = some x := getJ_ins hok.srt (getJ_none hgx)
   have hspec : Spec Tryz.prog 39 [pt b, pt b72] [BP b (insB st x) (psN ps id b72)] fun Γ _ Θ => Θ = BP b (finishR (insB st x) x) (psN ps id b72) :: Γ := by
    have := finish_S b (insB st x) (psN ps id b72) x hgi hl hd
    rw [hxi, hps] at this
    exact this
   have hF2 : BF (insB st x) (psN ps id b72) ov iv dv mv sb (alPut (id : Int) (pt b72) l) := ⟨hok2, by rw [← hxi]; exact insP hok.srt hF.perm hgx, hF.on, hF.im, hF.dn, hF.mn, hF.sn⟩
   refine S.blkAs b72 (bjC x SV.nil none none none none).toArray (by subst hx; rfl) ?_
   refine S.ent (show Ent _ (own SV.nil 3 1 (nds (newJ id tier k w credit ver).at_) :: _) from Ent.ownNil 3 1) ?_
   refine S.ent ((Ent.optNil _).trans ((Ent.optNil _).trans ((optRNil _).trans (savNil x.id _)))) ?_
   refine S.sub (jX b72 x SV.nil none none none none (bX b st ps ub jb mb ov iv dv mv sb (alPut (id : Int) (pt b72) l) Γ)) (e := by subst hx; infer_instance) ?_
   refine S.jiClose b72 x SV.nil none none none none (by subst hx; rfl) (by subst hx; rfl) (by subst hx; rfl) (by subst hx; rfl) (by subst hx; rfl) ?_
   refine S.sub (JI b72 x :: alls st.js (jI ps) :: blk b 84 (bC st ub jb mb ov iv dv mv sb).toArray :: mapL ub .i64 (setE st.up) :: mapL jb .u32 (alPut (id : Int) (pt b72) l) :: MI mb st.m :: own ov 97 14 (st.orders.flatMap odC) :: imgs iv st.images :: own dv 31 1 (idsV st.done) :: own mv 31 1 (idsV st.members) :: optS sb st.stops :: Γ) ?_
   refine S.ent (insE (ps := ps) (getJ_none hgx) _) ?_
   rw [hxi]
   refine S.sub (bX b (insB st x) (psN ps id b72) ub jb mb ov iv dv mv sb (alPut (id : Int) (pt b72) l) Γ) ?_
   refine S.bpClose b (insB st x) (psN ps id b72) ub jb mb ov iv dv mv sb _ hF2 ?_
   refine Zp (Zc1 Ze (hspec) ?_)
   rintro v Θ rfl
   refine ZY 6 ?_
   exact Zf ef Zq (⟨psN ps id b72, by rw [hc]; rfl, by rw [hc]⟩)
end BN
end Go.Proofs.YtdackcibfkkniaaGreatDoor
namespace Go.Proofs.YtdackcibfkkniaaGreatDoor
open Go.RowKit
theorem q_buildA {P : Program} {n : Nat} {ρ : Env} {Γ : List Assn} {ty : TypeId} {pos : String} {af : Array Edge} {gd : Option (Nat × Bool)} {ds : Option Tmp} {t : TypeId} {xs : List (Nat × Operand)} {pvs : List (Nat × Value)} {zs : List Value} {m s : Nat} (vs : List Value) (hz : zeroT P t = some zs) (hp : arrT P t = some (m, s)) (he : EvP ρ xs pvs) (hf : fillL (fun i => some (i * s, s)) zs pvs = some vs) :
  Qv P n ρ Γ ⟨ds, .build t xs.toArray, ty, pos, af, gd⟩ (.agg vs.toArray) := by
 intro a w ha _
 have hb : P.built t pvs = some vs.toArray := by
  unfold zeroT at hz
  unfold arrT at hp
  unfold Program.built
  cases hi : P.info? t with
  | none => simp [hi] at hz
  | some i =>
   cases hz' : i.zero with
   | none => simp [hi, hz'] at hz
   | some z =>
    simp only [hi, hz', Option.bind_some, Option.map_some, Option.some.injEq] at hz
    cases hu : P.underlying t with
    | none => simp [hu] at hp
    | some dd =>
     cases dd <;> simp [hu] at hp
     case array k e =>
      obtain ⟨ie, h1, rfl, rfl⟩ := hp
      simp only [hz', h1]
      have := fillL_fill _ pvs zs vs hf
      rw [← hz] at this
      simpa using this
 have hr := run_build (P := P) w t pvs.toArray vs.toArray hb
 have hm : (xs.toArray.map fun x : Nat × Operand => (x.1, a.eval x.2)) = pvs.toArray := by
  have := he.map ha
  simpa using congrArg List.toArray this
 simp only [execOp, hm, Sem.run_bind, hr, Result.andThen_ok, Sem.run_pure]
end Go.Proofs.YtdackcibfkkniaaGreatDoor
namespace Go.Proofs.YtdackcibfkkniaaGreatDoor
open Go.RowKit
namespace BN
theorem ranE_put (r : List Rn) (n : Nat) (v : Nat × Nat) : alPut (n : Int) (rnV v) (ranE r) = ranE (ranPut r n v) := by
 induction r with
 | nil => rfl
 | cons y r ih =>
  have h0 : ranE (y :: r) = ((y.1 : Int), rnV y.2) :: ranE r := rfl
  rw [h0, alPut, ranPut]
  by_cases h : n = y.1
  ·rw [if_pos h, if_pos (by simp [h])]
   rfl
  ·rw [if_neg h, if_neg (by simp; omega), ih]
   rfl
theorem mem_ranPut {r : List Rn} {n : Nat} {v : Nat × Nat} {y : Rn} (h : y ∈ ranPut r n v) : y ∈ r ∨ y.2 = v := by
 induction r with
 | nil =>
  rw [ranPut, List.mem_singleton] at h
  exact .inr (by rw [h])
 | cons x r ih =>
  rw [ranPut] at h
  split at h
  ·rcases List.mem_cons.1 h with h | h
   ·exact .inr (by rw [h])
   ·exact .inl (List.mem_cons_of_mem _ h)
  ·rcases List.mem_cons.1 h with h | h
   ·exact .inl (by rw [h]; exact List.mem_cons_self ..)
   ·rcases ih h with h | h
    ·exact .inl (List.mem_cons_of_mem _ h)
    ·exact .inr h
abbrev rnX (y : Bj) (r : List Rn) (n : Nat) (v : Nat × Nat) : Bj := { y with ran := some (ranPut r n v) }
theorem JOk.rnX {N : Nat} {y : Bj} (h : JOk N y) {r : List Rn} (hr : y.ran = some r) (n : Nat) {v : Nat × Nat} (hv : v.1 ≤ 4294967295 ∧ v.2 ≤ 4294967295) : JOk N (rnX y r n v) := ⟨h.id1, h.id2, h.tier, h.k1, h.kn, h.w, h.cr, h.wk, h.rise, h.at_, h.drop, h.lod, fun r' hr' z hz => (by
 cases hr'
 rcases mem_ranPut hz with hz | hz
 ·exact h.ran r hr z hz
 ·rw [hz]; exact hv), h.ld, h.svl⟩
def noteR (b : Br) (n : Nat) (x : Nt) : Br := match getJ b.js x.job with
 | none => b
 | some y => match y.ran with
  | none => b
  | some r => if 0 < x.frm ∧ n ∈ y.at_ then b.set { y with ran := some (ranPut r n (x.frm, x.til)) } else b
theorem heardR_no {b : Br} {n : Nat} {x : Nt} (h : ¬ (n ∈ b.stops.getD [] ∧ b.stopped = true ∧ x.gen = b.gen)) : heardR b n x = b := by
 rw [heardR, if_neg]
 intro h2
 simp only [Bool.and_eq_true, decide_eq_true_eq] at h2
 exact h ⟨h2.1.1, h2.1.2, h2.2⟩
theorem heardR_yes {b : Br} {n : Nat} {x : Nt} (h1 : n ∈ b.stops.getD []) (h2 : b.stopped = true) (h3 : x.gen = b.gen) : heardR b n x = stopHeardR (noteR b n x) n := by
 rw [heardR, if_pos]
 ·rfl
 ·simp only [Bool.and_eq_true, decide_eq_true_eq]
  exact ⟨⟨h1, h2⟩, h3⟩
theorem noteR_ord (st : Br) (n : Nat) (x : Nt) : (noteR st n x).orders = st.orders := by
 unfold noteR
 split
 ·rfl
 ·split
  ·rfl
  ·split <;> rfl
set_option maxHeartbeats 1000000 in
theorem heard_S (b : Nat) (st : Br) (ps : Nat → Nat) (n : Nat) (z : Nt) (v : SV) (hz : z.frm ≤ 4294967295 ∧ z.til ≤ 4294967295) (hl : st.orders.length ≤ 880000) : Spec Tryz.prog 66 [pt b, .int .i64 (n : Int), .agg (ntC z v).toArray] [BP b st ps] fun Γ _ Θ => Θ = BP b (heardR st n z) ps :: Γ := by
 refine Spec.bpOk fun hok => ?_
 refine Spec.of_body Tryz.func66 rfl Tryz.ntmps66 rfl ?_
 intro w0 Γ
 show S _ w0 [(0, pt b), (1, .int .i64 (n : Int)), (2, .agg (ntC z v).toArray)] (BP b st ps :: Γ) _
 cases hg0 : getJ st.js z.job with
 | none =>
  have hnr : noteR st n z = st := by rw [noteR, hg0]
  refine S.bpOpen b st ps fun ub jb mb ov iv dv mv sb l hF => ?_
  refine ZS ?_
  refine ZY 2 ?_
  refine Zp (S.box (cs := [_, _, _, _, _, _, _, _, _, _, _, _, _]) rfl rfl rfl ?_)
  intro b5
  refine ZY 3 ?_
  refine Zd ([blk b5 72 (ntC z v).toArray, blk b 84 (bC st ub jb mb ov iv dv mv sb).toArray]) [] (Zra 0 5) ?_
  refine ZY 5 ?_
  refine Z1 (i := 5) ef ef ?_
  refine  (Zcp Ze (hasO_S sb st.stops n) ?_)
  refine Zk [6, 7] ?_
  refine ZY 2 ?_
  refine Zbb 14 ef (fun hg1_7 => ?_) (fun hg1_7 => ?_)
  ·have hg := heardR_no (b := st) (n := n) (x := z) (fun h => by rw [decide_eq_true h.1] at hg1_7; cases hg1_7)
   refine Zr (Zra 8 15) ?_
   refine ZY 8 ?_
   refine ZY 7 ?_
   refine ZD ?_
   refine ZY 2 ?_
   refine S.bpClose b st ps ub jb mb ov iv dv mv sb l hF ?_
   exact Zf ef Zq (by rw [hg])
  ·refine Zr (Zra 8 7) ?_
   refine ZY 7 ?_
   refine Zbb 21 ef (fun hg1_14 => ?_) (fun hg1_14 => ?_)
   ·have hg := heardR_no (b := st) (n := n) (x := z) (fun h => by rw [h.2.1] at hg1_14; cases hg1_14)
    refine Zr (Zra 15 8) ?_
    refine ZY 8 ?_
    refine ZD ?_
    refine ZY 2 ?_
    refine S.bpClose b st ps ub jb mb ov iv dv mv sb l hF ?_
    exact Zf ef Zq (by rw [hg])
   ·refine Zr (Zra 15 8) ?_
    refine ZY 8 ?_
    refine ZD ?_
    refine Zj ef (fun h1 => ?_) (fun h1 => ?_)
    ·have hg := heardR_no (b := st) (n := n) (x := z) (fun h => h1 (by rw [h.2.2]))
     refine Zy ?_
     refine S.bpClose b st ps ub jb mb ov iv dv mv sb l hF ?_
     exact Zf ef Zq (by rw [hg])
    ·have hg := heardR_yes (b := st) (n := n) (x := z) (by simpa using hg1_7) (by simpa using hg1_14) (by omega)
     refine ZY 3 ?_
     refine Zd0 (Zra 0 8) ?_
     refine ZY 6 ?_
     refine Zw ef (q_lookup1 (.pointer none) Tryz.underlying82 Tryz.underlying31 Tryz.zv86.h rfl rfl rfl (by rw [jE_get hok.srt hF.perm, hg0]; rfl)) ?_
     refine Zy ?_
     refine ZD ?_
     refine ZY 8 ?_
     refine ZY 8 ?_
     refine ZY 8 ?_
     refine ZY 6 ?_
     refine S.bpClose b st ps ub jb mb ov iv dv mv sb l hF ?_
     refine Zp (Zc1 Ze (stopHeard_S b st ps n hl) ?_)
     rintro v Θ rfl
     refine Zy ?_
     exact Zfn ef Zq (by rw [hg, hnr])
 | some y =>
 obtain ⟨_, hyi⟩ := getJ_some hg0
 have hgy : getJ st.js y.id = some y := by rw [hyi]; exact hg0
 have hjy := hok.at_ hgy
 refine S.bjOpen b st ps y hgy fun ub jb mb ov iv dv mv sb l i av lb db rb qb hF hi hset hrm hJ => ?_
 have hlk : alGet (z.job : Int) l = some (pt (ps y.id)) := by rw [jE_get hok.srt hF.perm, hg0]; rfl
 cases hr : y.ran with
 | none =>
  have hnr : noteR st n z = st := by rw [noteR, hg0]; dsimp only; rw [hr]
  have hrb : rb = none := by have := hJ.r; rw [hr] at this; cases rb with | none => rfl | some q => cases this
  subst hrb
  refine ZS ?_
  refine ZY 2 ?_
  refine Zp (S.box (cs := [_, _, _, _, _, _, _, _, _, _, _, _, _]) rfl rfl rfl ?_)
  intro b5
  refine ZY 3 ?_
  refine Zd ([blk b5 72 (ntC z v).toArray, blk b 84 (bC st ub jb mb ov iv dv mv sb).toArray]) [] (Zra 0 5) ?_
  refine ZY 5 ?_
  refine Z1 (i := 5) ef ef ?_
  refine  (Zcp Ze (hasO_S sb st.stops n) ?_)
  refine Zk [6, 7] ?_
  refine ZY 2 ?_
  refine Zbb 14 ef (fun hg1_7 => ?_) (fun hg1_7 => ?_)
  ·have hg := heardR_no (b := st) (n := n) (x := z) (fun h => by rw [decide_eq_true h.1] at hg1_7; cases hg1_7)
   refine Zr (Zra 8 15) ?_
   refine ZY 8 ?_
   refine ZY 7 ?_
   refine ZD ?_
   refine ZY 2 ?_
   refine S.bjClose b st ps ub jb mb ov iv dv mv sb l i y av lb db none qb hi rfl (hset y rfl) (hF.set hjy) hJ ?_
   rw [set_self hok hgy]
   exact Zf ef Zq (by rw [hg])
  ·refine Zr (Zra 8 7) ?_
   refine ZY 7 ?_
   refine Zbb 21 ef (fun hg1_14 => ?_) (fun hg1_14 => ?_)
   ·have hg := heardR_no (b := st) (n := n) (x := z) (fun h => by rw [h.2.1] at hg1_14; cases hg1_14)
    refine Zr (Zra 15 8) ?_
    refine ZY 8 ?_
    refine ZD ?_
    refine ZY 2 ?_
    refine S.bjClose b st ps ub jb mb ov iv dv mv sb l i y av lb db none qb hi rfl (hset y rfl) (hF.set hjy) hJ ?_
    rw [set_self hok hgy]
    exact Zf ef Zq (by rw [hg])
   ·refine Zr (Zra 15 8) ?_
    refine ZY 8 ?_
    refine ZD ?_
    refine Zj ef (fun h1 => ?_) (fun h1 => ?_)
    ·have hg := heardR_no (b := st) (n := n) (x := z) (fun h => h1 (by rw [h.2.2]))
     refine Zy ?_
     refine S.bjClose b st ps ub jb mb ov iv dv mv sb l i y av lb db none qb hi rfl (hset y rfl) (hF.set hjy) hJ ?_
     rw [set_self hok hgy]
     exact Zf ef Zq (by rw [hg])
    ·have hg := heardR_yes (b := st) (n := n) (x := z) (by simpa using hg1_7) (by simpa using hg1_14) (by omega)
     refine ZY 3 ?_
     refine Zd0 (Zra 0 8) ?_
     refine ZY 6 ?_
     refine Zw ef (q_lookup1 (pt (ps y.id)) Tryz.underlying82 Tryz.underlying31 Tryz.zv86.h rfl rfl rfl (by rw [hlk]; rfl)) ?_
     refine Zy ?_
     refine ZD ?_
     refine ZY 8 ?_
     refine Zy ?_
     refine Zvg ef ef ef (q_neMN Tryz.underlying88 rfl rfl) ?_
     refine ZY 8 ?_
     refine ZY 8 ?_
     refine ZY 4 ?_
     refine S.bjClose b st ps ub jb mb ov iv dv mv sb l i y av lb db none qb hi rfl (hset y rfl) (hF.set hjy) hJ ?_
     rw [set_self hok hgy]
     refine Zp (Zc1 Ze (stopHeard_S b st ps n hl) ?_)
     rintro v Θ rfl
     refine Zy ?_
     exact Zfn ef Zq (by rw [hg, hnr])
 | some r =>
  obtain ⟨q, hq⟩ : ∃ q, rb = some q := by have := hJ.r; rw [hr] at this; cases rb with | none => cases this | some q => exact ⟨q, rfl⟩
  subst hq
  have hnr : noteR st n z = if 0 < z.frm ∧ n ∈ y.at_ then st.set (rnX y r n (z.frm, z.til)) else st := by rw [noteR, hg0]; dsimp only; rw [hr]
  have hno := noteR_ord st n z
  obtain ⟨y1, hy1⟩ : ∃ y1 : Bj, y1 = rnX y r n (z.frm, z.til) := ⟨_, rfl⟩
  have hj1 : JOk st.nodes y1 := by rw [hy1]; exact hjy.rnX hr n hz
  have hid : y1.id = y.id := by rw [hy1]
  have hrr : y1.ran = some (ranPut r n (z.frm, z.til)) := by rw [hy1]
  obtain ⟨t, ht⟩ : ∃ t : Br, t = noteR st n z := ⟨_, rfl⟩
  have hto : t.orders.length ≤ 880000 := by rw [ht, hno]; exact hl
  refine ZS ?_
  refine ZY 2 ?_
  refine Zp (S.box (cs := [_, _, _, _, _, _, _, _, _, _, _, _, _]) rfl rfl rfl ?_)
  intro b5
  refine ZY 3 ?_
  refine Zd ([blk b5 72 (ntC z v).toArray, blk b 84 (bC st ub jb mb ov iv dv mv sb).toArray]) [] (Zra 0 5) ?_
  refine ZY 5 ?_
  refine Z1 (i := 5) ef ef ?_
  refine  (Zcp Ze (hasO_S sb st.stops n) ?_)
  refine Zk [6, 7] ?_
  refine ZY 2 ?_
  refine Zbb 14 ef (fun hg1_7 => ?_) (fun hg1_7 => ?_)
  ·have hg := heardR_no (b := st) (n := n) (x := z) (fun h => by rw [decide_eq_true h.1] at hg1_7; cases hg1_7)
   refine Zr (Zra 8 15) ?_
   refine ZY 8 ?_
   refine ZY 7 ?_
   refine ZD ?_
   refine ZY 2 ?_
   refine S.bjClose b st ps ub jb mb ov iv dv mv sb l i y av lb db (some q) qb hi rfl (hset y rfl) (hF.set hjy) hJ ?_
   rw [set_self hok hgy]
   exact Zf ef Zq (by rw [hg])
  ·refine Zr (Zra 8 7) ?_
   refine ZY 7 ?_
   refine Zbb 21 ef (fun hg1_14 => ?_) (fun hg1_14 => ?_)
   ·have hg := heardR_no (b := st) (n := n) (x := z) (fun h => by rw [h.2.1] at hg1_14; cases hg1_14)
    refine Zr (Zra 15 8) ?_
    refine ZY 8 ?_
    refine ZD ?_
    refine ZY 2 ?_
    refine S.bjClose b st ps ub jb mb ov iv dv mv sb l i y av lb db (some q) qb hi rfl (hset y rfl) (hF.set hjy) hJ ?_
    rw [set_self hok hgy]
    exact Zf ef Zq (by rw [hg])
   ·refine Zr (Zra 15 8) ?_
    refine ZY 8 ?_
    refine ZD ?_
    refine Zj ef (fun h1 => ?_) (fun h1 => ?_)
    ·have hg := heardR_no (b := st) (n := n) (x := z) (fun h => h1 (by rw [h.2.2]))
     refine Zy ?_
     refine S.bjClose b st ps ub jb mb ov iv dv mv sb l i y av lb db (some q) qb hi rfl (hset y rfl) (hF.set hjy) hJ ?_
     rw [set_self hok hgy]
     exact Zf ef Zq (by rw [hg])
    ·have hg := heardR_yes (b := st) (n := n) (x := z) (by simpa using hg1_7) (by simpa using hg1_14) (by omega)
     refine ZY 3 ?_
     refine Zd0 (Zra 0 8) ?_
     refine ZY 6 ?_
     refine Zw ef (q_lookup1 (pt (ps y.id)) Tryz.underlying82 Tryz.underlying31 Tryz.zv86.h rfl rfl rfl (by rw [hlk]; rfl)) ?_
     refine Zy ?_
     refine ZD ?_
     refine ZY 8 ?_
     refine Zy ?_
     refine Zvg ef ef ef (q_neMN Tryz.underlying88 rfl rfl) ?_
     refine ZY 7 ?_
     refine Zb 51 ef (fun hg3_14 => ?_) (fun hg3_14 => ?_)
     ·refine ZY 5 ?_
      refine Zg ef ef ef (Zcp Ze (Contains_S (own av 3 1 (nds y.at_)) av y.at_ n hJ.an RdS.own) ?_)
      refine ZY 2 ?_
      refine Zj ef (fun h2 => ?_) (fun h2 => ?_)
      ·have hts : t = st.set y1 := by rw [ht, hnr, if_pos ⟨by omega, h2⟩, hy1]
       refine S.conv (optR (some q) y.ran) (Ent.optR1 hr _) ?_
       refine Zd ([blk b5 72 (ntC z v).toArray, blk (ps y.id) 90 (bjC y av lb db (some q) qb).toArray]) [10] (Zra 0 10) ?_
       refine ZY 8 ?_
       refine Zy ?_
       refine Zw ef (q_buildA (pvs := [(_, _), (_, _)]) [_, _] Tryz.z175.h Tryz.ar175.h ⟨⟨rfl, rfl⟩, ⟨rfl, rfl⟩, trivial⟩ rfl) ?_
       refine Z1 (i := 10) ef ef ?_
       refine (S.mapUpdate Tryz.underlying88 Tryz.underlying3 rfl rfl rfl rfl ?_)
       rw [ranE_put r n (z.frm, z.til)]
       refine S.conv (mapL q .i64 (ranE (ranPut r n (z.frm, z.til)))) (Ent.optR2 hrr _) ?_
       refine S.blkAs (ps y.id) (bjC y1 av lb db (some q) qb).toArray (by rw [hy1]) ?_
       refine S.sub (jX (ps y.id) y1 av lb db (some q) qb (bR b st ps ub jb mb ov iv dv mv sb l i Γ)) (e := by subst hy1; infer_instance) ?_
       refine S.bjClose b st ps ub jb mb ov iv dv mv sb l i y1 av lb db (some q) qb hi hid (hset y1 hid) (hF.set hj1) ⟨by rw [hy1]; exact hJ.an, by rw [hy1]; exact hJ.l, by rw [hy1]; exact hJ.d, by rw [hy1]; rfl, by rw [hy1]; exact hJ.s⟩ ?_
       refine S.conv (BP b (st.set y1) ps) (show Ent _ (BP b t ps :: _) by rw [hts]; exact Ent.refl _) ?_
       refine ZL ([]) [] ?_
       refine ZD ?_
       refine ZY 3 ?_
       refine Zp (Zc1 Ze (stopHeard_S b t ps n hto) ?_)
       rintro v Θ rfl
       rw [ht]
       refine Zy ?_
       exact Zfn ef Zq (by rw [hg])
      ·have hts : t = st := by rw [ht, hnr, if_neg (fun h => h2 h.2)]
       refine S.bjClose b st ps ub jb mb ov iv dv mv sb l i y av lb db (some q) qb hi rfl (hset y rfl) (hF.set hjy) hJ ?_
       rw [set_self hok hgy]
       refine S.conv (BP b st ps) (show Ent _ (BP b t ps :: _) by rw [hts]; exact Ent.refl _) ?_
       refine ZY 4 ?_
       refine Zp (Zc1 Ze (stopHeard_S b t ps n hto) ?_)
       rintro v Θ rfl
       rw [ht]
       refine Zy ?_
       exact Zfn ef Zq (by rw [hg])
     ·have hts : t = st := by rw [ht, hnr, if_neg (fun h => hg3_14 (by omega))]
      refine S.bjClose b st ps ub jb mb ov iv dv mv sb l i y av lb db (some q) qb hi rfl (hset y rfl) (hF.set hjy) hJ ?_
      rw [set_self hok hgy]
      refine S.conv (BP b st ps) (show Ent _ (BP b t ps :: _) by rw [hts]; exact Ent.refl _) ?_
      refine ZY 8 ?_
      refine ZY 5 ?_
      refine Zp (Zc1 Ze (stopHeard_S b t ps n hto) ?_)
      rintro v Θ rfl
      rw [ht]
      refine Zy ?_
      exact Zfn ef Zq (by rw [hg])
end BN
end Go.Proofs.YtdackcibfkkniaaGreatDoor
namespace Go.Proofs.YtdackcibfkkniaaGreatDoor
open Go.RowKit
namespace BN
section
variable {n : Nat} {md : Bool} {w0 : WM md} {ρ : Env} {Γ Δ : List Assn} {φ : Act → World → Prop}
theorem S.savShut (q hb : Nat) (v : SV) (id : Nat) (s : Sv) [p : Picks [blk q 131 #[.int .u32 (id : Int), .int .u32 (s.ver : Int), .int .i64 (s.credit : Int), v.v, .map (some hb), .bool s.told], mapL hb .i64 (setE s.have_), if s.told then (fun _ => True) else blobs v s.bs] Γ Δ] (k : S n w0 ρ (savB (some q) id (some s) :: Δ) φ) : S n w0 ρ Γ φ :=
 S.ent (p.ent.trans ((Ent.pack [_, _, _] Δ).trans (Ent.mono1 Δ fun _ s => ⟨hb, v, s⟩))) k
end
theorem Resting_S (b : Nat) (st : Br) (ps : Nat → Nat) : Spec Tryz.prog 17 [pt b] [BP b st ps] fun Γ v Θ => v = .bool st.stops.isNone ∧ Θ = BP b st ps :: Γ := by
 refine Zbd Tryz.func17 rfl Tryz.ntmps17 fun w0 Γ => Zsh ?_
 refine S.bpOpen b st ps fun ub jb mb ov iv dv mv sb l hF => ?_
 have hsn : sb.isNone = st.stops.isNone := (show ∀ (a : Option Nat) (c : Option (List Nat)), a.isSome = c.isSome → a.isNone = c.isNone from fun a c h => by cases a <;> cases c <;> first | rfl | cases h) _ _ hF.sn
 refine ZY 8 ?_
 refine ZY 5 ?_
 refine Zvg ef ef ef (q_eqMN Tryz.underlying81 rfl rfl) ?_
 refine ZY 4 ?_
 refine S.bpClose b st ps ub jb mb ov iv dv mv sb l hF ?_
 exact Zf ef Zq (⟨by rw [← hsn]; rfl, rfl⟩)
theorem Gen_S (b : Nat) (st : Br) (ps : Nat → Nat) : Spec Tryz.prog 18 [pt b] [BP b st ps] fun Γ v Θ => v = .int .u32 (st.gen : Int) ∧ Θ = BP b st ps :: Γ := by
 refine Zbd Tryz.func18 rfl Tryz.ntmps18 fun w0 Γ => Zsh ?_
 refine S.bpOpen b st ps fun ub jb mb ov iv dv mv sb l hF => ?_
 refine ZY 8 ?_
 refine ZY 2 ?_
 refine ZF ef ?_
 refine ZY 8 ?_
 refine ZY 2 ?_
 refine S.bpClose b st ps ub jb mb ov iv dv mv sb l hF ?_
 exact Zf ef Zq (⟨rfl, rfl⟩)
theorem Take_S (b : Nat) (st : Br) (ps : Nat → Nat) : Spec Tryz.prog 16 [pt b] [BP b st ps] fun Γ v Θ => ∃ tv : SV, v = tv.v ∧ tv.n = st.orders.length ∧ Θ = own tv 97 14 (st.orders.flatMap odC) :: BP b { st with orders := [] } ps :: Γ := by
 refine Spec.bpOk fun hok => ?_
 refine Zbd Tryz.func16 rfl Tryz.ntmps16 fun w0 Γ => Zsh ?_
 refine S.bpOpen b st ps fun ub jb mb ov iv dv mv sb l hF => ?_
 refine ZY 8 ?_
 refine ZY 2 ?_
 refine ZF ef ?_
 refine ZY 8 ?_
 refine ZY 8 ?_
 refine ZY 6 ?_
 refine S.ent (show Ent _ (own SV.nil 97 14 (([] : List Od).flatMap odC) :: _) from Ent.ownNil 97 14) ?_
 refine S.sub (bX b { st with orders := [] } ps ub jb mb SV.nil iv dv mv sb l (own ov 97 14 (st.orders.flatMap odC) :: Γ)) ?_
 refine S.bpClose b { st with orders := [] } ps ub jb mb SV.nil iv dv mv sb l ⟨hok.oset [], hF.perm, rfl, hF.im, hF.dn, hF.mn, hF.sn⟩ ?_
 exact Zf ef Zq (⟨ov, rfl, hF.on, rfl⟩)
theorem pub_no {st : Br} {x : Bj} {s : Sv} {ver : Nat} {ok : Bool} (hg : getJ st.js x.id = some x) (hs : x.sav = some s) (h : s.told = false ∨ s.ver ≠ ver) : publishedR st x.id ver ok = (6, st) := by
 unfold publishedR
 rw [hg]
 show (match x.sav with | none => _ | some s => _) = _
 rw [hs]
 exact if_pos h
theorem pub_yes {st : Br} {x : Bj} {s : Sv} {ver : Nat} {ok : Bool} (hg : getJ st.js x.id = some x) (hs : x.sav = some s) (h1 : s.told = true) (h2 : s.ver = ver) : publishedR st x.id ver ok = (0, finishR st { x with credit := if ok then s.credit else x.credit, sav := none }) := by
 unfold publishedR
 rw [hg]
 show (match x.sav with | none => _ | some s => _) = _
 rw [hs]
 exact if_neg (fun h => by rcases h with h | h; (rw [h1] at h; cases h); exact h h2)
theorem Published_S (b : Nat) (st : Br) (ps : Nat → Nat) (id ver : Nat) (ok : Bool) (hl : st.orders.length ≤ 900000) (hd : st.done.length ≤ 900000) : Spec Tryz.prog 32 [pt b, .int .u32 (id : Int), .int .u32 (ver : Int), .bool ok] [BP b st ps] fun Γ v Θ => v = .int .i64 (publishedR st id ver ok).1 ∧ Θ = BP b (publishedR st id ver ok).2 ps :: Γ := by
 refine Spec.bpOk fun hok => ?_
 refine Spec.of_body Tryz.func32 rfl Tryz.ntmps32 rfl ?_
 intro w0 Γ
 show S _ w0 [(0, pt b), (1, .int .u32 (id : Int)), (2, .int .u32 (ver : Int)), (3, .bool ok)] (BP b st ps :: Γ) _
 cases hgj : getJ st.js id with
 | none =>
  have hg : publishedR st id ver ok = (6, st) := by rw [publishedR, hgj]
  refine S.bpOpen b st ps fun ub jb mb ov iv dv mv sb l hF => ?_
  refine ZS ?_
  refine ZY 8 ?_
  refine ZY 7 ?_
  refine Zvg ef ef ef (q_lookup1 (.pointer none) Tryz.underlying82 Tryz.underlying31 Tryz.zv86.h rfl rfl rfl (by rw [jE_get hok.srt hF.perm, hgj]; rfl)) ?_
  refine ZY 3 ?_
  refine ZT ef ?_
  refine ZY 5 ?_
  refine S.bpClose b st ps ub jb mb ov iv dv mv sb l hF ?_
  exact Zf ef Zq (⟨by rw [hg]; rfl, by rw [hg]⟩)
 | some x =>
 obtain ⟨_, hxi⟩ := getJ_some hgj
 subst hxi
 have hg0 := hgj
 have hjx := hok.at_ hg0
 refine S.bjOpen b st ps x hg0 fun ub jb mb ov iv dv mv sb l i av lb db rb qb hF hi hset hrm hJ => ?_
 have hlk : alGet (x.id : Int) l = some (pt (ps x.id)) := by rw [jE_get hok.srt hF.perm, hg0]; rfl
 cases hs : x.sav with
 | none =>
  have hg : publishedR st x.id ver ok = (6, st) := by rw [publishedR, hg0]; dsimp only; rw [hs]
  have hqb : qb = none := by have := hJ.s; rw [hs] at this; cases qb with | none => rfl | some q => cases this
  subst hqb
  refine ZS ?_
  refine ZY 8 ?_
  refine ZY 7 ?_
  refine Zvg ef ef ef (q_lookup1 (pt (ps x.id)) Tryz.underlying82 Tryz.underlying31 Tryz.zv86.h rfl rfl rfl (by rw [hlk]; rfl)) ?_
  refine ZY 3 ?_
  refine ZF ef ?_
  refine ZY 8 ?_
  refine Zv (q_lookup1 (pt (ps x.id)) Tryz.underlying82 Tryz.underlying31 Tryz.zv86.h rfl rfl rfl (by rw [hlk]; rfl)) ?_
  refine ZY 8 ?_
  refine ZY 8 ?_
  refine ZY 8 ?_
  refine ZY 8 ?_
  refine ZY 7 ?_
  refine S.bjClose b st ps ub jb mb ov iv dv mv sb l i x av lb db rb none hi rfl (hset x rfl) (hF.set hjx) hJ ?_
  rw [set_self hok hg0]
  exact Zf ef Zq (⟨by rw [hg]; rfl, by rw [hg]⟩)
 | some s =>
  obtain ⟨q, hq⟩ : ∃ q, qb = some q := by have := hJ.s; rw [hs] at this; cases qb with | none => cases this | some q => exact ⟨q, rfl⟩
  subst hq
  refine S.conv (savB (some q) x.id x.sav) (show Ent _ (savB (some q) x.id (some s) :: _) by rw [hs]; exact Ent.refl _) ?_
  refine S.savOpen q x.id s fun hb sv => ?_
  cases ok with
  | true =>
  obtain ⟨x1, hx1⟩ : ∃ x1 : Bj, x1 = { x with credit := s.credit, sav := none } := ⟨_, rfl⟩
  have hj1 : JOk st.nodes x1 := by rw [hx1]; exact ⟨hjx.id1, hjx.id2, hjx.tier, hjx.k1, hjx.kn, hjx.w, (hjx.svl s hs).2, hjx.wk, hjx.rise, hjx.at_, hjx.drop, hjx.lod, hjx.ran, hjx.ld, fun s hs => (by cases hs)⟩
  have hid : x1.id = x.id := by rw [hx1]
  have hx2 : getJ (st.set x1).js x1.id = some x1 := get_set st (by rw [hid]; exact hg0)
  have hspec : Spec Tryz.prog 39 [pt b, pt (ps x.id)] [BP b (st.set x1) ps] fun Γ _ Θ => Θ = BP b (finishR (st.set x1) x1) ps :: Γ := by
   rw [← hid]
   exact finish_S b _ ps x1 hx2 hl hd
  refine ZS ?_
  refine ZY 8 ?_
  refine ZY 7 ?_
  refine Zvg ef ef ef (q_lookup1 (pt (ps x.id)) Tryz.underlying82 Tryz.underlying31 Tryz.zv86.h rfl rfl rfl (by rw [hlk]; rfl)) ?_
  refine ZY 3 ?_
  refine ZF ef ?_
  refine ZY 8 ?_
  refine Zv (q_lookup1 (pt (ps x.id)) Tryz.underlying82 Tryz.underlying31 Tryz.zv86.h rfl rfl rfl (by rw [hlk]; rfl)) ?_
  refine ZY 8 ?_
  refine ZY 8 ?_
  refine ZY 5 ?_
  refine Zbb 42 ef (fun hg4_15 => ?_) (fun hg4_15 => ?_)
  ·have hg := pub_no (ok := true) hg0 hs (.inl (show s.told = false by simpa using hg4_15)) (ver := ver)
   refine ZY 8 ?_
   refine ZY 8 ?_
   refine ZY 2 ?_
   refine S.savShut q hb sv x.id s ?_
   refine S.conv (savB (some q) x.id (some s)) (show Ent _ (savB (some q) x.id x.sav :: _) by rw [hs]; exact Ent.refl _) ?_
   refine S.bjClose b st ps ub jb mb ov iv dv mv sb l i x av lb db rb (some q) hi rfl (hset x rfl) (hF.set hjx) hJ ?_
   rw [set_self hok hg0]
   exact Zf ef Zq (⟨by rw [hg]; rfl, by rw [hg]⟩)
  ·refine ZY 8 ?_
   refine ZY 4 ?_
   refine Zj ef (fun h2 => ?_) (fun h2 => ?_)
   ·have hg := pub_no (ok := true) hg0 hs (ver := ver) (.inr (by omega))
    refine ZY 5 ?_
    refine S.savShut q hb sv x.id s ?_
    refine S.conv (savB (some q) x.id (some s)) (show Ent _ (savB (some q) x.id x.sav :: _) by rw [hs]; exact Ent.refl _) ?_
    refine S.bjClose b st ps ub jb mb ov iv dv mv sb l i x av lb db rb (some q) hi rfl (hset x rfl) (hF.set hjx) hJ ?_
    rw [set_self hok hg0]
    exact Zf ef Zq (⟨by rw [hg]; rfl, by rw [hg]⟩)
   ·have hg : publishedR st x.id ver true = (0, finishR st x1) := by rw [hx1]; exact pub_yes (ok := true) hg0 hs (by simpa using hg4_15) (by omega)
    refine ZY 6 ?_
    refine ZT ef ?_
    refine ZY 8 ?_
    refine ZY 8 ?_
    refine ZY 8 ?_
    refine ZY 2 ?_
    refine S.blkAs (ps x.id) (bjC x1 av lb db rb none).toArray (by rw [hx1]; rfl) ?_
    refine S.ent (savNil x.id _) ?_
    refine S.sub (jX (ps x.id) x1 av lb db rb none (bR b st ps ub jb mb ov iv dv mv sb l i Γ)) (e := by subst hx1; infer_instance) ?_
    refine S.bjClose b st ps ub jb mb ov iv dv mv sb l i x1 av lb db rb none hi hid (hset x1 hid) (hF.set hj1) ⟨by rw [hx1]; exact hJ.an, by rw [hx1]; exact hJ.l, by rw [hx1]; exact hJ.d, by rw [hx1]; exact hJ.r, by rw [hx1]; rfl⟩ ?_
    refine Zp (Zc1 Ze (hspec) ?_)
    rintro v Θ rfl
    rw [finish_set st (x := x1) (y := x1) rfl]
    refine ZY 6 ?_
    exact Zf ef Zq (⟨by rw [hg]; rfl, by rw [hg]⟩)
  | false =>
  obtain ⟨x1, hx1⟩ : ∃ x1 : Bj, x1 = { x with credit := x.credit, sav := none } := ⟨_, rfl⟩
  have hj1 : JOk st.nodes x1 := by rw [hx1]; exact ⟨hjx.id1, hjx.id2, hjx.tier, hjx.k1, hjx.kn, hjx.w, hjx.cr, hjx.wk, hjx.rise, hjx.at_, hjx.drop, hjx.lod, hjx.ran, hjx.ld, fun s hs => (by cases hs)⟩
  have hid : x1.id = x.id := by rw [hx1]
  have hx2 : getJ (st.set x1).js x1.id = some x1 := get_set st (by rw [hid]; exact hg0)
  have hspec : Spec Tryz.prog 39 [pt b, pt (ps x.id)] [BP b (st.set x1) ps] fun Γ _ Θ => Θ = BP b (finishR (st.set x1) x1) ps :: Γ := by
   rw [← hid]
   exact finish_S b _ ps x1 hx2 hl hd
  refine ZS ?_
  refine ZY 8 ?_
  refine ZY 7 ?_
  refine Zvg ef ef ef (q_lookup1 (pt (ps x.id)) Tryz.underlying82 Tryz.underlying31 Tryz.zv86.h rfl rfl rfl (by rw [hlk]; rfl)) ?_
  refine ZY 3 ?_
  refine ZF ef ?_
  refine ZY 8 ?_
  refine Zv (q_lookup1 (pt (ps x.id)) Tryz.underlying82 Tryz.underlying31 Tryz.zv86.h rfl rfl rfl (by rw [hlk]; rfl)) ?_
  refine ZY 8 ?_
  refine ZY 8 ?_
  refine ZY 5 ?_
  refine Zbb 42 ef (fun hg4_15 => ?_) (fun hg4_15 => ?_)
  ·have hg := pub_no (ok := false) hg0 hs (.inl (show s.told = false by simpa using hg4_15)) (ver := ver)
   refine ZY 8 ?_
   refine ZY 8 ?_
   refine ZY 2 ?_
   refine S.savShut q hb sv x.id s ?_
   refine S.conv (savB (some q) x.id (some s)) (show Ent _ (savB (some q) x.id x.sav :: _) by rw [hs]; exact Ent.refl _) ?_
   refine S.bjClose b st ps ub jb mb ov iv dv mv sb l i x av lb db rb (some q) hi rfl (hset x rfl) (hF.set hjx) hJ ?_
   rw [set_self hok hg0]
   exact Zf ef Zq (⟨by rw [hg]; rfl, by rw [hg]⟩)
  ·refine ZY 8 ?_
   refine ZY 4 ?_
   refine Zj ef (fun h2 => ?_) (fun h2 => ?_)
   ·have hg := pub_no (ok := false) hg0 hs (ver := ver) (.inr (by omega))
    refine ZY 5 ?_
    refine S.savShut q hb sv x.id s ?_
    refine S.conv (savB (some q) x.id (some s)) (show Ent _ (savB (some q) x.id x.sav :: _) by rw [hs]; exact Ent.refl _) ?_
    refine S.bjClose b st ps ub jb mb ov iv dv mv sb l i x av lb db rb (some q) hi rfl (hset x rfl) (hF.set hjx) hJ ?_
    rw [set_self hok hg0]
    exact Zf ef Zq (⟨by rw [hg]; rfl, by rw [hg]⟩)
   ·have hg : publishedR st x.id ver false = (0, finishR st x1) := by rw [hx1]; exact pub_yes (ok := false) hg0 hs (by simpa using hg4_15) (by omega)
    refine ZY 6 ?_
    refine ZF ef ?_
    refine ZY 8 ?_
    refine ZY 4 ?_
    refine S.blkAs (ps x.id) (bjC x1 av lb db rb none).toArray (by rw [hx1]; rfl) ?_
    refine S.ent (savNil x.id _) ?_
    refine S.sub (jX (ps x.id) x1 av lb db rb none (bR b st ps ub jb mb ov iv dv mv sb l i Γ)) (e := by subst hx1; infer_instance) ?_
    refine S.bjClose b st ps ub jb mb ov iv dv mv sb l i x1 av lb db rb none hi hid (hset x1 hid) (hF.set hj1) ⟨by rw [hx1]; exact hJ.an, by rw [hx1]; exact hJ.l, by rw [hx1]; exact hJ.d, by rw [hx1]; exact hJ.r, by rw [hx1]; rfl⟩ ?_
    refine Zp (Zc1 Ze (hspec) ?_)
    rintro v Θ rfl
    rw [finish_set st (x := x1) (y := x1) rfl]
    refine ZY 6 ?_
    exact Zf ef Zq (⟨by rw [hg]; rfl, by rw [hg]⟩)
end BN
end Go.Proofs.YtdackcibfkkniaaGreatDoor
namespace Go.Proofs.YtdackcibfkkniaaGreatDoor
open Go.RowKit
namespace BN
abbrev stopOrd (st : Br) (n : Nat) : Od := (n, { kind := 6, gen := st.gen })
theorem BrOk.hset {st : Br} (h : BrOk st) (a : Bool) : BrOk { st with stopped := a } := ⟨h.R, h.N, h.mok, h.srt, fun x hx => h.job x hx, h.few, h.q1, h.q2, h.g1, h.g2, h.now, h.fin, h.mem, h.stp⟩
theorem stop_S (b : Nat) (st : Br) (ps : Nat → Nat) (hl : st.orders.length ≤ 900000) : Spec Tryz.prog 41 [pt b] [BP b st ps] fun Γ _ Θ => Θ = BP b (stopR st) ps :: Γ := by
 refine Spec.bpOk fun hok => ?_
 have hN := hok.N16
 refine Zbd Tryz.func41 rfl Tryz.ntmps41 fun w0 Γ => Zsh ?_
 refine S.bpOpen b st ps fun ub jb mb ov iv dv mv sb l hF => ?_
 refine ZY 8 ?_
 refine ZY 8 ?_
 refine Zy ?_
 refine Zl (fun q ρ' Γ' => ∃ (i : Nat) (ns : List Nat) (os : List Od) (ov2 : SV), q = st.nodes - i ∧ i ≤ st.nodes ∧ ns = (List.range i).filter (fun n => decide (n ∈ st.stops.getD [])) ∧ ns.length ≤ i ∧ os = st.orders ++ ns.map (stopOrd st) ∧ ov2.n = os.length ∧ ρ' = [(0, pt b), (10, .int .i64 (st.nodes : Int)), (11, .int .i64 (i : Int))] ∧ Γ' = bX b { st with stopped := true, orders := os } ps ub jb mb ov2 iv dv mv sb l Γ) (m := _) (⟨0, [], st.orders, ov, rfl, by omega, rfl, Nat.le_refl 0, by simp, hF.on, rfl, rfl⟩) ?_
 rintro q ρ' Γ' ⟨i, ns, os, ov2, hq, hi, hns, hnl, hos, hov2, rfl, rfl⟩
 have hol : os.length ≤ 900016 := by rw [hos, List.length_append, List.length_map]; omega
 refine ZY 5 ?_
 refine Zj ef (fun h1 => ?_) (fun h1 => ?_)
 ·have hil : i < st.nodes := by omega
  refine ZY 8 ?_
  refine ZY 7 ?_
  refine Zp (Zcp Ze (hasO_S sb st.stops i) ?_)
  refine Zy ?_
  refine Zj ef (fun h2 => ?_) (fun h2 => ?_)
  ·have hns2 : ns ++ [i] = (List.range (i + 1)).filter (fun n => decide (n ∈ st.stops.getD [])) := by rw [List.range_succ, List.filter_append, ← hns]; simp [h2]
   have hos2 : os ++ [((i, { kind := 6, gen := st.gen }) : Od)] = st.orders ++ (ns ++ [i]).map (stopOrd st) := by rw [hos, List.map_append, List.append_assoc]; rfl
   refine ZY 7 ?_
   refine Zv (q_build (pvs := [(_, _), (_, _)]) [_, _, _, _, _, _, _, _, _, _, _, _, _] Tryz.z72.h Tryz.p72.h ⟨⟨rfl, rfl⟩, ⟨rfl, rfl⟩, trivial⟩ rfl) ?_
   refine Zp (Zc1 Ze (order_S b { st with stopped := true, orders := os } ub jb mb ov2 iv dv mv sb i { kind := 6, gen := st.gen } os hov2 (by omega)) ?_)
   rintro v Θ ⟨ov3, hov3, rfl⟩
   refine ZY 2 ?_
   refine Zv (Za ef ef) ?_
   refine ZY 2 ?_
   first | exact ZX (q - 1) ⟨i + 1, ns ++ [i], os ++ [((i, { kind := 6, gen := st.gen }) : Od)], ov3, by omega, by omega, hns2, by rw [List.length_append, List.length_singleton]; omega, hos2, hov3, rfl, rfl⟩ (by omega) | exact ZX (q - 1) ⟨i + 1, ns, os, ov2, by omega, by omega, hns2, by omega, hos, hov2, rfl, rfl⟩ (by omega)
  ·have hns2 : ns = (List.range (i + 1)).filter (fun n => decide (n ∈ st.stops.getD [])) := by rw [List.range_succ, List.filter_append, ← hns]; simp [h2]
   refine ZY 2 ?_
   refine Zv (Za ef ef) ?_
   refine ZY 2 ?_
   first | exact ZX (q - 1) ⟨i + 1, ns ++ [i], os ++ [((i, { kind := 6, gen := st.gen }) : Od)], ov3, by omega, by omega, hns2, by rw [List.length_append, List.length_singleton]; omega, hos2, hov3, rfl, rfl⟩ (by omega) | exact ZX (q - 1) ⟨i + 1, ns, os, ov2, by omega, by omega, hns2, by omega, hos, hov2, rfl, rfl⟩ (by omega)
 ·have hg : stopR st = { st with stopped := true, orders := os } := by rw [stopR, hos, hns, show i = st.nodes by omega]
  refine Zy ?_
  refine S.bpClose b { st with stopped := true, orders := os } ps ub jb mb ov2 iv dv mv sb l ⟨(hok.oset os).hset true, hF.perm, hov2, hF.im, hF.dn, hF.mn, hF.sn⟩ ?_
  exact Zfn ef Zq (by rw [hg])
end BN
end Go.Proofs.YtdackcibfkkniaaGreatDoor
namespace Go.Proofs.YtdackcibfkkniaaGreatDoor
open Go.RowKit
namespace BN
theorem leaveE : EachOk leaveJ := by
 refine ⟨fun st x h hx => ?_, fun st x id hid => ?_, fun st x h hx => ?_⟩
 ·unfold leaveJ
  split
  ·exact dropR_ok h (h.at_ hx) true
  ·exact h
 ·unfold leaveJ
  split
  ·exact drop_oth st true hid
  ·rfl
 ·unfold leaveJ
  split
  ·have h1 := (dropR_same st x true).1
   have h2 := len16 h hx
   omega
  ·omega
theorem leave_yes {st : Br} {x : Bj} (h : x.warned = true ∧ x.drops = none ∧ (x.till ≤ st.now ∨ (x.work = x.credit ∧ x.sav.isNone))) : leaveJ st x = dropR st x true := if_pos h
theorem leave_no {st : Br} {x : Bj} (h : ¬ (x.warned = true ∧ x.drops = none ∧ (x.till ≤ st.now ∨ (x.work = x.credit ∧ x.sav.isNone)))) : leaveJ st x = st := if_neg h
theorem isoN {α β : Type} {a : Option α} {c : Option β} (h : a.isSome = c.isSome) : a.isNone = c.isNone := by cases a <;> cases c <;> first | rfl | cases h
set_option maxHeartbeats 1000000 in
theorem leave_S (b : Nat) (st : Br) (ps : Nat → Nat) (hl : st.orders.length ≤ 880000) : Spec Tryz.prog 42 [pt b] [BP b st ps] fun Γ _ Θ => Θ = BP b (each leaveJ st st.ids) ps :: Γ := by
 refine Spec.bpOk fun hok => ?_
 have hfew := hok.few
 refine Zbd Tryz.func42 rfl Tryz.ntmps42 fun w0 Γ => Zsh ?_
 refine ZY 3 ?_
 refine Zp (Zc1 Ze (all_S b st ps) ?_)
 rintro v Θ ⟨jv, rfl, hjv, rfl⟩
 refine S.ownLen jv fun hl1 hl2 hl3 => ?_
 have hmx : maxLen ≤ 9223372036854775807 := by unfold maxLen; omega
 refine ZY 4 ?_
 refine Zl (fun q ρ' Γ' => ∃ (e : Nat) (t : Br), q = st.js.length - e ∧ e ≤ st.js.length ∧ t = each leaveJ st (st.ids.take e) ∧ ρ' = [(0, pt b), (5, jv.v), (6, .int .i64 (jv.n : Int)), (7, .int .i64 (e : Int))] ∧ Γ' = own jv 86 1 (pts ps st.js) :: BP b t ps :: Γ) (m := _) (⟨0, st, rfl, by omega, rfl, rfl, rfl⟩) ?_
 rintro q ρ' Γ' ⟨e, t, hq, he, ht, rfl, rfl⟩
 have hI := each_inv leaveE hok e he
 have hIo := hI.ord
 have hto : t.orders.length ≤ 900000 := by rw [ht]; exact Nat.le_trans hIo (by omega)
 refine ZY 5 ?_
 refine Zj ef (fun h1 => ?_) (fun h1 => ?_)
 ·refine S.ownSome jv (by omega) fun sb so hsa _ _ _ => ?_
  obtain ⟨x, hx⟩ := getE (show e < st.js.length by omega)
  have hgx : getJ t.js x.id = some x := by rw [ht]; exact hI.here e x (Nat.le_refl e) hx
  have hst : each leaveJ st (st.ids.take (e + 1)) = leaveJ t x := by rw [ht]; exact each_step hI hx
  have hok3 : BrOk t := by rw [ht]; exact hI.ok
  have hjx := hok3.at_ hgx
  refine S.bjOpen b t ps x hgx fun ub jb mb ov iv dv mv sb l i av lb db rb qb hF hi hset hrm hJ => ?_
  have hdn : db.isNone = x.drops.isNone := isoN hJ.d
  have hqn : (qb.map fun b => (⟨b, 0, none⟩ : Addr)).isNone = x.sav.isNone := isoN (by rw [Option.isSome_map]; exact hJ.s)
  refine ZY 5 ?_
  refine Zv (Zx (e) ef (hsa) ef (by omega)) ?_
  refine Zv (Zo (jv) (e) ef (hsa) (by rw [List.getElem?_map, hx]; rfl)) ?_
  refine ZY 3 ?_
  refine Zd ([blk (ps x.id) 90 (bjC x av lb db rb qb).toArray, blk b 84 (bC t ub jb mb ov iv dv mv sb).toArray]) [] (Zra 0 5) ?_
  refine ZY 5 ?_
  refine Zbb 15 ef (fun hg3_4 => ?_) (fun hg3_4 => ?_)
  ·refine Zr (Zra 5 7) ?_
   refine ZY 4 ?_
   refine Zwg ef ef ef ef (q_eqMN Tryz.underlying81 rfl rfl) ?_
   refine ZY 2 ?_
   refine Zbb 22 ef (fun hg3_11 => ?_) (fun hg3_11 => ?_)
   ·have hxd : x.drops = none := by rw [hdn] at hg3_11; exact Option.isNone_iff_eq_none.1 hg3_11
    refine Zr (Zra 12 10) ?_
    refine ZY 8 ?_
    refine ZY 2 ?_
    refine Zb 32 ef (fun hg3_21 => ?_) (fun hg3_21 => ?_)
    ·have hyes := leave_yes (st := t) (x := x) ⟨hg3_4, hxd, .inl (by omega)⟩
     refine Zr (Zra 22 19) ?_
     refine ZY 8 ?_
     refine ZY 8 ?_
     refine ZY 3 ?_
     refine ZD ?_
     refine ZY 4 ?_
     refine S.bjClose b t ps ub jb mb ov iv dv mv sb l i x av lb db rb qb hi rfl (hset x rfl) (hF.set hjx) hJ ?_
     rw [set_self hok3 hgx]
     refine Zp (Zc1 Ze (drop_S b t ps x true hgx hto) ?_)
     rintro v Θ rfl
     refine ZY 2 ?_
     refine Zv (Za ef ef) ?_
     refine ZY 2 ?_
     first | exact ZX (q - 1) ⟨e + 1, dropR t x true, by omega, by omega, by rw [hst, hyes], rfl, rfl⟩ (by omega) | (refine S.bjClose b t ps ub jb mb ov iv dv mv sb l i x av lb db rb qb hi rfl (hset x rfl) (hF.set hjx) hJ ?_; rw [set_self hok3 hgx]; exact ZX (q - 1) ⟨e + 1, t, by omega, by omega, by rw [hst, hno], rfl, rfl⟩ (by omega))
    ·refine Zr (Zra 22 11) ?_
     refine ZY 8 ?_
     refine ZY 3 ?_
     refine Zb 43 ef (fun hg3_32 => ?_) (fun hg3_32 => ?_)
     ·refine Zr (Zra 33 8) ?_
      refine ZY 8 ?_
      refine ZD ?_
      refine Zi ef (fun h2 => ?_) (fun h2 => ?_)
      ·have hyes := leave_yes (st := t) (x := x) ⟨hg3_4, hxd, .inr ⟨by omega, by rw [← hqn]; exact h2⟩⟩
       refine ZY 3 ?_
       refine S.bjClose b t ps ub jb mb ov iv dv mv sb l i x av lb db rb qb hi rfl (hset x rfl) (hF.set hjx) hJ ?_
       rw [set_self hok3 hgx]
       refine Zp (Zc1 Ze (drop_S b t ps x true hgx hto) ?_)
       rintro v Θ rfl
       refine ZY 2 ?_
       refine Zv (Za ef ef) ?_
       refine ZY 2 ?_
       first | exact ZX (q - 1) ⟨e + 1, dropR t x true, by omega, by omega, by rw [hst, hyes], rfl, rfl⟩ (by omega) | (refine S.bjClose b t ps ub jb mb ov iv dv mv sb l i x av lb db rb qb hi rfl (hset x rfl) (hF.set hjx) hJ ?_; rw [set_self hok3 hgx]; exact ZX (q - 1) ⟨e + 1, t, by omega, by omega, by rw [hst, hno], rfl, rfl⟩ (by omega))
      ·have hno := leave_no (st := t) (x := x) (fun h => by rcases h.2.2 with h | h; omega; rw [← hqn] at h; rw [h.2] at h2; cases h2)
       refine ZY 2 ?_
       refine Zv (Za ef ef) ?_
       refine ZY 2 ?_
       first | exact ZX (q - 1) ⟨e + 1, dropR t x true, by omega, by omega, by rw [hst, hyes], rfl, rfl⟩ (by omega) | (refine S.bjClose b t ps ub jb mb ov iv dv mv sb l i x av lb db rb qb hi rfl (hset x rfl) (hF.set hjx) hJ ?_; rw [set_self hok3 hgx]; exact ZX (q - 1) ⟨e + 1, t, by omega, by omega, by rw [hst, hno], rfl, rfl⟩ (by omega))
     ·have hno := leave_no (st := t) (x := x) (fun h => by rcases h.2.2 with h | h; omega; exact hg3_32 (by rw [h.1]))
      refine Zr (Zra 33 8) ?_
      refine ZY 8 ?_
      refine ZD ?_
      refine ZY 3 ?_
      refine Zv (Za ef ef) ?_
      refine ZY 2 ?_
      first | exact ZX (q - 1) ⟨e + 1, dropR t x true, by omega, by omega, by rw [hst, hyes], rfl, rfl⟩ (by omega) | (refine S.bjClose b t ps ub jb mb ov iv dv mv sb l i x av lb db rb qb hi rfl (hset x rfl) (hF.set hjx) hJ ?_; rw [set_self hok3 hgx]; exact ZX (q - 1) ⟨e + 1, t, by omega, by omega, by rw [hst, hno], rfl, rfl⟩ (by omega))
   ·have hno := leave_no (st := t) (x := x) (fun h => by rw [hdn, h.2.1] at hg3_11; cases hg3_11)
    refine Zr (Zra 12 29) ?_
    refine ZY 8 ?_
    refine ZY 8 ?_
    refine ZY 8 ?_
    refine ZY 5 ?_
    refine ZD ?_
    refine ZY 3 ?_
    refine Zv (Za ef ef) ?_
    refine ZY 2 ?_
    first | exact ZX (q - 1) ⟨e + 1, dropR t x true, by omega, by omega, by rw [hst, hyes], rfl, rfl⟩ (by omega) | (refine S.bjClose b t ps ub jb mb ov iv dv mv sb l i x av lb db rb qb hi rfl (hset x rfl) (hF.set hjx) hJ ?_; rw [set_self hok3 hgx]; exact ZX (q - 1) ⟨e + 1, t, by omega, by omega, by rw [hst, hno], rfl, rfl⟩ (by omega))
  ·have hno := leave_no (st := t) (x := x) (fun h => by rw [h.1] at hg3_4; cases hg3_4)
   refine Zr (Zra 5 36) ?_
   refine ZY 8 ?_
   refine ZY 8 ?_
   refine ZY 8 ?_
   refine ZY 8 ?_
   refine ZY 4 ?_
   refine ZD ?_
   refine ZY 3 ?_
   refine Zv (Za ef ef) ?_
   refine ZY 2 ?_
   first | exact ZX (q - 1) ⟨e + 1, dropR t x true, by omega, by omega, by rw [hst, hyes], rfl, rfl⟩ (by omega) | (refine S.bjClose b t ps ub jb mb ov iv dv mv sb l i x av lb db rb qb hi rfl (hset x rfl) (hF.set hjx) hJ ?_; rw [set_self hok3 hgx]; exact ZX (q - 1) ⟨e + 1, t, by omega, by omega, by rw [hst, hno], rfl, rfl⟩ (by omega))
 ·have hen : e = st.js.length := by omega
  refine Zy ?_
  exact Zfn ef Zq (by rw [← each_all hen, ← ht])
end BN
end Go.Proofs.YtdackcibfkkniaaGreatDoor
namespace Go.Proofs.YtdackcibfkkniaaGreatDoor
open Go.RowKit
namespace BN
theorem Done_S (b : Nat) (st : Br) (ps : Nat → Nat) : Spec Tryz.prog 33 [pt b] [BP b st ps] fun Γ v Θ => ∃ tv : SV, v = tv.v ∧ tv.n = st.done.length ∧ Θ = own tv 31 1 (idsV st.done) :: BP b { st with done := [] } ps :: Γ := by
 refine Spec.bpOk fun hok => ?_
 refine Zbd Tryz.func33 rfl Tryz.ntmps33 fun w0 Γ => Zsh ?_
 refine S.bpOpen b st ps fun ub jb mb ov iv dv mv sb l hF => ?_
 refine ZY 8 ?_
 refine ZY 2 ?_
 refine ZF ef ?_
 refine ZY 8 ?_
 refine ZY 8 ?_
 refine ZY 6 ?_
 refine S.ent (show Ent _ (own SV.nil 31 1 (idsV ([] : List Nat)) :: _) from Ent.ownNil 31 1) ?_
 refine S.sub (bX b { st with done := [] } ps ub jb mb ov iv SV.nil mv sb l (own dv 31 1 (idsV st.done) :: Γ)) ?_
 refine S.bpClose b { st with done := [] } ps ub jb mb ov iv SV.nil mv sb l ⟨hok.dset [], hF.perm, hF.on, hF.im, rfl, hF.mn, hF.sn⟩ ?_
 exact Zf ef Zq (⟨dv, rfl, hF.dn, rfl⟩)
theorem Jobs_S (b : Nat) (st : Br) (ps : Nat → Nat) : Spec Tryz.prog 27 [pt b] [BP b st ps] fun Γ v Θ => ∃ tv : SV, v = tv.v ∧ tv.n = st.js.length ∧ Θ = own tv 31 1 (idsV st.ids) :: BP b st ps :: Γ := by
 refine Spec.bpOk fun hok => ?_
 have hfew := hok.few
 refine Zbd Tryz.func27 rfl Tryz.ntmps27 fun w0 Γ => Zsh ?_
 refine S.bpOpen b st ps fun ub jb mb ov iv dv mv sb l hF => ?_
 have hll : l.length ≤ 65535 := by rw [hF.perm.length_eq, List.length_map]; omega
 refine ZY 8 ?_
 refine ZY 2 ?_
 refine ZF ef ?_
 refine ZY 7 ?_
 refine Zp (Zc1 Ze (Keys_S jb) ?_)
 rintro v Θ ⟨c, rfl, rfl⟩
 refine Zp (Zc1 Ze (Sorted_S c jb l hll) ?_)
 rintro v Θ ⟨sv, xs, rfl, hsv, hxs, hxp, rfl⟩
 have hx0 : xs = st.js.map fun x => (x.id : Int) := by
  refine srt_eq (hxs.trans ?_) hxp ?_
  ·have := hF.perm.map (·.1)
   rw [List.map_map] at this
   exact this
  ·exact List.pairwise_map.2 (hok.srt.imp fun h => by omega)
 have hxl : xs.length = st.js.length := by rw [hx0, List.length_map]
 have hcells : xs.map kv = idsV st.ids := by
  rw [hx0, List.map_map]
  show _ = (st.js.map (fun x => x.id)).map (fun j : Nat => Value.int .u32 (j : Int))
  rw [List.map_map]
  rfl
 rw [hcells]
 refine ZY 3 ?_
 refine S.bpClose b st ps ub jb mb ov iv dv mv sb l hF ?_
 exact Zf ef Zq (⟨sv, rfl, by omega, rfl⟩)
end BN
end Go.Proofs.YtdackcibfkkniaaGreatDoor
namespace Go.Proofs.YtdackcibfkkniaaGreatDoor
open Go.RowKit
theorem S.rNone {n : Nat} {md : Bool} {w0 : WM md} {ρ : Env} {Γ : List Assn} {φ : Act → World → Prop} {R : Assn} {s : SV} {m sz : Nat} {xs : List Value} (h : RdS R s m sz xs) {Δ : List Assn} [p : Pick R Γ Δ] (k : (s.a = none → m = 0) → S n w0 ρ Γ φ) : S n w0 ρ Γ φ := by
 intro a w ha hs hx
 refine k (fun hn => Classical.byContradiction fun h0 => ?_) a w ha hs hx
 obtain ⟨b, off, hb, _⟩ := slAt_some (h.at_ hs) (Nat.pos_of_ne_zero h0)
 rw [hn] at hb; cases hb
namespace BN
theorem bClone_S (R : Assn) (s : SV) (xs : List Int) (hsn : s.n = xs.length) (hR : RdS R s s.n 1 (bcells xs)) (hxl : xs.length ≤ 1000000) : Spec Tryz.prog 105 [s.v] [R] fun Γ v Θ => ∃ u : SV, v = u.v ∧ u.n = xs.length ∧ Θ = own u 5 1 (bcells xs) :: R :: Γ := by
 refine Zbd Tryz.func105 rfl Tryz.ntmps105 fun w0 Γ => Zsh ?_
 refine S.rCap hR fun _ hc1 hc2 => ?_
 refine S.rNone hR fun hno => ?_
 refine ZY 8 ?_
 refine ZY 2 ?_
 refine Zi ef (fun h1 => ?_) (fun h1 => ?_)
 ·obtain rfl : xs = [] := List.eq_nil_of_length_eq_zero (by have := hno (Option.isNone_iff_eq_none.1 h1); omega)
  refine ZY 5 ?_
  refine S.ent (show Ent _ (own SV.nil 5 1 (bcells []) :: _) from Ent.ownNil 5 1) ?_
  exact Zf ef Zq (⟨SV.nil, rfl, rfl, rfl⟩)
 ·refine ZY 3 ?_
  refine Zp (S.buildSlice0 Tryz.underlying22 Tryz.inf5.h rfl ?_)
  intro b5 hb5
  refine Zy ?_
  refine Zp (S.appendOw (s := b5) (s.n) (bcells xs) Tryz.underlying22 Tryz.inf5.h rfl rfl rfl (fun w hs => hR _ w (hs.ent (Pick.ent (P := R)))) (by first | rfl | exact allOne_bcells _) (⟨by omega, by omega⟩) rfl ?_)
  intro u hu
  rw [List.nil_append]
  refine ZY 3 ?_
  exact Zf ef Zq (⟨u, rfl, by omega, rfl⟩)
theorem idV_one (l : List Nat) : allOne (idsV l) = true := List.all_eq_true.2 fun v hv => by
 obtain ⟨x, _, rfl⟩ := List.mem_map.1 hv
 rfl
theorem rank_at {l : List Nat} {n i : Nat} (h : l[i]? = some n) (hno : ∀ y ∈ l.take i, y ≠ n) : rankOf l n = some i := by
 unfold rankOf
 obtain ⟨hi, he⟩ := List.getElem?_eq_some_iff.1 h
 refine List.findIdx?_eq_some_iff_getElem.2 ⟨hi, decide_eq_true he, fun j hj => ?_⟩
 have : l[j] ∈ l.take i := List.mem_take_iff_getElem.2 ⟨j, by omega, rfl⟩
 simpa using hno _ this
abbrev svT (s : Sv) (rank n : Nat) (blob : List Int) : Sv := { s with bs := s.bs.set rank blob, have_ := sAdd s.have_ n }
theorem savedR_no {st : Br} {x : Bj} {n : Nat} {t : Nt} {blob : List Int} {s : Sv} {rank : Nat} (hs : x.sav = some s) (hr : rankOf x.at_ n = some rank) (h : s.told = true ∨ t.ver ≠ s.ver ∨ t.rank ≠ rank) : savedR st x n t blob = st := by
 unfold savedR; rw [hs]; dsimp only; rw [hr]; exact if_pos h
theorem savedR_part {st : Br} {x : Bj} {n : Nat} {t : Nt} {blob : List Int} {s : Sv} {rank : Nat} (hs : x.sav = some s) (hr : rankOf x.at_ n = some rank) (h : ¬ (s.told = true ∨ t.ver ≠ s.ver ∨ t.rank ≠ rank)) (hl : ¬ (sAdd s.have_ n).length = x.at_.length) : savedR st x n t blob = st.set { x with sav := some (svT s rank n blob) } := by
 unfold savedR; rw [hs]; dsimp only; rw [hr]; dsimp only; rw [if_neg h, if_neg hl]
theorem savedR_full {st : Br} {x : Bj} {n : Nat} {t : Nt} {blob : List Int} {s : Sv} {rank : Nat} (hs : x.sav = some s) (hr : rankOf x.at_ n = some rank) (h : ¬ (s.told = true ∨ t.ver ≠ s.ver ∨ t.rank ≠ rank)) (hl : (sAdd s.have_ n).length = x.at_.length) : savedR st x n t blob = { st with js := setJ st.js { x with sav := some ⟨s.ver, s.credit, sAdd s.have_ n, true, s.bs.set rank blob⟩ }, images := st.images ++ [⟨x.id, s.ver, s.credit, s.bs.set rank blob⟩] } := by
 unfold savedR; rw [hs]; dsimp only; rw [hr]; dsimp only; rw [if_neg h, if_pos hl]
section
variable {n : Nat} {md : Bool} {w0 : WM md} {ρ : Env} {Γ Δ : List Assn} {φ : Act → World → Prop}
theorem S.blobsOpen (v : SV) (bs : List (List Int)) [q : Pick (blobs v bs) Γ Δ] (k : ∀ os : List Bb, os.map (·.2) = bs → S n w0 ρ (own v 22 1 (os.map bbV) :: alls os bbB :: Δ) φ) : S n w0 ρ Γ φ := by
 intro a w ha hs hx
 obtain ⟨h0, l0, h1, h2, d, l1, l2, ⟨os, q1, q2⟩, s⟩ := hs.ent q.ent
 exact k os q1 a w ha ⟨h0, l0, (Ent.unpack [_, _] Δ) _ ⟨h1, h2, d, l1, l2, q2, s⟩⟩ hx
theorem Ent.toBlobs (v : SV) (os : List Bb) (Γ : List Assn) : Ent (own v 22 1 (os.map bbV) :: alls os bbB :: Γ) (blobs v (os.map (·.2)) :: Γ) :=
 (Ent.pack [_, _] Γ).trans (Ent.mono1 Γ fun _ s => ⟨os, rfl, s⟩)
theorem S.imgsOpen (v : SV) (l : List Im) [q : Pick (imgs v l) Γ Δ] (k : ∀ os : List Ig, os.map (·.2) = l → S n w0 ρ (own v 60 4 (os.flatMap igC) :: alls os igB :: Δ) φ) : S n w0 ρ Γ φ := by
 intro a w ha hs hx
 obtain ⟨h0, l0, h1, h2, d, l1, l2, ⟨os, q1, q2⟩, s⟩ := hs.ent q.ent
 exact k os q1 a w ha ⟨h0, l0, (Ent.unpack [_, _] Δ) _ ⟨h1, h2, d, l1, l2, q2, s⟩⟩ hx
theorem Ent.toImgs (v : SV) (os : List Ig) (Γ : List Assn) : Ent (own v 60 4 (os.flatMap igC) :: alls os igB :: Γ) (imgs v (os.map (·.2)) :: Γ) :=
 (Ent.pack [_, _] Γ).trans (Ent.mono1 Γ fun _ s => ⟨os, rfl, s⟩)
end
theorem Ent.allsSet {α : Type} (F : α → Assn) {os : List α} {i : Nat} {x x' : α} (hx : os[i]? = some x) (Γ : List Assn) : Ent (F x' :: alls os F :: Γ) (alls (os.set i x') F :: Γ) :=
 ((Ent.allsAt F hx Γ).cons (F x')).trans (((Ent.drop (F x) _).cons (F x')).trans (Ent.allsBack F hx Γ))
theorem BrOk.iset {st : Br} (h : BrOk st) (l : List Im) : BrOk { st with images := l } := ⟨h.R, h.N, h.mok, h.srt, fun x hx => h.job x hx, h.few, h.q1, h.q2, h.g1, h.g2, h.now, h.fin, h.mem, h.stp⟩
theorem JOk.sset {N : Nat} {x : Bj} (h : JOk N x) {s : Sv} (h1 : s.bs.length = x.at_.length) (h2 : s.credit ≤ x.w) : JOk N { x with sav := some s } := ⟨h.id1, h.id2, h.tier, h.k1, h.kn, h.w, h.cr, h.wk, h.rise, h.at_, h.drop, h.lod, h.ran, h.ld, fun s hs => (by cases hs; exact ⟨h1, h2⟩)⟩
theorem rank_some {l : List Nat} {n : Nat} (h : n ∈ l) : ∃ i, rankOf l n = some i ∧ l[i]? = some n := by
 cases hr : rankOf l n with
 | none => exact absurd (List.findIdx?_eq_none_iff.1 hr n h) (by simp)
 | some i =>
  obtain ⟨hi, h1, _⟩ := List.findIdx?_eq_some_iff_getElem.1 hr
  exact ⟨i, rfl, by rw [List.getElem?_eq_getElem hi, of_decide_eq_true h1]⟩
theorem saved_S (b : Nat) (st : Br) (ps : Nat → Nat) (x : Bj) (n : Nat) (t : Nt) (R : Assn) (bv : SV) (blob : List Int) (hx : getJ st.js x.id = some x) (hn : n ∈ x.at_) (hbn : bv.n = blob.length) (hbl : blob.length ≤ 1000000) (hR : RdS R bv bv.n 1 (bcells blob)) (hil : st.images.length ≤ 900000) (hr8 : t.rank ≤ 255) :
  Spec Tryz.prog 67 [pt b, pt (ps x.id), .int .i64 (n : Int), .agg (ntC t bv).toArray] [BP b st ps, R] fun Γ _ Θ => Θ = BP b (savedR st x n t blob) ps :: R :: Γ := by
 refine Spec.bpOk fun hok => ?_
 have hjx := hok.at_ hx
 have hN := hok.N16
 have hal := hjx.len
 obtain ⟨rank, hrank, hrk⟩ := rank_some hn
 refine Spec.of_body Tryz.func67 rfl Tryz.ntmps67 rfl ?_
 intro w0 Γ
 show S _ w0 [(0, pt b), (1, pt (ps x.id)), (2, .int .i64 (n : Int)), (3, .agg (ntC t bv).toArray)] (BP b st ps :: R :: Γ) _
 refine S.bjOpen b st ps x hx fun ub jb mb ov iv dv mv sb l i av lb db rb qb hF hi hset hrm hJ => ?_
 cases hs : x.sav with
 | none =>
  have hg : savedR st x n t blob = st := by rw [savedR, hs]
  have hqb : qb = none := by have := hJ.s; rw [hs] at this; cases qb with | none => rfl | some q => cases this
  subst hqb
  refine ZS ?_
  refine ZY 2 ?_
  refine Zp (S.box (cs := [_, _, _, _, _, _, _, _, _, _, _, _, _]) rfl rfl rfl ?_)
  intro b7
  refine ZY 8 ?_
  refine ZY 8 ?_
  refine Zp (Zc1 Ze (Index_S (own av 3 1 (nds x.at_)) av x.at_ n hJ.an RdS.own) ?_)
  rintro v Θ ⟨⟨r, rfl, _, _⟩, rfl⟩
  refine ZY 4 ?_
  refine Zd ([]) [] [0, 1, 2] ?_
  refine ZY 3 ?_
  refine Zr (Zra 3 22) ?_
  refine ZY 8 ?_
  refine ZY 8 ?_
  refine ZY 6 ?_
  refine ZD ?_
  refine ZY 2 ?_
  refine S.bjClose b st ps ub jb mb ov iv dv mv sb l i x av lb db rb none hi rfl (hset x rfl) (hF.set hjx) hJ ?_
  rw [set_self hok hx]
  exact Zf ef Zq (by rw [hg])
 | some s =>
  obtain ⟨q, hq⟩ : ∃ q, qb = some q := by have := hJ.s; rw [hs] at this; cases qb with | none => cases this | some q => exact ⟨q, rfl⟩
  subst hq
  have hsl := (hjx.svl s hs).1
  have htold : ∀ (y : Sv), s.told = false → ({ s with bs := s.bs.set rank blob, have_ := sAdd s.have_ n } : Sv) = ⟨s.ver, s.credit, sAdd s.have_ n, false, s.bs.set rank blob⟩ := fun _ h => by rw [← h]
  refine S.conv (savB (some q) x.id x.sav) (show Ent _ (savB (some q) x.id (some s) :: _) by rw [hs]; exact Ent.refl _) ?_
  refine S.savOpen q x.id s fun hb sv => ?_
  refine S.mapNodup hb fun hnd0 => ?_
  have hnd := setE_nodup hnd0
  have hrl : rank < x.at_.length := (List.getElem?_eq_some_iff.1 hrk).1
  refine ZS ?_
  refine ZY 2 ?_
  refine Zp (S.box (cs := [_, _, _, _, _, _, _, _, _, _, _, _, _]) rfl rfl rfl ?_)
  intro b7
  refine ZY 8 ?_
  refine ZY 8 ?_
  refine Zp (Zc1 Ze (Index_S (own av 3 1 (nds x.at_)) av x.at_ n hJ.an RdS.own) ?_)
  rintro v Θ ⟨⟨r, rfl, hr1, hr2⟩, rfl⟩
  obtain rfl : r = some rank := by
   cases r with
   | none => exact absurd rfl (hr1 rfl n hn)
   | some i9 =>
    obtain ⟨z, hz1, hz2, hz3⟩ := hr2 i9 rfl
    obtain rfl : z = n := by omega
    have := rank_at hz1 fun y hy e => hz3 y hy (by rw [e])
    rw [hrank] at this
    exact this.symm
  rw [show oI (some rank) = (rank : Int) from rfl]
  refine ZY 4 ?_
  refine Zd ([blk b7 72 (ntC t bv).toArray, blk q 131 #[.int .u32 (x.id : Int), .int .u32 (s.ver : Int), .int .i64 (s.credit : Int), sv.v, .map (some hb), .bool s.told]]) [] [0, 1, 2] ?_
  refine ZY 3 ?_
  refine Zr (Zra 3 6) ?_
  refine ZY 6 ?_
  refine Zbb 28 ef (fun hg3_8 => ?_) (fun hg3_8 => ?_)
  ·have hg := savedR_no (st := st) (n := n) (t := t) (blob := blob) hs hrank (.inl hg3_8)
   refine Zr (Zra 9 16) ?_
   refine ZY 8 ?_
   refine ZY 8 ?_
   refine ZD ?_
   refine ZY 2 ?_
   refine S.savShut q hb sv x.id s ?_
   refine S.conv (savB (some q) x.id (some s)) (show Ent _ (savB (some q) x.id x.sav :: _) by rw [hs]; exact Ent.refl _) ?_
   refine S.bjClose b st ps ub jb mb ov iv dv mv sb l i x av lb db rb (some q) hi rfl (hset x rfl) (hF.set hjx) hJ ?_
   rw [set_self hok hx]
   exact Zf ef Zq (by rw [hg])
  ·refine Zr (Zra 9 10) ?_
   refine ZY 8 ?_
   refine ZY 2 ?_
   refine Zb 38 ef (fun hg3_18 => ?_) (fun hg3_18 => ?_)
   ·have hg := savedR_no (st := st) (n := n) (t := t) (blob := blob) hs hrank (.inr (.inl (by omega)))
    refine Zr (Zra 19 6) ?_
    refine ZY 6 ?_
    refine ZD ?_
    refine ZY 2 ?_
    refine S.savShut q hb sv x.id s ?_
    refine S.conv (savB (some q) x.id (some s)) (show Ent _ (savB (some q) x.id x.sav :: _) by rw [hs]; exact Ent.refl _) ?_
    refine S.bjClose b st ps ub jb mb ov iv dv mv sb l i x av lb db rb (some q) hi rfl (hset x rfl) (hF.set hjx) hJ ?_
    rw [set_self hok hx]
    exact Zf ef Zq (by rw [hg])
   ·refine Zr (Zra 19 6) ?_
    refine ZY 2 ?_
    refine Zwg ef ef ef ef (q_conv Tryz.it3.h (by rw [Tryz.underlying5]; rfl) rfl (inI64 (by omega) (by omega))) ?_
    refine ZY 3 ?_
    refine ZD ?_
    refine Zj ef (fun h1 => ?_) (fun h1 => ?_)
    ·have hg := savedR_no (st := st) (n := n) (t := t) (blob := blob) hs hrank (.inr (.inr (by omega)))
     refine Zy ?_
     refine S.savShut q hb sv x.id s ?_
     refine S.conv (savB (some q) x.id (some s)) (show Ent _ (savB (some q) x.id x.sav :: _) by rw [hs]; exact Ent.refl _) ?_
     refine S.bjClose b st ps ub jb mb ov iv dv mv sb l i x av lb db rb (some q) hi rfl (hset x rfl) (hF.set hjx) hJ ?_
     rw [set_self hok hx]
     exact Zf ef Zq (by rw [hg])
    ·have hgo : ¬ (s.told = true ∨ t.ver ≠ s.ver ∨ t.rank ≠ rank) := by
      rintro (h | h | h)
      ·rw [hg3_8] at h; cases h
      ·exact hg3_18 (by omega)
      ·exact h1 (by omega)
     refine S.conv (if s.told then (fun _ => True) else blobs sv s.bs) (show Ent _ (blobs sv s.bs :: _) by rw [hg3_8]; exact Ent.refl _) ?_
     refine S.blobsOpen sv s.bs fun os hos => ?_
     have hol : os.length = s.bs.length := by rw [← hos, List.length_map]
     refine S.ownLen sv fun hl1 hl2 hl3 => ?_
     rw [List.length_map] at hl1
     refine S.ownSome sv (by omega) fun vb vo hva _ _ _ => ?_
     obtain ⟨o9, ho9⟩ := getE (show rank < os.length by omega)
     refine ZY 2 ?_
     refine Zd ([blk b7 72 (ntC t bv).toArray, blk q 131 #[.int .u32 (x.id : Int), .int .u32 (s.ver : Int), .int .i64 (s.credit : Int), sv.v, .map (some hb), .bool false]]) [10] (Zra 0 8) ?_
     refine ZY 8 ?_
     refine Z1 (i := 8) ef ef ?_
     refine  (Zc1 Ze (bClone_S R bv blob hbn hR hbl) ?_)
     rintro v Θ ⟨u, rfl, hu, rfl⟩
     refine Zk [9] ?_
     refine Zw ef (Zx (rank) ef (hva) ef (by omega)) ?_
     refine Z1 (i := 10) ef ef ?_
     refine (S.storeOw (sv) (rank) Eo.h rfl rfl rfl hva (by first | rfl | exact Nat.add_assoc _ _ _ | omega) (by rw [List.length_map]; omega) ((by rw [List.map_set] : _ = (os.set rank ((u, blob) : Bb)).map bbV)) ?_)
     refine ZL ([]) [] ?_
     refine ZD ?_
     refine ZY 7 ?_
     refine Zp (Zc1 Ze (add_S hb s.have_ n) ?_)
     rintro v Θ rfl
     refine S.conv2 (own u 5 1 (bcells blob)) (alls os bbB) (Ent.allsSet bbB (x' := (u, blob)) ho9 _) ?_
     obtain ⟨os2, hos2⟩ : ∃ os2 : List Bb, os2 = os.set rank (u, blob) := ⟨_, rfl⟩
     rw [← hos2]
     have hbs2 : os2.map (·.2) = s.bs.set rank blob := by rw [hos2, ← hos, List.map_set]
     refine S.conv2 (own sv 22 1 (os2.map bbV)) (alls os2 bbB) (Ent.toBlobs sv os2 _) ?_
     rw [hbs2]
     refine ZY 2 ?_
     refine Zd0 (Zra 0 11) ?_
     refine ZY 8 ?_
     refine ZY 3 ?_
     refine ZD ?_
     refine Zj ef (fun h2 => ?_) (fun h2 => ?_)
     ·have hfull : (sAdd s.have_ n).length = x.at_.length := by have := setE_len (sAdd s.have_ n); have := hJ.an; omega
      have hg := savedR_full (st := st) (t := t) (blob := blob) hs hrank hgo hfull
      obtain ⟨x1, hx1⟩ : ∃ x1 : Bj, x1 = { x with sav := some ⟨s.ver, s.credit, sAdd s.have_ n, true, s.bs.set rank blob⟩ } := ⟨_, rfl⟩
      have hj1 : JOk st.nodes x1 := by rw [hx1]; exact hjx.sset (by rw [List.length_set]; exact hsl) (hjx.svl s hs).2
      have hid : x1.id = x.id := by rw [hx1]
      obtain ⟨im, him⟩ : ∃ im : Im, im = ⟨x.id, s.ver, s.credit, s.bs.set rank blob⟩ := ⟨_, rfl⟩
      refine S.imgsOpen iv st.images fun io hio => ?_
      have hiol : io.length = st.images.length := by rw [← hio, List.length_map]
      have hin := hF.im
      refine ZY 7 ?_
      refine Zd ([blk q 131 #[.int .u32 (x.id : Int), .int .u32 (s.ver : Int), .int .i64 (s.credit : Int), sv.v, .map (some hb), .bool true], blk b 84 (bC st ub jb mb ov iv dv mv sb).toArray]) [13] (Zra 0 9) ?_
      refine ZY 8 ?_
      refine Zy ?_
      refine Z1 (i := 9) ef ef ?_
      refine (S.buildSlice (pvs := [(_, _)]) [_, _, _, _] Tryz.underlying51 Tryz.inf60.h rfl rfl ⟨⟨rfl, rfl⟩, trivial⟩ rfl rfl ?_)
      intro b84
      refine Zk [] ?_
      refine Z1 (i := 10) ef ef ?_
      refine (S.appendOw (s := iv) (1) (igC ((sv, ⟨x.id, s.ver, s.credit, s.bs.set rank blob⟩) : Ig)) Tryz.underlying51 Tryz.inf60.h rfl rfl rfl (blk_slAt (b := b84) rfl (by unfold maxLen; omega)) (by first | rfl | exact allOne_bcells _) (⟨by omega, by omega⟩) rfl ?_)
      intro iv2 hiv2
      refine Zk [11, 12] ?_
      refine ZY 2 ?_
      refine Z1 (i := 13) ef ef ?_
      refine (S.store (cs' := [_, _, _, _, _, _, _, _, _, _, _, _, _, _, _, _, _, _]) Eo.h rfl rfl rfl rfl rfl ?_)
      refine ZL ([]) [] ?_
      refine ZD ?_
      refine S.conv2 (igB ((sv, ⟨x.id, s.ver, s.credit, s.bs.set rank blob⟩) : Ig)) (alls io igB) (Ent.allsSnoc igB io ((sv, ⟨x.id, s.ver, s.credit, s.bs.set rank blob⟩) : Ig) _) ?_
      rw [flat_snoc igC io ((sv, ⟨x.id, s.ver, s.credit, s.bs.set rank blob⟩) : Ig)]
      refine S.conv2 (own iv2 60 4 ((io ++ [((sv, ⟨x.id, s.ver, s.credit, s.bs.set rank blob⟩) : Ig)]).flatMap igC)) (alls (io ++ [((sv, ⟨x.id, s.ver, s.credit, s.bs.set rank blob⟩) : Ig)]) igB) (Ent.toImgs iv2 _ _) ?_
      rw [List.map_append, hio, List.map_cons, List.map_nil]
      refine S.savToldClose q hb sv x.id s.ver s.credit (sAdd s.have_ n) (s.bs.set rank blob) ?_
      refine S.blkAs (ps x.id) (bjC x1 av lb db rb (some q)).toArray (by rw [hx1]) ?_
      refine S.sub (jX (ps x.id) x1 av lb db rb (some q) (bR b { st with images := st.images ++ [⟨x.id, s.ver, s.credit, s.bs.set rank blob⟩] } ps ub jb mb ov iv2 dv mv sb l i (R :: Γ))) (e := by subst hx1; infer_instance) ?_
      refine S.bjClose b { st with images := st.images ++ [⟨x.id, s.ver, s.credit, s.bs.set rank blob⟩] } ps ub jb mb ov iv2 dv mv sb l i x1 av lb db rb (some q) hi hid (hset x1 hid) (BF.set (st := { st with images := st.images ++ [⟨x.id, s.ver, s.credit, s.bs.set rank blob⟩] }) ⟨hok.iset _, hF.perm, hF.on, by show iv2.n = (st.images ++ [_]).length; rw [List.length_append, List.length_singleton]; omega, hF.dn, hF.mn, hF.sn⟩ hj1) ⟨by rw [hx1]; exact hJ.an, by rw [hx1]; exact hJ.l, by rw [hx1]; exact hJ.d, by rw [hx1]; exact hJ.r, by rw [hx1]; rfl⟩ ?_
      rw [hx1]
      exact Zfn ef Zq (by rw [hg])
     ·have hpart : ¬ (sAdd s.have_ n).length = x.at_.length := by have := setE_len (sAdd s.have_ n); have := hJ.an; omega
      have hg := savedR_part (st := st) (t := t) (blob := blob) hs hrank hgo hpart
      obtain ⟨x1, hx1⟩ : ∃ x1 : Bj, x1 = { x with sav := some (svT s rank n blob) } := ⟨_, rfl⟩
      have hj1 : JOk st.nodes x1 := by rw [hx1]; exact hjx.sset (by rw [List.length_set]; exact hsl) (hjx.svl s hs).2
      have hid : x1.id = x.id := by rw [hx1]
      refine Zy ?_
      refine S.savClose q hb sv x.id s.ver s.credit (sAdd s.have_ n) (s.bs.set rank blob) ?_
      refine S.blkAs (ps x.id) (bjC x1 av lb db rb (some q)).toArray (by rw [hx1]) ?_
      refine S.sub (jX (ps x.id) x1 av lb db rb (some q) (bR b st ps ub jb mb ov iv dv mv sb l i (R :: Γ))) (e := by rw [hx1]; show Sub (jX _ { x with sav := some { s with bs := s.bs.set rank blob, have_ := sAdd s.have_ n } } _ _ _ _ _ _) _; rw [htold s hg3_8]; infer_instance) ?_
      refine S.bjClose b st ps ub jb mb ov iv dv mv sb l i x1 av lb db rb (some q) hi hid (hset x1 hid) (hF.set hj1) ⟨by rw [hx1]; exact hJ.an, by rw [hx1]; exact hJ.l, by rw [hx1]; exact hJ.d, by rw [hx1]; exact hJ.r, by rw [hx1]; rfl⟩ ?_
      rw [hx1]
      exact Zfn ef Zq (by rw [hg])
end BN
end Go.Proofs.YtdackcibfkkniaaGreatDoor
namespace Go.Proofs.YtdackcibfkkniaaGreatDoor
open Go.RowKit
namespace BN
theorem rs_none {rs : List Ro} {id : Nat} (h : nGet id (rs.map roR) = none) : alGet (id : Int) (rs.map roE) = none := by
 induction rs with
 | nil => rfl
 | cons o rs ih =>
  simp only [List.map_cons, nGet] at h
  split at h
  ·cases h
  ·rename_i e
   simp only [List.map_cons, alGet]
   rw [if_neg (by omega)]
   exact ih h
theorem rs_some {rs : List Ro} {id : Nat} {r : Rk} (h : nGet id (rs.map roR) = some r) : ∃ (i : Nat) (p : Nat), rs[i]? = some (id, r, p) ∧ alGet (id : Int) (rs.map roE) = some (pt p) ∧
  (∀ r', nPut id r' (rs.map roR) = (rs.set i (id, r', p)).map roR) ∧ (∀ r', (rs.set i (id, r', p)).map roE = rs.map roE) ∧ (∀ r' p', alPut (id : Int) (pt p') (rs.map roE) = (rs.set i (id, r', p')).map roE) ∧ (∀ r' p', nPut id r' (rs.map roR) = (rs.set i (id, r', p')).map roR) ∧
  alDel (id : Int) (rs.map roE) = (rs.eraseIdx i).map roE ∧ nDel id (rs.map roR) = (rs.eraseIdx i).map roR := by
 induction rs with
 | nil => cases h
 | cons o rs ih =>
  obtain ⟨a, q, p⟩ := o
  simp only [List.map_cons, nGet] at h
  split at h
  ·rename_i e
   have e : a = id := e
   cases h
   subst e
   refine ⟨0, p, rfl, ?_, fun r' => ?_, fun r' => rfl, fun r' p' => ?_, fun r' p' => ?_, ?_, ?_⟩
   ·simp only [List.map_cons, alGet, if_true]
   ·simp only [List.map_cons, nPut, if_true, List.set_cons_zero]
   ·simp only [List.map_cons, alPut, if_true, List.set_cons_zero]
   ·simp only [List.map_cons, nPut, if_true, List.set_cons_zero]
   ·simp only [List.map_cons, alDel, if_true, List.eraseIdx_cons_zero]
   ·simp only [List.map_cons, nDel, if_true, List.eraseIdx_cons_zero]
  ·rename_i e
   have e : a ≠ id := e
   have e2 : (id : Int) ≠ (a : Int) := by omega
   obtain ⟨i, p2, h1, h2, h3, h4, h5, h6, h7, h8⟩ := ih h
   refine ⟨i + 1, p2, h1, ?_, fun r' => ?_, fun r' => ?_, fun r' p' => ?_, fun r' p' => ?_, ?_, ?_⟩
   ·simp only [List.map_cons, alGet]; rw [if_neg (by omega)]; exact h2
   ·simp only [List.map_cons, nPut, List.set_cons_succ]; rw [if_neg e, h3]
   ·simp only [List.map_cons, List.set_cons_succ]; rw [h4]
   ·simp only [List.map_cons, alPut, List.set_cons_succ]; rw [if_neg (by omega), h5]
   ·simp only [List.map_cons, nPut, List.set_cons_succ]; rw [if_neg e, h6]
   ·simp only [List.map_cons, alDel, List.eraseIdx_cons_succ]; rw [if_neg (by omega), h7]
   ·simp only [List.map_cons, nDel, List.eraseIdx_cons_succ]; rw [if_neg e, h8]
theorem rs_new {rs : List Ro} {id : Nat} (h : nGet id (rs.map roR) = none) (r : Rk) (p : Nat) : alPut (id : Int) (pt p) (rs.map roE) = (rs ++ [(id, r, p)]).map roE ∧ nPut id r (rs.map roR) = (rs ++ [(id, r, p)]).map roR ∧ alDel (id : Int) (rs.map roE) = rs.map roE ∧ nDel id (rs.map roR) = rs.map roR := by
 induction rs with
 | nil => exact ⟨rfl, rfl, rfl, rfl⟩
 | cons o rs ih =>
  obtain ⟨a, q, p2⟩ := o
  simp only [List.map_cons, nGet] at h
  split at h
  ·cases h
  ·rename_i e
   have e : a ≠ id := e
   obtain ⟨h1, h2, h3, h4⟩ := ih h
   refine ⟨?_, ?_, ?_, ?_⟩
   ·simp only [List.map_cons, alPut, List.cons_append]; rw [if_neg (by omega), h1]
   ·simp only [List.map_cons, nPut, List.cons_append]; rw [if_neg e, h2]
   ·simp only [List.map_cons, alDel]; rw [if_neg (by omega), h3]
   ·simp only [List.map_cons, nDel]; rw [if_neg e, h4]
theorem runOf_eq {rs : Rs} (hn : amB rs = true) {y : Nat × Rk} (hy : y ∈ rs) (hr : y.2.run = true) : runOf rs = y.1 := by
 have h1 : (rs.filter (·.2.run)).length ≤ 1 := of_decide_eq_true hn
 have hyf : y ∈ rs.filter (·.2.run) := List.mem_filter.2 ⟨hy, hr⟩
 unfold runOf
 cases hf : rs.find? (·.2.run) with
 | none => exact absurd hr (by simpa using List.find?_eq_none.1 hf y hy)
 | some z =>
  have hz : z ∈ rs.filter (·.2.run) := List.mem_filter.2 ⟨List.mem_of_find?_eq_some hf, by have h9 := List.find?_some hf; exact h9⟩
  cases hl : rs.filter (·.2.run) with
  | nil => rw [hl] at hyf; cases hyf
  | cons a l =>
   rw [hl] at h1 hyf hz
   cases l with
   | nil => rw [List.mem_singleton.1 hyf, List.mem_singleton.1 hz]
   | cons b l => simp at h1
theorem runOf_no {rs : Rs} (h : ∀ y ∈ rs, y.2.run = false) : runOf rs = 0 := by
 unfold runOf
 rw [List.find?_eq_none.2 fun y hy => by rw [h y hy]; decide]
theorem Ent.roAt {rs : List Ro} {i : Nat} {o : Ro} (h : rs[i]? = some o) (Γ : List Assn) : Ent (alls rs roB :: Γ) (roB o :: alls (rs.take i) roB :: alls (rs.drop (i + 1)) roB :: Γ) := Ent.allsAt roB h Γ
theorem perm_at {rs js : List Ro} {i : Nat} {o : Ro} (h : js[i]? = some o) (hp : ∀ x ∈ js, x ∈ rs) : ∃ k : Nat, rs[k]? = some o := by
 obtain ⟨k, hk, e⟩ := List.getElem_of_mem (hp o (List.mem_of_getElem? h))
 exact ⟨k, by rw [List.getElem?_eq_getElem hk, e]⟩
set_option maxHeartbeats 1000000 in
theorem runX_S {p : Nat} {nd : Nd} {rb : Nat} {iv ov : SV} {rs : List Ro} {os : List Ot} (hN : NF nd iv ov rs os) (ham : amB nd.rk = true) : Spec Tryz.prog 59 [pt p] (ndX p nd rb iv ov rs os []) fun Γ v Θ => v = .int .u32 (runOf nd.rk : Nat) ∧ Θ = ndX p nd rb iv ov rs os Γ := by
 refine Zbd Tryz.func59 rfl Tryz.ntmps59 fun w0 Γ => Zsh ?_
 refine ZY 8 ?_
 refine ZY 3 ?_
 refine Zp (S.range Tryz.underlying104 rfl rfl ?_)
 intro r9
 refine ZY 2 ?_
 refine Zl (fun k ρ' Γ' => ∃ (left : List (Int × Value)) (cur : Option (Int × Value)) (jl : List Ro), k = left.length ∧ left = jl.map roE ∧ (∀ x ∈ jl, x ∈ rs) ∧ (∀ x ∈ rs, x ∈ jl ∨ x.2.1.run = false) ∧ ρ' = [(0, pt p), (9, .pointer (some ⟨r9, 0, none⟩))] ∧   Γ' = rngM r9 rb .u32 (rs.map roE) left cur :: blk p 107 #[.bool nd.up, .map (some rb), iv.v, ov.v, .bool nd.wrong] :: alls rs roB :: own iv 72 13 (nd.inn.flatMap niC) :: own ov 72 13 (os.flatMap otC) :: alls os otB :: Γ) (m := _) (⟨rs.map roE, none, rs, rfl, rfl, fun x hx => hx, fun x hx => .inl hx, rfl, rfl⟩) ?_
 rintro k ρ' Γ' ⟨left, cur, jl, hk, hleft, hsub, hall, rfl, rfl⟩
 refine ZY 2 ?_
 refine Zp (S.nextR rfl rfl (fun hl10 => ?_) (fun i10 z10 v10 hi10 => ?_))
 ·have hro : runOf nd.rk = 0 := runOf_no fun y hy => by
   rw [← hN.rk] at hy
   obtain ⟨x, hx, e⟩ := List.mem_map.1 hy
   subst e
   rcases hall x hx with h | h
   ·rw [hl10] at hleft
    rw [List.map_eq_nil_iff.1 hleft.symm] at h
    cases h
   ·exact h
  refine ZY 8 ?_
  refine ZY 2 ?_
  refine S.conv (rngM r9 rb .u32 (rs.map roE) left cur) (Ent.rngM _) ?_
  exact Zf ef Zq (⟨by rw [hro]; rfl, rfl⟩)
 ·obtain ⟨x, hx, hxe⟩ : ∃ x, jl[i10]? = some x ∧ roE x = (z10, v10) := by
   rw [hleft, List.getElem?_map] at hi10
   exact Option.map_eq_some_iff.1 hi10
  simp only [roE, Prod.mk.injEq] at hxe
  obtain ⟨rfl, rfl⟩ := hxe
  obtain ⟨q, hq⟩ := perm_at hx hsub
  have hlen : (left.eraseIdx i10).length < k := by
   rw [hk, List.length_eraseIdx_of_lt (by have := (List.getElem?_eq_some_iff.1 hi10).1; exact this)]
   have := (List.getElem?_eq_some_iff.1 hi10).1
   omega
  have hle : (left.eraseIdx i10) = (jl.eraseIdx i10).map roE := by rw [hleft, map_eraseIdx']
  refine S.conv (alls rs roB) (Ent.roAt hq _) ?_
  refine ZY 8 ?_
  refine Zv (q_entryR rfl) ?_
  refine ZY 8 ?_
  refine ZY 4 ?_
  refine Zi ef (fun h2 => ?_) (fun h2 => ?_)
  ·have hro : runOf nd.rk = x.1 := runOf_eq ham (y := roR x) (by rw [← hN.rk]; exact List.mem_map.2 ⟨x, List.mem_of_getElem? hq, rfl⟩) h2
   refine ZY 6 ?_
   refine S.conv3 (roB x) (alls (rs.take q) roB) (alls (rs.drop (q + 1)) roB) (Ent.allsBack' roB hq _) ?_
   refine S.conv (rngM r9 rb .u32 (rs.map roE) (left.eraseIdx i10) (some ((x.1 : Int), pt x.2.2))) (Ent.rngM _) ?_
   exact Zf ef Zq (⟨by rw [hro]; rfl, rfl⟩)
  ·have hall2 : ∀ y ∈ rs, y ∈ jl.eraseIdx i10 ∨ y.2.1.run = false := fun y hy => by
    rcases hall y hy with h | h
    ·by_cases e : y = x
     ·exact .inr (by rw [e]; exact h2)
     ·refine .inl ?_
      obtain ⟨j, hj, ej⟩ := List.getElem_of_mem h
      exact List.mem_eraseIdx_iff_getElem?.2 ⟨j, fun e9 => e (by subst e9; rw [List.getElem?_eq_getElem hj, ej] at hx; exact Option.some.inj hx), by rw [List.getElem?_eq_getElem hj, ej]⟩
    ·exact .inr h
   refine Zy ?_
   refine S.conv3 (roB x) (alls (rs.take q) roB) (alls (rs.drop (q + 1)) roB) (Ent.allsBack' roB hq _) ?_
   exact ZX ((left.eraseIdx i10).length) (⟨left.eraseIdx i10, some ((x.1 : Int), pt x.2.2), jl.eraseIdx i10, rfl, hle, fun y hy => hsub y (List.mem_of_mem_eraseIdx hy), hall2, rfl, rfl⟩) (hlen)
theorem running_S (p : Nat) (nd : Nd) (ham : amB nd.rk = true) : Spec Tryz.prog 59 [pt p] [NI p nd] fun Γ v Θ => v = .int .u32 (runOf nd.rk : Nat) ∧ Θ = NI p nd :: Γ := by
 intro Γ w hs
 obtain ⟨h0, l0, h1, h2, d, l1, l2, ⟨rb, iv, ov, rs, os, q1, q2⟩, s⟩ := hs
 refine (runX_S (rb := rb) q1 ham Γ w ⟨h0, l0, (Ent.unpack (ndX p nd rb iv ov rs os []) Γ) _ ⟨h1, h2, d, l1, l2, q2, s⟩⟩).mono ?_
 rintro e w' ⟨v, Θ, e1, ⟨e2, e3⟩, e4, e5⟩
 refine ⟨v, NI p nd :: Γ, e1, ⟨e2, rfl⟩, ?_, e5⟩
 rw [e3] at e4
 exact e4.ent ((Ent.pack (ndX p nd rb iv ov rs os []) Γ).trans (Ent.mono1 Γ fun _ s => ⟨rb, iv, ov, rs, os, q1, s⟩))
theorem NF.rset {nd : Nd} {iv ov : SV} {rs : List Ro} {os : List Ot} (h : NF nd iv ov rs os) {rk : Rs} {rs' : List Ro} (hr : rs'.map roR = rk) : NF { nd with rk := rk } iv ov rs' os := ⟨hr, h.os, h.i, h.o⟩
theorem ndTick_no {now : Nat} {nd : Nd} (h : ¬ runOf nd.rk ≠ 0) : ndTick now nd = nd := by rw [ndTick, if_neg h]
theorem ndTick_yes {now : Nat} {nd : Nd} {r : Rk} (h : runOf nd.rk ≠ 0) (hg : nGet (runOf nd.rk) nd.rk = some r) : ndTick now nd = { nd with rk := nPut (runOf nd.rk) { r with til := now, frm := if r.frm = 0 then now else r.frm } nd.rk } := by rw [ndTick, if_pos h, hg]
theorem runOf_get {rs : Rs} (h : runOf rs ≠ 0) : ∃ r, nGet (runOf rs) rs = some r := by
 obtain ⟨r, h1, _⟩ := runOf_some h
 cases hg : nGet (runOf rs) rs with
 | some r => exact ⟨r, rfl⟩
 | none => exact absurd (List.mem_map.2 ⟨_, h1, rfl⟩) (nGet_none.1 hg)
theorem ntick_S (p : Nat) (nd : Nd) (now : Nat) (ham : amB nd.rk = true) : Spec Tryz.prog 96 [pt p, .int .u32 (now : Int)] [NI p nd] fun Γ _ Θ => Θ = NI p (ndTick now nd) :: Γ := by
 refine Zbd Tryz.func96 rfl Tryz.ntmps96 fun w0 Γ => Zsh ?_
 refine ZY 3 ?_
 refine Zp (Zcp Ze (running_S p nd ham) ?_)
 refine ZY 7 ?_
 refine Zj ef (fun h1 => ?_) (fun h1 => ?_)
 ·obtain ⟨j0, hj0⟩ : ∃ j0, j0 = runOf nd.rk := ⟨_, rfl⟩
  have hne : runOf nd.rk ≠ 0 := by omega
  obtain ⟨r, hr⟩ := runOf_get hne
  have hg := ndTick_yes (now := now) hne hr
  rw [← hj0] at hr hg ⊢
  refine S.niOpen p nd fun rb iv ov rs os hN => ?_
  obtain ⟨i, q, k1, k2, k3, k4, _⟩ := rs_some (rs := rs) (id := j0) (r := r) (by rw [hN.rk]; exact hr)
  refine S.conv (alls rs roB) (Ent.roAt k1 _) ?_
  refine ZY 7 ?_
  refine Zv (q_lookup1 (pt q) Tryz.underlying104 Tryz.underlying31 Tryz.zv112.h rfl rfl rfl (by rw [k2]; rfl)) ?_
  refine ZY 8 ?_
  refine ZY 8 ?_
  refine ZY 2 ?_
  refine Zj ef (fun h2 => ?_) (fun h2 => ?_)
  ·refine ZY 7 ?_
   have h29 : (r.frm : Int) = 0 := h2
   obtain ⟨r1, hr1⟩ : ∃ r1 : Rk, r1 = { r with til := now, frm := if r.frm = 0 then now else r.frm } := ⟨_, rfl⟩
   rw [← hr1] at hg
   refine S.blkAs q (rkC r1).toArray (by rw [hr1]; simp only [rkC]; rw [if_pos (by omega)]) ?_
   refine S.conv3 (roB ((j0, r1, q) : Ro)) (alls (rs.take i) roB) (alls (rs.drop (i + 1)) roB) (Ent.allsBack roB (x' := (j0, r1, q)) k1 _) ?_
   refine S.conv (mapL rb .u32 (rs.map roE)) (show Ent _ (mapL rb .u32 ((rs.set i (j0, r1, q)).map roE) :: _) by rw [k4 r1]; exact Ent.refl _) ?_
   refine S.niClose p { nd with rk := nPut j0 r1 nd.rk } rb iv ov (rs.set i (j0, r1, q)) os (hN.rset (by rw [← k3, hN.rk])) ?_
   rw [← hg]
   exact Zfn ef Zq (rfl)
  ·refine Zy ?_
   have h29 : ¬ (r.frm : Int) = 0 := h2
   obtain ⟨r1, hr1⟩ : ∃ r1 : Rk, r1 = { r with til := now, frm := if r.frm = 0 then now else r.frm } := ⟨_, rfl⟩
   rw [← hr1] at hg
   refine S.blkAs q (rkC r1).toArray (by rw [hr1]; simp only [rkC]; rw [if_neg (by omega)]) ?_
   refine S.conv3 (roB ((j0, r1, q) : Ro)) (alls (rs.take i) roB) (alls (rs.drop (i + 1)) roB) (Ent.allsBack roB (x' := (j0, r1, q)) k1 _) ?_
   refine S.conv (mapL rb .u32 (rs.map roE)) (show Ent _ (mapL rb .u32 ((rs.set i (j0, r1, q)).map roE) :: _) by rw [k4 r1]; exact Ent.refl _) ?_
   refine S.niClose p { nd with rk := nPut j0 r1 nd.rk } rb iv ov (rs.set i (j0, r1, q)) os (hN.rset (by rw [← k3, hN.rk])) ?_
   rw [← hg]
   exact Zfn ef Zq (rfl)
 ·refine Zy ?_
  have hg := ndTick_no (now := now) (show ¬ runOf nd.rk ≠ 0 by omega)
  refine S.conv (NI p nd) (show Ent _ (NI p (ndTick now nd) :: _) by rw [hg]; exact Ent.refl _) ?_
  exact Zfn ef Zq (rfl)
end BN
end Go.Proofs.YtdackcibfkkniaaGreatDoor
