/- Texts put together. -/
import Derived.Test.YtdackcibfkkniaaGreatDoorMP4
set_option synthInstance.maxSize 9999
set_option synthInstance.maxHeartbeats 400000
set_option maxRecDepth 100000
namespace Go.Proofs.YtdackcibfkkniaaGreatDoor
open Go.RowKit
namespace BN
def akO (st:Br) (id:Nat):PL.Ak:=match Qb st.js id with
 | none=>⟨0,0⟩
 | some x=>⟨x.k,lenR st x⟩
theorem asksR_eq (st:Br):asksR st=(Yk st).map (akO st):=rfl
theorem akO_some {st:Br} {id:Nat} {x:Bj} (h:Qb st.js id=some x):akO st id=⟨x.k,(lenR st x:Nat)⟩:=by rw[akO,h]
def W7 (b:Br) (p:Nat×PL.St):Br:=if p.2.ok=true∧p.2.at_=0 then match Qb b.js p.1 with | none=>b | some x=>V4 b x p.2 else b
theorem X6:∀(l:List (Nat×PL.St)) (b:Br),Yu b l=l.foldl W7 b
 | [],_=>rfl
 | (id,s)::l,b=>by rw[Yu,X6 l];rfl
theorem placeUp_snoc (b:Br) (l:List (Nat×PL.St)) (p:Nat×PL.St):Yu b (l++[p])=W7 (Yu b l) p:=by rw[X6,X6,List.foldl_append];rfl
theorem plStep_no {b:Br} {p:Nat×PL.St} (h:¬(p.2.ok=true∧p.2.at_=0)):W7 b p=b:=if_neg h
theorem plStep_yes {b:Br} {p:Nat×PL.St} {x:Bj} (h:p.2.ok=true∧p.2.at_=0) (hg:Qb b.js p.1=some x):W7 b p=V4 b x p.2:=by rw[W7,if_pos h,hg]
def WSav (st:Br):Prop:=∀x∈st.js,x.state=0→x.sav=none
structure PlInv (st:Br) (zs:List (Nat×PL.St)) (e:Nat) (t:Br):Prop where
 ok:Qp t
 ord:t.orders.length≤st.orders.length+16*e
 here:∀i p,e≤i→zs[i]?=some p→Qb t.js p.1=Qb st.js p.1
theorem PlInv.step {st:Br} {zs:List (Nat×PL.St)} (hz:(zs.map (·.1)).Nodup) (hw:∀p∈zs,∀x,Qb st.js p.1=some x→x.sav=none) {e:Nat} {t:Br} (h:PlInv st zs e t) {p:Nat×PL.St} (hp:zs[e]?=some p):PlInv st zs (e+1) (W7 t p):=by
 by_cases hy:p.2.ok=true∧p.2.at_=0
 ·cases hg:Qb t.js p.1 with
  | none=>
   have:W7 t p=t:=by rw[W7,if_pos hy,hg]
   rw[this];exact⟨h.ok,by have:=h.ord;omega,fun i q hi hq=>h.here i q (by omega) hq⟩
  | some x=>
   rw[plStep_yes hy hg];have hxi:=(Qa hg).2;have hgx:Qb t.js x.id=some x:=by rw[hxi];exact hg
   have hs:x.sav=none:=hw p (List.mem_of_getElem? hp) x (by rw[←h.here e p (Nat.le_refl _) hp];exact hg);refine⟨loadR_ok h.ok (h.ok.at_ hgx) hs,by have:=h.ord;have:=load_ord h.ok x p.2;omega,fun i q hi hq=>?_⟩
   rw[load_oth t p.2 ?_]
   ·exact h.here i q (by omega) hq
   ·rw[hxi];intro e9;obtain⟨a1,a2⟩:=List.getElem?_eq_some_iff.1 hp;obtain⟨b1,b2⟩:=List.getElem?_eq_some_iff.1 hq;have:=List.pairwise_iff_getElem.1 (List.nodup_iff_pairwise_ne.1 hz) e i (by simpa using a1) (by simpa using b1) (by omega);simp only[List.getElem_map,a2,b2]at this;exact this e9.symm
 ·rw[plStep_no hy];exact⟨h.ok,by have:=h.ord;omega,fun i q hi hq=>h.here i q (by omega) hq⟩
abbrev zsR (st:Br):List (Nat×PL.St):=(Yk st).zip (PL.planR (profR st) (asksR st))
theorem zsR_fst {st:Br}:(zsR st).map (·.1)=Yk st:=by
 rw[List.map_fst_zip];rw[PL.planR_length,asksR_eq,List.length_map];exact Nat.le_refl _
theorem place_inv {st:Br} (h:Qp st) (hw:WSav st):∀e,e≤(zsR st).length→PlInv st (zsR st) e (Yu st ((zsR st).take e)):=by
 intro e;induction e with
 | zero=>exact fun _=>⟨h,Nat.le_refl _,fun _ _ _ _=>rfl⟩
 | succ e ih=>
  intro he;obtain⟨p,hp⟩:=Ya (show e<(zsR st).length by omega);have htk:(zsR st).take (e+1)=(zsR st).take e++[p]:=by rw[List.take_add_one,hp];rfl
  rw[htk,placeUp_snoc];refine(ih (by omega)).step (by rw[zsR_fst];exact waitR_nodup h.srt) (fun q hq x hx=>?_) hp;have hq1:q.1∈Yk st:=by rw[←zsR_fst];exact List.mem_map.2 ⟨q,hq,rfl⟩
  obtain⟨y,hy1,hy2⟩:=mem_waitR h.srt hq1;rw[hx]at hy1;cases hy1;simp only[quB,Bool.and_eq_true,decide_eq_true_eq]at hy2;exact hw x (Qa hx).1 hy2.1
theorem placeAll_eq (st:Br):Xe st=Yu st (zsR st):=rfl
theorem placeAll_ok {st:Br} (h:Qp st) (hw:WSav st):Qp (Xe st)∧(Xe st).orders.length≤st.orders.length+16*st.js.length:=by
 have:=place_inv h hw _ (Nat.le_refl _);rw[List.take_length]at this;refine⟨this.ok,Nat.le_trans this.ord ?_⟩;have h1:=waitR_len h.srt;have h2:(zsR st).length≤(Yk st).length:=by rw[List.length_zip];exact Nat.min_le_left _ _
 omega
theorem chosen_len (row:List Int) (k:Nat):(PL.chosen row k).length≤row.length:=by
 unfold PL.chosen;rw[(PL.srtI_perm _).length_eq,List.length_map,List.length_take,PL.srt_length];exact Nat.min_le_right _ _
theorem first_len {D:List (List Int)} {n:Nat} (h:∀r∈D,r.length≤n) (k:Int):(PL.Xp D k).nodes.length≤n:=by
 unfold PL.Xp
 split
 ·exact Nat.zero_le _
 split
 ·exact Nat.zero_le _
 ·rename_i v i _;refine Nat.le_trans (chosen_len _ _) ?_;cases hd:D[i]? with
  | none=>exact Nat.zero_le _
  | some r=>exact h r (List.mem_of_getElem? hd)
theorem plan_len {n:Nat}:∀(l:List PL.Ak) {D:List (List Int)},(∀r∈D,r.length≤n)→∀s∈PL.planR D l,s.nodes.length≤n
 | [],_,_,s,hs=>by cases hs
 | a::l,D,h,s,hs=>by
  rcases List.mem_cons.1 hs with rfl | hs
  ·exact first_len h _
  ·refine plan_len l (fun r hr=>?_) s hs;have hm:r.length∈(PL.resR D (PL.Xp D a.k) a.len).map List.length:=List.mem_map.2 ⟨r,hr,rfl⟩;rw[PL.resR_lens]at hm;obtain⟨q,hq,e⟩:=List.mem_map.1 hm;rw[←e];exact h q hq
theorem prof_rows (st:Br):∀r∈profR st,r.length≤st.nodes:=fun r hr=>by
 obtain⟨i,_,rfl⟩:=List.mem_map.1 (by rw[profR_eq]at hr;exact hr);rw[List.length_map,List.length_range];exact Nat.le_refl _
theorem prof_sml {st:Br} (hN:st.nodes≤16) (hR:st.rows≤8):PL.Sml (profR st):=⟨by rw[profR_eq,List.length_map,List.length_range];omega,fun r hr=>by have:=prof_rows st r hr;omega⟩
set_option maxHeartbeats 2000000 in
theorem place_S (b:Nat) (st:Br) (ps:Nat→Nat) (hw:WSav st) (hl:st.orders.length≤800000):Spec Tryz.prog 43 [pt b] [BP b st ps] fun Γ _ Θ=>Θ=BP b (Xe st) ps::Γ:=by
 refine Spec.Vl fun hok=>?_;have hN:=hok.N16;have hfew:=hok.few;have hR8:st.rows≤8:=by have:=hok.mok.R8;rw[hok.R]at this;exact this
 have hwl:=waitR_len hok.srt;refine Zbd Tryz.func43 rfl Tryz.ntmps43 fun w0 Γ=>Zsh ?_;refine ZY 3 ?_;refine Zp (Zc1 Ze (waiting_S b st ps) ?_);rintro v Θ ⟨wv,rfl,hwn,rfl⟩;refine S.Zz wv fun hw1 hw2 hw3=>?_;have hmx:maxLen≤9223372036854775807:=by unfold maxLen;omega
 refine ZY 8 ?_;refine Zy ?_;refine S.ent (show Ent _ (own SV.nil 139 2 (([]:List PL.Ak).flatMap PL.akC)::_) from Ent.Q6 139 2) ?_;refine ZY 5 ?_;refine Zl (fun fz ρ' Γ'=>∃(e:Nat) (al:List PL.Ak) (av:SV),fz=(Yk st).length-e∧e≤(Yk st).length∧al=(asksR st).take e∧av.n=e∧ρ'=[(0,pt b),(2,wv.v),(3,av.v),(10,wv.v),(11,.int .i64 (wv.n:Int)),(12,.int .i64 (e:Int))]∧Γ'=own wv 86 1 (wps ps (Yk st))::own av 139 2 (al.flatMap PL.akC)::BP b st ps::Γ) (m:=_) (⟨0,[],SV.nil,rfl,by omega,rfl,rfl,rfl,rfl⟩) ?_;rintro fz ρ' Γ' ⟨e,al,av,hfz,he,hal,han,rfl,rfl⟩;refine ZY 5 ?_
 refine Zj ef (fun h1=>?_) (fun h1=>?_)
 ·refine S.Qh wv (by omega) fun sb so hsa _ _ _=>?_;obtain⟨id,hid⟩:=Ya (show e<(Yk st).length by omega);obtain⟨x,hgx,hxq⟩:=mem_waitR hok.srt (List.mem_of_getElem? hid);obtain⟨_,hxi⟩:=Qa hgx;subst hxi;have hjx:=hok.at_ hgx;have hak:(asksR st)[e]?=some ⟨x.k,(lenR st x:Nat)⟩:=by rw[asksR_eq,List.getElem?_map,hid];exact congrArg some (akO_some hgx)
  obtain⟨ln,hln⟩:∃ln,ln=lenR st x:=⟨_,rfl⟩;have hlen:=length_S b st ps x hgx;rw[←hln]at hlen hak;refine ZY 5 ?_;refine Zv (Zx (e) ef (hsa) ef (by omega)) ?_;refine Zv (Zo (wv) (e) ef (hsa) (by rw[List.getElem?_map,hid];rfl)) ?_;refine ZY 2 ?_;refine Zd ([BP b st ps]) [11] (Zra 0 8) ?_;refine ZY 5 ?_;refine Zw ef (q_loadBj b st ps hgx Eo.h rfl (fun _ _ _ _ _=>rfl)) ?_;refine ZY 2 ?_;refine Z1 (i:=8) ef ef ?_;refine  (Zcp Ze (hlen) ?_);refine Zk [9] ?_;refine Zw ef (Qm (pvs:=[(_,_),(_,_)]) [_,_] Tryz.z139.h Tryz.p139.h ⟨⟨rfl,rfl⟩,⟨rfl,rfl⟩,trivial⟩ rfl) ?_;refine Z1 (i:=10) ef ef ?_;refine(S.buildSlice (pvs:=[(_,_)]) [_,_] Tryz.underlying136 Tryz.inf139.h rfl rfl ⟨⟨rfl,rfl⟩,trivial⟩ rfl rfl ?_);intro b26;refine Zk [] ?_;refine Z1 (i:=11) ef ef ?_;refine(S.Qj (s:=av) (1) (PL.akC ⟨x.k,(ln:Nat)⟩) Tryz.underlying136 Tryz.inf139.h rfl rfl rfl (Qk (b:=b26) rfl (by unfold maxLen;omega)) (by first | rfl | exact Qd _) (⟨by omega,by omega⟩) rfl ?_);intro av2 hav2;refine ZL ([]) [12] ?_;refine Zy ?_;refine ZD ?_;refine Zy ?_;rw[Yl PL.akC al (⟨x.k,(ln:Nat)⟩:PL.Ak)];refine Zv (Za ef ef) ?_;refine ZY 2 ?_;exact ZX (fz-1) (⟨e+1,al++[⟨x.k,(ln:Nat)⟩],av2,by omega,by omega,by rw[List.take_add_one,hak,hal];rfl,by omega,rfl,rfl⟩) (by omega)
 ·have hasl:(asksR st).length=(Yk st).length:=by rw[asksR_eq,List.length_map]
  rw[show (asksR st).take e=asksR st by rw[show e=(asksR st).length by omega,List.take_length]]at hal;subst hal;refine ZY 4 ?_;refine Zp (Zc1 Ze (profile_S b st ps) ?_);rintro v Θ ⟨pv,rs,rfl,hrs,rfl⟩;refine Zy ?_;refine Zp (Zc1 Ze (PL.Plan_S (PL.prof pv rs) (own av 139 2 ((asksR st).flatMap PL.akC)) pv rs av (asksR st) (by rw[hrs];exact prof_sml hN hR8) (by omega) (PL.RdP.prof pv rs) (by rw[hasl,←show av.n=(Yk st).length by omega];exact RdS.own)) ?_);rintro v Θ ⟨u,os,rfl,hos,rfl⟩;rw[hrs]at hos;have hpl:=PL.planR_length (asksR st) (profR st);have hol:os.length=(Yk st).length:=by rw[←hasl,←hpl,←hos,List.length_map]
  refine S.Zz u fun hu1 hu2 hu3=>?_;rw[Qu PL.srC_len,hol]at hu1;have hzl:(zsR st).length=(Yk st).length:=by rw[List.length_zip,hpl,hasl,Nat.min_self]
  refine ZY 4 ?_;refine Zl (fun fz ρ' Γ'=>∃(e:Nat) (t:Br),fz=(Yk st).length-e∧e≤(Yk st).length∧t=Yu st ((zsR st).take e)∧ρ'=[(0,pt b),(2,wv.v),(32,u.v),(33,.int .i64 (u.n:Int)),(34,.int .i64 (e:Int))]∧Γ'=own u 146 4 (os.flatMap PL.srC)::alls os PL.srB::own wv 86 1 (wps ps (Yk st))::BP b t ps::Γ) (m:=_) (⟨0,st,rfl,by omega,rfl,rfl,rfl⟩) ?_;rintro fz ρ' Γ' ⟨e,t,hfz,he,ht,rfl,rfl⟩;have hI:PlInv st (zsR st) e t:=by rw[ht];exact place_inv hok hw e (by omega)
  refine ZY 5 ?_
  refine Zj ef (fun h2=>?_) (fun h2=>?_)
  ·refine S.Qh u (by omega) fun sb so hsa _ _ _=>?_;refine S.Qh wv (by omega) fun wb wo hwa _ _ _=>?_;obtain⟨r,hr⟩:=Ya (show e<os.length by omega);obtain⟨id,hid⟩:=Ya (show e<(Yk st).length by omega);have hpr:(PL.planR (profR st) (asksR st))[e]?=some r.x:=by rw[←hos,List.getElem?_map,hr];rfl
   have hz:(zsR st)[e]?=some (id,r.x):=by rw[List.getElem?_zip_eq_some];exact⟨hid,hpr⟩
   obtain⟨x,hgx,hxq⟩:=mem_waitR hok.srt (List.mem_of_getElem? hid);obtain⟨_,hxi⟩:=Qa hgx;subst hxi;have hgt:Qb t.js x.id=some x:=by rw[hI.here e (x.id,r.x) (Nat.le_refl _) hz];exact hgx
   have hxs:x.sav=none:=by
    simp only[quB,Bool.and_eq_true,decide_eq_true_eq]at hxq;exact hw x (Qa hgx).1 hxq.1
   have hstep:Yu st ((zsR st).take (e+1))=W7 t (x.id,r.x):=by rw[List.take_add_one,hz,ht];exact placeUp_snoc _ _ _
   have hnl:r.x.nodes.length≤16:=Nat.le_trans (plan_len (asksR st) (prof_rows st) r.x (by rw[←hos];exact List.mem_map.2 ⟨r,List.mem_of_getElem? hr,rfl⟩)) hN;have hto:=hI.ord;refine S.conv (alls os PL.srB) (Ent.X8 PL.srB hr _) ?_;refine S.Zz r.v fun hr1 hr2 hr3=>?_;rw[List.length_map,Nat.mul_one]at hr1;refine S.Yq (PL.srB r) (alls (os.take e) PL.srB) (alls (os.drop (e+1)) PL.srB) (Ent.Y6 PL.srB hr _) ?_;refine ZY 6 ?_;refine Zv (Zx (e) ef (hsa) ef (by omega)) ?_;refine Zv (Xg (u) (e*4) [_,_,_,_] Eo.h rfl hsa (by first | rfl | exact Nat.add_assoc _ _ _ | omega) rfl (Yh (enc:=PL.srC) (sz:=4) (fun _=>rfl) hr)) ?_;refine Zp (S.alloc Tryz.z146.h rfl ?_);intro b7;refine Zy ?_;refine Zp (Zs ef ef (cs':=[_,_,_,_]) ef ?_);refine ZY 6 ?_
   refine Zbb 41 ef (fun hg10_2=>?_) (fun hg10_2=>?_)
   ·refine ZY 5 ?_
    refine Zj ef (fun h3=>?_) (fun h3=>?_)
    ·have hst3:W7 t (x.id,r.x)=V4 t x r.x:=plStep_yes ⟨hg10_2,h3⟩ hgt;refine Zd ([blk b7 146 (PL.srC r).toArray,own wv 86 1 (wps ps (Yk st))]) [] (Zra 0 6) ?_;refine ZY 3 ?_;refine Zw ef (Zx (e) ef (hwa) ef (by omega)) ?_;refine Zw ef (Zo (wv) (e) ef (hwa) (by rw[List.getElem?_map,hid];rfl)) ?_;refine Zy ?_;refine Z1 (i:=6) ef ef ?_;refine  (Zc1 Ze (load_S b t ps x r.x r.v (alls os PL.srB) hgt hxs hr1.symm (by omega) (RdS.alls hr RdS.own) (by omega)) ?_);rintro v Θ rfl;refine Zk [] ?_;refine ZD ?_;refine Zy ?_;refine Zv (Za ef ef) ?_;refine ZY 2 ?_;first | exact ZX (fz-1) ⟨e+1,t,by omega,by omega,by rw[hstep,hst2],rfl,rfl⟩ (by omega) | exact ZX (fz-1) ⟨e+1,V4 t x r.x,by omega,by omega,by rw[hstep,hst3],rfl,rfl⟩ (by omega)
    ·have hst2:W7 t (x.id,r.x)=t:=by first | exact hst2 | exact plStep_no (fun h=>h3 h.2)
     refine ZY 2 ?_;refine Zv (Za ef ef) ?_;refine ZY 2 ?_;first | exact ZX (fz-1) ⟨e+1,t,by omega,by omega,by rw[hstep,hst2],rfl,rfl⟩ (by omega) | exact ZX (fz-1) ⟨e+1,V4 t x r.x,by omega,by omega,by rw[hstep,hst3],rfl,rfl⟩ (by omega)
   ·have hst2:W7 t (x.id,r.x)=t:=plStep_no (by rw[hg10_2];simp);refine ZY 8 ?_;refine Zv (Za ef ef) ?_;refine ZY 2 ?_;first | exact ZX (fz-1) ⟨e+1,t,by omega,by omega,by rw[hstep,hst2],rfl,rfl⟩ (by omega) | exact ZX (fz-1) ⟨e+1,V4 t x r.x,by omega,by omega,by rw[hstep,hst3],rfl,rfl⟩ (by omega)
  ·rw[show (zsR st).take e=zsR st by rw[show e=(zsR st).length by omega,List.take_length]]at ht;refine Zy ?_;exact Zfn ef Zq (by rw[placeAll_eq,←ht])
theorem choR_mem {m:Mx} {tier k:Int} {l:List Cd} {x:Cd} (h:x∈(choR m tier k l).1):x∈l:=by
 have key:∀i,x∈(chUp m tier k l i).1→x∈l:=by
  intro i;induction i with
  | zero=>exact fun h=>by cases h
  | succ i ih=>
   intro h;rw[chUp]at h
   split at h
   ·exact ofV_mem h
   ·exact ih h
 exact key _ h
theorem choR_len (m:Mx) (tier k:Int) (l:List Cd):(choR m tier k l).1.length≤l.length:=by
 have hof:∀row,(ofV m row tier k l).1.length≤l.length:=fun row=>by
  unfold ofV
  split
  ·exact Nat.zero_le _
  split
  ·exact Nat.le_trans (List.length_take_le' _ _) (lesR_len m row tier l)
  ·exact Nat.zero_le _
 have key:∀i,(chUp m tier k l i).1.length≤l.length:=by
  intro i;induction i with
  | zero=>exact Nat.zero_le _
  | succ i ih=>
   rw[chUp]
   split
   ·exact hof _
   ·exact ih
 exact key _
structure LInv (f:Br→Bj→Br) (st:Br) (l:List Nat) (e:Nat) (t:Br):Prop where
 ok:Qp t
 ord:t.orders.length≤st.orders.length+16*e
 ids:t.js.map (·.id)=st.js.map (·.id)
theorem isSome_ids {js js':List Bj} (h:js'.map (·.id)=js.map (·.id)) (id:Nat):(Qb js' id).isSome=(Qb js id).isSome:=by
 have e:∀l:List Bj,(Qb l id).isSome=(l.map (·.id)).any fun i=>decide (i=id):=fun l=>by
  unfold Qb;rw[List.isSome_find?,List.any_map];rfl
 rw[e,e,h]
theorem linv {f:Br→Bj→Br} (hE:EachOk f) (hid:∀st x,(f st x).js.map (·.id)=st.js.map (·.id)) {st:Br} (h:Qp st) {l:List Nat} (hl:∀id∈l,(Qb st.js id).isSome=true):∀e,e≤l.length→LInv f st l e (each f st (l.take e)):=by
 intro e;induction e with
 | zero=>exact fun _=>⟨h,Nat.le_refl _,rfl⟩
 | succ e ih=>
  intro he;have hi:=ih (by omega);obtain⟨id,hid2⟩:=Ya (show e<l.length by omega);have htk:l.take (e+1)=l.take e++[id]:=by rw[List.take_add_one,hid2];rfl
  obtain⟨x,hx⟩:∃x,Qb (each f st (l.take e)).js id=some x:=Option.isSome_iff_exists.1 (by rw[isSome_ids hi.ids];exact hl id (List.mem_of_getElem? hid2));have hxi:=(Qa hx).2;rw[htk,each_snoc,hx];dsimp only;refine⟨hE.ok _ x hi.ok (by rw[hxi];exact hx),?_,by rw[hid];exact hi.ids⟩;have:=hE.ord _ x hi.ok (by rw[hxi];exact hx);have:=hi.ord;omega
theorem lstep {f:Br→Bj→Br} {st:Br} {l:List Nat} {e id:Nat} {x:Bj} (hid:l[e]?=some id) (hx:Qb (each f st (l.take e)).js id=some x):each f st (l.take (e+1))=f (each f st (l.take e)) x:=by
 rw[List.take_add_one,hid];show each f st (l.take e++[id])=_;rw[each_snoc,hx]
abbrev warX (st:Br) (x:Bj):Bj:={x with warned:=true,till:=Ye st.now st.grace}
abbrev warOrd (st:Br) (x:Bj) (n:Nat):Od:=(n,{kind:=12,job:=x.id,tick:=Ye st.now st.grace})
theorem warnJ_eq (st:Br) (x:Bj):W8 st x=Br.set {st with orders:=st.orders++x.at_.map (warOrd st x)} (warX st x):=rfl
theorem JOk.warX {N:Nat} {st:Br} {x:Bj} (h:JOk N x):JOk N (warX st x):=⟨h.id1,h.id2,h.tier,h.k1,h.kn,h.w,h.cr,h.wk,h.rise,h.at_,h.drop,h.lod,h.ran,h.ld,h.svl⟩
theorem warnE:EachOk W8:=⟨fun st x h hx=>by rw[warnJ_eq];exact(h.oset _).set (x:=BN.warX st x) (h.at_ hx).warX,fun st x id h=>by rw[warnJ_eq];exact set_oth {st with orders:=st.orders++x.at_.map (warOrd st x)} (x:=BN.warX st x) h,fun st x h hx=>by
 rw[warnJ_eq];show (st.orders++x.at_.map (warOrd st x)).length≤_;rw[List.length_append,List.length_map];have:=len16 h hx;omega⟩
theorem warn_ids (st:Br) (x:Bj):(W8 st x).js.map (·.id)=st.js.map (·.id):=setJ_ids st.js (BN.warX st x)
def Vo (st:Br) (y:Bj):List Nat:=jobsR (choR st.m y.tier y.k (candR st)).1
theorem pre_nil {st:Br} (h:Yk st=[]):Q7 st=st:=by rw[Q7,h]
theorem pre_live {st:Br} (h:st.js.any lvB=true):Q7 st=st:=by
 unfold Q7
 split
 ·rfl
 ·exact if_pos h
theorem pre_go {st:Br} {id:Nat} {l:List Nat} {y:Bj} (hw:Yk st=id::l) (h:st.js.any lvB=false) (hy:Qb st.js id=some y):Q7 st=each W8 st (Vo st y):=by
 unfold Q7;rw[hw];dsimp only;rw[if_neg (by rw[h];decide),hy];rfl
theorem vic_mem {st:Br} (hs:V2 st.js) {y:Bj}:∀id∈Vo st y,(Qb st.js id).isSome=true:=fun id h=>by
 obtain⟨c,hc,e⟩:=List.mem_map.1 h;obtain⟨x,hx,e2⟩:=List.mem_map.1 (choR_mem hc);subst e2;simp only at e;rw[←e,Xo hs (List.mem_filter.1 hx).1];rfl
theorem later_le (t n:Nat):Ye t n≤4294967295:=Nat.min_le_right _ _
set_option maxHeartbeats 4000000 in
theorem preempt_S (b:Nat) (st:Br) (ps:Nat→Nat) (hl:st.orders.length≤800000) {W:World} (hW:TabW W):Spec Tryz.prog 44 [pt b] [BP b st ps,old W] fun Γ _ Θ=>Θ=BP b (Q7 st) ps::old W::Γ:=by
 refine Spec.Vl fun hok=>?_;have hN:=hok.N16;have hfew:=hok.few;have hwl:=waitR_len hok.srt;refine Zbd Tryz.func44 rfl Tryz.ntmps44 fun w0 Γ=>Zsh ?_;refine ZY 3 ?_;refine Zp (Zc1 Ze (waiting_S b st ps) ?_);rintro v Θ ⟨wv,rfl,hwn,rfl⟩;refine ZY 8 ?_;refine Zy ?_
 refine Zb 18 ef (fun hg1_3=>?_) (fun hg1_3=>?_)
 ·have hg:=pre_nil (List.eq_nil_of_length_eq_zero (show (Yk st).length=0 by omega));refine ZY 7 ?_;exact Zf ef Zq (by rw[hg])
 ·refine Zy ?_;refine Zg ef ef ef (Zc1 Ze (all_S b st ps) ?_);rintro v Θ ⟨jv,rfl,hjv,rfl⟩;refine Zg ef ef ef (Zcp Ze (contJ_S b st ps jv hjv) ?_);refine ZY 2 ?_
  refine Zi ef (fun h1=>?_) (fun h1=>?_)
  ·have hg:=pre_live h1;refine Zy ?_;exact Zf ef Zq (by rw[hg])
  ·obtain⟨id,ws,hws⟩:∃id ws,Yk st=id::ws:=by
    cases hw:Yk st with
    | nil=>exact absurd (show ((wv.n:Nat):Int)=0 by rw[hwn,hw];rfl) hg1_3
    | cons id ws=>exact⟨id,ws,rfl⟩
   obtain⟨y,hgy,hyq⟩:=mem_waitR hok.srt (show id∈Yk st by rw[hws];exact List.mem_cons_self ..);obtain⟨_,hyi⟩:=Qa hgy;subst hyi;have hg:=pre_go hws h1 hgy;refine ZY 8 ?_;refine S.ent (show Ent _ (own SV.nil 152 2 (([]:List Cd).flatMap cdC)::_) from Ent.Q6 152 2) ?_;refine Zy ?_;refine Zp (Zc1 Ze (all_S b st ps) ?_);rintro v Θ ⟨j2,rfl,hj2,rfl⟩;refine S.Zz j2 fun hl1 hl2 hl3=>?_;have hmx:maxLen≤9223372036854775807:=by unfold maxLen;omega
   refine ZY 4 ?_;refine Zl (fun fz ρ' Γ'=>∃(e:Nat) (cs:List Cd) (cv:SV),fz=st.js.length-e∧e≤st.js.length∧cs=((st.js.take e).filter fun x=>decide (x.state=2) || decide (x.state=1)).map (fun x=>(x.id,(x.tier:Int)))∧cv.n=cs.length∧cs.length≤e∧ρ'=[(0,pt b),(2,wv.v),(3,cv.v),(24,j2.v),(25,.int .i64 (j2.n:Int)),(26,.int .i64 (e:Int))]∧Γ'=own j2 86 1 (pts ps st.js)::own wv 86 1 (wps ps (Yk st))::own cv 152 2 (cs.flatMap cdC)::BP b st ps::old W::Γ) (m:=_) (⟨0,[],SV.nil,rfl,by omega,rfl,rfl,Nat.le_refl _,rfl,rfl⟩) ?_;rintro fz ρ' Γ' ⟨e,cs,cv,hfz,he,hcs,hcn,hcl,rfl,rfl⟩;refine ZY 5 ?_
   refine Zj ef (fun h2=>?_) (fun h2=>?_)
   ·refine S.Qh j2 (by omega) fun sb so hsa _ _ _=>?_;obtain⟨x,hx⟩:=Ya (show e<st.js.length by omega);have hgx:Qb st.js x.id=some x:=Xo hok.srt (List.mem_of_getElem? hx);have hjx:=hok.at_ hgx;have hsn:=fun v hv=>fsnoc (p:=fun x:Bj=>decide (x.state=2) || decide (x.state=1)) hx v hv;refine S.Xv b st ps x hgx fun ub jb mb ov iv dv mv sb l i av lb db rb qb hF hi hset hrm hJ=>?_;refine ZY 5 ?_;refine Zv (Zx (e) ef (hsa) ef (by omega)) ?_;refine Zv (Zo (j2) (e) ef (hsa) (by rw[List.getElem?_map,hx];rfl)) ?_;refine ZY 8 ?_;refine ZY 3 ?_
    refine Zb 36 ef (fun hg6_6=>?_) (fun hg6_6=>?_)
    ·have hcs2:cs++[(x.id,(x.tier:Int))]=((st.js.take (e+1)).filter fun x=>decide (x.state=2) || decide (x.state=1)).map (fun x=>(x.id,(x.tier:Int))):=by
      rw[hsn true (by rw[decide_eq_true (show x.state=2 by omega)];rfl),List.map_append,hcs];rfl
     refine ZY 8 ?_;refine Zy ?_;refine Zd ([blk (ps x.id) 90 (bjC x av lb db rb qb).toArray]) [13] (Zra 0 12) ?_;refine ZY 8 ?_;refine ZY 3 ?_;refine Zw ef (Qm (pvs:=[(_,_),(_,_)]) [_,_] Tryz.z152.h Tryz.p152.h ⟨⟨rfl,rfl⟩,⟨rfl,rfl⟩,trivial⟩ rfl) ?_;refine Z1 (i:=12) ef ef ?_;refine(S.buildSlice (pvs:=[(_,_)]) [_,_] Tryz.underlying150 Tryz.inf152.h rfl rfl ⟨⟨rfl,rfl⟩,trivial⟩ rfl rfl ?_);intro b56;refine Zk [] ?_;refine Z1 (i:=13) ef ef ?_;refine(S.Qj (s:=cv) (1) (cdC (x.id,(x.tier:Int))) Tryz.underlying150 Tryz.inf152.h rfl rfl rfl (Qk (b:=b56) rfl (by unfold maxLen;omega)) (by first | rfl | exact Qd _) (⟨by omega,by omega⟩) rfl ?_);intro cv2 hcv2;refine ZL ([]) [14] ?_;refine Zy ?_;refine ZD ?_;refine Zy ?_;first | rw[Yl cdC cs ((x.id,(x.tier:Int)):Cd)] | skip
     refine S.Qf b st ps ub jb mb ov iv dv mv sb l i x av lb db rb qb hi rfl (hset x rfl) (hF.set hjx) hJ ?_;rw[Qi hok hgx];refine Zv (Za ef ef) ?_;refine ZY 2 ?_;first | exact ZX (fz-1) ⟨e+1,cs++[(x.id,(x.tier:Int))],cv2,by omega,by omega,hcs2,by rw[List.length_append,List.length_singleton];omega,by rw[List.length_append,List.length_singleton];omega,rfl,rfl⟩ (by omega) | exact ZX (fz-1) ⟨e+1,cs,cv,by omega,by omega,hcs2,by omega,by omega,rfl,rfl⟩ (by omega)
    ·refine ZY 8 ?_
     refine Zj ef (fun h3=>?_) (fun h3=>?_)
     ·have hcs2:cs++[(x.id,(x.tier:Int))]=((st.js.take (e+1)).filter fun x=>decide (x.state=2) || decide (x.state=1)).map (fun x=>(x.id,(x.tier:Int))):=by
       rw[hsn true (by rw[decide_eq_true (show x.state=1 by omega),Bool.or_true]),List.map_append,hcs];rfl
      refine Zd ([blk (ps x.id) 90 (bjC x av lb db rb qb).toArray]) [13] (Zra 0 12) ?_;refine ZY 8 ?_;refine ZY 3 ?_;refine Zw ef (Qm (pvs:=[(_,_),(_,_)]) [_,_] Tryz.z152.h Tryz.p152.h ⟨⟨rfl,rfl⟩,⟨rfl,rfl⟩,trivial⟩ rfl) ?_;refine Z1 (i:=12) ef ef ?_;refine(S.buildSlice (pvs:=[(_,_)]) [_,_] Tryz.underlying150 Tryz.inf152.h rfl rfl ⟨⟨rfl,rfl⟩,trivial⟩ rfl rfl ?_);intro b56;refine Zk [] ?_;refine Z1 (i:=13) ef ef ?_;refine(S.Qj (s:=cv) (1) (cdC (x.id,(x.tier:Int))) Tryz.underlying150 Tryz.inf152.h rfl rfl rfl (Qk (b:=b56) rfl (by unfold maxLen;omega)) (by first | rfl | exact Qd _) (⟨by omega,by omega⟩) rfl ?_);intro cv2 hcv2;refine ZL ([]) [14] ?_;refine Zy ?_;refine ZD ?_;refine Zy ?_;first | rw[Yl cdC cs ((x.id,(x.tier:Int)):Cd)] | skip
      refine S.Qf b st ps ub jb mb ov iv dv mv sb l i x av lb db rb qb hi rfl (hset x rfl) (hF.set hjx) hJ ?_;rw[Qi hok hgx];refine Zv (Za ef ef) ?_;refine ZY 2 ?_;first | exact ZX (fz-1) ⟨e+1,cs++[(x.id,(x.tier:Int))],cv2,by omega,by omega,hcs2,by rw[List.length_append,List.length_singleton];omega,by rw[List.length_append,List.length_singleton];omega,rfl,rfl⟩ (by omega) | exact ZX (fz-1) ⟨e+1,cs,cv,by omega,by omega,hcs2,by omega,by omega,rfl,rfl⟩ (by omega)
     ·have hcs2:cs=((st.js.take (e+1)).filter fun x=>decide (x.state=2) || decide (x.state=1)).map (fun x=>(x.id,(x.tier:Int))):=by
       rw[hsn false (by rw[decide_eq_false (show ¬x.state=2 by omega),decide_eq_false (show ¬x.state=1 by omega)];rfl),hcs];simp
      refine ZY 2 ?_;first | rw[Yl cdC cs ((x.id,(x.tier:Int)):Cd)] | skip
      refine S.Qf b st ps ub jb mb ov iv dv mv sb l i x av lb db rb qb hi rfl (hset x rfl) (hF.set hjx) hJ ?_;rw[Qi hok hgx];refine Zv (Za ef ef) ?_;refine ZY 2 ?_;first | exact ZX (fz-1) ⟨e+1,cs++[(x.id,(x.tier:Int))],cv2,by omega,by omega,hcs2,by rw[List.length_append,List.length_singleton];omega,by rw[List.length_append,List.length_singleton];omega,rfl,rfl⟩ (by omega) | exact ZX (fz-1) ⟨e+1,cs,cv,by omega,by omega,hcs2,by omega,by omega,rfl,rfl⟩ (by omega)
   ·have hcs9:cs=candR st:=by rw[hcs,show e=st.js.length by omega,List.take_length];rfl
    have hct:∀c∈cs,0≤c.2∧c.2≤255:=fun c hc=>by
     rw[hcs9]at hc;obtain⟨x,hx,e2⟩:=List.mem_map.1 hc;have:=(hok.job x (List.mem_filter.1 hx).1).tier;subst e2;exact⟨by show (0:Int)≤(x.tier:Int);omega,by show ((x.tier:Nat):Int)≤255;omega⟩
    refine S.Qh wv (by omega) fun wb wo hwa _ _ _=>?_;have hjy:=hok.at_ hgy;refine S.Xv b st ps y hgy fun ub jb mb ov iv dv mv sb l i av lb db rb qb hF hi hset hrm hJ=>?_;refine ZY 2 ?_;refine Zd ([blk (ps y.id) 90 (bjC y av lb db rb qb).toArray,blk b 84 (bC st ub jb mb ov iv dv mv sb).toArray,own wv 86 1 (wps ps (Yk st))]) [] (Zra 0 19) ?_;refine ZY 6 ?_;refine Zw ef (Zx (0) ef (hwa) ef (by omega)) ?_;refine Zw ef (Zo (wv) (0) ef (hwa) (by rw[hws];rfl)) ?_;refine ZY 5 ?_;refine Zw ef (Zx (0) ef (hwa) ef (by omega)) ?_;refine Zw ef (Zo (wv) (0) ef (hwa) (by rw[hws];rfl)) ?_;refine ZY 4 ?_
    refine Z2 (i:=19) (j:=23) ef ef ef ?_ ?_
    ·refine  (Zc1 Ze (Choose_S mb st.m y.tier y.k (own cv 152 2 (cs.flatMap cdC)) cv cs hcn (by omega) hct RdS.own hW) ?_);rintro v Θ ⟨cu,rfl,hcun,rfl⟩;refine Zk [20,21,22] ?_;refine ZY 3 ?_;refine Z1 (i:=23) ef ef ?_;refine(S.alloc Tryz.z154.h rfl ?_);intro b6;refine Zk [] ?_;refine Z1 (i:=24) ef ef ?_;refine  (Zs ef ef (cs':=[_,_]) ef ?_);refine Zk [25] ?_;refine Zy ?_;refine ZD ?_;refine ZY 2 ?_;have hvr:jobsR (choR st.m y.tier y.k cs).1=Vo st y:=by rw[hcs9];rfl
     have hcl2:(choR st.m y.tier y.k cs).1.length=(Vo st y).length:=by rw[←hvr,List.length_map]
     rw[hvr];rw[hcl2]at hcun;refine S.Qf b st ps ub jb mb ov iv dv mv sb l i y av lb db rb qb hi rfl (hset y rfl) (hF.set hjy) hJ ?_;rw[Qi hok hgy];refine S.Zz cu fun hc1 hc2 hc3=>?_
     have hvl:(Vo st y).length≤1000:=by
      have h1:(Vo st y).length≤(candR st).length:=Nat.le_trans (Nat.le_of_eq (List.length_map ..)) (choR_len st.m y.tier y.k (candR st));have h2:(candR st).length≤st.js.length:=by rw[candR,List.length_map];exact List.length_filter_le _ _
      omega
     refine ZY 6 ?_;refine Zl (fun fz ρ' Γ'=>∃(e:Nat) (t:Br),fz=(Vo st y).length-e∧e≤(Vo st y).length∧t=each W8 st ((Vo st y).take e)∧ρ'=[(0,pt b),(83,cu.v),(84,.int .i64 (cu.n:Int)),(85,.int .i64 (e:Int))]∧Γ'=own cu 31 1 (Qq (Vo st y))::BP b t ps::old W::Γ) (m:=_) (⟨0,st,rfl,by omega,rfl,rfl,rfl⟩) ?_;rintro fz ρ' Γ' ⟨e,t,hfz,he,ht,rfl,rfl⟩;have hI:LInv W8 st (Vo st y) e t:=by rw[ht];exact linv warnE warn_ids hok (vic_mem hok.srt) e he
     have hIo:=hI.ord;refine ZY 5 ?_
     refine Zj ef (fun h4=>?_) (fun h4=>?_)
     ·refine S.Qh cu (by omega) fun sb so hsa _ _ _=>?_;obtain⟨id,hid⟩:=Ya (show e<(Vo st y).length by omega);obtain⟨x,hgx⟩:∃x,Qb t.js id=some x:=Option.isSome_iff_exists.1 (by rw[isSome_ids hI.ids];exact vic_mem hok.srt id (List.mem_of_getElem? hid));obtain⟨_,hxi⟩:=Qa hgx;subst hxi;have hst:each W8 st ((Vo st y).take (e+1))=W8 t x:=by rw[ht];exact lstep hid (by rw[←ht];exact hgx)
      have hokt:=hI.ok;have hjx:=hokt.at_ hgx;have hal:=Nat.le_trans hjx.len hokt.N16;obtain⟨x1,hx1⟩:∃x1:Bj,x1=warX t x:=⟨_,rfl⟩;have hj1:JOk t.nodes x1:=by rw[hx1];exact hjx.warX
      have hidx:x1.id=x.id:=by rw[hx1]
      have e1:x1.till=Ye t.now t.grace:=by rw[hx1]
      refine S.Xv b t ps x hgx fun ub jb mb ov iv dv mv sb l i av lb db rb qb hF hi hset hrm hJ=>?_;have hlk:Ql (x.id:Int) l=some (pt (ps x.id)):=by rw[Xn hokt.srt hF.perm,hgx];rfl
      have han:=hJ.an;refine ZY 5 ?_;refine Zv (Zx (e) ef (hsa) ef (by omega)) ?_;refine Zv (Zo (cu) (e) ef (hsa) (idsV_get hid)) ?_;refine ZY 8 ?_;refine Zy ?_;refine Zv (Qg (pt (ps x.id)) Tryz.underlying82 Tryz.underlying31 Tryz.W5.h rfl rfl rfl (by rw[hlk];rfl)) ?_;refine ZY 3 ?_;refine Zd ([blk b 84 (bC t ub jb mb ov iv dv mv sb).toArray]) [] (Zra 0 11) ?_;refine ZY 8 ?_;refine ZY 3 ?_;refine Z1 (i:=11) ef ef ?_;refine  (Zcp Ze (later_S t.now t.grace hokt.now (by have:=hokt.g2;omega)) ?_);refine Zk [12,13] ?_;refine ZY 2 ?_;refine Z1 (i:=14) ef ef ?_;refine(S.store (cs':=[_,_,_,_,_,_,_,_,_,_,_,_,_,_,_,_,_]) Eo.h rfl rfl rfl rfl rfl ?_);refine Zk [15,16] ?_;refine ZY 2 ?_;refine Z1 (i:=17) ef ef ?_;refine(S.store (cs':=[_,_,_,_,_,_,_,_,_,_,_,_,_,_,_,_,_]) Eo.h rfl rfl rfl rfl rfl ?_);refine Zk [] ?_;refine ZD ?_;refine ZY 2 ?_;refine S.Z6 (ps x.id) (bjC x1 av lb db rb qb).toArray (by rw[hx1]) ?_;refine ZY 8 ?_;refine Zl (fun fy ρ' Γ'=>∃(e3:Nat) (os:List Od) (ov2:SV),fy=x.at_.length-e3∧e3≤x.at_.length∧os=t.orders++(x.at_.take e3).map (warOrd t x)∧ov2.n=os.length∧os.length=t.orders.length+e3∧ρ'=[(0,pt b),(9,.int .u32 (x.id:Int)),(10,pt (ps x.id)),(83,cu.v),(84,.int .i64 (cu.n:Int)),(85,.int .i64 (e:Int)),(114,av.v),(115,.int .i64 (av.n:Int)),(116,.int .i64 (e3:Int))] ∧   Γ'=blk (ps x.id) 90 (bjC x1 av lb db rb qb).toArray::own av 3 1 (nds x.at_)::Y1 lb x.loaded::Y1 db x.drops::optR rb x.ran::W6 qb x.id x.sav::blk b 84 (bC t ub jb mb ov2 iv dv mv sb).toArray::Qe ub .i64 (Y0 t.up)::Qe jb .u32 l::jT ps t.js i::jD ps t.js i::MI mb t.m::own ov2 97 14 (os.flatMap odC)::imgs iv t.images::own dv 31 1 (Qq t.done)::own mv 31 1 (Qq t.members)::Y1 sb t.stops::own cu 31 1 (Qq (Vo st y))::old W::Γ) (m:=_) (⟨0,t.orders,ov,rfl,by omega,by simp,hF.on,rfl,rfl,rfl⟩) ?_;rintro fy ρ' Γ' ⟨e3,os,ov2,hfy,he3,hos,hov2,hol,rfl,rfl⟩;refine ZY 5 ?_
      refine Zj ef (fun h5=>?_) (fun h5=>?_)
      ·refine S.Qh av (by omega) fun ab ao haa _ _ _=>?_;obtain⟨z,hz⟩:=Ya (show e3<x.at_.length by omega);have htk:x.at_.take (e3+1)=x.at_.take e3++[z]:=by rw[List.take_add_one,hz];rfl
       have hos2:os++[((z,{kind:=12,job:=x.id,tick:=Ye t.now t.grace}):Od)]=t.orders++(x.at_.take (e3+1)).map (warOrd t x):=by rw[hos,htk,List.map_append,List.append_assoc];rfl
       refine ZY 5 ?_;refine Zv (Zx (e3) ef (haa) ef (by omega)) ?_;refine Zv (Zo (av) (e3) ef (haa) (by rw[List.getElem?_map,hz];rfl)) ?_;refine ZY 8 ?_;refine ZY 2 ?_;refine Zv (Qm (pvs:=[(_,_),(_,_),(_,_)]) [_,_,_,_,_,_,_,_,_,_,_,_,_] Tryz.z72.h Tryz.p72.h ⟨⟨rfl,rfl⟩,⟨rfl,rfl⟩,⟨rfl,rfl⟩,trivial⟩ rfl) ?_;rw[e1];refine Zp (Zc1 Ze (order_S b t ub jb mb ov2 iv dv mv sb z {kind:=12,job:=x.id,tick:=Ye t.now t.grace} os hov2 (by omega)) ?_);rintro v Θ ⟨ov3,hov3,rfl⟩;refine ZY 2 ?_;refine Zv (Za ef ef) ?_;refine ZY 2 ?_;exact ZX (fy-1) (⟨e3+1,os++[((z,{kind:=12,job:=x.id,tick:=Ye t.now t.grace}):Od)],ov3,by omega,by omega,hos2,hov3,by rw[List.length_append,List.length_singleton];omega,rfl,rfl⟩) (by omega)
      ·rw[show x.at_.take e3=x.at_ by rw[show e3=x.at_.length by omega,List.take_length]]at hos;have hwj:W8 t x=Br.set {t with orders:=os} x1:=by rw[warnJ_eq,hos,hx1]
       refine ZY 2 ?_;refine S.sub (jX (ps x.id) x1 av lb db rb qb (bR b {t with orders:=os} ps ub jb mb ov2 iv dv mv sb l i (own cu 31 1 (Qq (Vo st y))::old W::Γ))) (e:=by subst hx1;infer_instance) ?_;refine S.Qf b {t with orders:=os} ps ub jb mb ov2 iv dv mv sb l i x1 av lb db rb qb hi hidx (hset x1 hidx) (BF.set (st:={t with orders:=os}) ⟨hokt.oset os,hF.perm,hov2,hF.im,hF.dn,hF.mn,hF.sn⟩ hj1) ⟨by rw[hx1];exact hJ.an,by rw[hx1];exact hJ.l,by rw[hx1];exact hJ.d,by rw[hx1];exact hJ.r,by rw[hx1];exact hJ.s⟩ ?_;rw[←hwj];refine Zv (Za ef ef) ?_;refine ZY 2 ?_;exact ZX (fz-1) (⟨e+1,W8 t x,by omega,by omega,by rw[hst],rfl,rfl⟩) (by omega)
     ·rw[show (Vo st y).take e=Vo st y by rw[show e=(Vo st y).length by omega,List.take_length]]at ht;refine Zy ?_;exact Zfn ef Zq (by rw[hg,←ht])
    ·refine(S.alloc Tryz.z154.h rfl ?_);intro b6;refine Zk [] ?_;refine Z1 (i:=19) ef ef ?_;refine  (Zc1 Ze (Choose_S mb st.m y.tier y.k (own cv 152 2 (cs.flatMap cdC)) cv cs hcn (by omega) hct RdS.own hW) ?_);rintro v Θ ⟨cu,rfl,hcun,rfl⟩;refine Zk [20,21,22] ?_;refine ZY 3 ?_;refine Z1 (i:=24) ef ef ?_;refine  (Zs ef ef (cs':=[_,_]) ef ?_);refine Zk [25] ?_;refine Zy ?_;refine ZD ?_;refine ZY 2 ?_;have hvr:jobsR (choR st.m y.tier y.k cs).1=Vo st y:=by rw[hcs9];rfl
     have hcl2:(choR st.m y.tier y.k cs).1.length=(Vo st y).length:=by rw[←hvr,List.length_map]
     rw[hvr];rw[hcl2]at hcun;refine S.Qf b st ps ub jb mb ov iv dv mv sb l i y av lb db rb qb hi rfl (hset y rfl) (hF.set hjy) hJ ?_;rw[Qi hok hgy];refine S.Zz cu fun hc1 hc2 hc3=>?_
     have hvl:(Vo st y).length≤1000:=by
      have h1:(Vo st y).length≤(candR st).length:=Nat.le_trans (Nat.le_of_eq (List.length_map ..)) (choR_len st.m y.tier y.k (candR st));have h2:(candR st).length≤st.js.length:=by rw[candR,List.length_map];exact List.length_filter_le _ _
      omega
     refine ZY 6 ?_;refine Zl (fun fz ρ' Γ'=>∃(e:Nat) (t:Br),fz=(Vo st y).length-e∧e≤(Vo st y).length∧t=each W8 st ((Vo st y).take e)∧ρ'=[(0,pt b),(83,cu.v),(84,.int .i64 (cu.n:Int)),(85,.int .i64 (e:Int))]∧Γ'=own cu 31 1 (Qq (Vo st y))::BP b t ps::old W::Γ) (m:=_) (⟨0,st,rfl,by omega,rfl,rfl,rfl⟩) ?_;rintro fz ρ' Γ' ⟨e,t,hfz,he,ht,rfl,rfl⟩;have hI:LInv W8 st (Vo st y) e t:=by rw[ht];exact linv warnE warn_ids hok (vic_mem hok.srt) e he
     have hIo:=hI.ord;refine ZY 5 ?_
     refine Zj ef (fun h4=>?_) (fun h4=>?_)
     ·refine S.Qh cu (by omega) fun sb so hsa _ _ _=>?_;obtain⟨id,hid⟩:=Ya (show e<(Vo st y).length by omega);obtain⟨x,hgx⟩:∃x,Qb t.js id=some x:=Option.isSome_iff_exists.1 (by rw[isSome_ids hI.ids];exact vic_mem hok.srt id (List.mem_of_getElem? hid));obtain⟨_,hxi⟩:=Qa hgx;subst hxi;have hst:each W8 st ((Vo st y).take (e+1))=W8 t x:=by rw[ht];exact lstep hid (by rw[←ht];exact hgx)
      have hokt:=hI.ok;have hjx:=hokt.at_ hgx;have hal:=Nat.le_trans hjx.len hokt.N16;obtain⟨x1,hx1⟩:∃x1:Bj,x1=warX t x:=⟨_,rfl⟩;have hj1:JOk t.nodes x1:=by rw[hx1];exact hjx.warX
      have hidx:x1.id=x.id:=by rw[hx1]
      have e1:x1.till=Ye t.now t.grace:=by rw[hx1]
      refine S.Xv b t ps x hgx fun ub jb mb ov iv dv mv sb l i av lb db rb qb hF hi hset hrm hJ=>?_;have hlk:Ql (x.id:Int) l=some (pt (ps x.id)):=by rw[Xn hokt.srt hF.perm,hgx];rfl
      have han:=hJ.an;refine ZY 5 ?_;refine Zv (Zx (e) ef (hsa) ef (by omega)) ?_;refine Zv (Zo (cu) (e) ef (hsa) (idsV_get hid)) ?_;refine ZY 8 ?_;refine Zy ?_;refine Zv (Qg (pt (ps x.id)) Tryz.underlying82 Tryz.underlying31 Tryz.W5.h rfl rfl rfl (by rw[hlk];rfl)) ?_;refine ZY 3 ?_;refine Zd ([blk b 84 (bC t ub jb mb ov iv dv mv sb).toArray]) [] (Zra 0 11) ?_;refine ZY 8 ?_;refine ZY 3 ?_;refine Z1 (i:=11) ef ef ?_;refine  (Zcp Ze (later_S t.now t.grace hokt.now (by have:=hokt.g2;omega)) ?_);refine Zk [12,13] ?_;refine ZY 2 ?_;refine Z1 (i:=14) ef ef ?_;refine(S.store (cs':=[_,_,_,_,_,_,_,_,_,_,_,_,_,_,_,_,_]) Eo.h rfl rfl rfl rfl rfl ?_);refine Zk [15,16] ?_;refine ZY 2 ?_;refine Z1 (i:=17) ef ef ?_;refine(S.store (cs':=[_,_,_,_,_,_,_,_,_,_,_,_,_,_,_,_,_]) Eo.h rfl rfl rfl rfl rfl ?_);refine Zk [] ?_;refine ZD ?_;refine ZY 2 ?_;refine S.Z6 (ps x.id) (bjC x1 av lb db rb qb).toArray (by rw[hx1]) ?_;refine ZY 8 ?_;refine Zl (fun fy ρ' Γ'=>∃(e3:Nat) (os:List Od) (ov2:SV),fy=x.at_.length-e3∧e3≤x.at_.length∧os=t.orders++(x.at_.take e3).map (warOrd t x)∧ov2.n=os.length∧os.length=t.orders.length+e3∧ρ'=[(0,pt b),(9,.int .u32 (x.id:Int)),(10,pt (ps x.id)),(83,cu.v),(84,.int .i64 (cu.n:Int)),(85,.int .i64 (e:Int)),(114,av.v),(115,.int .i64 (av.n:Int)),(116,.int .i64 (e3:Int))] ∧   Γ'=blk (ps x.id) 90 (bjC x1 av lb db rb qb).toArray::own av 3 1 (nds x.at_)::Y1 lb x.loaded::Y1 db x.drops::optR rb x.ran::W6 qb x.id x.sav::blk b 84 (bC t ub jb mb ov2 iv dv mv sb).toArray::Qe ub .i64 (Y0 t.up)::Qe jb .u32 l::jT ps t.js i::jD ps t.js i::MI mb t.m::own ov2 97 14 (os.flatMap odC)::imgs iv t.images::own dv 31 1 (Qq t.done)::own mv 31 1 (Qq t.members)::Y1 sb t.stops::own cu 31 1 (Qq (Vo st y))::old W::Γ) (m:=_) (⟨0,t.orders,ov,rfl,by omega,by simp,hF.on,rfl,rfl,rfl⟩) ?_;rintro fy ρ' Γ' ⟨e3,os,ov2,hfy,he3,hos,hov2,hol,rfl,rfl⟩;refine ZY 5 ?_
      refine Zj ef (fun h5=>?_) (fun h5=>?_)
      ·refine S.Qh av (by omega) fun ab ao haa _ _ _=>?_;obtain⟨z,hz⟩:=Ya (show e3<x.at_.length by omega);have htk:x.at_.take (e3+1)=x.at_.take e3++[z]:=by rw[List.take_add_one,hz];rfl
       have hos2:os++[((z,{kind:=12,job:=x.id,tick:=Ye t.now t.grace}):Od)]=t.orders++(x.at_.take (e3+1)).map (warOrd t x):=by rw[hos,htk,List.map_append,List.append_assoc];rfl
       refine ZY 5 ?_;refine Zv (Zx (e3) ef (haa) ef (by omega)) ?_;refine Zv (Zo (av) (e3) ef (haa) (by rw[List.getElem?_map,hz];rfl)) ?_;refine ZY 8 ?_;refine ZY 2 ?_;refine Zv (Qm (pvs:=[(_,_),(_,_),(_,_)]) [_,_,_,_,_,_,_,_,_,_,_,_,_] Tryz.z72.h Tryz.p72.h ⟨⟨rfl,rfl⟩,⟨rfl,rfl⟩,⟨rfl,rfl⟩,trivial⟩ rfl) ?_;rw[e1];refine Zp (Zc1 Ze (order_S b t ub jb mb ov2 iv dv mv sb z {kind:=12,job:=x.id,tick:=Ye t.now t.grace} os hov2 (by omega)) ?_);rintro v Θ ⟨ov3,hov3,rfl⟩;refine ZY 2 ?_;refine Zv (Za ef ef) ?_;refine ZY 2 ?_;exact ZX (fy-1) (⟨e3+1,os++[((z,{kind:=12,job:=x.id,tick:=Ye t.now t.grace}):Od)],ov3,by omega,by omega,hos2,hov3,by rw[List.length_append,List.length_singleton];omega,rfl,rfl⟩) (by omega)
      ·rw[show x.at_.take e3=x.at_ by rw[show e3=x.at_.length by omega,List.take_length]]at hos;have hwj:W8 t x=Br.set {t with orders:=os} x1:=by rw[warnJ_eq,hos,hx1]
       refine ZY 2 ?_;refine S.sub (jX (ps x.id) x1 av lb db rb qb (bR b {t with orders:=os} ps ub jb mb ov2 iv dv mv sb l i (own cu 31 1 (Qq (Vo st y))::old W::Γ))) (e:=by subst hx1;infer_instance) ?_;refine S.Qf b {t with orders:=os} ps ub jb mb ov2 iv dv mv sb l i x1 av lb db rb qb hi hidx (hset x1 hidx) (BF.set (st:={t with orders:=os}) ⟨hokt.oset os,hF.perm,hov2,hF.im,hF.dn,hF.mn,hF.sn⟩ hj1) ⟨by rw[hx1];exact hJ.an,by rw[hx1];exact hJ.l,by rw[hx1];exact hJ.d,by rw[hx1];exact hJ.r,by rw[hx1];exact hJ.s⟩ ?_;rw[←hwj];refine Zv (Za ef ef) ?_;refine ZY 2 ?_;exact ZX (fz-1) (⟨e+1,W8 t x,by omega,by omega,by rw[hst],rfl,rfl⟩) (by omega)
     ·rw[show (Vo st y).take e=Vo st y by rw[show e=(Vo st y).length by omega,List.take_length]]at ht;refine Zy ?_;exact Zfn ef Zq (by rw[hg,←ht])
theorem srtN_perm (l:List Nat):(srtN l).Perm l:=List.mergeSort_perm l _
theorem srtN_srt (l:List Nat):(srtN l).Pairwise (·≤·):=by
 have:=List.pairwise_mergeSort (le:=fun a b:Nat=>decide (a≤b)) (fun a b c h1 h2=>by simp only[decide_eq_true_eq]at *;omega) (fun a b=>by simp only[Bool.or_eq_true,decide_eq_true_eq];omega) l;exact this.imp fun h=>by simpa using h
theorem srtN_len (l:List Nat):(srtN l).length=l.length:=(srtN_perm l).length_eq
theorem sortN_S (s:SV) (l:List Nat) (hl:l.length≤65535) (hsn:s.n=l.length):Spec Tryz.prog 101 [s.v] [own s 31 1 (Qq l)] fun Γ _ Θ=>Θ=own s 31 1 (Qq (srtN l))::Γ:=by
 have h:=Go.Proofs.YtdackcibfkkniaaGreatDoor.Sort_S s (l.map fun n:Nat=>(n:Int)).toArray (by simpa using hl) (by simpa using hsn)
 have e:∀m:List Nat,uA (m.map fun n:Nat=>(n:Int)).toArray=Qq m:=fun m=>by
  show (m.map fun n:Nat=>(n:Int)).map (Value.int .u32)=_;rw[List.map_map];rfl
 rw[e]at h;refine h.weaken fun Γ=>⟨Γ,Ent.refl _,?_⟩;rintro v Θ ⟨R,h1,h2,rfl⟩;refine⟨_,rfl,?_⟩
 have h3:R.toList=(srtN l).map fun n:Nat=>(n:Int):=by
  refine(h1.trans ?_).eq_of_pairwise (le:=fun a b:Int=>a≤b) (fun a b _ _ h1 h2=>Int.le_antisymm h1 h2) h2 (List.pairwise_map.2 ((srtN_srt l).imp fun h=>by omega));show ((l.map fun n:Nat=>(n:Int)).toArray).toList.Perm _;exact((srtN_perm l).symm.map _)
 have h4:uA R=Qq (srtN l):=by
  show R.toList.map (Value.int .u32)=_;rw[h3,List.map_map];rfl
 rw[h4];exact Ent.refl _
theorem Ent.unfocusX {b:Nat} {st:Br} {ps:Nat→Nat} {ub jb mb:Nat} {ov iv dv mv:SV} {sb:Option Nat} {l:List (Int×Value)} {i:Nat} {x x':Bj} (hx:st.js[i]?=some x) (hid:x'.id=x.id) (hset:Yf st.js x'=st.js.set i x') (Γ:List Assn) :
  Ent (JI (ps x.id) x'::bR b st ps ub jb mb ov iv dv mv sb l i Γ) (bX b (st.set x') ps ub jb mb ov iv dv mv sb l Γ):=by
 have h1:Ent (JI (ps x.id) x'::jT ps st.js i::jD ps st.js i::MI mb st.m::own ov 97 14 (st.orders.flatMap odC)::imgs iv st.images::own dv 31 1 (Qq st.done)::own mv 31 1 (Qq st.members)::Y1 sb st.stops::Γ) (alls (st.js.set i x') (jI ps)::MI mb st.m::own ov 97 14 (st.orders.flatMap odC)::imgs iv st.images::own dv 31 1 (Qq st.done)::own mv 31 1 (Qq st.members)::Y1 sb st.stops::Γ):=by
  rw[←hid];exact Ent.Zt (jI ps) (x':=x') hx _
 have h3:(st.set x').js=st.js.set i x':=hset;rw[←h3]at h1;exact(((Ent.swap _ _ _).trans ((Ent.swap _ _ _).cons _)).trans (((Ent.swap _ _ _).cons _).cons _)).trans ((((h1.cons _).cons _).cons _))
section
variable {n:Nat} {md:Bool} {w0:WM md} {ρ:Env} {Γ Δ:List Assn} {φ:Act→World→Prop}
theorem S.bxFocus (b:Nat) (st:Br) (ps:Nat→Nat) (ub jb mb:Nat) (ov iv dv mv:SV) (sb:Option Nat) (l:List (Int×Value)) {i:Nat} {x:Bj} (hx:st.js[i]?=some x) [q:Picks (bX b st ps ub jb mb ov iv dv mv sb l []) Γ Δ] (k:∀av lb db rb qb,JF x av lb db rb qb→S n w0 ρ (jX (ps x.id) x av lb db rb qb (bR b st ps ub jb mb ov iv dv mv sb l i Δ)) φ):S n w0 ρ Γ φ:=by
 refine S.ent (q.ent.trans (Ent.focus hx Δ)) ?_;refine S.jiOpen (ps x.id) x fun av lb db rb qb q1 q2 q3 q4 q5=>?_;exact k av lb db rb qb ⟨q1,q2,q3,q4,q5⟩
theorem S.bxClose (b:Nat) (st:Br) (ps:Nat→Nat) (ub jb mb:Nat) (ov iv dv mv:SV) (sb:Option Nat) (l:List (Int×Value)) (i:Nat) {x:Bj} (x':Bj) (av:SV) (lb db rb qb:Option Nat) (hx:st.js[i]?=some x) (hid:x'.id=x.id) (hset:Yf st.js x'=st.js.set i x') (hJ:JF x' av lb db rb qb)
  [q:Picks (jX (ps x.id) x' av lb db rb qb (bR b st ps ub jb mb ov iv dv mv sb l i [])) Γ Δ] (k:S n w0 ρ (bX b (st.set x') ps ub jb mb ov iv dv mv sb l Δ) φ):S n w0 ρ Γ φ:=by
 refine S.ent ?_ k
 have h1:Ent (jX (ps x.id) x' av lb db rb qb (bR b st ps ub jb mb ov iv dv mv sb l i Δ)) (JI (ps x.id) x'::bR b st ps ub jb mb ov iv dv mv sb l i Δ):=
  (Ent.pack (jX (ps x.id) x' av lb db rb qb []) _).trans (Ent.X7 _ fun _ s=>⟨av,lb,db,rb,qb,hJ.an,hJ.l,hJ.d,hJ.r,hJ.s,s⟩)
 exact q.ent.trans (h1.trans (Ent.unfocusX hx hid hset Δ))
end
abbrev goX (x:Bj):Bj:={x with ran:=some []}
abbrev goOrd (st:Br) (x:Bj) (n:Nat):Od:=(n,{kind:=5,gen:=st.gen,job:=x.id})
theorem goJob_eq (st:Br) (x:Bj):Wm st x=Br.set {st with stops:=some (x.at_.foldl Z5 (st.stops.getD [])),orders:=st.orders++x.at_.map (goOrd st x)} (goX x):=rfl
theorem JOk.goX {N:Nat} {x:Bj} (h:JOk N x):JOk N (goX x):=⟨h.id1,h.id2,h.tier,h.k1,h.kn,h.w,h.cr,h.wk,h.rise,h.at_,h.drop,h.lod,fun r hr=>(by cases hr;intro y hy;cases hy),h.ld,h.svl⟩
theorem fold_nodup:∀(l s:List Nat),s.Nodup→(l.foldl Z5 s).Nodup
 | [],_,h=>h
 | x::l,s,h=>fold_nodup l (Z5 s x) (sAdd_nodup h x)
theorem Qp.stset {st:Br} (h:Qp st) {s:Option (List Nat)} (hs:∀d,s=some d→d.Nodup):Qp {st with stops:=s}:=⟨h.R,h.N,h.mok,h.srt,fun x hx=>h.job x hx,h.few,h.q1,h.q2,h.g1,h.g2,h.now,h.fin,h.mem,hs⟩
theorem goE:EachOk Wm:=by
 refine⟨fun st x h hx=>?_,fun st x id h=>by rw[goJob_eq];exact set_oth {st with stops:=some (x.at_.foldl Z5 (st.stops.getD [])),orders:=st.orders++x.at_.map (goOrd st x)} (x:=BN.goX x) h,fun st x h hx=>?_⟩
 ·have hn:∀d,some (x.at_.foldl Z5 (st.stops.getD []))=some d→d.Nodup:=fun d hd=>by
   cases hd;refine fold_nodup _ _ ?_;cases hs:st.stops with
   | none=>exact List.nodup_nil
   | some s=>exact h.stp s hs
  have h2:Qp {st with stops:=some (x.at_.foldl Z5 (st.stops.getD [])),orders:=st.orders++x.at_.map (goOrd st x)}:=(h.oset (st.orders++x.at_.map (goOrd st x))).stset hn;rw[goJob_eq];exact Qp.set h2 (x:=BN.goX x) (h.at_ hx).goX
 ·rw[goJob_eq];show (st.orders++x.at_.map (goOrd st x)).length≤_;rw[List.length_append,List.length_map];have:=len16 h hx;omega
theorem go_ids (st:Br) (x:Bj):(Wm st x).js.map (·.id)=st.js.map (·.id):=setJ_ids st.js (BN.goX x)
theorem go_same (st:Br) (x:Bj):(Wm st x).members=st.members∧(Wm st x).gen=st.gen∧(Wm st x).stops.isSome=true:=⟨rfl,rfl,rfl⟩
theorem each_go_same {l:List Nat}:∀ {st:Br},st.stops.isSome=true→(each Wm st l).members=st.members∧(each Wm st l).stops.isSome=true:=by
 induction l with
 | nil=>exact fun h=>⟨rfl,h⟩
 | cons id l ih=>
  intro st h;have e:each Wm st (id::l)=each Wm (match Qb st.js id with | none=>st | some x=>Wm st x) l:=rfl;rw[e];cases hg:Qb st.js id with
  | none=>exact ih h
  | some x=>
   obtain⟨a1,a2,a3⟩:=go_same st x;obtain⟨b1,b2⟩:=ih (st:=Wm st x) a3;exact⟨b1.trans a1,b2⟩
abbrev run0 (st:Br) (l:List Nat):Br:={st with gen:=u32 (st.gen+1),members:=srtN l,fin:=Ye st.now st.quantum,stops:=some []}
theorem runR_eq (st:Br) (l:List Nat):runR st l=each Wm (run0 st l) (srtN l):=rfl
theorem run0_ok {st:Br} (h:Qp st) {l:List Nat} (hl:l.length≤1000):Qp (run0 st l):=⟨h.R,h.N,h.mok,h.srt,fun x hx=>h.job x hx,h.few,h.q1,h.q2,h.g1,h.g2,h.now,later_le _ _,by show (srtN l).length≤_;rw[srtN_len];exact hl,fun d hd=>(by cases hd;exact List.nodup_nil)⟩
theorem run_ok {st:Br} (h:Qp st) {l:List Nat} (hl:l.length≤1000) (hm:∀id∈l,(Qb st.js id).isSome=true):Qp (runR st l)∧(runR st l).orders.length≤st.orders.length+16*l.length:=by
 have:=linv goE go_ids (run0_ok h hl) (l:=srtN l) (fun id hid=>hm id ((srtN_perm l).mem_iff.1 hid)) _ (Nat.le_refl _);rw[List.take_length]at this;rw[runR_eq];exact⟨this.ok,by have:=this.ord;rw[srtN_len]at this;exact this⟩
set_option maxHeartbeats 4000000 in
theorem run_S (b:Nat) (st:Br) (ps:Nat→Nat) (s:SV) (xs:List Nat) (hsn:s.n=xs.length) (hxl:xs.length≤1000) (hxm:∀id∈xs,(Qb st.js id).isSome=true) (hl:st.orders.length≤800000):Spec Tryz.prog 90 [pt b,s.v] [BP b st ps,own s 31 1 (Qq xs)] fun Γ _ Θ=>Θ=BP b (runR st xs) ps::Γ:=by
 refine Spec.Vl fun hok=>?_;have hok0:=run0_ok hok hxl;have hxm2:∀id∈srtN xs,(Qb (run0 st xs).js id).isSome=true:=fun id hid=>hxm id ((srtN_perm xs).mem_iff.1 hid);have hsl:=srtN_len xs;refine Zbd Tryz.func90 rfl Tryz.ntmps90 fun w0 Γ=>Zsh ?_;refine ZY 3 ?_;refine Zp (Zc1 Ze (sortN_S s xs (by omega) hsn) ?_);rintro v Θ rfl;refine S.Yv b st ps fun ub jb mb ov iv dv mv sb l hF=>?_;refine ZY 7 ?_;refine Zv (q_addW rfl rfl) ?_;rw[wrap32];refine ZY 8 ?_;refine ZY 5 ?_;refine Zd ([blk b 84 (bC {st with gen:=u32 (st.gen+1),members:=srtN xs} ub jb mb ov iv dv s sb).toArray]) [13] (Zra 0 10) ?_;refine ZY 8 ?_;refine ZY 2 ?_;refine Z1 (i:=10) ef ef ?_;refine  (Zcp Ze (later_S st.now st.quantum hok.now (by have:=hok.q2;omega)) ?_);refine Zk [11,12] ?_;refine ZY 2 ?_;refine Z1 (i:=13) ef ef ?_;refine(S.store (cs':=[_,_,_,_,_,_,_,_,_,_,_,_,_,_,_,_,_,_]) Eo.h rfl rfl rfl rfl rfl ?_);refine ZL ([]) [] ?_;refine ZD ?_;refine ZY 3 ?_;refine Zp (S.makeMap .i64 rfl ?_);intro b36;refine ZY 6 ?_;refine S.conv (Qe b36 .i64 []) (show Ent _ (Y1 (some b36) (some [])::_) from Ent.opt2 (s:=some []) rfl _) ?_;refine S.Z6 b (bC (run0 st xs) ub jb mb ov iv dv s (some b36)).toArray rfl ?_;refine S.sub (bX b (run0 st xs) ps ub jb mb ov iv dv s (some b36) l Γ) ?_;have hF0:BF (run0 st xs) ps ov iv dv s (some b36) l:=⟨hok0,hF.perm,hF.on,hF.im,hF.dn,by show s.n=(srtN xs).length;omega,rfl⟩;clear hF
 refine ZY 5 ?_;refine Zl (fun fz ρ' Γ'=>∃(e:Nat) (t:Br) (ub jb mb:Nat) (ov iv dv:SV) (sb:Option Nat) (l:List (Int×Value)),fz=(srtN xs).length-e∧e≤(srtN xs).length∧t=each Wm (run0 st xs) ((srtN xs).take e)∧BF t ps ov iv dv s sb l∧ρ'=[(0,pt b),(39,s.v),(40,.int .i64 (s.n:Int)),(41,.int .i64 (e:Int))]∧Γ'=bX b t ps ub jb mb ov iv dv s sb l Γ) (m:=_) (⟨0,run0 st xs,ub,jb,mb,ov,iv,dv,some b36,l,rfl,by omega,rfl,hF0,rfl,rfl⟩) ?_;rintro fz ρ' Γ' ⟨e,t,ub,jb,mb,ov,iv,dv,sb,l,hfz,he,ht,hF,rfl,rfl⟩;have hI:LInv Wm (run0 st xs) (srtN xs) e t:=by rw[ht];exact linv goE go_ids hok0 hxm2 e he
 have hIo:t.orders.length≤st.orders.length+16*e:=hI.ord;obtain⟨hmem,hsome⟩:t.members=srtN xs∧t.stops.isSome=true:=by rw[ht];exact each_go_same (st:=run0 st xs) rfl
 refine ZY 5 ?_
 refine Zj ef (fun h1=>?_) (fun h1=>?_)
 ·obtain⟨id,hid⟩:=Ya (show e<(srtN xs).length by omega);obtain⟨x,hgx⟩:∃x,Qb t.js id=some x:=Option.isSome_iff_exists.1 (by rw[isSome_ids hI.ids];exact hxm2 id (List.mem_of_getElem? hid));obtain⟨_,hxi⟩:=Qa hgx;subst hxi;have hst:each Wm (run0 st xs) ((srtN xs).take (e+1))=Wm t x:=by rw[ht];exact lstep hid (by rw[←ht];exact hgx)
  have hokt:=hI.ok;have hjx:=hokt.at_ hgx;have hal:=Nat.le_trans hjx.len hokt.N16;obtain⟨ss,hss⟩:∃ss,t.stops=some ss:=Option.isSome_iff_exists.1 hsome;obtain⟨q,rfl⟩:∃q,sb=some q:=by have:=hF.sn;rw[hss]at this;cases sb with | none=>cases this | some q=>exact⟨q,rfl⟩
  obtain⟨x1,hx1⟩:∃x1:Bj,x1=goX x:=⟨_,rfl⟩;have hj1:JOk t.nodes x1:=by rw[hx1];exact hjx.goX
  have hidx:x1.id=x.id:=by rw[hx1]
  refine S.Qh s (by omega) fun ib io hia _ _ _=>?_;obtain⟨i,hi,hset,_⟩:=getJ_at hokt.srt hgx;refine S.bxFocus b t ps ub jb mb ov iv dv s (some q) l hi fun av lb db rb qb hJ=>?_;refine S.conv (Y1 (some q) t.stops) (Ent.opt1 hss _) ?_;have hlk:Ql (x.id:Int) l=some (pt (ps x.id)):=by rw[Xn hokt.srt hF.perm,hgx];rfl
  have han:=hJ.an;refine ZY 5 ?_;refine Zv (Zx (e) ef (hia) ef (by omega)) ?_;refine Zv (Zo (s) (e) ef (hia) (by rw[hmem];exact idsV_get hid)) ?_;refine ZY 8 ?_;refine Zy ?_;refine Zv (Qg (pt (ps x.id)) Tryz.underlying82 Tryz.underlying31 Tryz.W5.h rfl rfl rfl (by rw[hlk];rfl)) ?_;refine ZY 5 ?_;refine Zp (S.makeMap .i64 rfl ?_);intro b52;refine ZY 6 ?_;refine S.Z6 (ps x.id) (bjC x1 av lb db (some b52) qb).toArray (by rw[hx1]) ?_;refine ZY 8 ?_;refine Zl (fun fy ρ' Γ'=>∃(e3:Nat) (s3:List Nat) (os:List Od) (ov2:SV),fy=x.at_.length-e3∧e3≤x.at_.length∧s3=(x.at_.take e3).foldl Z5 ss∧os=t.orders++(x.at_.take e3).map (goOrd t x)∧ov2.n=os.length∧os.length=t.orders.length+e3∧ρ'=[(0,pt b),(5,.int .u32 (x.id:Int)),(6,pt (ps x.id)),(39,s.v),(40,.int .i64 (s.n:Int)),(41,.int .i64 (e:Int)),(58,av.v),(59,.int .i64 (av.n:Int)),(60,.int .i64 (e3:Int))] ∧   Γ'=blk (ps x.id) 90 (bjC x1 av lb db (some b52) qb).toArray::Qe b52 .i64 []::Qe q .i64 (Y0 s3)::own av 3 1 (nds x.at_)::Y1 lb x.loaded::Y1 db x.drops::W6 qb x.id x.sav::blk b 84 (bC t ub jb mb ov2 iv dv s (some q)).toArray::Qe ub .i64 (Y0 t.up)::Qe jb .u32 l::jT ps t.js i::jD ps t.js i::MI mb t.m::own ov2 97 14 (os.flatMap odC)::imgs iv t.images::own dv 31 1 (Qq t.done)::own s 31 1 (Qq t.members)::Γ) (m:=_) (⟨0,ss,t.orders,ov,rfl,by omega,rfl,by simp,hF.on,rfl,rfl,rfl⟩) ?_;rintro fy ρ' Γ' ⟨e3,s3,os,ov2,hfy,he3,hs3,hos,hov2,hol,rfl,rfl⟩;refine ZY 5 ?_
  refine Zj ef (fun h2=>?_) (fun h2=>?_)
  ·refine S.Qh av (by omega) fun ab ao haa _ _ _=>?_;obtain⟨z,hz⟩:=Ya (show e3<x.at_.length by omega);have htk:x.at_.take (e3+1)=x.at_.take e3++[z]:=by rw[List.take_add_one,hz];rfl
   have hos2:os++[((z,{kind:=5,gen:=t.gen,job:=x.id}):Od)]=t.orders++(x.at_.take (e3+1)).map (goOrd t x):=by rw[hos,htk,List.map_append,List.append_assoc];rfl
   have hs32:Z5 s3 z=(x.at_.take (e3+1)).foldl Z5 ss:=by rw[htk,List.foldl_append,←hs3];rfl
   refine ZY 5 ?_;refine Zv (Zx (e3) ef (haa) ef (by omega)) ?_;refine Zv (Zo (av) (e3) ef (haa) (by rw[List.getElem?_map,hz];rfl)) ?_;refine ZY 8 ?_;refine Zy ?_;refine Zp (Zc1 Ze (add_S q s3 z) ?_);rintro v Θ rfl;refine ZY 8 ?_;refine Zy ?_;refine Zv (Qm (pvs:=[(_,_),(_,_),(_,_)]) [_,_,_,_,_,_,_,_,_,_,_,_,_] Tryz.z72.h Tryz.p72.h ⟨⟨rfl,rfl⟩,⟨rfl,rfl⟩,⟨rfl,rfl⟩,trivial⟩ rfl) ?_;refine Zp (Zc1 Ze (order_S b t ub jb mb ov2 iv dv s (some q) z {kind:=5,gen:=t.gen,job:=x.id} os hov2 (by omega)) ?_);rintro v Θ ⟨ov3,hov3,rfl⟩;refine ZY 2 ?_;refine Zv (Za ef ef) ?_;refine ZY 2 ?_;exact ZX (fy-1) (⟨e3+1,Z5 s3 z,os++[((z,{kind:=5,gen:=t.gen,job:=x.id}):Od)],ov3,by omega,by omega,hs32,hos2,hov3,by rw[List.length_append,List.length_singleton];omega,rfl,rfl⟩) (by omega)
  ·rw[show x.at_.take e3=x.at_ by rw[show e3=x.at_.length by omega,List.take_length]]at hos hs3;have hwj:Wm t x=Br.set {t with stops:=some s3,orders:=os} x1:=by rw[goJob_eq,hos,hs3,hx1,hss];rfl
   have hokg:Qp (Wm t x):=goE.ok t x hokt hgx;have hF1:BF (Wm t x) ps ov2 iv dv s (some q) l:=⟨hokg,by rw[hwj];show l.Perm ((Yf t.js x1).map (jE ps));rw[jE_set];exact hF.perm,by rw[hwj];exact hov2,by rw[hwj];exact hF.im,by rw[hwj];exact hF.dn,by rw[hwj];exact hF.mn,by rw[hwj];rfl⟩;refine ZY 2 ?_;refine S.conv (Qe q .i64 (Y0 s3)) (show Ent _ (Y1 (some q) (some s3)::_) from Ent.opt2 (s:=some s3) rfl _) ?_;refine S.conv (Qe b52 .i64 []) (show Ent _ (optR (some b52) x1.ran::_) by rw[hx1];exact Ent.refl _) ?_;refine S.sub (jX (ps x.id) x1 av lb db (some b52) qb (bR b {t with stops:=some s3,orders:=os} ps ub jb mb ov2 iv dv s (some q) l i Γ)) (e:=by subst hx1;infer_instance) ?_;refine S.bxClose b {t with stops:=some s3,orders:=os} ps ub jb mb ov2 iv dv s (some q) l i x1 av lb db (some b52) qb hi hidx (hset x1 hidx) ⟨by rw[hx1];exact hJ.an,by rw[hx1];exact hJ.l,by rw[hx1];exact hJ.d,by rw[hx1];rfl,by rw[hx1];exact hJ.s⟩ ?_;rw[←hwj];refine Zv (Za ef ef) ?_;refine ZY 2 ?_;exact ZX (fz-1) (⟨e+1,Wm t x,ub,jb,mb,ov2,iv,dv,some q,l,by omega,by omega,by rw[hst],hF1,rfl,rfl⟩) (by omega)
 ·rw[show (srtN xs).take e=srtN xs by rw[show e=(srtN xs).length by omega,List.take_length]]at ht;refine Zy ?_;refine S.Qo b t ps ub jb mb ov iv dv s sb l hF ?_;exact Zfn ef Zq (by rw[runR_eq,←ht])
theorem repTry_first {m:Mx} {j:Nat} {r:Mv×Mx}:∀ {p:Nat},Ws m j p=some r→∃i,i<p∧Xj m j i=(some r.1,r.2)∧∀k,k<i→(Xj m j k).1=none
 | 0,h=>by cases h
 | p+1,h=>by
  rw[Ws]at h;cases hr:Ws m j p with
  | some r'=>
   rw[hr]at h;simp only[Option.some.injEq]at h;subst h;obtain⟨i,h3,h4,h5⟩:=repTry_first hr;exact⟨i,by omega,h4,h5⟩
  | none=>
   rw[hr]at h;simp only at h;cases hv:Xj m j p with
   | mk x m'=>
    rw[hv]at h;cases x with
    | none=>cases h
    | some x=>
     simp only[Option.some.injEq]at h;subst h;exact⟨p,by omega,hv,repTry_none hr⟩
def Mvs (m:Mx):List Mv→Mx→Prop
 | [],m'=>m'=m
 | x::xs,m'=>(Xj m x.1 x.2.2).1=some x∧Mvs (Xj m x.1 x.2.2).2 xs m'
theorem go_append {m m1 m2:Mx} {xs ys:List Mv} (h:Mvs m xs m1) (h2:Mvs m1 ys m2):Mvs m (xs++ys) m2:=by
 induction xs generalizing m with
 | nil=>rw[show m1=m from h]at h2;exact h2
 | cons x xs ih=>exact⟨h.1,ih h.2⟩
theorem go_one {m m':Mx} {j:Nat} {z:Int} {x:Mv} (h:Xj m j z=(some x,m')):Mvs m [x] m':=by
 obtain⟨y,_,_,rfl,_⟩:=moveR_some h;refine⟨by rw[h],?_⟩;show m'=_;rw[h]
theorem repRow_go {m0:Mx} {j:Nat} {ids:List Nat} {a:Mx×List Mv} (h:Mvs m0 a.2 a.1):∀q,Mvs m0 (Ul j ids a q).2 (Ul j ids a q).1
 | 0=>h
 | q+1=>by
  have ih:=repRow_go (ids:=ids) h q (j:=j);rw[Ul];cases ht:Ws (Ul j ids a q).1 (ids.getD q 0) j with
  | none=>exact ih
  | some r=>
   obtain⟨i,_,hv,_⟩:=repTry_first ht;exact go_append ih (go_one hv)
theorem repUp_go (m:Mx):∀k,Mvs m (repUp m k).2 (repUp m k).1
 | 0=>rfl
 | k+1=>repRow_go (repUp_go m k) _
theorem repack_go (m:Mx):Mvs m (Vm m).2 (Vm m).1:=repUp_go m _
abbrev idNs (x:Jb):Nat×Bs:=(x.id,x.ns)
structure Keep (m m':Mx):Prop where
 ok:Yn m'
 R:m'.R=m.R
 N:m'.N=m.N
 up:m'.up=m.up
 js:m'.js.map idNs=m.js.map idNs
theorem Keep.refl {m:Mx} (h:Yn m):Keep m m:=⟨h,rfl,rfl,rfl,rfl⟩
theorem Keep.trans {a b c:Mx} (h:Keep a b) (h2:Keep b c):Keep a c:=⟨h2.ok,h2.R.trans h.R,h2.N.trans h.N,h2.up.trans h.up,h2.js.trans h.js⟩
theorem reRow_keep (js:List Jb) (j t:Nat):(reRow js j t).map idNs=js.map idNs:=by
 rw[reRow,List.map_map];refine List.map_congr_left fun x _=>?_;show idNs (if x.id=j then _ else x)=_;split <;> rfl
theorem Keep.move {m:Mx} (hm:Yn m) (j:Nat) (z:Int):Keep m (Xj m j z).2:=by
 obtain⟨h1,h2,h3⟩:=moveR_N m j z;refine⟨moveR_ok hm j z,h1,h2,h3,?_⟩;cases hv:Xj m j z with
 | mk x m'=>
  cases x with
  | none=>rw[(moveR_none hv).1]
  | some x=>
   obtain⟨y,_,_,_,e⟩:=moveR_some hv;rw[e];exact reRow_keep _ _ _
theorem Keep.go {xs:List Mv}:∀ {m m':Mx},Yn m→Mvs m xs m'→Keep m m':=by
 induction xs with
 | nil=>intro m m' hm h;rw[show m'=m from h];exact .refl hm
 | cons x xs ih=>intro m m' hm h;exact(Keep.move hm x.1 x.2.2).trans (ih (moveR_ok hm _ _) h.2)
theorem Keep.repack {m:Mx} (hm:Yn m):Keep m (Vm m).1:=Keep.go hm (repack_go m)
theorem look_keep {js js':List Jb} (h:js'.map idNs=js.map idNs) (j:Nat):(look js' j).map idNs=(look js j).map idNs:=by
 induction js generalizing js' with
 | nil=>rw[List.map_eq_nil_iff.1 h]
 | cons x js ih=>
  cases js' with
  | nil=>cases h
  | cons y js'=>
   rw[List.map_cons,List.map_cons,List.cons.injEq]at h;obtain⟨h1,h2⟩:=h;have h3:y.id=x.id:=congrArg Prod.fst h1;have ih:=ih h2;unfold look at ih ⊢;rw[List.find?_cons,List.find?_cons,h3]
   by_cases e:x.id=j
   ·simp only[e,decide_true,Option.map_some];exact congrArg some h1
   ·simp only[e,decide_false];exact ih
theorem Keep.ids {m m':Mx} (h:Keep m m'):m'.js.map (·.id)=m.js.map (·.id):=by
 have:=congrArg (List.map Prod.fst) h.js
 simpa [List.map_map,Function.comp_def] using this
theorem rowIds_len {m:Mx} (_h:Yn m) (z:Int):(Q9 m z).length≤128:=by
 unfold Q9
 split
 ·rw[List.length_map];have h2:=rowJ_len m z.toNat;omega
 ·exact Nat.zero_le _
theorem fillIds_len {m:Mx} (h:Yn m) (z:Int):(Z8 m z).length≤128:=by
 unfold Z8
 split
 ·rw[List.length_map];have h1:=fillUp_len m z.toNat m.R;have:=h.R8;omega
 ·exact Nat.zero_le _
theorem startUp_zero (b:Br) (row:Int):Y5 b row 0=b:=rfl
theorem startUp_no {b:Br} {row:Int} {i:Nat} (h:(Z4 b.m row).2=false):Y5 b row (i+1)=b:=by rw[Y5,if_pos h]
theorem startUp_go {b:Br} {row:Int} {i:Nat} (h:(Z4 b.m row).2=true) (h2:0<(X5 b (Q9 b.m (Z4 b.m row).1)).length):Y5 b row (i+1)=runR {b with row:=(Z4 b.m row).1} (X5 b (Q9 b.m (Z4 b.m row).1++Z8 b.m (Z4 b.m row).1)):=by
 rw[Y5,if_neg (by rw[h];decide),if_pos h2]
theorem startUp_on {b:Br} {row:Int} {i:Nat} (h:(Z4 b.m row).2=true) (h2:¬0<(X5 b (Q9 b.m (Z4 b.m row).1)).length):Y5 b row (i+1)=Y5 b (Z4 b.m row).1 i:=by
 rw[Y5,if_neg (by rw[h];decide),if_neg h2]
theorem ready_mem {st:Br} {l:List Nat}:∀id∈X5 st l,(Qb st.js id).isSome=true:=fun id h=>by
 have h2:=(List.mem_filter.1 h).2;cases hg:Qb st.js id with
 | none=>rw[hg]at h2;cases h2
 | some x=>rfl
theorem ready_len (st:Br) (l:List Nat):(X5 st l).length≤l.length:=List.length_filter_le _ _
theorem Qp.rset {st:Br} (h:Qp st) (z:Int):Qp {st with row:=z}:=⟨h.R,h.N,h.mok,h.srt,fun x hx=>h.job x hx,h.few,h.q1,h.q2,h.g1,h.g2,h.now,h.fin,h.mem,h.stp⟩
theorem start_ok {st:Br} (h:Qp st):∀(i:Nat) (row:Int),Qp (Y5 st row i)∧(Y5 st row i).orders.length≤st.orders.length+4096
 | 0,_=>⟨h,by rw[startUp_zero];omega⟩
 | i+1,row=>by
  cases hn:(Z4 st.m row).2 with
  | false=>rw[startUp_no hn];exact⟨h,by omega⟩
  | true=>
   by_cases h2:0<(X5 st (Q9 st.m (Z4 st.m row).1)).length
   ·rw[startUp_go hn h2]
    have hl:(X5 st (Q9 st.m (Z4 st.m row).1++Z8 st.m (Z4 st.m row).1)).length≤256:=by
     have:=ready_len st (Q9 st.m (Z4 st.m row).1++Z8 st.m (Z4 st.m row).1);rw[List.length_append]at this;have:=rowIds_len h.mok (Z4 st.m row).1;have:=fillIds_len h.mok (Z4 st.m row).1;omega
    obtain⟨a,b⟩:=run_ok (h.rset (Z4 st.m row).1) (l:=X5 st (Q9 st.m (Z4 st.m row).1++Z8 st.m (Z4 st.m row).1)) (by omega) (ready_mem (st:=st));exact⟨a,Nat.le_trans b (by show st.orders.length+_≤_;omega)⟩
   ·rw[startUp_on hn h2];exact start_ok h i _
set_option maxHeartbeats 4000000 in
theorem start_S (b:Nat) (st:Br) (ps:Nat→Nat) (hl:st.orders.length≤800000) {W:World} (hW:TabW W):Spec Tryz.prog 47 [pt b] [BP b st ps,old W] fun Γ _ Θ=>Θ=BP b (Y5 st st.row st.rows) ps::old W::Γ:=by
 refine Spec.Vl fun hok=>?_;have hR8:st.rows≤8:=by have:=hok.mok.R8;rw[hok.R]at this;exact this
 refine Zbd Tryz.func47 rfl Tryz.ntmps47 fun w0 Γ=>Zsh ?_;refine S.Yv b st ps fun ub jb mb ov iv dv mv sb l hF=>?_;refine ZY 8 ?_;refine ZY 7 ?_;refine S.Qo b st ps ub jb mb ov iv dv mv sb l hF ?_;refine ZY 3 ?_;refine Zl (fun fz ρ' Γ'=>∃(e:Nat) (row:Int),fz=st.rows-e∧e≤st.rows∧Y5 st st.row st.rows=Y5 st row (st.rows-e)∧ρ'=[(0,pt b),(2,.int .i64 row),(13,.int .i64 (st.rows:Int)),(14,.int .i64 (e:Int))]∧Γ'=BP b st ps::old W::Γ) (m:=_) (⟨0,st.row,rfl,by omega,rfl,rfl,rfl⟩) ?_;rintro fz ρ' Γ' ⟨e,row,hfz,he,hs,rfl,rfl⟩;refine ZY 5 ?_
 refine Zj ef (fun h1=>?_) (fun h1=>?_)
 ·refine S.Yv b st ps fun ub jb mb ov iv dv mv sb l hF=>?_;have hse:st.rows-e=(st.rows-(e+1))+1:=by omega
  rw[hse]at hs;refine ZY 8 ?_;refine ZY 2 ?_;refine Zp (Zcp Ze (Go.Proofs.YtdackcibfkkniaaGreatDoor.Next_S mb st.m row) ?_);refine ZY 8 ?_;refine ZY 4 ?_
  refine Zi ef (fun h2=>?_) (fun h2=>?_)
  ·have hgs:=hs.trans (startUp_no (by simpa using h2));refine Zy ?_;refine S.Qo b st ps ub jb mb ov iv dv mv sb l hF ?_;exact Zf ef Zq (by rw[hgs])
  ·have hnx:(Z4 st.m row).2=true:=by simpa using h2
   obtain⟨z,hz⟩:∃z,z=(Z4 st.m row).1:=⟨_,rfl⟩;rw[←hz];have hrl:=rowIds_len hok.mok z;refine ZY 8 ?_;refine ZY 6 ?_;refine Zp (Zc1 Ze (Go.Proofs.YtdackcibfkkniaaGreatDoor.Row_S mb st.m z hW) ?_);rintro v Θ ⟨rv,rfl,hrn,rfl⟩;refine S.Qo b st ps ub jb mb ov iv dv mv sb l hF ?_;refine Zp (Zc1 Ze (ready_S b st ps rv (Q9 st.m z) hrn (by omega)) ?_);rintro v Θ ⟨u,rfl,hun,rfl⟩;refine ZY 3 ?_
   refine Zj ef (fun h3=>?_) (fun h3=>?_)
   ·have hgs:=hs.trans (startUp_go hnx (by rw[←hz];omega));rw[←hz]at hgs;have hfl:=fillIds_len hok.mok z;have hrdl:=ready_len st (Q9 st.m z++Z8 st.m z);rw[List.length_append]at hrdl;refine S.Yv b st ps fun ub jb mb ov iv dv mv sb l hF=>?_;refine ZY 8 ?_;refine Zy ?_;refine Zd ([blk b 84 (bC {st with row:=z} ub jb mb ov iv dv mv sb).toArray]) [15] [] ?_;refine ZP 0 [1,2,3,4,5,6,8,9,10,11,12] ef (Qw rfl) ef ?_;refine ZY 8 ?_;refine ZY 3 ?_;refine Z1 (i:=7) ef ef ?_;refine  (Zc1 Ze (Go.Proofs.YtdackcibfkkniaaGreatDoor.Row_S mb st.m z hW) ?_);rintro v Θ ⟨r2,rfl,hr2,rfl⟩;refine Zk [] ?_;refine Z1 (i:=13) ef ef ?_;refine  (Zc1 Ze (Go.Proofs.YtdackcibfkkniaaGreatDoor.Fill_S mb st.m z hW) ?_);rintro v Θ ⟨f2,rfl,hf2,rfl⟩;refine Zk [] ?_;refine Z1 (i:=14) ef ef ?_;refine(S.Qj (s:=r2) (f2.n) (Qq (Z8 st.m z)) Tryz.underlying53 Tryz.Ue.h rfl rfl rfl (fun w hs=>Xy.slAt inferInstance hs) (idV_one _) (⟨by omega,by omega⟩) rfl ?_);intro a2 ha2;rw[show Qq (Q9 st.m z)++Qq (Z8 st.m z)=Qq (Q9 st.m z++Z8 st.m z) from List.map_append.symm];refine Zk [] ?_;refine Z1 (i:=15) ef ef ?_;refine S.sub (bX b {st with row:=z} ps ub jb mb ov iv dv mv sb l (own a2 31 1 (Qq (Q9 st.m z++Z8 st.m z))::old W::Γ)) ?_;refine S.Qo b {st with row:=z} ps ub jb mb ov iv dv mv sb l ⟨hok.rset z,hF.perm,hF.on,hF.im,hF.dn,hF.mn,hF.sn⟩ ?_;refine  (Zc1 Ze (ready_S b {st with row:=z} ps a2 (Q9 st.m z++Z8 st.m z) (by rw[List.length_append];omega) (by rw[List.length_append];omega)) ?_);rintro v Θ ⟨u2,rfl,hu2,rfl⟩;refine ZL ([]) [] ?_;refine Z1 (i:=16) ef ef ?_;refine  (Zc1 Ze (run_S b {st with row:=z} ps u2 (X5 {st with row:=z} (Q9 st.m z++Z8 st.m z)) hu2 (by show (X5 st _).length≤_;omega) (ready_mem (st:={st with row:=z})) hl) ?_);rintro v Θ rfl;rw[show X5 {st with row:=z} (Q9 st.m z++Z8 st.m z)=X5 st (Q9 st.m z++Z8 st.m z) from rfl];refine Zk [] ?_;refine ZD ?_;refine Zy ?_;exact Zf ef Zq (by rw[hgs])
   ·have hgs:=hs.trans (startUp_on hnx (by rw[←hz];omega));rw[←hz]at hgs;refine ZY 2 ?_;refine Zv (Za ef ef) ?_;refine ZY 2 ?_;exact ZX (fz-1) (⟨e+1,z,by omega,by omega,hgs,rfl,rfl⟩) (by omega)
 ·rw[show st.rows-e=0 by omega,startUp_zero]at hs;refine Zy ?_;exact Zfn ef Zq (by rw[hs])
theorem leave_wsav {st:Br} {x:Bj} (h:WSav st):WSav (Z0 st x):=by
 have hset:∀(b:Br) (y:Bj),WSav b→(y.state=0→y.sav=none)→WSav (b.set y):=fun b y hb hy z hz h0=>by
  obtain⟨w,hw,e⟩:=List.mem_map.1 hz
  split at e
  ·subst e;exact hy h0
  ·subst e;exact hb w hw h0
 have hgone:∀(b:Br) (y:Bj),WSav b→(y.state=0→y.sav=none)→WSav (Q8 b y):=fun b y hb hy=>by
  unfold Q8
  split
  ·split
   ·exact hset {b with m:=(Q5 b.m y.id).2} _ hb fun _=>rfl
   ·intro z hz h0;exact hb z (List.mem_filter.1 hz).1 h0
  ·exact hset b y hb hy
 unfold Z0
 split
 ·unfold Yp
  split
  ·exact hgone _ _ h fun _=>rfl
  ·exact hgone _ _ h fun _=>rfl
 ·exact h
theorem each_wsav {f:Br→Bj→Br} (hf:∀st x,WSav st→WSav (f st x)):∀(l:List Nat) {st:Br},WSav st→WSav (each f st l)
 | [],_,h=>h
 | id::l,st,h=>by
  have e:each f st (id::l)=each f (match Qb st.js id with | none=>st | some x=>f st x) l:=rfl;rw[e];cases hg:Qb st.js id with
  | none=>exact each_wsav hf l h
  | some x=>exact each_wsav hf l (hf st x h)
abbrev rep (st:Br):Br:={st with m:=(Vm st.m).1}
theorem rep_ok {st:Br} (h:Qp st):Qp (rep st):=by
 have k:=Keep.repack h.mok;exact h.mset2 k.ok k.N k.R
theorem preempt_ok {st:Br} (h:Qp st):Qp (Q7 st)∧(Q7 st).orders.length≤st.orders.length+16*st.js.length:=by
 cases hw:Yk st with
 | nil=>rw[pre_nil hw];exact⟨h,Nat.le_add_right ..⟩
 | cons id l=>
  cases hlv:st.js.any lvB with
  | true=>rw[pre_live hlv];exact⟨h,Nat.le_add_right ..⟩
  | false=>
   obtain⟨y,hy,_⟩:=mem_waitR h.srt (show id∈Yk st by rw[hw];exact List.mem_cons_self ..);rw[pre_go hw hlv hy];have:=linv warnE warn_ids h (vic_mem h.srt (y:=y)) _ (Nat.le_refl _);rw[List.take_length]at this
   have hv:(Vo st y).length≤st.js.length:=by
    have h1:(Vo st y).length≤(candR st).length:=Nat.le_trans (Nat.le_of_eq (List.length_map ..)) (choR_len st.m y.tier y.k (candR st));have h2:(candR st).length≤st.js.length:=by rw[candR,List.length_map];exact List.length_filter_le _ _
    omega
   exact⟨this.ok,by have:=this.ord;omega⟩
theorem Qp.nset {st:Br} (h:Qp st) {n:Nat} (hn:n≤4294967295):Qp {st with now:=n}:=⟨h.R,h.N,h.mok,h.srt,fun x hx=>h.job x hx,h.few,h.q1,h.q2,h.g1,h.g2,hn,h.fin,h.mem,h.stp⟩
section
variable {st:Br} {now:Nat}
theorem tick_stale (h:now≤st.now):Y4 st now=(12,st):=by rw[Y4,if_pos h]
theorem tick_hold (h:¬now≤st.now) (h2:now≤st.hold):Y4 st now=(0,{st with now:=now}):=by rw[Y4,if_neg h,if_pos h2]
theorem tick_stop (h:¬now≤st.now) (h2:¬now≤st.hold) (h3:st.stops.isSome=true) (h4:st.stopped=false∧(st.fin≤now∨idleB st=true)):Y4 st now=(0,stopR {st with now:=now}):=by rw[Y4,if_neg h,if_neg h2,if_pos h3,if_pos h4]
theorem tick_run (h:¬now≤st.now) (h2:¬now≤st.hold) (h3:st.stops.isSome=true) (h4:¬(st.stopped=false∧(st.fin≤now∨idleB st=true))):Y4 st now=(0,{st with now:=now}):=by rw[Y4,if_neg h,if_neg h2,if_pos h3,if_neg h4]
theorem tick_work (h:¬now≤st.now) (h2:¬now≤st.hold) (h3:st.stops.isSome=false):Y4 st now=(0,workR {st with now:=now}):=by rw[Y4,if_neg h,if_neg h2,if_neg (by rw[h3];decide)]
end
theorem stopR_ok2 {st:Br} (h:Qp st):Qp (stopR st):=(h.oset (stopR st).orders).hset true
theorem each_len {f:Br→Bj→Br} (hE:EachOk f) {st:Br} (h:Qp st):(each f st st.ids).orders.length≤st.orders.length+16000:=by
 have:=each_ord hE h;have:=h.few;omega
theorem work_ok {st:Br} (h:Qp st) (hw:WSav st):Qp (workR st)∧(workR st).orders.length≤st.orders.length+70000:=by
 have h1:=each_ok leaveE h;have l1:=each_len leaveE h;have w1:WSav (each Z0 st st.ids):=each_wsav (fun st x h=>leave_wsav h) _ hw;obtain⟨h2,l2⟩:=placeAll_ok h1 w1;obtain⟨h3,l3⟩:=preempt_ok h2;have h4:=rep_ok h3;have h5:=each_ok saveE h4;have l5:=each_len saveE h4;obtain⟨h6,l6⟩:=start_ok h5 (each Y7 (rep (Q7 (Xe (each Z0 st st.ids)))) (rep (Q7 (Xe (each Z0 st st.ids)))).ids).rows (each Y7 (rep (Q7 (Xe (each Z0 st st.ids)))) (rep (Q7 (Xe (each Z0 st st.ids)))).ids).row;refine⟨h6,?_⟩;have f1:=h1.few;have f2:=h2.few;have l5':_≤(Q7 (Xe (each Z0 st st.ids))).orders.length+16000:=l5;exact Nat.le_trans l6 (by omega)
set_option maxHeartbeats 4000000 in
theorem Tick_S (b:Nat) (st:Br) (ps:Nat→Nat) (now:Nat) (hnow:now≤4294967295) (hw:WSav st) (hl:st.orders.length≤700000) {W:World} (hW:TabW W):Spec Tryz.prog 14 [pt b,.int .u32 (now:Int)] [BP b st ps,old W] fun Γ v Θ=>v=.int .i64 (Y4 st now).1∧Θ=BP b (Y4 st now).2 ps::old W::Γ:=by
 refine Spec.Vl fun hok=>?_;have hokn:=hok.nset hnow;have hfew:=hok.few;obtain⟨t,ht⟩:∃t:Br,t={st with now:=now}:=⟨_,rfl⟩;have hokt:Qp t:=by rw[ht];exact hokn
 have hwt:WSav t:=by rw[ht];exact hw
 have hlt:t.orders.length≤700000:=by rw[ht];exact hl
 refine Zbd Tryz.func14 rfl Tryz.ntmps14 fun w0 Γ=>Zsh ?_;refine S.Yv b st ps fun ub jb mb ov iv dv mv sb l hF=>?_;refine ZY 8 ?_;refine ZY 4 ?_;refine ZF ef ?_;refine ZY 8 ?_;refine ZY 2 ?_
 refine Zj ef (fun h2=>?_) (fun h2=>?_)
 ·have hg:=tick_stale (st:=st) (now:=now) (by omega);refine ZY 5 ?_;refine S.Qo b st ps ub jb mb ov iv dv mv sb l hF ?_;exact Zf ef Zq (⟨by rw[hg];rfl,by rw[hg]⟩)
 ·have h2n:¬now≤st.now:=by omega
  refine ZY 8 ?_;refine ZY 8 ?_;refine ZY 3 ?_
  refine Zj ef (fun h3=>?_) (fun h3=>?_)
  ·have hg:=tick_hold (st:=st) (now:=now) h2n (by omega);refine ZY 5 ?_;refine S.sub (bX b {st with now:=now} ps ub jb mb ov iv dv mv sb l (old W::Γ)) ?_;refine S.Qo b {st with now:=now} ps ub jb mb ov iv dv mv sb l ⟨hokn,hF.perm,hF.on,hF.im,hF.dn,hF.mn,hF.sn⟩ ?_;exact Zf ef Zq (⟨by rw[hg];rfl,by rw[hg]⟩)
  ·have h3n:¬now≤st.hold:=by omega
   refine ZY 8 ?_;refine Zv (q_neMN Tryz.underlying81 rfl rfl) ?_;refine Zy ?_
   refine Zi ef (fun h4=>?_) (fun h4=>?_)
   ·have h4s:st.stops.isSome=true:=by rw[←hF.sn];simpa using h4
    refine ZY 8 ?_;refine Zy ?_
    refine Zbb 35 ef (fun hg9_5=>?_) (fun hg9_5=>?_)
    ·refine ZY 7 ?_
     refine Zb 42 ef (fun hg9_12=>?_) (fun hg9_12=>?_)
     ·have hg:=tick_stop (st:=st) (now:=now) h2n h3n h4s ⟨by simpa using hg9_5,.inl (by omega)⟩;refine ZY 8 ?_;first | (refine S.sub (bX b {st with now:=now} ps ub jb mb ov iv dv mv sb l (old W::Γ)) ?_;refine S.Qo b {st with now:=now} ps ub jb mb ov iv dv mv sb l ⟨hokn,hF.perm,hF.on,hF.im,hF.dn,hF.mn,hF.sn⟩ ?_;rw[←ht]) | skip
      refine Zp (Zc1 Ze (stop_S b t ps (by omega)) ?_);rintro v Θ rfl;refine ZY 6 ?_;first | (refine S.sub (bX b {st with now:=now} ps ub jb mb ov iv dv mv sb l (old W::Γ)) ?_;refine S.Qo b {st with now:=now} ps ub jb mb ov iv dv mv sb l ⟨hokn,hF.perm,hF.on,hF.im,hF.dn,hF.mn,hF.sn⟩ ?_;rw[←ht]) | skip
      exact Zf ef Zq (⟨by rw[hg];rfl,by rw[hg,←ht]⟩)
     ·refine Zy ?_
      (refine S.sub (bX b {st with now:=now} ps ub jb mb ov iv dv mv sb l (old W::Γ)) ?_;refine S.Qo b {st with now:=now} ps ub jb mb ov iv dv mv sb l ⟨hokn,hF.perm,hF.on,hF.im,hF.dn,hF.mn,hF.sn⟩ ?_;rw[←ht])
      refine Zg ef ef ef (Zcp Ze (idle_S b t ps) ?_);have hid:idleB t=idleB st:=by rw[ht];rfl
      refine ZY 3 ?_
      refine Zi ef (fun h5=>?_) (fun h5=>?_)
      ·have hg:=tick_stop (st:=st) (now:=now) h2n h3n h4s ⟨by simpa using hg9_5,.inr (by rw[←hid];exact h5)⟩;refine ZY 2 ?_;first | (refine S.sub (bX b {st with now:=now} ps ub jb mb ov iv dv mv sb l (old W::Γ)) ?_;refine S.Qo b {st with now:=now} ps ub jb mb ov iv dv mv sb l ⟨hokn,hF.perm,hF.on,hF.im,hF.dn,hF.mn,hF.sn⟩ ?_;rw[←ht]) | skip
       refine Zp (Zc1 Ze (stop_S b t ps (by omega)) ?_);rintro v Θ rfl;refine ZY 6 ?_;first | (refine S.sub (bX b {st with now:=now} ps ub jb mb ov iv dv mv sb l (old W::Γ)) ?_;refine S.Qo b {st with now:=now} ps ub jb mb ov iv dv mv sb l ⟨hokn,hF.perm,hF.on,hF.im,hF.dn,hF.mn,hF.sn⟩ ?_;rw[←ht]) | skip
       exact Zf ef Zq (⟨by rw[hg];rfl,by rw[hg,←ht]⟩)
      ·have hg:=tick_run (st:=st) (now:=now) h2n h3n h4s (fun h=>by rcases h.2 with h | h;(exact hg9_12 (by omega));(rw[←hid,h5]at h;cases h));refine ZY 6 ?_;first | (refine S.sub (bX b {st with now:=now} ps ub jb mb ov iv dv mv sb l (old W::Γ)) ?_;refine S.Qo b {st with now:=now} ps ub jb mb ov iv dv mv sb l ⟨hokn,hF.perm,hF.on,hF.im,hF.dn,hF.mn,hF.sn⟩ ?_;rw[←ht]) | skip
       exact Zf ef Zq (⟨by rw[hg];rfl,by rw[hg,←ht]⟩)
    ·have hg:=tick_run (st:=st) (now:=now) h2n h3n h4s (fun h=>by rw[h.1]at hg9_5;cases hg9_5);refine ZY 8 ?_;refine ZY 8 ?_;refine ZY 3 ?_;first | (refine S.sub (bX b {st with now:=now} ps ub jb mb ov iv dv mv sb l (old W::Γ)) ?_;refine S.Qo b {st with now:=now} ps ub jb mb ov iv dv mv sb l ⟨hokn,hF.perm,hF.on,hF.im,hF.dn,hF.mn,hF.sn⟩ ?_;rw[←ht]) | skip
     exact Zf ef Zq (⟨by rw[hg];rfl,by rw[hg,←ht]⟩)
   ·have h4s:st.stops.isSome=false:=by rw[←hF.sn];simpa using h4
    have hg:=tick_work (st:=st) (now:=now) h2n h3n h4s
    (refine S.sub (bX b {st with now:=now} ps ub jb mb ov iv dv mv sb l (old W::Γ)) ?_;refine S.Qo b {st with now:=now} ps ub jb mb ov iv dv mv sb l ⟨hokn,hF.perm,hF.on,hF.im,hF.dn,hF.mn,hF.sn⟩ ?_;rw[←ht])
    obtain⟨t1,ht1⟩:∃t1,t1=each Z0 t t.ids:=⟨_,rfl⟩;obtain⟨t2,ht2⟩:∃t2,t2=Xe t1:=⟨_,rfl⟩;obtain⟨t3,ht3⟩:∃t3,t3=Q7 t2:=⟨_,rfl⟩;obtain⟨t4,ht4⟩:∃t4,t4=rep t3:=⟨_,rfl⟩;obtain⟨t5,ht5⟩:∃t5,t5=each Y7 t4 t4.ids:=⟨_,rfl⟩;have o1:Qp t1:=by rw[ht1];exact each_ok leaveE hokt
    have w1:WSav t1:=by rw[ht1];exact each_wsav (fun st x h=>leave_wsav h) _ hwt
    have l1:t1.orders.length≤t.orders.length+16000:=by rw[ht1];exact each_len leaveE hokt
    have o2:Qp t2∧t2.orders.length≤t1.orders.length+16*t1.js.length:=by rw[ht2];exact placeAll_ok o1 w1
    have o3:Qp t3∧t3.orders.length≤t2.orders.length+16*t2.js.length:=by rw[ht3];exact preempt_ok o2.1
    have o4:Qp t4:=by rw[ht4];exact rep_ok o3.1
    have l4:t4.orders.length=t3.orders.length:=by rw[ht4]
    have o5:Qp t5∧t5.orders.length≤t4.orders.length+16000:=by rw[ht5];exact⟨each_ok saveE o4,each_len saveE o4⟩
    have f1:=o1.few;have f2:=o2.1.few;have hwk:workR t=Y5 t5 t5.row t5.rows:=by rw[ht5,ht4,ht3,ht2,ht1];rfl
    refine ZY 4 ?_;refine Zp (Zc1 Ze (leave_S b t ps (by omega)) ?_);rintro v Θ rfl;rw[←ht1];refine ZY 4 ?_;refine Zp (Zc1 Ze (place_S b t1 ps w1 (by omega)) ?_);rintro v Θ rfl;rw[←ht2];refine ZY 4 ?_;refine Zp (Zc1 Ze (preempt_S b t2 ps (by omega) hW) ?_);rintro v Θ rfl;rw[←ht3];refine ZY 3 ?_;refine S.Yv b t3 ps fun ub jb mb ov iv dv mv sb l hF=>?_;refine ZY 5 ?_;refine Zp (Zc1 Ze (Go.Proofs.YtdackcibfkkniaaGreatDoor.Repack_S mb t3.m hW) ?_);rintro v Θ ⟨c,sv,rfl,hsv,rfl⟩;refine ZY 8 ?_;refine ZY 2 ?_;refine S.sub (bX b (rep t3) ps ub jb c ov iv dv mv sb l (old W::Γ)) ?_;refine S.Qo b (rep t3) ps ub jb c ov iv dv mv sb l ⟨by rw[←ht4];exact o4,hF.perm,hF.on,hF.im,hF.dn,hF.mn,hF.sn⟩ ?_;rw[←ht4];refine Zp (Zc1 Ze (save1_S b t4 ps (by omega)) ?_);rintro v Θ rfl;rw[←ht5];refine ZY 4 ?_;refine Zp (Zc1 Ze (start_S b t5 ps (by omega) hW) ?_);rintro v Θ rfl;refine ZY 6 ?_;exact Zf ef Zq (⟨by rw[hg];rfl,by rw[hg,←ht,hwk]⟩)
structure Sm3 (b b':Br) (i d j:Nat):Prop where
 im:b'.images.length≤b.images.length+i
 dn:b'.done.length≤b.done.length+d
 js:b'.js.length≤b.js.length+j
 nodes:b'.nodes=b.nodes
theorem Sm3.refl (b:Br):Sm3 b b 0 0 0:=⟨Nat.le_refl _,Nat.le_refl _,Nat.le_refl _,rfl⟩
theorem Sm3.trans {a b c:Br} {i d j i' d' j':Nat} (h:Sm3 a b i d j) (k:Sm3 b c i' d' j'):Sm3 a c (i+i') (d+d') (j+j'):=⟨by have:=h.im;have:=k.im;omega,by have:=h.dn;have:=k.dn;omega,by have:=h.js;have:=k.js;omega,k.nodes.trans h.nodes⟩
theorem Sm3.tr0 {a b c:Br} {i d j:Nat} (h:Sm3 a b 0 0 0) (k:Sm3 b c i d j):Sm3 a c i d j:=by have:=h.trans k;simpa using this
theorem Sm3.le {a b:Br} {i d j i' d' j':Nat} (h:Sm3 a b i d j) (h1:i≤i') (h2:d≤d') (h3:j≤j'):Sm3 a b i' d' j':=⟨by have:=h.im;omega,by have:=h.dn;omega,by have:=h.js;omega,h.nodes⟩
theorem Sm3.set (b:Br) (x:Bj):Sm3 b (b.set x) 0 0 0:=⟨Nat.le_refl _,Nat.le_refl _,by show (Yf b.js x).length≤_;rw[setJ_len];exact Nat.le_refl _,rfl⟩
theorem Sm3.gone (b:Br) (x:Bj):Sm3 b (Q8 b x) 0 0 0:=by
 unfold Q8
 split
 ·split
  ·exact⟨Nat.le_refl _,Nat.le_refl _,by show (Yf b.js _).length≤_;rw[setJ_len];exact Nat.le_refl _,rfl⟩
  ·exact⟨Nat.le_refl _,Nat.le_refl _,List.length_filter_le _ _,rfl⟩
 ·exact .set b x
theorem Sm3.drop (b:Br) (x:Bj) (a:Bool):Sm3 b (Yp b x a) 0 0 0:=by
 unfold Yp
 split
 ·exact .gone b _
 ·exact(show Sm3 b {b with orders:=b.orders++(V5 b x).map (Xt x.id)} 0 0 0 from ⟨Nat.le_refl _,Nat.le_refl _,Nat.le_refl _,rfl⟩).tr0 (.gone _ _)
theorem Sm3.finish (b:Br) (x:Bj):Sm3 b (Qz b x) 0 1 0:=by
 unfold Qz
 split
 ·exact(Sm3.set b x).le (by omega) (by omega) (by omega)
 ·have h:=Sm3.drop {b with done:=b.done++[x.id]} {x with done:=true} false;exact⟨h.im,by have:=h.dn;simp only[List.length_append,List.length_singleton]at this;omega,h.js,h.nodes⟩
theorem Sm3.save (b:Br) (x:Bj):Sm3 b (Y7 b x) 0 0 0:=by
 by_cases hc:x.work=x.credit∨x.sav.isSome∨x.drops.isSome∨x.state≠2
 ·rw[Wq hc];exact .set b x
 ·rw[Ve hc];exact⟨Nat.le_refl _,Nat.le_refl _,by show (Yf b.js _).length≤_;rw[setJ_len];exact Nat.le_refl _,rfl⟩
theorem Sm3.count (b:Br) (x:Bj):Sm3 b (Yi b x) 0 0 0:=by
 unfold Yi
 split
 ·exact .set b x
 ·split
  ·exact .set b _
  ·exact .save b _
theorem Sm3.each {f:Br→Bj→Br} (hf:∀b x,Sm3 b (f b x) 0 0 0):∀(l:List Nat) (b:Br),Sm3 b (each f b l) 0 0 0
 | [],b=>.refl b
 | id::l,b=>by
  have e:BN.each f b (id::l)=BN.each f (match Qb b.js id with | none=>b | some x=>f b x) l:=rfl;rw[e];cases Qb b.js id with
  | none=>exact Sm3.each hf l b
  | some x=>exact(hf b x).tr0 (Sm3.each hf l _)
theorem Sm3.stopHeard (b:Br) (n:Nat):Sm3 b (Q4 b n) 0 0 0:=by
 unfold Q4
 split
 ·exact .refl b
 ·split
  ·exact⟨Nat.le_refl _,Nat.le_refl _,Nat.le_refl _,rfl⟩
  ·exact(show Sm3 b {b with stops:=none,stopped:=false} 0 0 0 from ⟨Nat.le_refl _,Nat.le_refl _,Nat.le_refl _,rfl⟩).tr0 (.each Sm3.count _ _)
theorem Sm3.lost (b:Br) (n:Int):Sm3 b (lostR b n).2 0 0 0:=by
 unfold lostR
 split
 ·exact .refl b
 ·refine Sm3.tr0 (b:=BN.each (Yg n.toNat) {b with up:=Vp b.up n.toNat,m:=(Go.Proofs.YtdackcibfkkniaaGreatDoor.upR b.m n false).2,orders:=b.orders.filter fun o=>decide (o.1≠n.toNat)} b.ids) ?_ (.stopHeard _ _);refine(show Sm3 b {b with up:=Vp b.up n.toNat,m:=(Go.Proofs.YtdackcibfkkniaaGreatDoor.upR b.m n false).2,orders:=b.orders.filter fun o=>decide (o.1≠n.toNat)} 0 0 0 from ⟨Nat.le_refl _,Nat.le_refl _,Nat.le_refl _,rfl⟩).tr0 (.each (fun b x=>?_) _ _);unfold Yg
  split
  ·split
   ·exact .drop b x true
   ·exact .gone b _
  ·exact .refl b
theorem Sm3.heard (b:Br) (n:Nat) (x:Nt):Sm3 b (V8 b n x) 0 0 0:=by
 unfold V8
 split
 ·refine Sm3.tr0 ?_ (.stopHeard _ _)
  split
  ·exact .refl b
  ·split
   ·exact .refl b
   ·split
    ·exact .set b _
    ·exact .refl b
 ·exact .refl b
theorem Sm3.saved (b:Br) (x:Bj) (n:Nat) (t:Nt) (bl:List Int):Sm3 b (Wp b x n t bl) 1 0 0:=by
 have hr:=(Sm3.refl b).le (Nat.zero_le 1) (Nat.le_refl 0) (Nat.le_refl 0);unfold Wp
 split
 ·exact hr
 ·split
  ·exact hr
  ·split
   ·exact hr
   ·dsimp only
    split
    ·exact⟨by show (b.images++[_]).length≤_;rw[List.length_append,List.length_singleton];exact Nat.le_refl _,Nat.le_refl _,by show (Yf b.js _).length≤_;rw[setJ_len];exact Nat.le_refl _,rfl⟩
    ·exact(Sm3.set b _).le (Nat.zero_le 1) (Nat.le_refl 0) (Nat.le_refl 0)
theorem Sm3.hear (b:Br) (n:Int) (t:Nt) (bl:List Int):Sm3 b (Wh b n t bl).2 1 0 0:=by
 have l1:∀ {c:Br},Sm3 b c 0 0 0→Sm3 b c 1 0 0:=fun h=>h.le (Nat.zero_le 1) (Nat.le_refl 0) (Nat.le_refl 0);unfold Wh
 split
 ·exact l1 (.refl b)
 split
 ·exact l1 (.heard b _ _)
 split
 ·exact l1 (.refl b)
 split
 ·show Sm3 b (Wl b _ _ t bl) 1 0 0;unfold Wl
  split
  ·split
   ·exact l1 (.set b _)
   ·exact l1 (.refl b)
  split
  ·exact .saved b _ _ t bl
  split
  ·split
   ·exact l1 (.refl b)
   ·exact l1 (.gone b _)
  ·exact l1 (.refl b)
 ·exact l1 (.refl b)
theorem Sm3.published (b:Br) (id ver:Nat) (ok:Bool):Sm3 b (Qn b id ver ok).2 0 1 0:=by
 have hr:=(Sm3.refl b).le (Nat.le_refl 0) (Nat.zero_le 1) (Nat.le_refl 0);unfold Qn
 split
 ·exact hr
 split
 ·exact hr
 split
 ·exact hr
 ·exact .finish b _
theorem Sm3.cancel (b:Br) (id:Nat):Sm3 b (Ym b id).2 0 0 0:=by
 unfold Ym
 split
 ·exact .refl b
 split
 ·exact .drop b _ false
 split
 ·exact .set b _
 ·exact .refl b
theorem Sm3.load (b:Br) (x:Bj) (s:PL.St):Sm3 b (V4 b x s) 0 0 0:=by
 by_cases hp:(Xq b.m x.id s.row s.nodes).1≠0
 ·rw[loadR_no hp];exact⟨Nat.le_refl _,Nat.le_refl _,Nat.le_refl _,rfl⟩
 ·rw[Vz hp];exact⟨Nat.le_refl _,Nat.le_refl _,by show (Yf b.js _).length≤_;rw[setJ_len];exact Nat.le_refl _,rfl⟩
theorem Sm3.place (l:List (Nat×PL.St)):∀b:Br,Sm3 b (Yu b l) 0 0 0:=by
 induction l with
 | nil=>exact fun b=>.refl b
 | cons p l ih=>
  intro b;have e:Yu b (p::l)=Yu (W7 b p) l:=by rw[X6,X6];rfl
  rw[e];refine Sm3.tr0 ?_ (ih _);unfold W7
  split
  ·split
   ·exact .refl b
   ·exact .load b _ _
  ·exact .refl b
theorem Sm3.preempt (b:Br):Sm3 b (Q7 b) 0 0 0:=by
 unfold Q7
 split
 ·exact .refl b
 split
 ·exact .refl b
 split
 ·exact .refl b
 ·exact .each (f:=W8) (fun b x=>⟨Nat.le_refl _,Nat.le_refl _,by show (Yf b.js _).length≤_;rw[setJ_len];exact Nat.le_refl _,rfl⟩) _ _
theorem Sm3.run (b:Br) (l:List Nat):Sm3 b (runR b l) 0 0 0:=
 (show Sm3 b (run0 b l) 0 0 0 from ⟨Nat.le_refl _,Nat.le_refl _,Nat.le_refl _,rfl⟩).tr0 (.each (f:=Wm) (fun b x=>⟨Nat.le_refl _,Nat.le_refl _,by show (Yf b.js _).length≤_;rw[setJ_len];exact Nat.le_refl _,rfl⟩) _ _)
theorem Sm3.start (b:Br):∀(i:Nat) (row:Int),Sm3 b (Y5 b row i) 0 0 0
 | 0,_=>.refl b
 | i+1,row=>by
  rw[Y5]
  split
  ·exact .refl b
  split
  ·exact(show Sm3 b {b with row:=(Z4 b.m row).1} 0 0 0 from ⟨Nat.le_refl _,Nat.le_refl _,Nat.le_refl _,rfl⟩).tr0 (.run _ _)
  ·exact .start b i _
theorem Sm3.leave (b:Br) (x:Bj):Sm3 b (Z0 b x) 0 0 0:=by
 unfold Z0
 split
 ·exact .drop b x true
 ·exact .refl b
theorem Sm3.work (b:Br):Sm3 b (workR b) 0 0 0:=by
 have h1:=Sm3.each Sm3.leave b.ids b;have h2:=h1.tr0 (Sm3.place (zsR (BN.each Z0 b b.ids)) _);have h3:=h2.tr0 (Sm3.preempt _);have h4:=h3.tr0 (show Sm3 _ (rep (Q7 (Xe (BN.each Z0 b b.ids)))) 0 0 0 from ⟨Nat.le_refl _,Nat.le_refl _,Nat.le_refl _,rfl⟩);have h5:=h4.tr0 (Sm3.each Sm3.save (rep (Q7 (Xe (BN.each Z0 b b.ids)))).ids _);exact h5.tr0 (Sm3.start _ _ _)
theorem Sm3.tick (b:Br) (now:Nat):Sm3 b (Y4 b now).2 0 0 0:=by
 unfold Y4
 split
 ·exact .refl b
 split
 ·exact⟨Nat.le_refl _,Nat.le_refl _,Nat.le_refl _,rfl⟩
 split
 ·split
  ·exact⟨Nat.le_refl _,Nat.le_refl _,Nat.le_refl _,rfl⟩
  ·exact⟨Nat.le_refl _,Nat.le_refl _,Nat.le_refl _,rfl⟩
 ·exact(show Sm3 b {b with now:=now} 0 0 0 from ⟨Nat.le_refl _,Nat.le_refl _,Nat.le_refl _,rfl⟩).tr0 (.work _)
theorem tick_after {b:Br} (h:Qp b) (hw:WSav b) {now:Nat} (hn:now≤4294967295):Qp (Y4 b now).2∧(Y4 b now).2.orders.length≤b.orders.length+70000:=by
 unfold Y4
 split
 ·exact⟨h,Nat.le_add_right ..⟩
 split
 ·exact⟨h.nset hn,Nat.le_add_right ..⟩
 split
 ·split
  ·refine⟨stopR_ok2 (h.nset hn),?_⟩;show (b.orders++_).length≤_;rw[List.length_append,List.length_map]
   have h1:((List.range b.nodes).filter fun n=>decide (n∈b.stops.getD [])).length≤b.nodes:=by
    have:=List.length_filter_le (fun n=>decide (n∈b.stops.getD [])) (List.range b.nodes)
    rwa [List.length_range]at this
   have h1:(List.filter (fun n=>decide (n∈({b with now:=now}:Br).stops.getD [])) (List.range ({b with now:=now}:Br).nodes)).length≤b.nodes:=h1;have:=h.N16;omega
  ·exact⟨h.nset hn,Nat.le_add_right ..⟩
 ·exact work_ok (h.nset hn) hw
abbrev ncE (cr:List (Nat×Nat)):List (Int×Value):=cr.map fun p:Nat×Nat=>((p.1:Int),Value.int .i64 (p.2:Int))
theorem nc_get (cr:List (Nat×Nat)) (id:Nat):Ql (id:Int) (ncE cr)=(Zh id cr).map fun v:Nat=>Value.int .i64 (v:Int):=by
 induction cr with
 | nil=>rfl
 | cons x cr ih=>
  simp only[List.map_cons,Ql,Zh]
  by_cases h:x.1=id
  ·rw[if_pos h,if_pos (by omega)];rfl
  ·rw[if_neg h,if_neg (by omega)];exact ih
theorem nc_put (cr:List (Nat×Nat)) (id v:Nat):Qx (id:Int) (.int .i64 (v:Int)) (ncE cr)=ncE (Yr id v cr):=by
 induction cr with
 | nil=>rfl
 | cons x cr ih=>
  simp only[List.map_cons,Qx,Yr]
  by_cases h:x.1=id
  ·rw[if_pos h,if_pos (by omega)];rfl
  ·rw[if_neg h,if_neg (by omega)];exact congrArg _ ih
def crStep (cr:List (Nat×Nat)) (n:Nd):List (Nat×Nat):=if Qr n.rk≠0 then Yr (Qr n.rk) (Xl (Qr n.rk) cr+1) cr else cr
def crOf (l:List Nd):List (Nat×Nat):=l.foldl crStep []
theorem crOf_snoc (l:List Nd) (n:Nd):crOf (l++[n])=crStep (crOf l) n:=by rw[crOf,List.foldl_append];rfl
theorem cntOf_snoc (l:List Nd) (n:Nd) (id:Nat):Uf (l++[n]) id=Uf l id+if Qr n.rk=id then 1 else 0:=by
 unfold Uf;rw[List.filter_append,List.length_append]
 congr 1
 by_cases h:Qr n.rk=id
 ·simp[h]
 ·simp[h]
theorem cr_get (l:List Nd):(keys (crOf l)).Nodup∧∀id,Zh id (crOf l)=if id≠0∧0<Uf l id then some (Uf l id) else none:=by
 have key:∀(l m:List Nd),((keys (crOf m)).Nodup∧∀id,Zh id (crOf m)=if id≠0∧0<Uf m id then some (Uf m id) else none)→((keys (crOf (m++l))).Nodup∧∀id,Zh id (crOf (m++l))=if id≠0∧0<Uf (m++l) id then some (Uf (m++l) id) else none):=by
  intro l;induction l with
  | nil=>intro m h;rw[List.append_nil];exact h
  | cons n l ih=>
   intro m h;have e:m++n::l=(m++[n])++l:=by simp
   rw[e];refine ih (m++[n]) ?_;rw[crOf_snoc];unfold crStep
   by_cases hr:Qr n.rk≠0
   ·rw[if_pos hr];refine⟨nPut_keys _ _ h.1,fun id=>?_⟩;rw[nGet_put,cntOf_snoc]
    by_cases e2:id=Qr n.rk
    ·rw[if_pos e2,if_pos e2.symm,if_pos ⟨by rw[e2];exact hr,by omega⟩]
     congr 1
     rw[Xl,h.2,←e2]
     split
     ·rfl
     ·rename_i h3;have h3:¬(id≠0∧0<Uf m id):=h3
      have:Uf m id=0:=by
       have:id≠0:=by rw[e2];exact hr
       exact Classical.byContradiction fun h4=>h3 ⟨this,by omega⟩
      rw[this];rfl
    ·have hz:(if Qr n.rk=id then 1 else 0)=0:=if_neg (fun e3=>e2 e3.symm);rw[if_neg e2,hz,Nat.add_zero];exact h.2 id
   ·rw[if_neg hr];refine⟨h.1,fun id=>?_⟩;rw[h.2,cntOf_snoc]
    by_cases e2:Qr n.rk=id
    ·have:id=0:=by rw[←e2];exact Classical.byContradiction hr
     rw[if_neg (fun h=>h.1 this),if_neg (fun h=>h.1 this)]
    ·rw[if_neg e2,Nat.add_zero]
 have:=key l [] ⟨List.nodup_nil,fun id=>by rw[if_neg (fun h=>absurd h.2 (by simp[Uf]))];rfl⟩
 simpa using this
def hit (s:Sm) (l:List Nd) (id:Nat):Bool:=match jobOf s.jobs id with
 | none=>false
 | some j=>ranB l j
def ranN (s:Sm) (l:List Nd) (id:Nat):Nat:=Xl id s.ran+if hit s l id then 1 else 0
theorem nLook_put (k v:Nat) (l:List (Nat×Nat)) (i:Nat):Xl i (Yr k v l)=if i=k then v else Xl i l:=by
 unfold Xl;rw[nGet_put];split <;> rfl
theorem ranR_look (s:Sm) (l:List Nd) (hn:(s.jobs.map (·.id)).Nodup) (id:Nat):Xl id (ranR s l)=ranN s l id:=by
 unfold ranR ranN hit
 have key:∀(js:List Jo) (r:List (Nat×Nat)),(js.map (·.id)).Nodup→Xl id (js.foldl (fun r j=>if ranB l j then Yr j.id (Xl j.id r+1) r else r) r)=Xl id r+if (match jobOf js id with | none=>false | some j=>ranB l j)=true then 1 else 0:=by
  intro js;induction js with
  | nil=>intro r _;rfl
  | cons j js ih=>
   intro r hn;rw[List.map_cons,List.nodup_cons]at hn;rw[List.foldl_cons,ih _ hn.2]
   have e:jobOf (j::js) id=if j.id=id then some j else jobOf js id:=by
    unfold jobOf;rw[List.find?_cons]
    by_cases h:j.id=id
    ·rw[if_pos h,decide_eq_true h]
    ·rw[if_neg h,decide_eq_false h]
   rw[e]
   by_cases h:j.id=id
   ·have hno:jobOf js id=none:=List.find?_eq_none.2 fun x hx=>by
     have:x.id≠id:=fun e9=>hn.1 (List.mem_map.2 ⟨x,hx,by rw[e9,h]⟩);simp[this]
    rw[if_pos h,hno];dsimp only
    by_cases hb:ranB l j=true
    ·rw[if_pos hb,if_pos hb,nLook_put,if_pos h.symm,h];rfl
    ·rw[if_neg hb,if_neg hb];rfl
   ·rw[if_neg h]
    by_cases hb:ranB l j=true
    ·rw[if_pos hb,nLook_put,if_neg (fun e9=>h e9.symm)]
    ·rw[if_neg hb]
 exact key s.jobs s.ran hn
def ranG (b:Nat) (g:Nat→Nat):Assn:=fun h=>∃l:List (Int×Value),(∀id:Nat,(Ql (id:Int) l).getD (.int .i64 0)=.int .i64 (g id:Nat))∧Qe b .u32 l h
theorem Ent.ranG {b:Nat} {f:List (Nat×Nat)} {g:Nat→Nat} (h:∀id,g id=Xl id f) (Γ:List Assn):Ent (ranM b f::Γ) (ranG b g::Γ):=Ent.X7 Γ fun _ ⟨l,a,b⟩=>⟨l,fun id=>by rw[a,h],b⟩
theorem Ent.ranU {b:Nat} {f:List (Nat×Nat)} {g:Nat→Nat} (h:∀id,g id=Xl id f) (Γ:List Assn):Ent (BN.ranG b g::Γ) (ranM b f::Γ):=Ent.X7 Γ fun _ ⟨l,a,b⟩=>⟨l,fun id=>by rw[a,h],b⟩
section
variable {n:Nat} {md:Bool} {w0:WM md} {ρ:Env} {Γ Δ:List Assn} {φ:Act→World→Prop}
theorem S.ranOpen (b:Nat) (g:Nat→Nat) [q:Pick (ranG b g) Γ Δ] (f:∀l:List (Int×Value),(∀id:Nat,(Ql (id:Int) l).getD (.int .i64 0)=.int .i64 (g id:Nat))→S n w0 ρ (Qe b .u32 l::Δ) φ):S n w0 ρ Γ φ:=by
 intro a w ha hs hx;obtain⟨h0,l0,h1,h2,d,l1,l2,⟨l,q1,q2⟩,s⟩:=hs.ent q.ent;exact f l q1 a w ha ⟨h0,l0,h1,h2,d,l1,l2,q2,s⟩ hx
theorem Ent.ranClose {b:Nat} {g:Nat→Nat} {l:List (Int×Value)} (h:∀id:Nat,(Ql (id:Int) l).getD (.int .i64 0)=.int .i64 (g id:Nat)) (Γ:List Assn):Ent (Qe b .u32 l::Γ) (BN.ranG b g::Γ):=Ent.X7 Γ fun _ s=>⟨l,h,s⟩
end
theorem jo_get (js:List Jo) (id:Nat):Ql (id:Int) (js.map joE)=(jobOf js id).map fun j=>Value.agg (joC j).toArray:=by
 unfold jobOf;induction js with
 | nil=>rfl
 | cons j js ih=>
  rw[List.map_cons,List.find?_cons];simp only[Ql]
  by_cases h:j.id=id
  ·rw[if_pos (by omega),decide_eq_true h];rfl
  ·rw[if_neg (by omega),decide_eq_false h];exact ih
theorem alGet_putI (z:Int) (v:Value) (l:List (Int×Value)) (y:Int):Ql y (Qx z v l)=if y=z then some v else Ql y l:=by
 induction l with
 | nil=>
  simp only[Qx,Ql]
 | cons x l ih=>
  simp only[Qx]
  by_cases h:z=x.1
  ·rw[if_pos h];simp only[Ql]
   by_cases h2:y=z
   ·rw[if_pos h2,if_pos h2]
   ·rw[if_neg h2,if_neg h2,if_neg (by omega)]
  ·rw[if_neg h];simp only[Ql]
   by_cases h2:y=x.1
   ·rw[if_pos h2,if_pos h2,if_neg (by omega)]
   ·rw[if_neg h2,if_neg h2,ih]
theorem S.mapAs {n:Nat} {md:Bool} {w0:WM md} {ρ:Env} {Γ:List Assn} {φ:Act→World→Prop} (b:Nat) {kk:IntKind} {l:List (Int×Value)} (l':List (Int×Value)) {Δ:List Assn} [h:HasM Γ b kk l Δ] (hl:l=l') (k:S n w0 ρ (Qe b kk l'::Δ) φ):S n w0 ρ Γ φ:=S.ent h.ent (by subst hl;exact k)
theorem hit_no {s:Sm} {l:List Nd} {id:Nat} (h:id∉keys (crOf l)):hit s l id=false:=by
 have h1:=(cr_get l).2 id;rw[nGet_none.2 h]at h1;have h2:¬(id≠0∧0<Uf l id):=fun h2=>by rw[if_pos h2]at h1;cases h1
 unfold hit;cases hj:jobOf s.jobs id with
 | none=>rfl
 | some j=>
  have hid:j.id=id:=by have h9:=List.find?_some hj;exact of_decide_eq_true h9
  cases hb:ranB l j with
  | false=>exact hb
  | true=>
   simp only[ranB,Bool.and_eq_true,decide_eq_true_eq]at hb;rw[hid]at hb;exact absurd ⟨hb.1.1,hb.2⟩ h2
structure StOk (s:Sm):Prop where
 tk:TkOk s
 now:s.now+1≤4294967295
 am:amAll s.nd=true
 am2:amAll (s.nd.map (Q0 (s.now+1)))=true
 ws:WSav s.b
 o7:s.b.orders.length≤700000
 n16:s.cn≤16
 rn:∀id,Xl id s.ran≤s.now
theorem tick_len (now:Nat) (n:Nd):(Q0 now n).inn=n.inn∧(Q0 now n).out=n.out∧(Q0 now n).up=n.up∧(Q0 now n).wrong=n.wrong:=by
 unfold Q0
 split
 ·split <;> exact⟨rfl,rfl,rfl,rfl⟩
 ·exact⟨rfl,rfl,rfl,rfl⟩
theorem qLe.tick {l:List Nd} {k:Nat} (h:qLe l k) (now:Nat):qLe (l.map (Q0 now)) k:=fun n hn=>by
 obtain⟨m,hm,rfl⟩:=List.mem_map.1 hn;obtain⟨e1,e2,_⟩:=tick_len now m;rw[e1,e2];exact h m hm
abbrev stNd (s:Sm):List Nd:=if (Y4 s.b (s.now+1)).1≠0 then Wc (s.nd.map (Q0 (s.now+1))) else s.nd.map (Q0 (s.now+1))
theorem stickR_eq (s:Sm):stickR s=Ww {s with now:=s.now+1,ran:=ranR s (s.nd.map (Q0 (s.now+1))),b:=(Y4 s.b (s.now+1)).2,nd:=stNd s,ok:=s.ok&&stB s}:=rfl
set_option maxHeartbeats 8000000 in
theorem stick_S (p:Nat) (s:Sm) (hk:StOk s) {W:World} (hW:TabW W):Spec Tryz.prog 55 [pt p] [SP p s,old W] fun Γ _ Θ=>Θ=SP p (stickR s)::old W::Γ:=by
 have hn1:=hk.tk.n1;have hnow:=hk.now;have hlen:=hk.tk.len;have hkd:=hk.tk.d;have hki:=hk.tk.i;refine Zbd Tryz.func55 rfl Tryz.ntmps55 fun w0 Γ=>Zsh ?_;refine S.spOpen p s fun b ps nv ns rb jb gb db wb iv dv wv hF=>?_;have hnn:=hF.nn;refine S.mapNodup jb fun hnd0=>?_
 have hjn:(s.jobs.map (·.id)).Nodup:=by
  rw[List.map_map]at hnd0;refine List.pairwise_map.2 ((List.pairwise_map.1 hnd0).imp fun h e=>h ?_);exact congrArg (fun n:Nat=>(n:Int)) e
 refine S.Zz nv fun hv1 hv2 hv3=>?_;rw[List.length_map]at hv1;have hmx:maxLen≤9223372036854775807:=by unfold maxLen;omega
 obtain⟨L,hL⟩:∃L,L=s.nd.map (Q0 (s.now+1)):=⟨_,rfl⟩;have hLl:L.length=s.cn:=by rw[hL,List.length_map,hlen]
 refine ZY 6 ?_;refine Zv (q_add rfl rfl (inU32 (by omega) (by omega))) ?_;refine ZY 6 ?_;refine Zp (S.makeMap .u32 rfl ?_);intro b15;refine ZY 5 ?_;refine S.mapAs b15 (ncE []) rfl ?_;refine S.Z6 p (smC {s with now:=s.now+1} b nv rb jb gb db wb iv dv wv).toArray rfl ?_;refine ZY 8 ?_;refine Zl (fun fz ρ' Γ'=>∃(e:Nat) (ns:List No) (cr:List (Nat×Nat)),fz=s.nd.length-e∧e≤s.nd.length∧cr=crOf (L.take e)∧ns.map (·.2)=L.take e++s.nd.drop e∧ρ'=[(0,pt p),(2,.map (some b15)),(19,nv.v),(20,.int .i64 (nv.n:Int)),(21,.int .i64 (e:Int))] ∧   Γ'=Qe b15 .u32 (ncE cr)::blk p 55 (smC {s with now:=s.now+1} b nv rb jb gb db wb iv dv wv).toArray::BP b s.b ps::own nv 103 1 (ns.map noV)::alls ns noB::ranM rb s.ran::Qe jb .u32 (s.jobs.map joE)::Qe gb .u32 (setT s.gone)::Qe db .u32 (setT s.done)::imgs iv s.images::warM wb::Vy dv s.fu::Vy wv s.fu::old W::Γ) (m:=_) (⟨0,ns,[],rfl,by omega,rfl,by rw[List.take_zero,List.drop_zero];exact hF.nd,rfl,rfl⟩) ?_;rintro fz ρ' Γ' ⟨e,ns,cr,hfz,he,hcr,hns,rfl,rfl⟩;refine ZY 5 ?_
 refine Zj ef (fun h1=>?_) (fun h1=>?_)
 ·refine S.Qh nv (by omega) fun nb nof hna _ _ _=>?_;obtain⟨x,hx⟩:=Ya (show e<s.nd.length by omega);have hLx:L[e]?=some (Q0 (s.now+1) x):=by rw[hL,List.getElem?_map,hx];rfl
  have hLt:L.take (e+1)=L.take e++[Q0 (s.now+1) x]:=by rw[List.take_add_one,hLx];rfl
  have hxx:(L.take e++s.nd.drop e)[e]?=some x:=by
   rw[List.getElem?_append_right (by rw[List.length_take];omega),List.length_take,Nat.min_eq_left (by omega),Nat.sub_self,List.getElem?_drop,Nat.add_zero];exact hx
  obtain⟨q,hq⟩:=ns_at hns hxx;obtain⟨m1,m2⟩:=ns_set hq (Q0 (s.now+1) x)
  have hns2:(ns.set e (q,Q0 (s.now+1) x)).map (·.2)=L.take (e+1)++s.nd.drop (e+1):=by
   rw[m2,hns,List.set_append_right _ _ (by rw[List.length_take];omega),List.length_take,Nat.min_eq_left (by omega),Nat.sub_self,hLt,List.append_assoc]
   congr 1
   have hkl:=List.getElem?_eq_some_iff.1 hx;rw[List.drop_eq_getElem_cons hkl.1];rfl
  have ham:amB x.rk=true:=List.all_eq_true.1 hk.am x (List.mem_of_getElem? hx);have ham2:amB (Q0 (s.now+1) x).rk=true:=List.all_eq_true.1 hk.am2 _ (by rw[←hL];exact List.mem_of_getElem? hLx);have hcr2:crOf (L.take (e+1))=crStep cr (Q0 (s.now+1) x):=by rw[hLt,crOf_snoc,hcr]
  have hcrl:∀id,Xl id cr≤1000:=fun id=>by
   rw[Xl,hcr,(cr_get _).2]
   split
   ·have:Uf (L.take e) id≤(L.take e).length:=List.length_filter_le _ _;rw[List.length_take]at this;have:=hk.tk.fu;show Uf (L.take e) id≤1000;have:=hk.n16;omega
   ·exact Nat.zero_le _
  refine S.conv (alls ns noB) (Ent.X8 noB hq _) ?_;refine ZY 5 ?_;refine Zv (Zx (e) ef (hna) ef (by omega)) ?_;refine Zv (Zo (nv) (e) ef (hna) (by rw[List.getElem?_map,hq];rfl)) ?_;refine ZY 8 ?_;refine Zy ?_;refine Zp (Zc1 Ze (ntick_S q x (s.now+1) ham) ?_);rintro v Θ rfl;refine ZY 4 ?_;refine Zp (Zcp Ze (running_S q (Q0 (s.now+1) x) ham2) ?_);obtain⟨j0,hj0⟩:∃j0,j0=Qr (Q0 (s.now+1) x).rk:=⟨_,rfl⟩;rw[←hj0];refine S.Yq (NI q (Q0 (s.now+1) x)) (alls (ns.take e) noB) (alls (ns.drop (e+1)) noB) (Ent.Zt noB (x':=((q,Q0 (s.now+1) x):No)) hq _) ?_;rw[←m1];refine ZY 7 ?_
  refine Zj ef (fun h2=>?_) (fun h2=>?_)
  ·have hcr3:crStep cr (Q0 (s.now+1) x)=Yr j0 (Xl j0 cr+1) cr:=by rw[crStep,←hj0,if_pos (by omega)]
   have hlo:=hcrl j0;obtain⟨c0,hc0⟩:∃c0,c0=Xl j0 cr:=⟨_,rfl⟩;rw[←hc0]at hcr3 hlo;refine ZY 3 ?_;refine Zv (Qg (.int .i64 (c0:Int)) Tryz.underlying44 Tryz.underlying31 Tryz.zv3.h rfl rfl rfl (by rw[nc_get,hc0,Xl];cases Zh j0 cr <;> rfl)) ?_;refine Zv (Za ef ef) ?_;refine Zp (S.mapUpdate Tryz.underlying44 Tryz.underlying31 rfl rfl rfl rfl ?_);rw[show ((c0:Int)+1)=((c0+1:Nat):Int) by omega,nc_put];refine ZY 2 ?_;refine S.mapAs b15 (ncE (crOf (L.take (e+1)))) (by rw[hcr2,hcr3]) ?_;refine Zv (Za ef ef) ?_;refine ZY 2 ?_;exact ZX (fz-1) (⟨e+1,ns.set e (q,Q0 (s.now+1) x),crOf (L.take (e+1)),by omega,by omega,rfl,hns2,rfl,rfl⟩) (by omega)
  ·have hcr3:crStep cr (Q0 (s.now+1) x)=cr:=by rw[crStep,←hj0,if_neg (by omega)]
   refine ZY 2 ?_;refine S.mapAs b15 (ncE (crOf (L.take (e+1)))) (by rw[hcr2,hcr3]) ?_;refine Zv (Za ef ef) ?_;refine ZY 2 ?_;exact ZX (fz-1) (⟨e+1,ns.set e (q,Q0 (s.now+1) x),crOf (L.take (e+1)),by omega,by omega,rfl,hns2,rfl,rfl⟩) (by omega)
 ·rw[show L.take e=L by rw[show e=L.length by omega,List.take_length],show s.nd.drop e=[] by rw[show e=s.nd.length by omega,List.drop_length],List.append_nil]at hns;rw[show L.take e=L by rw[show e=L.length by omega,List.take_length]]at hcr;obtain⟨CR,hCR⟩:∃CR,CR=cr:=⟨_,rfl⟩;rw[←hCR]at hcr ⊢;have hCR:=hcr;obtain⟨hcn,hcg⟩:=cr_get L;rw[←hCR]at hcn hcg;refine S.conv (ranM rb s.ran) (Ent.ranG (g:=fun id=>Xl id s.ran) (fun _=>rfl) _) ?_;refine ZY 5 ?_;refine Zp (S.range Tryz.underlying44 rfl rfl ?_);intro r41;refine ZY 2 ?_;refine Zl (fun fz ρ' Γ'=>∃(left:List (Int×Value)) (cur:Option (Int×Value)) (jl:List (Nat×Nat)) (g:Nat→Nat),fz=left.length∧left=ncE jl∧(∀y∈jl,y∈CR)∧(keys jl).Nodup∧(∀id,g id=if id∈keys jl then Xl id s.ran else ranN s L id)∧ρ'=[(0,pt p),(41,.pointer (some ⟨r41,0,none⟩))] ∧   Γ'=Vw r41 b15 .u32 (ncE CR) left cur::blk p 55 (smC {s with now:=s.now+1} b nv rb jb gb db wb iv dv wv).toArray::BP b s.b ps::own nv 103 1 (ns.map noV)::alls ns noB::ranG rb g::Qe jb .u32 (s.jobs.map joE)::Qe gb .u32 (setT s.gone)::Qe db .u32 (setT s.done)::imgs iv s.images::warM wb::Vy dv s.fu::Vy wv s.fu::old W::Γ) (m:=_) (⟨ncE CR,none,CR,fun id=>Xl id s.ran,rfl,rfl,fun y hy=>hy,hcn,fun id=>by by_cases hi:id∈keys CR;(rw[if_pos hi]);(rw[if_neg hi,ranN,hit_no (by rw[←hCR];exact hi)];rfl),rfl,rfl⟩) ?_;rintro fz ρ' Γ' ⟨left,cur,jl,g,hfz,hleft,hsub,hjn2,hg,rfl,rfl⟩;refine ZY 2 ?_
  refine Zp (S.Z4 rfl rfl (fun hl42=>?_) (fun i42 z42 v42 hi42=>?_))
  ·obtain rfl:jl=[]:=by
    rw[hl42]at hleft;exact List.map_eq_nil_iff.1 hleft.symm
   refine S.conv (ranG rb g) (Ent.ranU (f:=ranR s L) (fun id=>by rw[hg,if_neg (by simp),ranR_look s L hjn]) _) ?_;obtain⟨s3,hs3⟩:∃s3:Sm,s3={s with now:=s.now+1,ran:=ranR s L,b:=(Y4 s.b (s.now+1)).2,nd:=stNd s,ok:=s.ok&&stB s}:=⟨_,rfl⟩;have hT:stickR s=Ww s3:=by rw[stickR_eq,hs3,hL]
   have hstn:stNd s=if (Y4 s.b (s.now+1)).1≠0 then Wc L else L:=by rw[hL]
   refine S.Vl b s.b ps fun hok=>?_;obtain⟨_,hto⟩:=tick_after hok hk.ws (now:=s.now+1) hk.now;have htb:=Sm3.tick s.b (s.now+1);have htbi:=htb.im;have htbd:=htb.dn;have ho7:=hk.o7
   have hqL:qLe (stNd s) s.fu:=by
    rw[hstn]
    split
    ·rw[hL];exact(hk.tk.q.tick _).wrong
    ·rw[hL];exact hk.tk.q.tick _
   have hlL:(stNd s).length=s.cn:=by
    rw[hstn]
    split
    ·rw[setWrong_len,hLl]
    ·exact hLl
   have hk3:TkOk s3:=by
    rw[hs3];exact⟨hlL,hn1,hqL,hk.tk.im,hk.tk.fu,by show (Y4 s.b (s.now+1)).2.orders.length≤_;omega,by show (Y4 s.b (s.now+1)).2.images.length≤_;omega,by show (Y4 s.b (s.now+1)).2.done.length≤_;omega⟩
   refine ZY 7 ?_;refine Zd ([blk p 55 (smC {s with now:=s.now+1} b nv rb jb gb db wb iv dv wv).toArray]) [] (Zra 0 8) ?_;refine ZY 8 ?_;refine Z1 (i:=8) ef ef ?_;refine  (Zcp Ze (Tick_S b s.b ps (s.now+1) hk.now hk.ws hk.o7 hW) ?_);refine Zk [9] ?_;refine Zy ?_;refine ZD ?_
   refine Zj ef (fun h5=>?_) (fun h5=>?_)
   ·rw[if_pos h5]at hstn;refine S.Qh nv (by omega) fun nb nof hna _ _ _=>?_;obtain⟨x0,hx0⟩:=Ya (show 0<L.length by omega);obtain⟨q0,hq0⟩:=ns_at hns hx0;have hsw:Wc L=L.set 0 {x0 with wrong:=true}:=setWrong_set hx0;obtain⟨m1,m2⟩:=ns_set hq0 {x0 with wrong:=true};rw[hns]at m2;refine ZY 5 ?_;refine Zv (Zx (0) ef (hna) ef (by omega)) ?_;refine Zv (Zo (nv) (0) ef (hna) (by rw[List.getElem?_map,hq0];rfl)) ?_;refine S.conv (alls ns noB) (Ent.X8 noB hq0 _) ?_;refine S.niOpen q0 x0 fun nrb niv nov rs os hN=>?_;refine ZY 4 ?_;refine S.Qy q0 {x0 with wrong:=true} nrb niv nov rs os ⟨hN.rk,hN.os,hN.i,hN.o⟩ ?_;refine S.Yq (noB ((q0,{x0 with wrong:=true}):No)) (alls (ns.take 0) noB) (alls (ns.drop (0+1)) noB) (Ent.Zt noB (x':=((q0,{x0 with wrong:=true}):No)) hq0 _) ?_;rw[←m1];refine S.sub (smX p s3 b ps nv (ns.set 0 (q0,{x0 with wrong:=true})) rb jb gb db wb iv dv wv (old W::Γ)) (e:=by subst hs3;infer_instance) ?_;refine S.Yt p s3 b ps nv (ns.set 0 (q0,{x0 with wrong:=true})) rb jb gb db wb iv dv wv ⟨by rw[hs3];show _=stNd s;rw[m2,hstn,hsw],by rw[hs3];show nv.n=(stNd s).length;omega,by rw[hs3];exact hF.im⟩ ?_;refine ZY 2 ?_;refine Zp (Zc1 Ze (take_S p s3 hk3) ?_);rintro v Θ rfl;refine Zy ?_;exact Zfn ef Zq (by rw[hT])
   ·rw[if_neg h5]at hstn;refine Zy ?_;refine S.sub (smX p s3 b ps nv ns rb jb gb db wb iv dv wv (old W::Γ)) (e:=by subst hs3;infer_instance) ?_;refine S.Yt p s3 b ps nv ns rb jb gb db wb iv dv wv ⟨by rw[hs3];show _=stNd s;rw[hns,hstn],by rw[hs3];show nv.n=(stNd s).length;omega,by rw[hs3];exact hF.im⟩ ?_;refine ZY 2 ?_;refine Zp (Zc1 Ze (take_S p s3 hk3) ?_);rintro v Θ rfl;refine Zy ?_;exact Zfn ef Zq (by rw[hT])
  ·obtain⟨x,hx,hxe⟩:∃x,jl[i42]?=some x∧((x.1:Int),Value.int .i64 (x.2:Int))=(z42,v42):=by
    rw[hleft,List.getElem?_map]at hi42;exact Option.map_eq_some_iff.1 hi42
   simp only[Prod.mk.injEq]at hxe;obtain⟨rfl,rfl⟩:=hxe;have hxm:=List.mem_of_getElem? hx;have hgx:=nGet_of_mem (k:=x.1) (v:=x.2) hcn (hsub x hxm);rw[hcg]at hgx
   obtain⟨hx0,hxc,hxk⟩:x.1≠0∧0<Uf L x.1∧Uf L x.1=x.2:=by
    split at hgx
    ·rename_i h;exact⟨h.1,h.2,Option.some.inj hgx⟩
    ·cases hgx
   have hlen2:(left.eraseIdx i42).length<fz:=by
    rw[hfz,List.length_eraseIdx_of_lt (by have:=(List.getElem?_eq_some_iff.1 hi42).1;exact this)];have:=(List.getElem?_eq_some_iff.1 hi42).1;omega
   have hle:(left.eraseIdx i42)=ncE (jl.eraseIdx i42):=by rw[hleft];exact(Y3 _ jl i42).symm
   have hsub2:∀y∈jl.eraseIdx i42,y∈CR:=fun y hy=>hsub y (List.mem_of_mem_eraseIdx hy);have hpe:=perm_erase hx;have hjn3:(x.1::keys (jl.eraseIdx i42)).Nodup:=(hpe.map Prod.fst).nodup_iff.1 hjn2;rw[List.nodup_cons]at hjn3;have hkm:∀id,id∈keys jl↔id=x.1∨id∈keys (jl.eraseIdx i42):=fun id=>((hpe.map Prod.fst).mem_iff).trans List.mem_cons;have hgo:g x.1=Xl x.1 s.ran:=by rw[hg,if_pos ((hkm _).2 (.inl rfl))]
   have hrn:=hk.rn x.1;refine ZY 8 ?_;refine Zv (q_entryR rfl) ?_;refine ZY 6 ?_
   rcases hj:jobOf s.jobs x.1 with _ | j
   ·have hhit:hit s L x.1=false:=by rw[hit,hj]
    refine ZY 7 ?_;refine Zv (Qg (.agg #[.int .u32 0,.int .u8 0,.int .i64 0,.int .i64 0,.int .u8 0,.int .i64 0]) Tryz.underlying49 Tryz.underlying31 Tryz.zv35.h rfl rfl rfl (by rw[jo_get,hj];rfl)) ?_;refine ZY 3 ?_
    refine Zj ef (fun h4=>?_) (fun h4=>?_)
    ·exact absurd h4 (by omega)
    ·have hhit:hit s L x.1=false:=by
      first
       | exact hhit
       | (rw[hit,hj];show ranB L j=false;rw[ranB,hjid,decide_eq_false (show ¬Uf L x.1=j.k by omega),Bool.and_false];rfl)
     have hg2:∀id,g id=if id∈keys (jl.eraseIdx i42) then Xl id s.ran else ranN s L id:=fun id=>by
      rw[hg]
      by_cases hi:id=x.1
      ·rw[if_pos ((hkm id).2 (.inl hi)),if_neg (by rw[hi];exact hjn3.1),ranN,hi,hhit];rfl
      ·by_cases h9:id∈keys (jl.eraseIdx i42)
       ·rw[if_pos h9,if_pos ((hkm id).2 (.inr h9))]
       ·rw[if_neg h9,if_neg (fun h=>by rcases (hkm id).1 h with h | h;exact hi h;exact h9 h)]
     refine Zy ?_;first | exact ZX (left.eraseIdx i42).length ⟨left.eraseIdx i42,some ((x.1:Int),Value.int .i64 (x.2:Int)),jl.eraseIdx i42,fun id=>if id=x.1 then g0+1 else g id,rfl,hle,hsub2,hjn3.2,hg2,rfl,rfl⟩ hlen2 | exact ZX (left.eraseIdx i42).length ⟨left.eraseIdx i42,some ((x.1:Int),Value.int .i64 (x.2:Int)),jl.eraseIdx i42,g,rfl,hle,hsub2,hjn3.2,hg2,rfl,rfl⟩ hlen2
   ·have hjid:j.id=x.1:=by have h9:=List.find?_some hj;exact of_decide_eq_true h9
    refine ZY 7 ?_;refine Zv (Qg (.agg (joC j).toArray) Tryz.underlying49 Tryz.underlying31 Tryz.zv35.h rfl rfl rfl (by rw[jo_get,hj];rfl)) ?_;refine ZY 3 ?_
    refine Zj ef (fun h4=>?_) (fun h4=>?_)
    ·have hhit:hit s L x.1=true:=by rw[hit,hj];simp only[ranB,hjid,Bool.and_eq_true,decide_eq_true_eq];exact⟨⟨hx0,by omega⟩,hxc⟩
     refine S.ranOpen rb g fun lst hlst=>?_;obtain⟨g0,hg0⟩:∃g0,g0=g x.1:=⟨_,rfl⟩;have hl0:=hlst x.1;rw[←hg0]at hl0 hgo;refine ZY 6 ?_;refine Zv (Qg (.int .i64 (g0:Int)) Tryz.underlying44 Tryz.underlying31 Tryz.zv3.h rfl rfl rfl (hl0.symm)) ?_;refine Zv (Za ef ef) ?_;refine Zp (S.mapUpdate Tryz.underlying44 Tryz.underlying31 rfl rfl rfl rfl ?_);refine Zy ?_
     refine S.conv (Qe rb .u32 (Qx (x.1:Int) (.int .i64 ((g0:Int)+1)) lst)) (Ent.ranClose (g:=fun id=>if id=x.1 then g0+1 else g id) (fun id=>by
      rw[alGet_putI]
      by_cases hi:id=x.1
      ·rw[if_pos (by omega),if_pos hi];show Value.int .i64 ((g0:Int)+1)=_;congr 1
      ·rw[if_neg (by omega),if_neg hi];exact hlst id) _) ?_
     have hg2:∀id,(fun id=>if id=x.1 then g0+1 else g id) id=if id∈keys (jl.eraseIdx i42) then Xl id s.ran else ranN s L id:=fun id=>by
      show (if id=x.1 then g0+1 else g id)=_
      by_cases hi:id=x.1
      ·rw[if_pos hi,if_neg (by rw[hi];exact hjn3.1),ranN,hi,hhit,hgo];rfl
      ·rw[if_neg hi,hg]
       by_cases h9:id∈keys (jl.eraseIdx i42)
       ·rw[if_pos h9,if_pos ((hkm id).2 (.inr h9))]
       ·rw[if_neg h9,if_neg (fun h=>by rcases (hkm id).1 h with h | h;exact hi h;exact h9 h)]
     first | exact ZX (left.eraseIdx i42).length ⟨left.eraseIdx i42,some ((x.1:Int),Value.int .i64 (x.2:Int)),jl.eraseIdx i42,fun id=>if id=x.1 then g0+1 else g id,rfl,hle,hsub2,hjn3.2,hg2,rfl,rfl⟩ hlen2 | exact ZX (left.eraseIdx i42).length ⟨left.eraseIdx i42,some ((x.1:Int),Value.int .i64 (x.2:Int)),jl.eraseIdx i42,g,rfl,hle,hsub2,hjn3.2,hg2,rfl,rfl⟩ hlen2
    ·have hhit:hit s L x.1=false:=by
      first
       | exact hhit
       | (rw[hit,hj];show ranB L j=false;rw[ranB,hjid,decide_eq_false (show ¬Uf L x.1=j.k by omega),Bool.and_false];rfl)
     have hg2:∀id,g id=if id∈keys (jl.eraseIdx i42) then Xl id s.ran else ranN s L id:=fun id=>by
      rw[hg]
      by_cases hi:id=x.1
      ·rw[if_pos ((hkm id).2 (.inl hi)),if_neg (by rw[hi];exact hjn3.1),ranN,hi,hhit];rfl
      ·by_cases h9:id∈keys (jl.eraseIdx i42)
       ·rw[if_pos h9,if_pos ((hkm id).2 (.inr h9))]
       ·rw[if_neg h9,if_neg (fun h=>by rcases (hkm id).1 h with h | h;exact hi h;exact h9 h)]
     refine Zy ?_;first | exact ZX (left.eraseIdx i42).length ⟨left.eraseIdx i42,some ((x.1:Int),Value.int .i64 (x.2:Int)),jl.eraseIdx i42,fun id=>if id=x.1 then g0+1 else g id,rfl,hle,hsub2,hjn3.2,hg2,rfl,rfl⟩ hlen2 | exact ZX (left.eraseIdx i42).length ⟨left.eraseIdx i42,some ((x.1:Int),Value.int .i64 (x.2:Int)),jl.eraseIdx i42,g,rfl,hle,hsub2,hjn3.2,hg2,rfl,rfl⟩ hlen2
theorem tkB_ok {s:Sm} (h:tkB s=true):TkOk s:=by
 simp only[tkB,Bool.and_eq_true,decide_eq_true_eq,List.all_eq_true]at h;obtain⟨⟨⟨⟨⟨⟨⟨h1,h2⟩,h3⟩,h4⟩,h5⟩,h6⟩,h7⟩,h8⟩:=h;exact⟨h1,h2,h3,h4,h5,h6,h7,h8⟩
theorem nLook_le {l:List (Nat×Nat)} {k:Nat} (h:∀x∈l,x.2≤k) (id:Nat):Xl id l≤k:=by
 unfold Xl;cases hg:Zh id l with
 | none=>exact Nat.zero_le _
 | some v=>exact h _ (nGet_mem hg)
theorem stB_ok {s:Sm} (h:stB s=true):StOk s:=by
 simp only[stB,Bool.and_eq_true,decide_eq_true_eq]at h;obtain⟨⟨⟨⟨⟨⟨⟨h1,h2⟩,h3⟩,h4⟩,h5⟩,h6⟩,h7⟩,h8⟩:=h;refine⟨tkB_ok h1,h2,h3,h4,fun x hx h0=>?_,h6,h7,fun id=>nLook_le (fun x hx=>of_decide_eq_true (List.all_eq_true.1 h8 x hx)) id⟩;have:=List.all_eq_true.1 h5 x hx;rw[Bool.or_eq_true,decide_eq_true_eq]at this
 rcases this with h9 | h9
 ·exact absurd h0 h9
 ·exact Option.isNone_iff_eq_none.1 h9
section
variable {s:Sm} {i:Nat} {n:Nd}
theorem dv_down {back:Bool} (h:s.nd[i]?=some n) (hu:n.up=false):Q1 s i back=(false,s):=by rw[Q1,h];dsimp only;rw[if_pos hu]
theorem dv_back0 (h:s.nd[i]?=some n) (ho:n.out=[]):Q1 s i true=(false,s):=by
 rw[Q1,h];dsimp only;rw[ho];split <;> rfl
theorem dv_back {x:Nt×List Int} {l:List (Nt×List Int)} (h:s.nd[i]?=some n) (hu:¬n.up=false) (ho:n.out=x::l):Q1 s i true=(true,Ww {hear1 s i n x l with ok:=s.ok&&ntB x&&tkB s&&decide (s.b.orders.length≤800000)&&decide (s.b.images.length≤800000)&&tkB (hear1 s i n x l)}):=by rw[Q1,h];dsimp only;rw[if_neg hu,if_pos rfl,ho]
theorem dv_in0 (h:s.nd[i]?=some n) (ho:n.inn=[]):Q1 s i false=(false,s):=by
 rw[Q1,h];dsimp only;rw[ho];split <;> rfl
theorem dv_in {x:Nt} {l:List Nt} (h:s.nd[i]?=some n) (hu:¬n.up=false) (ho:n.inn=x::l):Q1 s i false=(true,{act1 s i n x l with ok:=s.ok&&amB n.rk&&tkB s}):=by rw[Q1,h];dsimp only;rw[if_neg hu,if_neg (by decide),ho]
end
theorem TkOk.withOk {s:Sm} (h:TkOk s) (o:Bool):TkOk {s with ok:=o}:=⟨h.len,h.n1,h.q,h.im,h.fu,h.o,h.i,h.d⟩
theorem Ua (s:Sm):(Ww s).ok=s.ok:=rfl
set_option maxHeartbeats 8000000 in
theorem deliver_S (p:Nat) (s:Sm) (i:Nat) (back:Bool) (hi:i<s.nd.length) (hok:(Q1 s i back).2.ok=true):Spec Tryz.prog 57 [pt p,.int .i64 (i:Int),.bool back] [SP p s] fun Γ v Θ=>v=.bool (Q1 s i back).1∧Θ=SP p (Q1 s i back).2::Γ:=by
 obtain⟨n,hn⟩:=Ya hi;refine Zbd Tryz.func57 rfl Tryz.ntmps57 fun w0 Γ=>Zsh ?_;refine S.spOpen p s fun b ps nv ns rb jb gb db wb iv dv wv hF=>?_;have hnn:=hF.nn;refine S.Qh nv (by omega) fun nb nof hna _ _ _=>?_;obtain⟨q,hq⟩:=ns_at hF.nd hn;refine S.conv (alls ns noB) (Ent.X8 noB hq _) ?_;refine S.niOpen q n fun nrb niv nov rs os hN=>?_;have hNi:=hN.i;have hNo:=hN.o;refine ZY 5 ?_
 cases back
 ·skip
  refine ZY 6 ?_;refine Zv (Zx (i) ef (hna) ef (by omega)) ?_;refine Zv (Zo (nv) (i) ef (hna) (by rw[List.getElem?_map,hq];rfl)) ?_;refine ZY 8 ?_;refine ZY 3 ?_
  refine Zi ef (fun h1=>?_) (fun h1=>?_)
  ·have hd:=dv_down (back:=false) hn (by simpa using h1);refine ZY 5 ?_;refine S.Qy q n nrb niv nov rs os hN ?_;refine S.Yq (noB ((q,n):No)) (alls (ns.take i) noB) (alls (ns.drop (i+1)) noB) (Ent.Y6 noB hq _) ?_;refine S.Yt p s b ps nv ns rb jb gb db wb iv dv wv hF ?_;exact Zf ef Zq (⟨by rw[hd];rfl,by rw[hd]⟩)
  ·have hup:¬n.up=false:=by simpa using h1
   refine ZY 8 ?_;refine ZY 8 ?_;refine ZY 8 ?_;refine ZY 6 ?_
   refine Zj ef (fun h3=>?_) (fun h3=>?_)
   ·obtain⟨x,l,hxl⟩:∃x l,n.inn=x::l:=by
     cases ho:n.inn with
     | nil=>exfalso;rw[ho,List.length_nil]at hNi;omega
     | cons x l=>exact⟨x,l,rfl⟩
    have hd:=dv_in hn hup hxl;rw[hd]at hok ⊢;simp only[Bool.and_eq_true]at hok;obtain⟨⟨k1,k2⟩,k3⟩:=hok;have hk:=tkB_ok k3;have hko:=(hk.q n (List.mem_of_getElem? hn)).2;have hkf:=hk.fu;have hlo:1≤niv.n:=by rw[hxl,List.length_cons]at hNi;omega
    refine S.conv (own niv 72 13 (n.inn.flatMap niC)) (show Ent _ (own niv 72 13 ((x::l).flatMap niC)::_) by rw[hxl];exact Ent.refl _) ?_;refine S.Qh niv (by omega) fun ob oof hoa _ _ _=>?_;obtain⟨s3,hs3⟩:∃s3:Sm,s3={act1 s i n x l with ok:=s.ok&&amB n.rk&&tkB s}:=⟨_,rfl⟩;rw[←hs3];obtain⟨m1,m2⟩:=ns_set hq (Qt {n with inn:=l} x);rw[hF.nd]at m2;refine ZY 6 ?_;refine Zv (Zx (0) ef (hoa) ef (by omega)) ?_;refine Zv (Xg (niv) (0*13) [_,_,_,_,_,_,_,_,_,_,_,_,_] Eo.h rfl hoa (by first | rfl | exact Nat.add_assoc _ _ _ | omega) rfl (Yh (enc:=niC) (sz:=13) (fun _=>rfl) (show (x::l)[0]?=some x from rfl))) ?_;refine Zp (S.alloc Tryz.z72.h rfl ?_);intro b9;refine Zp (Zs ef ef (cs':=[_,_,_,_,_,_,_,_,_,_,_,_,_]) ef ?_);refine ZY 8 ?_;refine Zp (S.sliceDrop (s:=niv) (1) Eo.h rfl rfl rfl (hlo) rfl ?_);intro niv2 hniv2;rw[show ((x::l).flatMap niC).drop (1*13)=l.flatMap niC from List.drop_left' rfl];refine ZY 8 ?_;refine S.Qy q {n with inn:=l} nrb niv2 nov rs os ⟨hN.rk,hN.os,by rw[hxl,List.length_cons]at hNi;show niv2.n=l.length;omega,hN.o⟩ ?_;refine Zp (Zc1 Ze (act_S q {n with inn:=l} x k2 (by show n.out.length≤_;omega)) ?_);rintro v Θ rfl;refine ZY 3 ?_;refine S.Yq (NI q (Qt {n with inn:=l} x)) (alls (ns.take i) noB) (alls (ns.drop (i+1)) noB) (Ent.Zt noB (x':=((q,Qt {n with inn:=l} x):No)) hq _) ?_;rw[←m1];refine S.conv (Vy dv s.fu) (Ent.lstLe dv (k':=s.fu+1) (by omega) _) ?_;refine S.conv (Vy wv s.fu) (Ent.lstLe wv (k':=s.fu+1) (by omega) _) ?_;refine S.sub (smX p s3 b ps nv (ns.set i (q,Qt {n with inn:=l} x)) rb jb gb db wb iv dv wv Γ) (e:=by subst hs3;infer_instance) ?_;refine S.Yt p s3 b ps nv (ns.set i (q,Qt {n with inn:=l} x)) rb jb gb db wb iv dv wv ⟨by rw[hs3];exact m2,by rw[hs3];show nv.n=(s.nd.set i _).length;rw[List.length_set];exact hnn,by rw[hs3];exact hF.im⟩ ?_;refine ZY 3 ?_;exact Zf ef Zq (⟨rfl,rfl⟩)
   ·have hd:=dv_in0 hn (show n.inn=[] from List.eq_nil_of_length_eq_zero (by omega));refine ZY 6 ?_;refine S.Qy q n nrb niv nov rs os hN ?_;refine S.Yq (noB ((q,n):No)) (alls (ns.take i) noB) (alls (ns.drop (i+1)) noB) (Ent.Y6 noB hq _) ?_;refine S.Yt p s b ps nv ns rb jb gb db wb iv dv wv hF ?_;exact Zf ef Zq (⟨by rw[hd];rfl,by rw[hd]⟩)
 ·skip
  refine ZY 6 ?_;refine Zv (Zx (i) ef (hna) ef (by omega)) ?_;refine Zv (Zo (nv) (i) ef (hna) (by rw[List.getElem?_map,hq];rfl)) ?_;refine ZY 8 ?_;refine ZY 3 ?_
  refine Zi ef (fun h1=>?_) (fun h1=>?_)
  ·have hd:=dv_down (back:=true) hn (by simpa using h1);refine ZY 5 ?_;refine S.Qy q n nrb niv nov rs os hN ?_;refine S.Yq (noB ((q,n):No)) (alls (ns.take i) noB) (alls (ns.drop (i+1)) noB) (Ent.Y6 noB hq _) ?_;refine S.Yt p s b ps nv ns rb jb gb db wb iv dv wv hF ?_;exact Zf ef Zq (⟨by rw[hd];rfl,by rw[hd]⟩)
  ·have hup:¬n.up=false:=by simpa using h1
   refine ZY 8 ?_;refine ZY 6 ?_
   refine Zj ef (fun h2=>?_) (fun h2=>?_)
   ·obtain⟨x,l,hxl⟩:∃x l,n.out=x::l:=by
     cases ho:n.out with
     | nil=>exfalso;rw[ho,List.length_nil]at hNo;omega
     | cons x l=>exact⟨x,l,rfl⟩
    obtain⟨o,os2,rfl⟩:∃o os2,os=o::os2:=by
     cases ho:os with
     | nil=>have:=hN.os;rw[ho,hxl]at this;cases this
     | cons o os2=>exact⟨o,os2,rfl⟩
    have hoo:=hN.os;rw[hxl,List.map_cons,List.cons.injEq]at hoo;obtain⟨rfl,rfl⟩:=hoo;have hd:=dv_back hn hup hxl;rw[hd]at hok ⊢;rw[Ua]at hok;simp only[Bool.and_eq_true,decide_eq_true_eq]at hok;obtain⟨⟨⟨⟨⟨k1,k2⟩,k3⟩,k4⟩,k5⟩,k6⟩:=hok;have k2':=k2;simp only[ntB,Bool.and_eq_true,decide_eq_true_eq]at k2';obtain⟨⟨⟨e1,e2⟩,e3⟩,e4⟩:=k2';have hlo:1≤nov.n:=by rw[hxl,List.length_cons]at hNo;omega
    refine S.Qh nov (by omega) fun ob oof hoa _ _ _=>?_;refine S.conv (alls (o::os2) otB) (Ent.allsUncons otB o os2 _) ?_;refine S.Zz o.v fun hov1 hov2 hov3=>?_;rw[bcells_length,Nat.mul_one,Nat.mul_one]at hov1;obtain⟨s3,hs3⟩:∃s3:Sm,s3={hear1 s i n (otR o) (os2.map otR) with ok:=s.ok&&ntB (otR o)&&tkB s&&decide (s.b.orders.length≤800000)&&decide (s.b.images.length≤800000)&&tkB (hear1 s i n (otR o) (os2.map otR))}:=⟨_,rfl⟩;have hk3:TkOk s3:=by rw[hs3];exact(tkB_ok (s:=hear1 s i n (otR o) (os2.map otR)) k6).withOk _
    rw[←hs3];obtain⟨m1,m2⟩:=ns_set hq {n with out:=os2.map otR};rw[hF.nd]at m2;refine ZY 6 ?_;refine Zv (Zx (0) ef (hoa) ef (by omega)) ?_;refine Zv (Xg (nov) (0*13) [_,_,_,_,_,_,_,_,_,_,_,_,_] Eo.h rfl hoa (by first | rfl | exact Nat.add_assoc _ _ _ | omega) rfl (Yh (enc:=otC) (sz:=13) (fun _=>rfl) (show (o::os2)[0]?=some o from rfl))) ?_;refine Zp (S.alloc Tryz.z72.h rfl ?_);intro b8;refine Zp (Zs ef ef (cs':=[_,_,_,_,_,_,_,_,_,_,_,_,_]) ef ?_);refine ZY 8 ?_;refine Zp (S.sliceDrop (s:=nov) (1) Eo.h rfl rfl rfl (hlo) rfl ?_);intro nov2 hnov2;rw[show ((o::os2).flatMap otC).drop (1*13)=os2.flatMap otC from List.drop_left' (otC_len o)];refine ZY 5 ?_;refine Zd ([blk p 55 (smC s b nv rb jb gb db wb iv dv wv).toArray,blk b8 72 (otC o).toArray]) [] (Zra 0 6) ?_;refine ZY 6 ?_;refine Z1 (i:=6) ef ef ?_;refine  (Zcp Ze (Hear_S b s.b ps i o.x (otB o) o.v o.bs hov1.symm e4 RdS.own ⟨e2,e3⟩ e1 (by omega) (by omega)) ?_);refine Zk [] ?_;refine ZD ?_;refine ZY 3 ?_;refine S.Qy q {n with out:=os2.map otR} nrb niv nov2 rs os2 ⟨hN.rk,rfl,hN.i,by rw[hxl,List.length_cons]at hNo;show nov2.n=(os2.map otR).length;omega⟩ ?_;refine S.Yq (noB ((q,{n with out:=os2.map otR}):No)) (alls (ns.take i) noB) (alls (ns.drop (i+1)) noB) (Ent.Zt noB (x':=((q,{n with out:=os2.map otR}):No)) hq _) ?_;rw[←m1];refine S.sub (smX p s3 b ps nv (ns.set i (q,{n with out:=os2.map otR})) rb jb gb db wb iv dv wv Γ) (e:=by subst hs3;infer_instance) ?_;refine S.Yt p s3 b ps nv (ns.set i (q,{n with out:=os2.map otR})) rb jb gb db wb iv dv wv ⟨by rw[hs3];exact m2,by rw[hs3];show nv.n=(s.nd.set i _).length;rw[List.length_set];exact hnn,by rw[hs3];exact hF.im⟩ ?_;refine Zp (Zc1 Ze (take_S p s3 hk3) ?_);rintro v Θ rfl;refine ZY 6 ?_;exact Zf ef Zq (⟨rfl,rfl⟩)
   ·have hd:=dv_back0 hn (show n.out=[] from List.eq_nil_of_length_eq_zero (by omega));refine ZY 8 ?_;refine ZY 8 ?_;refine ZY 6 ?_;refine S.Qy q n nrb niv nov rs os hN ?_;refine S.Yq (noB ((q,n):No)) (alls (ns.take i) noB) (alls (ns.drop (i+1)) noB) (Ent.Y6 noB hq _) ?_;refine S.Yt p s b ps nv ns rb jb gb db wb iv dv wv hF ?_;exact Zf ef Zq (⟨by rw[hd];rfl,by rw[hd]⟩)
theorem pb_nil {s:Sm} {ok:Bool} (h:s.images=[]):Z3 s ok=(false,s):=by rw[Z3,h]
theorem pb_cons {s:Sm} {ok:Bool} {x:Im} {l:List Im} (h:s.images=x::l):Z3 s ok=(true,Ww {pub1 s x l ok with ok:=s.ok&&tkB s&&decide (s.b.orders.length≤800000)&&decide (s.b.done.length≤800000)&&tkB (pub1 s x l ok)}):=by rw[Z3,h]
set_option maxHeartbeats 4000000 in
theorem publish_S (p:Nat) (s:Sm) (ok:Bool) (hok:(Z3 s ok).2.ok=true):Spec Tryz.prog 58 [pt p,.bool ok] [SP p s] fun Γ v Θ=>v=.bool (Z3 s ok).1∧Θ=SP p (Z3 s ok).2::Γ:=by
 refine Zbd Tryz.func58 rfl Tryz.ntmps58 fun w0 Γ=>Zsh ?_;refine S.spOpen p s fun b ps nv ns rb jb gb db wb iv dv wv hF=>?_;have him:=hF.im;refine ZY 8 ?_;refine ZY 6 ?_
 refine Zj ef (fun h1=>?_) (fun h1=>?_)
 ·have hd:=pb_nil (ok:=ok) (show s.images=[] from List.eq_nil_of_length_eq_zero (by omega));refine ZY 5 ?_;refine S.Yt p s b ps nv ns rb jb gb db wb iv dv wv hF ?_;exact Zf ef Zq (⟨by rw[hd];rfl,by rw[hd]⟩)
 ·obtain⟨x,l,hxl⟩:∃x l,s.images=x::l:=by
   cases ho:s.images with
   | nil=>exfalso;rw[ho,List.length_nil]at him;omega
   | cons x l=>exact⟨x,l,rfl⟩
  have hd:=pb_cons (ok:=ok) hxl;rw[hd]at hok;rw[Ua]at hok;simp only[Bool.and_eq_true,decide_eq_true_eq]at hok;obtain⟨⟨⟨⟨k1,k2⟩,k3⟩,k4⟩,k5⟩:=hok;obtain⟨s3,hs3⟩:∃s3:Sm,s3={pub1 s x l ok with ok:=s.ok&&tkB s&&decide (s.b.orders.length≤800000)&&decide (s.b.done.length≤800000)&&tkB (pub1 s x l ok)}:=⟨_,rfl⟩;have hk3:TkOk s3:=by rw[hs3];exact(tkB_ok (s:=pub1 s x l ok) k5).withOk _
  rw[←hs3]at hd;refine S.imgsOpen iv s.images fun io hio=>?_
  obtain⟨o,io2,rfl⟩:∃o io2,io=o::io2:=by
   cases ho:io with
   | nil=>rw[ho,hxl]at hio;cases hio
   | cons o io2=>exact⟨o,io2,rfl⟩
  rw[hxl,List.map_cons,List.cons.injEq]at hio;obtain⟨rfl,rfl⟩:=hio;have hlo:1≤iv.n:=by rw[hxl,List.length_cons]at him;omega
  refine S.Qh iv (by omega) fun ob oof hoa _ _ _=>?_;refine ZY 7 ?_;refine Zv (Zx (0) ef (hoa) ef (by omega)) ?_;refine Zv (Xg (iv) (0*4) [_,_,_,_] Eo.h rfl hoa (by first | rfl | exact Nat.add_assoc _ _ _ | omega) rfl (Yh (enc:=igC) (sz:=4) (fun _=>rfl) (show (o::io2)[0]?=some o from rfl))) ?_;refine Zp (S.alloc Tryz.z60.h rfl ?_);intro b5;refine Zp (Zs ef ef (cs':=[_,_,_,_]) ef ?_);refine ZY 8 ?_;refine Zp (S.sliceDrop (s:=iv) (1) Eo.h rfl rfl rfl (hlo) rfl ?_);intro iv2 hiv2;rw[show ((o::io2).flatMap igC).drop (1*4)=io2.flatMap igC from List.drop_left' rfl];refine ZY 5 ?_;refine Zd ([blk p 55 (smC s b nv rb jb gb db wb iv2 dv wv).toArray,blk b5 60 (igC o).toArray]) [] (Zra 0 9) ?_;refine ZY 8 ?_;refine Zy ?_;refine Z1 (i:=9) ef ef ?_;refine  (Zcp Ze (Published_S b s.b ps o.2.job o.2.ver ok (by omega) (by omega)) ?_);refine Zk [] ?_;refine ZD ?_;refine ZY 3 ?_;refine S.conv (alls (o::io2) igB) ((Ent.allsUncons igB o io2 _).trans (Ent.drop _ _)) ?_;refine S.Xf (own iv2 60 4 (io2.flatMap igC)) (alls io2 igB) (Ent.toImgs iv2 io2 _) ?_;refine S.sub (smX p s3 b ps nv ns rb jb gb db wb iv2 dv wv Γ) (e:=by subst hs3;infer_instance) ?_;refine S.Yt p s3 b ps nv ns rb jb gb db wb iv2 dv wv ⟨by rw[hs3];exact hF.nd,by rw[hs3];exact hF.nn,by rw[hs3];rw[hxl,List.length_cons]at him;show iv2.n=(io2.map _).length;omega⟩ ?_;refine Zp (Zc1 Ze (take_S p s3 hk3) ?_);rintro v Θ rfl;refine ZY 6 ?_;exact Zf ef Zq (⟨by rw[hd];rfl,by rw[hd]⟩)
theorem deliver_ok {s:Sm} {i:Nat} {back:Bool} (h:(Q1 s i back).2.ok=true):s.ok=true:=by
 cases hn:s.nd[i]? with
 | none=>rw[Q1,hn]at h;exact h
 | some n=>
  by_cases hu:n.up=false
  ·rw[dv_down hn hu]at h;exact h
  ·cases back with
   | true=>
    cases ho:n.out with
    | nil=>rw[dv_back0 hn ho]at h;exact h
    | cons x l=>
     rw[dv_back hn hu ho,Ua]at h;simp only[Bool.and_eq_true]at h;exact h.1.1.1.1.1
   | false=>
    cases ho:n.inn with
    | nil=>rw[dv_in0 hn ho]at h;exact h
    | cons x l=>
     rw[dv_in hn hu ho]at h;simp only[Bool.and_eq_true]at h;exact h.1.1
theorem publish_ok {s:Sm} {o:Bool} (h:(Z3 s o).2.ok=true):s.ok=true:=by
 cases hi:s.images with
 | nil=>rw[pb_nil hi]at h;exact h
 | cons x l=>
  rw[pb_cons hi,Ua]at h;simp only[Bool.and_eq_true]at h;exact h.1.1.1.1
theorem roundUp_ok {s:Sm} {o:Bool}:∀ {i:Nat},(roundUp s o i).2.ok=true→s.ok=true
 | 0,h=>h
 | _+1,h=>roundUp_ok (deliver_ok (deliver_ok h))
theorem calmUp_ok:∀ {k:Nat} {s:Sm},(calmUp s k).ok=true→s.ok=true
 | 0,_,h=>h
 | k+1,s,h=>by
  simp only[calmUp]at h
  split at h
  ·exact publish_ok (roundUp_ok (calmUp_ok h))
  ·exact publish_ok (roundUp_ok h)
theorem stick_ok {s:Sm} (h:(stickR s).ok=true):s.ok=true∧stB s=true:=by
 rw[stickR_eq,Ua]at h
 simpa only [Bool.and_eq_true] using h
theorem takeR_len (s:Sm):(Ww s).nd.length=s.nd.length:=by
 show (List.foldl doneR (V3 s.nd s.b.orders,s.done) s.b.done).1.length=_;rw[donesR_len,ordsR_len]
theorem deliver_len (s:Sm) (i:Nat) (back:Bool):(Q1 s i back).2.nd.length=s.nd.length:=by
 cases hn:s.nd[i]? with
 | none=>rw[Q1,hn]
 | some n=>
  by_cases hu:n.up=false
  ·rw[dv_down hn hu]
  ·cases back with
   | true=>
    cases ho:n.out with
    | nil=>rw[dv_back0 hn ho]
    | cons x l=>rw[dv_back hn hu ho,takeR_len];exact List.length_set
   | false=>
    cases ho:n.inn with
    | nil=>rw[dv_in0 hn ho]
    | cons x l=>rw[dv_in hn hu ho];exact List.length_set
theorem roundUp_len (s:Sm) (o:Bool):∀i,(roundUp s o i).2.nd.length=s.nd.length
 | 0=>rfl
 | i+1=>by
  show (Q1 (Q1 (roundUp s o i).2 i false).2 i true).2.nd.length=_;rw[deliver_len,deliver_len,roundUp_len s o i]
theorem roundUp_le {s:Sm} {o:Bool} {i:Nat}:∀ {k:Nat},(roundUp s o (i+k)).2.ok=true→(roundUp s o i).2.ok=true
 | 0,h=>h
 | k+1,h=>roundUp_le (k:=k) (deliver_ok (deliver_ok h))
theorem calmUp_succ (s:Sm) (k:Nat):calmUp s (k+1)=if (roundUp (Z3 s true).2 (Z3 s true).1 (Z3 s true).2.nd.length).1 then calmUp (roundUp (Z3 s true).2 (Z3 s true).1 (Z3 s true).2.nd.length).2 k else (roundUp (Z3 s true).2 (Z3 s true).1 (Z3 s true).2.nd.length).2:=rfl
set_option maxHeartbeats 4000000 in
theorem calm_S (p:Nat) (s:Sm) (hok:(calmR s).ok=true) {W:World} (hW:TabW W):Spec Tryz.prog 28 [pt p] [SP p s,old W] fun Γ _ Θ=>Θ=SP p (calmR s)::old W::Γ:=by
 obtain⟨k1,k2⟩:=stick_ok (calmUp_ok hok);obtain⟨T,hT⟩:∃T,T=calmR s:=⟨_,rfl⟩;rw[←hT]at hok ⊢;refine Zbd Tryz.func28 rfl Tryz.ntmps28 fun w0 Γ=>Zsh ?_;obtain⟨s0,hs0⟩:∃s0,s0=stickR s:=⟨_,rfl⟩;refine ZY 3 ?_;refine Zp (Zc1 Ze (stick_S p s (stB_ok k2) hW) ?_);rintro v Θ rfl;rw[←hs0];refine ZY 6 ?_;refine Zl (fun fz ρ' Γ'=>∃(k:Nat) (t:Sm),fz=3000-k∧k≤3000∧calmUp t fz=T∧ρ'=[(0,pt p),(2,.int .i64 (k:Int))]∧Γ'=SP p t::old W::Γ) (m:=_) (⟨0,s0,rfl,by omega,by rw[hs0];exact hT.symm,rfl,rfl⟩) ?_;rintro fz ρ' Γ' ⟨k,t,hfz,hk,ht,rfl,rfl⟩;refine ZY 6 ?_
 refine Zj ef (fun h1=>?_) (fun h1=>?_)
 ·obtain⟨fy,rfl⟩:∃fy,fz=fy+1:=⟨fz-1,by omega⟩;rw[calmUp_succ]at ht;obtain⟨t1,ht1⟩:∃t1,t1=Z3 t true:=⟨_,rfl⟩;rw[←ht1]at ht
  have hro:(roundUp t1.2 t1.1 t1.2.nd.length).2.ok=true:=by
   split at ht
   ·rw[←ht]at hok;exact calmUp_ok hok
   ·rw[←ht]at hok;exact hok
  have hpo:(Z3 t true).2.ok=true:=by rw[←ht1];exact roundUp_ok hro
  refine ZY 6 ?_;refine Zp (Zcp Ze (publish_S p t true hpo) ?_);rw[←ht1];refine S.spOpen p t1.2 fun b ps nv ns rb jb gb db wb iv dv wv hF=>?_;have hnn:=hF.nn;refine S.Zz nv fun hv1 hv2 hv3=>?_;rw[List.length_map]at hv1;have hmx:maxLen≤9223372036854775807:=by unfold maxLen;omega
  refine ZY 8 ?_;refine ZY 2 ?_;refine S.Yt p t1.2 b ps nv ns rb jb gb db wb iv dv wv hF ?_;refine ZY 3 ?_;refine Zl (fun fy2 ρ' Γ'=>∃(i:Nat) (r:Bool×Sm),fy2=t1.2.nd.length-i∧i≤t1.2.nd.length∧r=roundUp t1.2 t1.1 i∧ρ'=[(0,pt p),(2,.int .i64 (k:Int)),(3,.bool r.1),(17,.int .i64 (nv.n:Int)),(18,.int .i64 (i:Int))]∧Γ'=SP p r.2::old W::Γ) (m:=_) (⟨0,t1,rfl,by omega,rfl,rfl,rfl⟩) ?_;rintro fy2 ρ' Γ' ⟨i,r,hfy2,hi,hr,rfl,rfl⟩;refine ZY 5 ?_
  refine Zj ef (fun h2=>?_) (fun h2=>?_)
  ·have hr1:roundUp t1.2 t1.1 (i+1)=((Q1 (Q1 r.2 i false).2 i true).1 || (Q1 r.2 i false).1 || r.1,(Q1 (Q1 r.2 i false).2 i true).2):=by rw[hr];rfl
   have hro1:(roundUp t1.2 t1.1 (i+1)).2.ok=true:=roundUp_le (k:=t1.2.nd.length-(i+1)) (by rw[Nat.add_sub_cancel' (by omega)];exact hro);have hil:i<r.2.nd.length:=by rw[hr,roundUp_len];omega
   obtain⟨q1,hq1⟩:∃q1,q1=Q1 r.2 i false:=⟨_,rfl⟩;rw[←hq1]at hr1;obtain⟨q2,hq2⟩:∃q2,q2=Q1 q1.2 i true:=⟨_,rfl⟩;rw[←hq2]at hr1;have hq2o:q2.2.ok=true:=by rw[hr1]at hro1;exact hro1
   have hq1o:q1.2.ok=true:=by rw[hq2]at hq2o;exact deliver_ok hq2o
   have hil1:i<q1.2.nd.length:=by rw[hq1,deliver_len];exact hil
   obtain⟨sm,hsm⟩:∃sm,sm=(q1.1 || r.1):=⟨_,rfl⟩;obtain⟨sm2,hsm2⟩:∃sm2,sm2=(q2.1 || sm):=⟨_,rfl⟩;rw[Bool.or_assoc,←hsm,←hsm2]at hr1;refine ZY 2 ?_
   refine Zc (fun ρ' Γ'=>ρ'=[(0,pt p),(2,.int .i64 (k:Int)),(3,.bool sm2),(17,.int .i64 (nv.n:Int)),(18,.int .i64 (i:Int))]∧Γ'=SP p q2.2::old W::Γ) ?_ ?_
   ·refine ZY 7 ?_
    refine Zc (fun ρ' Γ'=>ρ'=[(0,pt p),(2,.int .i64 (k:Int)),(3,.bool sm),(4,.int .i64 (i:Int)),(17,.int .i64 (nv.n:Int)),(18,.int .i64 (i:Int))]∧Γ'=SP p q1.2::old W::Γ) ?_ ?_
    ·refine ZY 3 ?_;refine Zp (Zcp Ze (deliver_S p r.2 i false hil (by rw[←hq1];exact hq1o)) ?_);rw[←hq1];refine Zy ?_
     refine Zbb 24 ef (fun hg8_3=>?_) (fun hg8_3=>?_)
     ·refine ZY 4 ?_;rw[hsm,hg8_3];exact ZM ⟨rfl,rfl⟩
     ·refine ZY 4 ?_;rw[hsm,hg8_3];exact ZM ⟨rfl,rfl⟩
    ·rintro ρ' Γ' ⟨rfl,rfl⟩;refine ZY 3 ?_;refine Zp (Zcp Ze (deliver_S p q1.2 i true hil1 (by rw[←hq2];exact hq2o)) ?_);rw[←hq2];refine Zy ?_
     refine Zbb 30 ef (fun hg9_3=>?_) (fun hg9_3=>?_)
     ·refine ZY 4 ?_;rw[hsm2,hg9_3];exact ZM ⟨rfl,rfl⟩
     ·refine ZY 4 ?_;rw[hsm2,hg9_3];exact ZM ⟨rfl,rfl⟩
   ·rintro ρ' Γ' ⟨rfl,rfl⟩;refine Zy ?_;refine Zv (Za ef ef) ?_;refine ZY 2 ?_;exact ZX (fy2-1) (⟨i+1,(sm2,q2.2),by omega,by omega,hr1.symm,rfl,rfl⟩) (by omega)
  ·rw[show i=t1.2.nd.length by omega]at hr;rw[←hr]at ht;refine ZY 6 ?_
   refine Zi ef (fun h3=>?_) (fun h3=>?_)
   ·rw[show r.1=false by simpa using h3]at ht;rw[if_neg (by decide)]at ht;refine Zy ?_;exact Zf ef Zq (by rw[←ht])
   ·rw[show r.1=true by simpa using h3,if_pos rfl]at ht;refine ZY 3 ?_;refine Zv (Za ef ef) ?_;refine ZY 2 ?_;exact ZX (fy) (⟨k+1,r.2,by omega,by omega,ht,rfl,rfl⟩) (by omega)
 ·obtain rfl:fz=0:=by omega
  replace ht:t=T:=ht;refine Zy ?_;exact Zfn ef Zq (by rw[←ht])
theorem config_S (n r q g:Nat) (hn:n≤255) (hr:r≤255) (hq:q≤255) (hg:g≤255):Spec Tryz.prog 10 [.int .u8 (n:Int),.int .u8 (r:Int),.int .u8 (q:Int),.int .u8 (g:Int)] [] fun Γ v Θ=>v=.agg #[.int .i64 ((1+n % 6:Nat):Int),.int .i64 ((1+r % 4:Nat):Int),.int .i64 ((1+q % 6:Nat):Int),.int .i64 ((1+g % 9:Nat):Int)]∧Θ=Γ:=by
 refine Zbd Tryz.func10 rfl Tryz.ntmps10 fun w0 Γ=>Zsh ?_;refine ZY 2 ?_;refine Zp (S.alloc Tryz.z25.h rfl ?_);intro b8;refine ZY 4 ?_;refine Zv (q_rem rfl rfl (⟨by omega,by omega⟩)) ?_;refine Zv (Xa Tryz.it3.h (by rw[Tryz.underlying5];rfl) rfl (Yd (by omega) (by omega))) ?_;refine Zv (Za ef ef) ?_;refine Zy ?_;refine Zv (q_rem rfl rfl (⟨by omega,by omega⟩)) ?_;refine Zv (Xa Tryz.it3.h (by rw[Tryz.underlying5];rfl) rfl (Yd (by omega) (by omega))) ?_;refine Zv (Za ef ef) ?_;refine Zy ?_;refine Zv (q_rem rfl rfl (⟨by omega,by omega⟩)) ?_;refine Zv (Xa Tryz.it3.h (by rw[Tryz.underlying5];rfl) rfl (Yd (by omega) (by omega))) ?_;refine Zv (Za ef ef) ?_;refine Zy ?_;refine Zv (q_rem rfl rfl (⟨by omega,by omega⟩)) ?_;refine Zv (Xa Tryz.it3.h (by rw[Tryz.underlying5];rfl) rfl (Yd (by omega) (by omega))) ?_;refine Zv (Za ef ef) ?_;refine Zv (Qm (pvs:=[(_,_),(_,_),(_,_),(_,_)]) [_,_,_,_] Tryz.z25.h Tryz.p25.h ⟨⟨rfl,rfl⟩,⟨rfl,rfl⟩,⟨rfl,rfl⟩,⟨rfl,rfl⟩,trivial⟩ rfl) ?_;refine Zp (Zs ef ef (cs':=[_,_,_,_]) ef ?_);refine ZY 2 ?_;exact Zf ef Zq (⟨rfl,rfl⟩)
abbrev nd0:Nd:=⟨true,[],[],[],false⟩
theorem ran0 (b:Nat) (Γ:List Assn):Ent (Qe b .u32 []::Γ) (ranM b []::Γ):=Ent.X7 Γ fun _ s=>⟨[],fun _=>rfl,s⟩
theorem lst0 (k:Nat) (Γ:List Assn):Ent Γ (Vy SV.nil k::Γ):=(show Ent Γ (own SV.nil 31 1 (Qq [])::Γ) from Ent.Q6 31 1).trans (Ent.lst SV.nil (l:=[]) (Nat.zero_le _) rfl Γ)
theorem niE (p rb:Nat) (up wr:Bool) (Γ:List Assn):Ent (blk p 107 #[.bool up,.map (some rb),SV.nil.v,SV.nil.v,.bool wr]::Qe rb .u32 []::Γ) (NI p ⟨up,[],[],[],wr⟩::Γ):=by
 have h1:Ent Γ (own SV.nil 72 13 (([]:List Nt).flatMap niC)::own SV.nil 72 13 (([]:List Ot).flatMap otC)::alls ([]:List Ot) otB::Γ):=(Ent.Uk otB Γ).trans ((Ent.Q6 72 13).trans (Ent.Q6 72 13));have h2:Ent (blk p 107 #[.bool up,.map (some rb),SV.nil.v,SV.nil.v,.bool wr]::Qe rb .u32 []::Γ) (ndX p ⟨up,[],[],[],wr⟩ rb SV.nil SV.nil [] [] Γ):=Ent.cons _ (Ent.cons _ ((Ent.Uk roB Γ).trans (Ent.cons _ h1)));exact h2.trans ((Ent.pack (ndX p ⟨up,[],[],[],wr⟩ rb SV.nil SV.nil [] [] []) Γ).trans (Ent.X7 Γ fun _ s=>⟨rb,SV.nil,SV.nil,[],[],⟨rfl,rfl,rfl,rfl⟩,s⟩))
theorem ni0 (p rb:Nat) (Γ:List Assn):Ent (blk p 107 #[.bool true,.map (some rb),SV.nil.v,SV.nil.v,.bool false]::Qe rb .u32 []::Γ) (NI p nd0::Γ):=niE p rb true false Γ
def upTo (b:Br) (i:Nat):Br:=(List.range i).foldl (fun b (i:Nat)=>(upR' b i).2) b
theorem upTo_succ (b:Br) (i:Nat):upTo b (i+1)=(upR' (upTo b i) (i:Nat)).2:=by rw[upTo,List.range_succ,List.foldl_append];rfl
set_option maxHeartbeats 4000000 in
theorem begin_S (N R Q G:Nat) (hR1:1≤R) (hR8:R≤8) (hN1:1≤N) (hN16:N≤16) (hQ1:1≤Q) (hQ2:Q≤1000) (hG1:1≤G) (hG2:G≤1000) :
  Spec Tryz.prog 19 [.agg #[.int .i64 (N:Int),.int .i64 (R:Int),.int .i64 (Q:Int),.int .i64 (G:Int)]] [] fun Γ v Θ=>∃p,v=pt p∧Θ=SP p (beginR N R Q G)::Γ:=by
 refine Zbd Tryz.func19 rfl Tryz.ntmps19 fun w0 Γ=>Zsh ?_;obtain⟨B0,hB0⟩:∃B0,B0=beginR N R Q G:=⟨_,rfl⟩;obtain⟨n0,hn0⟩:∃n0,n0=newR N R Q G 0:=⟨_,rfl⟩;rw[←hB0];refine ZY 2 ?_;refine Zp (S.box (cs:=[_,_,_,_]) rfl rfl rfl ?_);intro b1;refine ZY 5 ?_;refine Zp (Zc1 Ze (BNew_S N R Q G 0 hR1 hR8 hN1 hN16 hQ1 hQ2 hG1 hG2) ?_);rintro v Θ ⟨b,ps,rfl,rfl⟩;rw[←hn0];refine ZY 8 ?_;refine ZY 8 ?_;refine ZF ef ?_;refine ZY 5 ?_;refine Zp (S.makeMap .u32 rfl ?_);intro b20;refine Zp (S.makeMap .u32 rfl ?_);intro b21;refine Zp (S.makeMap .u32 rfl ?_);intro b22;refine Zp (S.makeMap .u32 rfl ?_);intro b23;refine Zp (S.makeMap .u32 rfl ?_);intro b24;refine Zv (Qm (pvs:=[(_,_),(_,_),(_,_),(_,_),(_,_),(_,_),(_,_),(_,_)]) [_,_,_,_,_,_,_,_,_,_,_,_,_,_,_,_] Tryz.z55.h Tryz.p55.h ⟨⟨rfl,rfl⟩,⟨rfl,rfl⟩,⟨rfl,rfl⟩,⟨rfl,rfl⟩,⟨rfl,rfl⟩,⟨rfl,rfl⟩,⟨rfl,rfl⟩,⟨rfl,rfl⟩,trivial⟩ rfl) ?_;refine Zp (S.box (cs:=[_,_,_,_,_,_,_,_,_,_,_,_,_,_,_,_]) rfl rfl rfl ?_);intro b26;refine ZY 5 ?_;refine S.Z6 b26 (smC B0 b SV.nil b20 b21 b22 b23 b24 SV.nil SV.nil SV.nil).toArray (by rw[hB0];rfl) ?_;refine S.ent (Ent.Uk noB _) ?_;refine S.ent (show Ent _ (own SV.nil 103 1 (([]:List No).map noV)::_) from Ent.Q6 103 1) ?_;refine ZY 5 ?_;refine Zl (fun fz ρ' Γ'=>∃(i:Nat) (nv:SV) (ns:List No) (b0:Br),fz=N-i∧i≤N∧nv.n=i∧ns.map (·.2)=List.replicate i nd0∧b0=upTo n0 i∧ρ'=[(3,pt b),(5,pt b26),(28,.int .i64 (N:Int)),(29,.int .i64 (i:Int))]∧Γ'=blk b26 55 (smC B0 b nv b20 b21 b22 b23 b24 SV.nil SV.nil SV.nil).toArray::own nv 103 1 (ns.map noV)::alls ns noB::BP b b0 ps::Qe b20 .u32 []::Qe b21 .u32 []::Qe b22 .u32 []::Qe b23 .u32 []::Qe b24 .u32 []::Γ) (m:=_) (⟨0,SV.nil,[],n0,rfl,by omega,rfl,rfl,rfl,rfl,rfl⟩) ?_;rintro fz ρ' Γ' ⟨i,nv,ns,b0,hfz,hi,hnv,hns,hb0,rfl,rfl⟩;refine ZY 5 ?_
 refine Zj ef (fun h2=>?_) (fun h2=>?_)
 ·refine ZY 8 ?_;refine ZY 7 ?_;refine Zp (S.makeMap .u32 rfl ?_);intro b37;refine Zv (Qm (pvs:=[(_,_),(_,_)]) [_,_,_,_,_] Tryz.z107.h Tryz.p107.h ⟨⟨rfl,rfl⟩,⟨rfl,rfl⟩,trivial⟩ rfl) ?_;refine Zp (S.box (cs:=[_,_,_,_,_]) rfl rfl rfl ?_);intro b39;refine Zp (S.buildSlice (pvs:=[(_,_)]) [_] Tryz.underlying48 Tryz.inf103.h rfl rfl ⟨⟨rfl,rfl⟩,trivial⟩ rfl rfl ?_);intro b40;refine Zp (S.Qj (s:=nv) (1) ([pt b39]) Tryz.underlying48 Tryz.inf103.h rfl rfl rfl (Qk (b:=b40) rfl (by unfold maxLen;omega)) (by first | rfl | exact Qd _) (⟨by omega,by omega⟩) rfl ?_);intro nv2 hnv2;rw[show ns.map noV++[pt b39]=(ns++[((b39,nd0):No)]).map noV by rw[List.map_append];rfl];refine ZY 7 ?_;refine Zp (Zcp Ze (Up_S b b0 ps i) ?_);refine ZY 2 ?_;refine S.Xf (blk b39 107 #[.bool true,.map (some b37),SV.nil.v,SV.nil.v,.bool false]) (Qe b37 .u32 []) (ni0 b39 b37 _) ?_;refine S.Xf (NI b39 nd0) (alls ns noB) (Ent.allsSnoc noB ns ((b39,nd0):No) _) ?_;refine Zv (Za ef ef) ?_;refine ZY 2 ?_;exact ZX (fz-1) (⟨i+1,nv2,ns++[(b39,nd0)],(upR' b0 (i:Nat)).2,by omega,by omega,by omega,by rw[List.map_append,hns,List.replicate_succ'];rfl,by rw[hb0,upTo_succ],rfl,rfl⟩) (by omega)
 ·obtain rfl:i=N:=by omega
  refine ZY 7 ?_;refine S.conv (Qe b20 .u32 []) (ran0 b20 _) ?_;refine S.conv (Qe b24 .u32 []) (Ent.war b24 [] _) ?_;refine S.ent (lst0 0 _) ?_;refine S.ent (lst0 0 _) ?_;refine S.ent (imgs0 _) ?_;refine S.sub (blk b26 55 (smC B0 b nv b20 b21 b22 b23 b24 SV.nil SV.nil SV.nil).toArray::BP b b0 ps::own nv 103 1 (ns.map noV)::alls ns noB::ranM b20 []::Qe b21 .u32 []::Qe b22 .u32 []::Qe b23 .u32 []::imgs SV.nil []::warM b24::Vy SV.nil 0::Vy SV.nil 0::Γ) ?_;refine S.ent (show Ent _ (smX b26 B0 b ps nv ns b20 b21 b22 b23 b24 SV.nil SV.nil SV.nil Γ) by subst hB0;subst hb0;subst hn0;exact Ent.refl _) ?_;refine S.Yt b26 B0 b ps nv ns b20 b21 b22 b23 b24 SV.nil SV.nil SV.nil ⟨by rw[hns,hB0];rfl,by rw[hB0,hnv];exact List.length_replicate.symm,by rw[hB0];rfl⟩ ?_;exact Zf ef Zq (⟨b26,rfl,rfl⟩)
def sA:Sm:={beginR 2 1 5 3 with jobs:=[⟨1,0,2,3⟩],b:=(addR (beginR 2 1 5 3).b (newJ 1 0 2 3 0 0)).2}
def aw:Nat→Sm
 | 0=>sA
 | k+1=>calmR (aw k)
theorem aw200:(aw 200).ok=true∧1∈(aw 200).done∧3≤Xl 1 (aw 200).ran∧(aw 200).b.js=[]:=by decide +kernel
theorem S.ranOpenM {n:Nat} {md:Bool} {w0:WM md} {ρ:Env} {Γ Δ:List Assn} {φ:Act→World→Prop} (b:Nat) (f:List (Nat×Nat)) [q:Pick (ranM b f) Γ Δ] (k:∀l:List (Int×Value),(∀id:Nat,(Ql (id:Int) l).getD (.int .i64 0)=.int .i64 (Xl id f:Nat))→S n w0 ρ (Qe b .u32 l::Δ) φ):S n w0 ρ Γ φ:=by
 intro a w ha hs hx;obtain⟨h0,l0,h1,h2,d,l1,l2,⟨l,q1,q2⟩,s⟩:=hs.ent q.ent;exact k l q1 a w ha ⟨h0,l0,h1,h2,d,l1,l2,q2,s⟩ hx
theorem aw_ok {k:Nat} (h:k≤200):(aw k).ok=true:=by
 have key:∀j,j+k≤200→(aw (j+k)).ok=true→(aw k).ok=true:=by
  intro j;induction j with
  | zero=>intro _ h;rwa [Nat.zero_add]at h
  | succ j ih=>
   intro hj hk;refine ih (by omega) ?_;rw[show j+1+k=(j+k)+1 by omega]at hk;exact(stick_ok (calmUp_ok hk)).1
 refine key (200-k) (by omega) ?_;rw[show 200-k+k=200 by omega];exact aw200.1
theorem sA_add:addOk (beginR 2 1 5 3).b (newJ 1 0 2 3 0 0)=true∧(beginR 2 1 5 3).b.js.length≤999∧(beginR 2 1 5 3).b.orders.length≤900000∧(beginR 2 1 5 3).b.done.length≤900000:=by decide +kernel
set_option maxHeartbeats 4000000 in
theorem awake_S {W:World} (hW:TabW W):Spec Tryz.prog 9 [] [old W] fun Γ v Θ=>v=.bool true∧Θ=old W::Γ:=by
 obtain⟨B0,hB0⟩:∃B0,B0=beginR 2 1 5 3:=⟨_,rfl⟩;obtain⟨d1,d2,d3,d4⟩:=sA_add;rw[←hB0]at d1 d2 d3 d4;obtain⟨A0,hA0⟩:∃A0,A0=sA:=⟨_,rfl⟩;have hA1:A0={B0 with jobs:=[⟨1,0,2,3⟩],b:=(addR B0.b (newJ 1 0 2 3 0 0)).2}:=by rw[hA0,hB0];rfl
 refine Zbd Tryz.func9 rfl Tryz.ntmps9 fun w0 Γ=>Zsh ?_;refine ZY 6 ?_;refine Zv (Qm (pvs:=[(_,_),(_,_),(_,_),(_,_)]) [_,_,_,_] Tryz.z25.h Tryz.p25.h ⟨⟨rfl,rfl⟩,⟨rfl,rfl⟩,⟨rfl,rfl⟩,⟨rfl,rfl⟩,trivial⟩ rfl) ?_;refine Zp (Zc1 Ze (begin_S 2 1 5 3 (by omega) (by omega) (by omega) (by omega) (by omega) (by omega) (by omega) (by omega)) ?_);rintro v Θ ⟨p,rfl,rfl⟩;rw[←hB0];refine ZY 8 ?_;refine ZF ef ?_;refine ZY 4 ?_;refine S.spOpen p B0 fun b ps nv ns rb jb gb db wb iv dv wv hF=>?_;refine S.mapAs jb [] (by rw[hB0];rfl) ?_;refine ZY 3 ?_;refine Zv (Qm (pvs:=[(_,_),(_,_),(_,_)]) [_,_,_,_,_,_] Tryz.z35.h Tryz.p35.h ⟨⟨rfl,rfl⟩,⟨rfl,rfl⟩,⟨rfl,rfl⟩,trivial⟩ rfl) ?_;refine Zp (S.mapUpdate Tryz.underlying49 Tryz.underlying31 rfl rfl rfl rfl ?_);refine S.mapAs jb (([⟨1,0,2,3⟩]:List Jo).map joE) rfl ?_;refine ZY 2 ?_;refine Zd ([blk p 55 (smC B0 b nv rb jb gb db wb iv dv wv).toArray,Qe jb .u32 (([⟨1,0,2,3⟩]:List Jo).map joE)]) [] (Zra 0 9) ?_;refine ZY 8 ?_;refine Zw ef (Qg (.agg (joC ⟨1,0,2,3⟩).toArray) Tryz.underlying49 Tryz.underlying31 Tryz.zv35.h rfl rfl rfl (rfl)) ?_;refine Z1 (i:=9) ef ef ?_;refine  (Zc1 Ze (Add_S b B0.b ps 1 0 2 3 0 0 0 (by omega) d1 d2 d3 d4) ?_);rintro v Θ ⟨ps2,rfl,rfl⟩;refine Zk [] ?_;refine ZD ?_;refine ZY 3 ?_;refine S.sub (smX p A0 b ps2 nv ns rb jb gb db wb iv dv wv (old W::Γ)) (e:=by rw[hA1];infer_instance) ?_;refine S.Yt p A0 b ps2 nv ns rb jb gb db wb iv dv wv ⟨by rw[hA1];exact hF.nd,by rw[hA1];exact hF.nn,by rw[hA1];exact hF.im⟩ ?_;refine ZY 3 ?_;refine Zl (fun fz ρ' Γ'=>∃(k:Nat) (t:Sm),fz=200-k∧k≤200∧t=aw k∧ρ'=[(1,pt p),(21,.int .i64 (k:Int))]∧Γ'=SP p t::old W::Γ) (m:=_) (⟨0,A0,rfl,by omega,hA0,rfl,rfl⟩) ?_;rintro fz ρ' Γ' ⟨k,t,hfz,hk,ht,rfl,rfl⟩;refine ZY 5 ?_
 refine Zj ef (fun h2=>?_) (fun h2=>?_)
 ·refine ZY 5 ?_;refine Zp (Zc1 Ze (calm_S p t (by rw[ht];exact aw_ok (k:=k+1) (by omega)) hW) ?_);rintro v Θ rfl;refine ZY 2 ?_;refine Zv (Za ef ef) ?_;refine ZY 2 ?_;exact ZX (fz-1) (⟨k+1,calmR t,by omega,by omega,by rw[ht];rfl,rfl,rfl⟩) (by omega)
 ·rw[show k=200 by omega]at ht;obtain⟨_,e1,e2,e3⟩:=aw200;rw[←ht]at e1 e2 e3;refine S.spOpen p t fun b ps nv ns rb jb gb db wb iv dv wv hF=>?_;refine ZY 7 ?_;refine Zv (Qg (.bool true) Tryz.underlying50 Tryz.underlying31 Tryz.zv4.h rfl rfl rfl (by rw[show Ql 1 (setT t.done)=some (.bool true) from (setT_get t.done 1).trans (if_pos e1)];rfl)) ?_;refine ZY 5 ?_;refine S.ranOpenM rb t.ran fun lst hlst=>?_;obtain⟨c0,hc0⟩:∃c0,c0=Xl 1 t.ran:=⟨_,rfl⟩;have hl0:=hlst 1;rw[←hc0]at e2 hl0;refine Zvg ef ef ef (Qg (.int .i64 (c0:Int)) Tryz.underlying44 Tryz.underlying31 Tryz.zv3.h rfl rfl rfl (hl0.symm)) ?_;refine ZY 3 ?_;refine Zu 39 true ef ((decide_eq_true (by omega))) ?_;refine ZY 4 ?_;refine Zg ef ef ef (Zc1 Ze (Jobs_S b t.b ps) ?_);rintro v Θ ⟨tv,rfl,htv,rfl⟩;rw[e3]at htv;refine ZY 6 ?_;exact Zf ef Zq (⟨by rw[decide_eq_true (show (tv.n:Int)=0 by rw[htv];rfl)];rfl,rfl⟩)
def noK (k:Nat) (q:List Nt):Prop:=∀x∈q,x.kind≠k
def noKo (k:Nat) (q:List (Nt×List Int)):Prop:=∀x∈q,x.1.kind≠k
def goOk (g:Nat) (m:List Nat) (q:List Nt):Prop:=∀x∈q,x.kind=5→x.gen=g∧x.job∈m
def ruOk (g:Nat) (m:List Nat) (rk:Rs):Prop:=∀y∈rk,y.2.run=true→y.2.gen=g∧y.1∈m
theorem noK.app {k:Nat} {q e:List Nt} (h:noK k q) (h2:noK k e):noK k (q++e):=fun x hx=>by
 rcases List.mem_append.1 hx with hx | hx
 ·exact h x hx
 ·exact h2 x hx
theorem Wk.put {l:Rs} (h:Wk l) (k:Nat) {r:Rk} (hr:r.run=false):Wk (Yr k r l):=fun y hy=>by
 rcases Vq hy with rfl | hy
 ·exact hr
 ·exact h y hy
theorem Wk.del {l:Rs} (h:Wk l) (k:Nat):Wk (nDel k l):=fun y hy=>h y (mem_nDel hy)
theorem ruOk.put {g:Nat} {m:List Nat} {l:Rs} (h:ruOk g m l) (k:Nat) {r:Rk} (hr:r.run=true→r.gen=g∧k∈m):ruOk g m (Yr k r l):=fun y hy h1=>by
 rcases Vq hy with rfl | hy
 ·exact hr h1
 ·exact h y hy h1
theorem ruOk.del {g:Nat} {m:List Nat} {l:Rs} (h:ruOk g m l) (k:Nat):ruOk g m (nDel k l):=fun y hy=>h y (mem_nDel hy)
theorem oneRun.del {l:Rs} (h:oneRun l) (k:Nat):oneRun (nDel k l):=fun y hy z hz=>h y (mem_nDel hy) z (mem_nDel hz)
theorem oneRun.put {l:Rs} (h:oneRun l) (k:Nat) {r:Rk} (hr:r.run=false):oneRun (Yr k r l):=fun y hy z hz h1 h2=>by
 rcases Vq hy with rfl | hy
 ·rw[show ((k,r):Nat×Rk).2.run=false from hr]at h1;cases h1
 ·rcases Vq hz with rfl | hz
  ·rw[show ((k,r):Nat×Rk).2.run=false from hr]at h2;cases h2
  ·exact h y hy z hz h1 h2
theorem Wk.put1 {l:Rs} (h:Wk l) (k:Nat) (r:Rk):oneRun (Yr k r l):=fun y hy z hz h1 h2=>by
 rcases Vq hy with rfl | hy
 ·rcases Vq hz with rfl | hz
  ·rfl
  ·rw[h z hz]at h2;cases h2
 ·rw[h y hy]at h1;cases h1
theorem stop_noRun {l:Rs} (h:oneRun l) (hp:pos l) (hn:(keys l).Nodup) {r:Rk} (hr:r.run=false):Wk (Yr (Qr l) r l):=by
 intro y hy;have hk:=nPut_keys (Qr l) r hn
 by_cases e:y.1=Qr l
 ·have h1:=nGet_of_mem (k:=y.1) (v:=y.2) hk hy;rw[nGet_put,if_pos e]at h1;cases h1;exact hr
 ·rcases Vq hy with rfl | hy
  ·exact absurd rfl e
  ·cases hyr:y.2.run with
   | false=>rfl
   | true=>exact absurd (runOf_is h hp hy hyr).symm e
theorem pos.put {l:Rs} (h:pos l) {k:Nat} (hk:k≠0) (r:Rk):pos (Yr k r l):=fun y hy=>by
 rcases Vq hy with rfl | hy
 ·exact hk
 ·exact h y hy
theorem pos.del {l:Rs} (h:pos l) (k:Nat):pos (nDel k l):=fun y hy=>h y (mem_nDel hy)
inductive Ph (g:Nat) (m:List Nat) (on st:Bool) (rk:Rs) (q:List Nt) (out:List (Nt×List Int)):Prop
 | rest:on=false→noK 5 q→noK 6 q→noKo 7 out→Wk rk→Ph g m on st rk q out
 | go:on=true→st=false→noK 6 q→noKo 7 out→goOk g m q→ruOk g m rk→Ph g m on st rk q out
 | stop (a:List Nt) (s:Nt) (c:List Nt):on=true→st=true→q=a++s::c→s.kind=6→s.gen=g→noK 6 a→noK 5 c→noK 6 c→goOk g m a→ruOk g m rk→noKo 7 out→Ph g m on st rk q out
 | said (a:List (Nt×List Int)) (s:Nt×List Int) (c:List (Nt×List Int)):on=true→st=true→noK 5 q→noK 6 q→Wk rk→out=a++s::c→s.1.kind=7→s.1.gen=g→noKo 7 a→noKo 7 c→Ph g m on st rk q out
theorem Wk.ru {l:Rs} (h:Wk l) (g:Nat) (m:List Nat):ruOk g m l:=fun y hy h1=>by rw[h y hy]at h1;cases h1
theorem Ph.app {g:Nat} {m:List Nat} {on st:Bool} {rk:Rs} {q:List Nt} {out:List (Nt×List Int)} (h:Ph g m on st rk q out) {e:List Nt} (h5:noK 5 e) (h6:noK 6 e):Ph g m on st rk (q++e) out:=by
 cases h with
 | rest a1 a2 a3 a4 a5=>exact .rest a1 (a2.app h5) (a3.app h6) a4 a5
 | go a1 a2 a3 a4 a5 a6=>exact .go a1 a2 (a3.app h6) a4 (fun x hx hk=>by
   rcases List.mem_append.1 hx with hx | hx
   ·exact a5 x hx hk
   ·exact absurd hk (h5 x hx)) a6
 | stop a s c a1 a2 a3 a4 a5 a6 a7 a8 a9 a10 a11=>exact .stop a s (c++e) a1 a2 (by rw[a3];simp) a4 a5 a6 (a7.app h5) (a8.app h6) a9 a10 a11
 | said a s c a1 a2 a3 a4 a5 a6 a7 a8 a9 a10=>exact .said a s c a1 a2 (a3.app h5) (a4.app h6) a5 a6 a7 a8 a9 a10
theorem Ph.other {g:Nat} {m:List Nat} {on st:Bool} {rk:Rs} {q:List Nt} {x:Nt×List Int} {out:List (Nt×List Int)} (h:Ph g m on st rk q (x::out)) (hx:x.1.kind≠7):Ph g m on st rk q out:=by
 have tl:noKo 7 (x::out)→noKo 7 out:=fun h y hy=>h y (List.mem_cons_of_mem _ hy);cases h with
 | rest a1 a2 a3 a4 a5=>exact .rest a1 a2 a3 (tl a4) a5
 | go a1 a2 a3 a4 a5 a6=>exact .go a1 a2 a3 (tl a4) a5 a6
 | stop a s c a1 a2 a3 a4 a5 a6 a7 a8 a9 a10 a11=>exact .stop a s c a1 a2 a3 a4 a5 a6 a7 a8 a9 a10 (tl a11)
 | said a s c a1 a2 a3 a4 a5 a6 a7 a8 a9 a10=>
  cases a with
  | nil=>rw[List.nil_append,List.cons.injEq]at a6;rw[a6.1]at hx;exact absurd a7 hx
  | cons y a=>
   rw[List.cons_append,List.cons.injEq]at a6;exact .said a s c a1 a2 a3 a4 a5 a6.2 a7 a8 (fun z hz=>a9 z (List.mem_cons_of_mem _ hz)) a10
theorem Ph.stopped {g:Nat} {m:List Nat} {on st:Bool} {rk:Rs} {q:List Nt} {x:Nt×List Int} {out:List (Nt×List Int)} (h:Ph g m on st rk q (x::out)) (hx:x.1.kind=7):on=true∧st=true∧x.1.gen=g∧∀g' m' st',Ph g' m' false st' rk q out:=by
 have hd:noKo 7 (x::out)→False:=fun h=>h x (List.mem_cons_self ..) hx;cases h with
 | rest a1 a2 a3 a4 a5=>exact(hd a4).elim
 | go a1 a2 a3 a4 a5 a6=>exact(hd a4).elim
 | stop a s c a1 a2 a3 a4 a5 a6 a7 a8 a9 a10 a11=>exact(hd a11).elim
 | said a s c a1 a2 a3 a4 a5 a6 a7 a8 a9 a10=>
  cases a with
  | nil=>
   rw[List.nil_append,List.cons.injEq]at a6;obtain⟨e1,e2⟩:=a6;subst e1 e2;exact⟨a1,a2,a8,fun _ _ _=>.rest rfl a3 a4 a10 a5⟩
  | cons y a=>
   rw[List.cons_append,List.cons.injEq]at a6;exact absurd hx (by rw[a6.1];exact a9 y (List.mem_cons_self ..))
theorem noK.tl {k:Nat} {x:Nt} {q:List Nt} (h:noK k (x::q)):noK k q:=fun y hy=>h y (List.mem_cons_of_mem _ hy)
theorem goOk.tl {g:Nat} {m:List Nat} {x:Nt} {q:List Nt} (h:goOk g m (x::q)):goOk g m q:=fun y hy=>h y (List.mem_cons_of_mem _ hy)
structure Quiet (nd nd':Nd):Prop where
 no:Wk nd.rk→Wk nd'.rk
 ru:∀g m,ruOk g m nd.rk→ruOk g m nd'.rk
 out:∃o,nd'.out=nd.out++o∧noKo 7 o
theorem noKo_nil (k:Nat):noKo k []:=fun _ h=>by cases h
theorem noKo_one {k:Nat} {x:Nt×List Int} (h:x.1.kind≠k):noKo k [x]:=fun y hy=>by rw[List.mem_singleton.1 hy];exact h
theorem act_quiet {nd:Nd} {x:Nt} (h5:x.kind≠5) (h6:x.kind≠6):Quiet nd (Qt nd x):=by
 unfold Qt
 split
 ·exact⟨fun h=>h.put _ rfl,fun g m h=>h.put _ (fun h=>(by cases h)),_,rfl,noKo_one (fun e=>by cases e)⟩
 split
 ·split
  ·exact⟨fun h=>h,fun g m h=>h,[],by simp,noKo_nil 7⟩
  ·exact⟨fun h=>h,fun g m h=>h,_,rfl,noKo_one (fun e=>by cases e)⟩
 split
 ·exact⟨fun h=>h.del _,fun g m h=>h.del _,_,rfl,noKo_one (fun e=>by cases e)⟩
 ·exact⟨fun h=>h,fun g m h=>h,[],by simp,noKo_nil 7⟩
theorem noKo.app {k:Nat} {q e:List (Nt×List Int)} (h:noKo k q) (h2:noKo k e):noKo k (q++e):=fun x hx=>by
 rcases List.mem_append.1 hx with hx | hx
 ·exact h x hx
 ·exact h2 x hx
theorem Ph.act {g:Nat} {m:List Nat} {on st:Bool} {nd:Nd} {x:Nt} {q:List Nt} (h:Ph g m on st nd.rk (x::q) nd.out) (h1:oneRun nd.rk) (hp:pos nd.rk) (hn:(keys nd.rk).Nodup):Ph g m on st (Qt nd x).rk q (Qt nd x).out:=by
 by_cases k5:x.kind=5
 ·have e:(Qt nd x).out=nd.out∧(∀g m,ruOk g m nd.rk→x.gen=g∧x.job∈m→ruOk g m (Qt nd x).rk):=by
   unfold Qt;rw[if_neg (by omega),if_pos k5]
   split
   ·exact⟨rfl,fun g m h _=>h⟩
   ·exact⟨rfl,fun g m h hx=>h.put _ fun _=>hx⟩
  rw[e.1];cases h with
  | rest a1 a2 a3 a4 a5=>exact absurd k5 (a2 x (List.mem_cons_self ..))
  | go a1 a2 a3 a4 a5 a6=>exact .go a1 a2 a3.tl a4 a5.tl (e.2 g m a6 (a5 x (List.mem_cons_self ..) k5))
  | stop a s c a1 a2 a3 a4 a5 a6 a7 a8 a9 a10 a11=>
   cases a with
   | nil=>rw[List.nil_append,List.cons.injEq]at a3;rw[a3.1]at k5;omega
   | cons y a=>
    rw[List.cons_append,List.cons.injEq]at a3;obtain⟨e1,e2⟩:=a3;subst e1;exact .stop a s c a1 a2 e2 a4 a5 a6.tl a7 a8 a9.tl (e.2 g m a10 (a9 x (List.mem_cons_self ..) k5)) a11
  | said a s c a1 a2 a3 a4 a5 a6 a7 a8 a9 a10=>exact absurd k5 (a3 x (List.mem_cons_self ..))
 by_cases k6:x.kind=6
 ·cases h with
  | rest a1 a2 a3 a4 a5=>exact absurd k6 (a3 x (List.mem_cons_self ..))
  | go a1 a2 a3 a4 a5 a6=>exact absurd k6 (a3 x (List.mem_cons_self ..))
  | stop a s c a1 a2 a3 a4 a5 a6 a7 a8 a9 a10 a11=>
   cases a with
   | cons y a=>
    rw[List.cons_append,List.cons.injEq]at a3;rw[a3.1]at k6;exact absurd k6 (a6 y (List.mem_cons_self ..))
   | nil=>
    rw[List.nil_append,List.cons.injEq]at a3;obtain⟨e1,e2⟩:=a3;subst e1 e2;unfold Qt;rw[if_neg (by omega),if_neg k5,if_pos k6]
    by_cases hr:Qr nd.rk≠0
    ·rw[if_pos hr];obtain⟨r,hr1,hr2⟩:=runOf_some hr;rw[nGet_of_mem hn hr1];exact .said nd.out _ [] a1 a2 a7 a8 (stop_noRun h1 hp hn rfl) rfl rfl a5 a11 (noKo_nil 7)
    ·rw[if_neg hr];exact .said nd.out _ [] a1 a2 a7 a8 (runOf_zero hp (Classical.byContradiction hr)) rfl rfl a5 a11 (noKo_nil 7)
  | said a s c a1 a2 a3 a4 a5 a6 a7 a8 a9 a10=>exact absurd k6 (a4 x (List.mem_cons_self ..))
 obtain⟨q1,q2,o,q3,q4⟩:=act_quiet (nd:=nd) k5 k6;rw[q3];cases h with
 | rest a1 a2 a3 a4 a5=>exact .rest a1 a2.tl a3.tl (a4.app q4) (q1 a5)
 | go a1 a2 a3 a4 a5 a6=>exact .go a1 a2 a3.tl (a4.app q4) a5.tl (q2 g m a6)
 | stop a s c a1 a2 a3 a4 a5 a6 a7 a8 a9 a10 a11=>
  cases a with
  | nil=>rw[List.nil_append,List.cons.injEq]at a3;rw[a3.1]at k6;exact absurd a4 k6
  | cons y a=>
   rw[List.cons_append,List.cons.injEq]at a3;exact .stop a s c a1 a2 a3.2 a4 a5 a6.tl a7 a8 a9.tl (q2 g m a10) (a11.app q4)
 | said a s c a1 a2 a3 a4 a5 a6 a7 a8 a9 a10=>exact .said a s (c++o) a1 a2 a3.tl a4.tl (q1 a5) (by rw[a6];simp) a7 a8 a9 (a10.app q4)
theorem act_pos {nd:Nd} {x:Nt} (h:pos nd.rk) (hx:x.kind=3→x.job≠0):pos (Qt nd x).rk:=by
 unfold Qt
 split
 ·exact h.put (hx (by assumption)) _
 split
 ·split
  ·exact h
  ·rename_i r hr;exact h.put (h _ (nGet_mem hr)) _
 split
 ·split
  ·split
   ·exact h
   ·rename_i r hr;exact h.put (h _ (nGet_mem hr)) _
  ·exact h
 split
 ·split <;> exact h
 split
 ·exact h.del _
 ·exact h
theorem act_keys {nd:Nd} {x:Nt} (h:(keys nd.rk).Nodup):(keys (Qt nd x).rk).Nodup:=by
 unfold Qt
 split
 ·exact nPut_keys _ _ h
 split
 ·split
  ·exact h
  ·exact nPut_keys _ _ h
 split
 ·split
  ·split
   ·exact h
   ·exact nPut_keys _ _ h
  ·exact h
 split
 ·split <;> exact h
 split
 ·exact nDel_keys _ h
 ·exact h
theorem act_one {nd:Nd} {x:Nt} (h:oneRun nd.rk) (hp:pos nd.rk) (hn:(keys nd.rk).Nodup) (hw:(Qt nd x).wrong=false):oneRun (Qt nd x).rk:=by
 unfold Qt at hw ⊢
 split
 ·exact h.put _ rfl
 rename_i k3;rw[if_neg k3]at hw
 split
 ·rename_i k5;rw[if_pos k5]at hw
  split
  ·exact h
  ·rename_i r hr;rw[hr]at hw;simp only[Bool.or_eq_false_iff,decide_eq_false_iff_not]at hw;exact(runOf_zero hp (Classical.byContradiction hw.2)).put1 _ _
 split
 ·split
  ·split
   ·exact h
   ·exact(stop_noRun h hp hn rfl).one
  ·exact h
 split
 ·split <;> exact h
 split
 ·exact h.del _
 ·exact h
theorem act_noRun {nd:Nd} {x:Nt} (h:Wk nd.rk) (hx:x.kind≠5):Wk (Qt nd x).rk:=by
 by_cases k6:x.kind=6
 ·unfold Qt;rw[if_neg (by omega),if_neg hx,if_pos k6,runOf_none h];exact h
 ·exact(act_quiet hx k6).no h
theorem acts_noRun {q:List Nt}:∀ {nd:Nd},Wk nd.rk→noK 5 q→Wk (q.foldl Qt nd).rk:=by
 induction q with
 | nil=>exact fun h _=>h
 | cons x q ih=>exact fun h hq=>ih (act_noRun h (hq x (List.mem_cons_self ..))) hq.tl
theorem acts_keys {q:List Nt}:∀ {nd:Nd},(keys nd.rk).Nodup→(keys (q.foldl Qt nd).rk).Nodup:=by
 induction q with
 | nil=>exact fun h=>h
 | cons x q ih=>exact fun h=>ih (act_keys h)
def Pres (b:Br) (i id:Nat):Prop:=∃x,Qb b.js id=some x∧x.drops=none∧i∈x.at_
def qOf (os:List Od) (i:Nat):List Nt:=(os.filter fun o=>decide (o.1=i)).map (·.2)
theorem qOf_app (a b:List Od) (i:Nat):qOf (a++b) i=qOf a i++qOf b i:=by rw[qOf,List.filter_append,List.map_append];rfl
theorem mem_qOf {os:List Od} {i:Nat} {x:Nt}:x∈qOf os i↔(i,x)∈os:=by
 unfold qOf;rw[List.mem_map]
 constructor
 ·rintro ⟨o,h1,h2⟩;obtain⟨h3,h4⟩:=List.mem_filter.1 h1;have h4:o.1=i:=by simpa using h4
  rw[←h4,←h2];exact h3
 ·exact fun h=>⟨(i,x),List.mem_filter.2 ⟨h,by simp⟩,rfl⟩
structure JInv (b:Br) (bad:Nat→Nat→Prop) (x:Bj):Prop where
 st:x.state≤3
 q:x.state=0→x.at_=[]∧x.drops=none∧x.sav=none∧x.ran=none∧look b.m.js x.id=none
 p:x.state≠0→x.at_.length=x.k∧∃y,look b.m.js x.id=some y∧lst y.ns=x.at_
 d:x.state=3↔x.drops.isSome=true
 u:x.drops=none→∀n∈x.at_,n∈b.up∨bad x.id n
 du:∀d,x.drops=some d→∀n∈d,n∈b.up∨bad x.id n
 da:∀d,x.drops=some d→∀n∈d,n∈x.at_
structure BrI (b:Br) (bad:Nat→Nat→Prop):Prop where
 ok:Qp b
 j:∀x∈b.js,JInv b bad x
 mj:∀y∈b.m.js,(Qb b.js y.id).isSome=true
 up:∀n:Nat,n∈b.up↔Wy b.m n=true
abbrev never:Nat→Nat→Prop:=fun _ _=>False
structure Vn (b:Br) (i:Nat) (n:Nd):Prop where
 kn:(keys n.rk).Nodup
 ps:pos n.rk
 one:oneRun n.rk
 wr:n.wrong=false
 right:(fin n.rk (n.inn++qOf b.orders i)).wrong=false
 ld:∀x∈n.inn++qOf b.orders i,x.kind=3→x.job≠0
 here:∀id,(Zh id (fin n.rk (n.inn++qOf b.orders i)).rk).isSome=true↔Pres b i id
 ph:Ph b.gen b.members (decide (i∈b.stops.getD [])) b.stopped n.rk (n.inn++qOf b.orders i) n.out
structure Eff (b b':Br) (i:Nat) (e:List Nt):Prop where
 go:∀v:Nd,v.wrong=false→(keys v.rk).Nodup→(∀id,(Zh id v.rk).isSome=true↔Pres b i id)→(b.stops=none→Wk v.rk)→(e.foldl Qt v).wrong=false∧∀id,(Zh id (e.foldl Qt v).rk).isSome=true↔Pres b' i id
structure BStep (b b':Br) (E:List Od):Prop where
 nodes:b'.nodes=b.nodes
 up:b'.up=b.up
 gen:b'.gen=b.gen
 mem:b'.members=b.members
 stops:b'.stops=b.stops
 stopped:b'.stopped=b.stopped
 ord:b'.orders=b.orders++E
 dst:∀o∈E,o.1∈b.up
 k5:∀o∈E,o.2.kind≠5∧o.2.kind≠6∧(o.2.kind=3→o.2.job≠0)∧o.2.rank≤255
 eff:∀i∈b.up,Eff b b' i (qOf E i)
theorem BStep.trans {a b c:Br} {E F:List Od} (h:BStep a b E) (k:BStep b c F):BStep a c (E++F) where
 nodes:=k.nodes.trans h.nodes
 up:=k.up.trans h.up
 gen:=k.gen.trans h.gen
 mem:=k.mem.trans h.mem
 stops:=k.stops.trans h.stops
 stopped:=k.stopped.trans h.stopped
 ord:=by rw[k.ord,h.ord,List.append_assoc]
 dst:=fun o ho=>by
  rcases List.mem_append.1 ho with ho | ho
  ·exact h.dst o ho
  ·rw[←h.up];exact k.dst o ho
 k5:=fun o ho=>by
  rcases List.mem_append.1 ho with ho | ho
  ·exact h.k5 o ho
  ·exact k.k5 o ho
 eff:=fun i hi=>⟨fun v h1 h2 h3 h4=>by
  obtain⟨q1,q2⟩:=(h.eff i hi).go v h1 h2 h3 h4;rw[qOf_app,List.foldl_append];refine(k.eff i (by rw[h.up];exact hi)).go _ q1 (acts_keys h2) q2 fun e=>?_;exact acts_noRun (h4 (by rw[←h.stops];exact e)) fun x hx=>(h.k5 _ (mem_qOf.1 hx)).1⟩
theorem BStep.refl (b:Br):BStep b b [] where
 nodes:=rfl
 up:=rfl
 gen:=rfl
 mem:=rfl
 stops:=rfl
 stopped:=rfl
 ord:=by simp
 dst:=fun o ho=>by cases ho
 k5:=fun o ho=>by cases ho
 eff:=fun i _=>⟨fun v h1 _ h3 _=>⟨h1,h3⟩⟩
theorem Vn.rest {b:Br} {i:Nat} {n:Nd} (h:Vn b i n) (hs:b.stops=none):Wk n.rk∧noK 5 (n.inn++qOf b.orders i)∧noK 6 (n.inn++qOf b.orders i)∧noKo 7 n.out:=by
 have hp:=h.ph;rw[hs]at hp;cases hp with
 | rest _ a2 a3 a4 a5=>exact⟨a5,a2,a3,a4⟩
 | go a1=>simp at a1
 | stop _ _ _ a1=>simp at a1
 | said _ _ _ a1=>simp at a1
theorem Vn.finRun {b:Br} {i:Nat} {n:Nd} (h:Vn b i n) (hs:b.stops=none):Wk (fin n.rk (n.inn++qOf b.orders i)).rk:=acts_noRun (nd:=⟨true,n.rk,[],[],false⟩) (h.rest hs).1 (h.rest hs).2.1
theorem Vn.step {b b':Br} {E:List Od} (k:BStep b b' E) {i:Nat} (hi:i∈b.up) {n:Nd} (h:Vn b i n):Vn b' i n:=by
 have hq:n.inn++qOf b'.orders i=(n.inn++qOf b.orders i)++qOf E i:=by rw[k.ord,qOf_app,List.append_assoc]
 obtain⟨e1,e2⟩:=(k.eff i hi).go (fin n.rk (n.inn++qOf b.orders i)) h.right (acts_keys (nd:=⟨true,n.rk,[],[],false⟩) h.kn) h.here h.finRun;have hf:fin n.rk (n.inn++qOf b'.orders i)=(qOf E i).foldl Qt (fin n.rk (n.inn++qOf b.orders i)):=by rw[hq,fin,List.foldl_append];rfl
 refine⟨h.kn,h.ps,h.one,h.wr,by rw[hf];exact e1,fun x hx=>?_,fun id=>by rw[hf];exact e2 id,?_⟩
 ·rw[hq]at hx
  rcases List.mem_append.1 hx with hx | hx
  ·exact h.ld x hx
  ·exact(k.k5 _ (mem_qOf.1 hx)).2.2.1
 ·rw[hq,k.gen,k.mem,k.stops,k.stopped];exact h.ph.app (fun x hx=>(k.k5 _ (mem_qOf.1 hx)).1) (fun x hx=>(k.k5 _ (mem_qOf.1 hx)).2.1)
structure GI (b:Br) (nd:List Nd):Prop where
 bi:BrI b never
 len:nd.length=b.nodes
 dst:∀o∈b.orders,o.1∈b.up
 up:∀(i:Nat) (n:Nd),nd[i]?=some n→n.up=decide (i∈b.up)
 off:∀(i:Nat) (n:Nd),nd[i]?=some n→n.up=false→n.rk=[]∧n.inn=[]∧n.out=[]∧n.wrong=false
 node:∀(i:Nat) (n:Nd),nd[i]?=some n→n.up=true→Vn b i n
 stp:∀i∈b.stops.getD [],i∈b.up
theorem GI.step {b b':Br} {E:List Od} {nd:List Nd} (h:GI b nd) (k:BStep b b' E) (hb:BrI b' never):GI b' nd where
 bi:=hb
 len:=h.len.trans k.nodes.symm
 dst:=fun o ho=>by
  rw[k.ord]at ho;rw[k.up]
  rcases List.mem_append.1 ho with ho | ho
  ·exact h.dst o ho
  ·exact k.dst o ho
 up:=fun i n hn=>by rw[k.up];exact h.up i n hn
 off:=h.off
 node:=fun i n hn hu=>(h.node i n hn hu).step k (by
  have:=h.up i n hn;rw[hu]at this;exact of_decide_eq_true this.symm)
 stp:=fun i hi=>by rw[k.up];rw[k.stops]at hi;exact h.stp i hi
theorem getJ_rm {js:List Bj} (k id:Nat):Qb (rmJ js k) id=if id=k then none else Qb js id:=by
 by_cases h:id=k
 ·rw[if_pos h];cases hg:Qb (rmJ js k) id with
  | none=>rfl
  | some x=>
   obtain⟨h1,h2⟩:=Qa hg;have:=(List.mem_filter.1 h1).2;rw[h2,h]at this;simp at this
 ·rw[if_neg h];exact rm_oth js h
theorem pres_set {b:Br} {x y:Bj} (hx:Qb b.js x.id=some x) (hid:y.id=x.id) (os:List Od) (m:Mx) (i id:Nat):Pres {b with js:=Yf b.js y,orders:=os,m:=m} i id↔if id=x.id then (y.drops=none∧i∈y.at_) else Pres b i id:=by
 have h1:=getJ_set b.js y id;unfold Pres;show (∃z,Qb (Yf b.js y) id=some z∧_)↔_;rw[h1,hid]
 by_cases e:id=x.id
 ·rw[if_pos e,if_pos e,e,hx];simp
 ·rw[if_neg e,if_neg e]
theorem pres_rm {b:Br} (k:Nat) (os:List Od) (m:Mx) (i id:Nat):Pres {b with js:=rmJ b.js k,orders:=os,m:=m} i id↔id≠k∧Pres b i id:=by
 unfold Pres;show (∃z,Qb (rmJ b.js k) id=some z∧_)↔_;rw[getJ_rm]
 by_cases e:id=k
 ·rw[if_pos e];simp[e]
 ·rw[if_neg e];simp[e]
theorem look_del {js:List Jb} {j k:Nat}:look (delJ j js) k=if k=j then none else look js k:=by
 unfold look delJ;induction js with
 | nil=>simp
 | cons x js ih=>
  rw[List.filter_cons]
  by_cases e:x.id=j
  ·rw[if_neg (by simp[e]),ih]
   by_cases e2:k=j
   ·rw[if_pos e2,if_pos e2]
   ·rw[if_neg e2,if_neg e2,List.find?_cons];simp only[decide_eq_false (show ¬x.id=k by omega)]
  ·rw[if_pos (by simpa using e),List.find?_cons,List.find?_cons,ih]
   by_cases e2:x.id=k
   ·simp only[decide_eq_true e2,if_neg (show ¬k=j by omega)]
   ·simp only[decide_eq_false e2]
theorem look_add {m:Mx} (hm:Yn m) {x:Jb} (hn:look m.js x.id=none) (k:Nat):look (addJ x m.js) k=if k=x.id then some x else look m.js k:=by
 have hs:=addJ_srt hm.srt (fun y hy=>look_none hn y hy)
 by_cases e:k=x.id
 ·rw[if_pos e,e];exact look_mem hs (Xm.2 (.inl rfl))
 ·rw[if_neg e];cases h:look m.js k with
  | some y=>
   obtain⟨h1,h2⟩:=Vg h;rw[←h2];exact look_mem hs (Xm.2 (.inr h1))
  | none=>
   cases h3:look (addJ x m.js) k with
   | none=>rfl
   | some y=>
    obtain⟨h4,h5⟩:=Vg h3
    rcases Xm.1 h4 with h4 | h4
    ·rw[h4]at h5;exact absurd h5.symm e
    ·exact absurd h5 (look_none h y h4)
theorem remove_look (m:Mx) (j k:Nat):look (Q5 m j).2.js k=if k=j then none else look m.js k:=by
 unfold Q5
 split
 ·exact look_del
 ·rename_i h;have h:look m.js j=none:=by cases hl:look m.js j with | none=>rfl | some x=>rw[hl]at h;simp at h
  by_cases e:k=j
  ·rw[if_pos e,e];exact h
  ·rw[if_neg e]
theorem remove_mem {m:Mx} {j:Nat} {y:Jb} (hm:Yn m) (h:y∈(Q5 m j).2.js):y∈m.js∧y.id≠j:=by
 unfold Q5 at h
 split at h
 ·exact Xx.1 h
 ·rename_i h2;refine⟨h,fun e=>h2 ?_⟩;have h:y∈m.js:=h;rw[←e,look_mem hm.srt h];rfl
theorem isUpB_same {m m':Mx} (h1:m'.up=m.up) (h2:m'.N=m.N) (z:Int):Wy m' z=Wy m z:=by simp only[Wy,Wx,h1,h2]
theorem remove_same (m:Mx) (j:Nat):(Q5 m j).2.up=m.up∧(Q5 m j).2.N=m.N:=by unfold Q5;split <;> exact⟨rfl,rfl⟩
theorem JInv.congr {b b':Br} {bad:Nat→Nat→Prop} {x:Bj} (h:JInv b bad x) (hl:look b'.m.js x.id=look b.m.js x.id) (hu:b'.up=b.up):JInv b' bad x:=
 ⟨h.st,fun e=>by rw[hl];exact h.q e,fun e=>by rw[hl];exact h.p e,h.d,fun e=>by rw[hu];exact h.u e,fun d e=>by rw[hu];exact h.du d e,h.da⟩
theorem BrI.same {b b':Br} {bad:Nat→Nat→Prop} (h:BrI b bad) (ok:Qp b') (hj:b'.js=b.js) (hm:b'.m=b.m) (hu:b'.up=b.up):BrI b' bad:=
 ⟨ok,fun x hx=>by rw[hj]at hx;exact(h.j x hx).congr (by rw[hm]) hu,fun y hy=>by rw[hm]at hy;rw[hj];exact h.mj y hy,fun n=>by rw[hu,hm];exact h.up n⟩
theorem BrI.ord {b:Br} {bad:Nat→Nat→Prop} (h:BrI b bad) (os:List Od):BrI {b with orders:=os} bad:=h.same (h.ok.oset os) rfl rfl rfl
theorem BrI.put {b:Br} {bad:Nat→Nat→Prop} (h:BrI b bad) {x y:Bj} {m:Mx} (hx:Qb b.js x.id=some x) (hid:y.id=x.id) (ok:Qp {b with m:=m,js:=Yf b.js y}) (hl:∀k,k≠x.id→look m.js k=look b.m.js k) (hm:∀z∈m.js,z.id=x.id∨z∈b.m.js) (hu:∀z,Wy m z=Wy b.m z) (hy:JInv {b with m:=m,js:=Yf b.js y} bad y):BrI {b with m:=m,js:=Yf b.js y} bad where
 ok:=ok
 j:=fun z hz=>by
  obtain⟨w,hw,e⟩:=List.mem_map.1 (show z∈Yf b.js y from hz)
  split at e
  ·subst e;exact hy
  ·rename_i hne;subst e;exact(h.j w hw).congr (hl w.id (by rw[←hid];exact hne)) rfl
 mj:=fun z hz=>by
  show (Qb (Yf b.js y) z.id).isSome=true;rw[getJ_set]
  rcases hm z hz with e | hz
  ·rw[if_pos (by rw[hid];exact e),e,hx];rfl
  ·split
   ·rw[Option.isSome_map];exact h.mj z hz
   ·exact h.mj z hz
 up:=fun n=>by rw[show ({b with m:=m,js:=Yf b.js y}:Br).m=m from rfl,hu];exact h.up n
theorem BrI.set {b:Br} {bad:Nat→Nat→Prop} (h:BrI b bad) {x y:Bj} (hx:Qb b.js x.id=some x) (hid:y.id=x.id) (hk:JOk b.nodes y) (hy:JInv b bad y):BrI (b.set y) bad:=
 h.put (m:=b.m) hx hid (h.ok.set hk) (fun _ _=>rfl) (fun _ hz=>.inr hz) (fun _=>rfl) (hy.congr rfl rfl)
theorem BrI.gone {b:Br} {bad:Nat→Nat→Prop} (h:BrI b bad) {x y:Bj} (hx:Qb b.js x.id=some x) (hid:y.id=x.id) (hk:JOk b.nodes y) (hy:y.drops≠some []→JInv b bad y):BrI (Q8 b y) bad:=by
 have ok:=goneR_ok h.ok hk;unfold Q8 at ok ⊢
 split
 ·rename_i hd;rw[if_pos hd]at ok
  split
  ·rename_i ha;rw[if_pos ha]at ok
   refine h.put (y:=anew y) hx hid ok (fun k hk=>?_) (fun z hz=>.inr (remove_mem h.ok.mok hz).1) (fun z=>isUpB_same (remove_same _ _).1 (remove_same _ _).2 z) ?_
   ·rw[remove_look,if_neg (by rw[hid];exact hk)]
   ·refine⟨Nat.zero_le _,fun _=>⟨rfl,rfl,rfl,rfl,?_⟩,fun e=>absurd rfl e,⟨fun e=>(by cases e),fun e=>(by cases e)⟩,fun _ n hn=>(by cases hn),fun d e=>(by cases e),fun d e=>(by cases e)⟩;show look (Q5 b.m y.id).2.js y.id=none;rw[remove_look,if_pos rfl]
  ·rename_i ha;rw[if_neg ha]at ok
   exact {
    ok:=ok
    j:=fun z hz=>by
     obtain⟨h1,h2⟩:=List.mem_filter.1 (show z∈rmJ b.js y.id from hz);have h2:z.id≠y.id:=by simpa using h2
     refine(h.j z h1).congr ?_ rfl;show look (Q5 b.m y.id).2.js z.id=_;rw[remove_look,if_neg h2]
    mj:=fun z hz=>by
     obtain⟨h1,h2⟩:=remove_mem h.ok.mok hz;show (Qb (rmJ b.js y.id) z.id).isSome=true;rw[getJ_rm,if_neg h2];exact h.mj z h1
    up:=fun n=>by
     rw[show ({b with m:=(Q5 b.m y.id).2,js:=rmJ b.js y.id}:Br).m=(Q5 b.m y.id).2 from rfl,isUpB_same (remove_same _ _).1 (remove_same _ _).2];exact h.up n}
 ·rename_i hd;exact h.set hx hid hk (hy hd)
theorem not_pres {b:Br} {x:Bj} (hx:Qb b.js x.id=some x) (hd:x.drops.isSome=true) (i:Nat):¬Pres b i x.id:=fun⟨z,h1,h2,_⟩=>by
 rw[hx]at h1;cases h1;rw[h2]at hd;cases hd
theorem pres_gone {b:Br} {x y:Bj} (hx:Qb b.js x.id=some x) (hid:y.id=x.id) (hd:y.drops.isSome=true) (i id:Nat):Pres (Q8 b y) i id↔id≠x.id∧Pres b i id:=by
 unfold Q8
 split
 ·split
  ·have:=pres_set (b:=b) (y:=anew y) hx hid b.orders (Q5 b.m y.id).2 i id;refine this.trans ?_
   by_cases e:id=x.id
   ·rw[if_pos e];simp[e]
   ·rw[if_neg e];simp[e]
  ·have:=pres_rm (b:=b) y.id b.orders (Q5 b.m y.id).2 i id;rw[←hid];exact this
 ·have:=pres_set (b:=b) (y:=y) hx hid b.orders b.m i id;refine this.trans ?_
  by_cases e:id=x.id
  ·rw[if_pos e]
   constructor
   ·rintro ⟨h1,_⟩;rw[h1]at hd;cases hd
   ·rintro ⟨h1,_⟩;exact absurd e h1
  ·rw[if_neg e];simp[e]
theorem pres_same {b:Br} {x y:Bj} (hx:Qb b.js x.id=some x) (hid:y.id=x.id) (hat:y.at_=x.at_) (hd:y.drops=x.drops) (os:List Od) (m:Mx) (i id:Nat):Pres {b with js:=Yf b.js y,orders:=os,m:=m} i id↔Pres b i id:=by
 refine(pres_set hx hid os m i id).trans ?_
 by_cases e:id=x.id
 ·rw[if_pos e,hat,hd,e];exact⟨fun h=>⟨x,hx,h.1,h.2⟩,fun⟨z,h1,h2,h3⟩=>by rw[hx]at h1;cases h1;exact⟨h2,h3⟩⟩
 ·rw[if_neg e]
def BS (b b':Br):Prop:=∃E,BStep b b' E
theorem BS.refl (b:Br):BS b b:=⟨[],.refl b⟩
theorem BS.trans {a b c:Br} (h:BS a b) (k:BS b c):BS a c:=by
 obtain⟨E,h⟩:=h;obtain⟨F,k⟩:=k;exact⟨E++F,h.trans k⟩
theorem BS.stops {b b':Br} (h:BS b b'):b'.stops=b.stops:=by obtain⟨_,h⟩:=h;exact h.stops
theorem eff_nil {b b':Br} {i:Nat} (h:∀id,Pres b' i id↔Pres b i id):Eff b b' i []:=⟨fun _ h1 _ h3 _=>⟨h1,fun id=>(h3 id).trans (h id).symm⟩⟩
structure Sam (b b':Br):Prop where
 nodes:b'.nodes=b.nodes
 up:b'.up=b.up
 gen:b'.gen=b.gen
 mem:b'.members=b.members
 stops:b'.stops=b.stops
 stopped:b'.stopped=b.stopped
theorem BS.quiet {b b':Br} (h:Sam b b') (ho:b'.orders=b.orders) (hp:∀i id,Pres b' i id↔Pres b i id):BS b b':=
 ⟨[],h.nodes,h.up,h.gen,h.mem,h.stops,h.stopped,by rw[ho];simp,fun _ h=>(by cases h),fun _ h=>(by cases h),fun i _=>eff_nil (hp i)⟩
theorem Sam.gone (b:Br) (y:Bj):Sam b (Q8 b y):=by
 unfold Q8
 split
 ·split <;> exact⟨rfl,rfl,rfl,rfl,rfl,rfl⟩
 ·exact⟨rfl,rfl,rfl,rfl,rfl,rfl⟩
theorem bs_set {b:Br} {x y:Bj} (hx:Qb b.js x.id=some x) (hid:y.id=x.id) (hat:y.at_=x.at_) (hd:y.drops=x.drops):BS b (b.set y):=
 BS.quiet ⟨rfl,rfl,rfl,rfl,rfl,rfl⟩ rfl fun i id=>pres_same hx hid hat hd b.orders b.m i id
theorem bs_gone {b:Br} {x y:Bj} (hx:Qb b.js x.id=some x) (hid:y.id=x.id) (h1:x.drops.isSome=true) (h2:y.drops.isSome=true):BS b (Q8 b y):=
 BS.quiet (.gone b y) (goneR_same b y).1 fun i id=>(pres_gone hx hid h2 i id).trans ⟨fun h=>h.2,fun h=>⟨fun e=>not_pres hx h1 i (by rw[←e];exact h),h⟩⟩
theorem qOf_each (f:Nat→Nt) (i:Nat):∀ {l:List Nat},l.Nodup→qOf (l.map fun n=>((n,f n):Od)) i=if i∈l then [f i] else []
 | [],_=>rfl
 | n::l,h=>by
  have ih:=qOf_each f i (List.nodup_cons.1 h).2;unfold qOf at ih ⊢;rw[List.map_cons,List.filter_cons]
  by_cases e:n=i
  ·rw[if_pos (by simpa using e),List.map_cons,ih,if_neg (by rw[←e];exact(List.nodup_cons.1 h).1),if_pos (by rw[e];exact List.mem_cons_self ..),e]
  ·rw[if_neg (by simpa using e),ih]
   by_cases hi:i∈l
   ·rw[if_pos hi,if_pos (List.mem_cons_of_mem _ hi)]
   ·rw[if_neg hi,if_neg (by simp[hi,Ne.symm e])]
theorem bs_drop {b:Br} {x y:Bj} (hx:Qb b.js x.id=some x) (hid:y.id=x.id) (hat:y.at_=x.at_) (hd:y.drops=x.drops) (hk:JOk b.nodes y) (a:Bool):BS b (Yp b y a):=by
 cases hxd:x.drops with
 | some d=>
  rw[Wv (hd.trans hxd)];exact bs_gone hx hid (by rw[hxd];rfl) rfl
 | none=>
  rw[X3 (hd.trans hxd)];have hs:=Sam.gone {b with orders:=b.orders++(V5 b y).map (Xt y.id)} (Wn y a (V5 b y));obtain⟨b',hb'⟩:∃b',b'=Q8 {b with orders:=b.orders++(V5 b y).map (Xt y.id)} (Wn y a (V5 b y)):=⟨_,rfl⟩;have hp:∀i id,Pres b' i id↔id≠x.id∧Pres b i id:=fun i id=>by rw[hb'];exact pres_gone (b:={b with orders:=b.orders++(V5 b y).map (Xt y.id)}) (y:=Wn y a (V5 b y)) hx hid rfl i id
  have ho:b'.orders=b.orders++(V5 b y).map (Xt y.id):=by rw[hb'];exact(goneR_same _ _).1
  have hq:∀i,qOf ((V5 b y).map (Xt y.id)) i=if i∈V5 b y then [{kind:=10,job:=y.id}] else []:=fun i=>qOf_each (fun _=>{kind:=10,job:=y.id}) i (upOf_nodup hk b)
  rw[←hb']at hs ⊢
  refine⟨(V5 b y).map (Xt y.id),hs.nodes,hs.up,hs.gen,hs.mem,hs.stops,hs.stopped,ho,fun o ho=>?_,fun o ho=>?_,fun i hi=>⟨fun v h1 h2 h3 _=>?_⟩⟩
  ·obtain⟨n,hn,rfl⟩:=List.mem_map.1 ho;exact of_decide_eq_true (List.mem_filter.1 hn).2
  ·obtain⟨n,hn,rfl⟩:=List.mem_map.1 ho;exact⟨by show 10≠5;omega,by show 10≠6;omega,fun e=>(by cases e),Nat.zero_le _⟩
  ·rw[hq i]
   have hm:i∈V5 b y↔i∈x.at_:=by
    rw[V5,List.mem_filter,hat];exact⟨fun h=>h.1,fun h=>⟨h,decide_eq_true hi⟩⟩
   by_cases h:i∈x.at_
   ·rw[if_pos (hm.2 h),List.foldl_cons,List.foldl_nil];unfold Qt;rw[if_neg (by show (10:Nat)≠3;omega),if_neg (by show (10:Nat)≠5;omega),if_neg (by show (10:Nat)≠6;omega),if_neg (by show (10:Nat)≠8;omega),if_pos rfl];refine⟨h1,fun id=>?_⟩;show (Zh id (nDel y.id v.rk)).isSome=true↔_;rw[nGet_del y.id h2,hp i id,hid]
    by_cases e:id=x.id
    ·rw[if_pos e];simp[e]
    ·rw[if_neg e];exact(h3 id).trans ⟨fun h=>⟨e,h⟩,fun h=>h.2⟩
   ·rw[if_neg (fun e=>h (hm.1 e)),List.foldl_nil];refine⟨h1,fun id=>(h3 id).trans ?_⟩;rw[hp i id];refine⟨fun k=>⟨fun e=>?_,k⟩,fun k=>k.2⟩;obtain⟨z,k1,_,k3⟩:=k;rw[e,hx]at k1;cases k1;exact h k3
theorem drop_I {b:Br} {bad:Nat→Nat→Prop} (h:BrI b bad) {x y:Bj} (hx:Qb b.js x.id=some x) (hid:y.id=x.id) (hat:y.at_=x.at_) (hd:y.drops=x.drops) (hk:y.k=x.k) (hj:JOk b.nodes y) (a:Bool):BrI (Yp b y a) bad:=by
 have hX:=h.j x (Qa hx).1
 have key:∀(b1:Br) (d:List Nat),BrI b1 bad→Qb b1.js x.id=some x→b1.m=b.m→b1.up=b.up→b1.nodes=b.nodes→d.Nodup→(d≠[]→x.state≠0)→(∀n∈d,n∈b.up∨bad x.id n)→(∀n∈d,n∈x.at_)→BrI (Q8 b1 (Wn y a d)) bad:=by
  intro b1 d h1 g1 e1 e2 e3 hn h0 hu ha;refine h1.gone g1 hid (by rw[e3];exact hj.Wn a hn) fun hne=>?_;have hs:x.state≠0:=h0 fun e=>hne (by show some d=some [];rw[e]);obtain⟨p1,z,p2,p3⟩:=hX.p hs
  refine⟨Nat.le_refl 3,fun e=>(by cases e),fun _=>⟨?_,z,?_,?_⟩,⟨fun _=>rfl,fun _=>rfl⟩,fun e=>(by cases e),fun d' e=>?_,fun d' e=>(by cases e;intro n hn';show n∈y.at_;rw[hat];exact ha n hn')⟩
  ·show y.at_.length=y.k;rw[hat,hk];exact p1
  ·show look b1.m.js y.id=some z;rw[e1,hid];exact p2
  ·show lst z.ns=y.at_;rw[hat];exact p3
  ·cases e;intro n hn';show n∈b1.up∨bad y.id n;rw[e2,hid];exact hu n hn'
 cases hxd:x.drops with
 | some d=>
  rw[Wv (hd.trans hxd)];exact key b d h hx rfl rfl rfl (hj.drop d (hd.trans hxd)) (fun _ e=>(by rw[(hX.q e).2.1]at hxd;cases hxd)) (hX.du d hxd) (hX.da d hxd)
 | none=>
  rw[X3 (hd.trans hxd)];refine key _ _ (h.ord _) hx rfl rfl rfl (upOf_nodup hj b) (fun hne e=>hne ?_) (fun n hn=>.inl (of_decide_eq_true (List.mem_filter.1 hn).2)) fun n hn=>by have:=(List.mem_filter.1 hn).1;rwa [hat]at this
  rw[V5,hat,(hX.q e).1];rfl
theorem bs_done {b:Br} (ds:List Nat):BS b {b with done:=ds}:=BS.quiet ⟨rfl,rfl,rfl,rfl,rfl,rfl⟩ rfl fun _ _=>Iff.rfl
theorem finish_BI {b:Br} {bad:Nat→Nat→Prop} (h:BrI b bad) {x y:Bj} (hx:Qb b.js x.id=some x) (hid:y.id=x.id) (hat:y.at_=x.at_) (hd:y.drops=x.drops) (hk:y.k=x.k) (hj:JOk b.nodes y) (hy:JInv b bad y):BS b (Qz b y)∧BrI (Qz b y) bad:=by
 unfold Qz
 split
 ·exact⟨bs_set hx hid hat hd,h.set hx hid hj hy⟩
 ·have hj2:JOk b.nodes {y with done:=true}:=⟨hj.id1,hj.id2,hj.tier,hj.k1,hj.kn,hj.w,hj.cr,hj.wk,hj.rise,hj.at_,hj.drop,hj.lod,hj.ran,hj.ld,hj.svl⟩;refine⟨(bs_done _).trans (bs_drop (b:={b with done:=b.done++[y.id]}) (x:=x) (y:={y with done:=true}) hx hid hat hd hj2 false),?_⟩;exact drop_I (b:={b with done:=b.done++[y.id]}) (h.same (h.ok.dset _) rfl rfl rfl) (x:=x) (y:={y with done:=true}) hx hid hat hd hk hj2 false
structure Agr (x y:Bj):Prop where
 id:y.id=x.id
 at_:y.at_=x.at_
 dr:y.drops=x.drops
 st:y.state=x.state
 k:y.k=x.k
theorem JInv.agr {b:Br} {bad:Nat→Nat→Prop} {x y:Bj} (h:JInv b bad x) (a:Agr x y) (h0:x.state=0→y.sav=none∧y.ran=none):JInv b bad y:=by
 refine⟨by rw[a.st];exact h.st,fun e=>?_,fun e=>?_,by rw[a.st,a.dr];exact h.d,by rw[a.dr,a.at_,a.id];exact h.u,by rw[a.dr,a.id];exact h.du,by rw[a.dr,a.at_];exact h.da⟩
 ·rw[a.st]at e;obtain⟨q1,q2,_,_,q5⟩:=h.q e;exact⟨by rw[a.at_];exact q1,by rw[a.dr];exact q2,(h0 e).1,(h0 e).2,by rw[a.id];exact q5⟩
 ·rw[a.st]at e;obtain⟨p1,z,p2,p3⟩:=h.p e;exact⟨by rw[a.at_,a.k];exact p1,z,by rw[a.id];exact p2,by rw[a.at_];exact p3⟩
theorem set_BI {b:Br} {bad:Nat→Nat→Prop} (h:BrI b bad) {x y:Bj} (hx:Qb b.js x.id=some x) (a:Agr x y) (hj:JOk b.nodes y) (h0:x.state=0→y.sav=none∧y.ran=none):BS b (b.set y)∧BrI (b.set y) bad:=
 ⟨bs_set hx a.id a.at_ a.dr,h.set hx a.id hj ((h.j x (Qa hx).1).agr a h0)⟩
theorem rise_nodup {l:List Nat} (h:l.Pairwise (· < ·)):l.Nodup:=h.imp fun h=>Nat.ne_of_lt h
theorem save_BI {b:Br} (h:BrI b never) (hs:b.stops=none) {x y:Bj} (hx:Qb b.js x.id=some x) (a:Agr x y) (hj:JOk b.nodes y) (h0:x.state=0→y.sav=none∧y.ran=none):BS b (Y7 b y)∧BrI (Y7 b y) never:=by
 by_cases hc:y.work=y.credit∨y.sav.isSome∨y.drops.isSome∨y.state≠2
 ·rw[Wq hc];exact set_BI h hx a hj h0
 ·rw[Ve hc]
  have hdn:y.drops=none:=by
   cases hd:y.drops with
   | none=>rfl
   | some d=>exact absurd (.inr (.inr (.inl (by rw[hd];rfl)))) hc
  have hst:y.state=2:=Classical.byContradiction fun e=>hc (.inr (.inr (.inr e)));have hX:=h.j x (Qa hx).1;have hup:∀n∈y.at_,n∈b.up:=fun n hn=>(hX.u (by rw[←a.dr];exact hdn) n (by rw[←a.at_];exact hn)).resolve_right fun h=>h;have hsv:y.state=0→(Wd y).sav=none∧(Wd y).ran=none:=fun e=>(by rw[hst]at e;cases e)
  refine⟨⟨y.at_.map (We (Wd y)),rfl,rfl,rfl,rfl,rfl,rfl,rfl,fun o ho=>?_,fun o ho=>?_,fun i hi=>⟨fun v h1 h2 h3 h4=>?_⟩⟩,?_⟩
  ·obtain⟨n,hn,rfl⟩:=List.mem_map.1 ho;exact hup n hn
  ·obtain⟨n,hn,rfl⟩:=List.mem_map.1 ho;exact⟨by show 8≠5;omega,by show 8≠6;omega,fun e=>(by cases e),Nat.zero_le _⟩
  ·have hp:∀id,Pres (Br.set {b with orders:=b.orders++y.at_.map (We (Wd y))} (Wd y)) i id↔Pres b i id:=fun id=>pres_same (y:=Wd y) hx a.id a.at_ a.dr _ b.m i id;have hq:qOf (y.at_.map (We (Wd y))) i=if i∈y.at_ then [{kind:=8,job:=y.id,ver:=u32 (y.ver+1),credit:=y.work}] else []:=qOf_each (fun _=>{kind:=8,job:=y.id,ver:=u32 (y.ver+1),credit:=y.work}) i (rise_nodup hj.rise)
   rw[hq]
   by_cases hm:i∈y.at_
   ·rw[if_pos hm,List.foldl_cons,List.foldl_nil];obtain⟨r,hr⟩:=Option.isSome_iff_exists.1 ((h3 y.id).2 ⟨x,by rw[a.id];exact hx,by rw[←a.dr];exact hdn,by rw[←a.at_];exact hm⟩);unfold Qt;rw[if_neg (by show (8:Nat)≠3;omega),if_neg (by show (8:Nat)≠5;omega),if_neg (by show (8:Nat)≠6;omega),if_pos rfl];simp only[hr];refine⟨?_,fun id=>(h3 id).trans (hp id).symm⟩;rw[h1,h4 hs (y.id,r) (nGet_mem hr)];rfl
   ·rw[if_neg hm,List.foldl_nil];exact⟨h1,fun id=>(h3 id).trans (hp id).symm⟩
  ·have hI:=h.ord (b.orders++y.at_.map (We (Wd y)));exact hI.set (y:=Wd y) hx a.id hj.Wd ((hI.j x (Qa hx).1).agr (y:=Wd y) ⟨a.id,a.at_,a.dr,a.st,a.k⟩ fun e=>hsv (by rw[a.st];exact e))
theorem count_BI {b:Br} (h:BrI b never) (hs:b.stops=none) {x:Bj} (hx:Qb b.js x.id=some x):BS b (Yi b x)∧BrI (Yi b x) never:=by
 have hj:=h.ok.at_ hx;have hX:=h.j x (Qa hx).1;unfold Yi
 split
 ·exact set_BI h hx ⟨rfl,rfl,rfl,rfl,rfl⟩ hj fun e=>⟨(hX.q e).2.2.1,(hX.q e).2.2.2.1⟩
 ·split
  ·exact set_BI h (y:=ranX x) hx ⟨rfl,rfl,rfl,rfl,rfl⟩ hj.ranX fun e=>⟨(hX.q e).2.2.1,rfl⟩
  ·exact save_BI h hs (y:=cntX x _) hx ⟨rfl,rfl,rfl,rfl,rfl⟩ (hj.cntX _) fun e=>⟨(hX.q e).2.2.1,rfl⟩
theorem each_BI {f:Br→Bj→Br} {C:Br→Prop} {bad:Nat→Nat→Prop} (hf:∀b x,BrI b bad→C b→Qb b.js x.id=some x→BS b (f b x)∧BrI (f b x) bad∧C (f b x)):∀(l:List Nat) (b:Br),BrI b bad→C b→BS b (each f b l)∧BrI (each f b l) bad∧C (each f b l)
 | [],b,h,hc=>⟨.refl b,h,hc⟩
 | id::l,b,h,hc=>by
  have e:each f b (id::l)=each f (match Qb b.js id with | none=>b | some x=>f b x) l:=rfl;rw[e];cases hg:Qb b.js id with
  | none=>exact each_BI hf l b h hc
  | some x=>
   obtain⟨h1,h2,h3⟩:=hf b x h hc (by rw[(Qa hg).2];exact hg);obtain⟨k1,k2,k3⟩:=each_BI hf l (f b x) h2 h3;exact⟨h1.trans k1,k2,k3⟩
theorem counts_BI {b:Br} (h:BrI b never) (hs:b.stops=none) (l:List Nat):BS b (each Yi b l)∧BrI (each Yi b l) never:=
 let ⟨h1,h2,_⟩:=each_BI (C:=fun b=>b.stops=none) (fun _ _ h hs hx=>⟨(count_BI h hs hx).1,(count_BI h hs hx).2,(count_BI h hs hx).1.stops.trans hs⟩) l b h hs
 ⟨h1,h2⟩
theorem saves_BI {b:Br} (h:BrI b never) (hs:b.stops=none) (l:List Nat):BS b (each Y7 b l)∧BrI (each Y7 b l) never:=
 let ⟨h1,h2,_⟩:=each_BI (f:=Y7) (C:=fun b=>b.stops=none) (fun _ x h hs hx=>
  have hX:=h.j x (Qa hx).1;have k:=save_BI h hs (y:=x) hx ⟨rfl,rfl,rfl,rfl,rfl⟩ (h.ok.at_ hx) fun e=>⟨(hX.q e).2.2.1,(hX.q e).2.2.2.1⟩
  ⟨k.1,k.2,k.1.stops.trans hs⟩) l b h hs
 ⟨h1,h2⟩
theorem leave_BI {b:Br} {bad:Nat→Nat→Prop} (h:BrI b bad) {x:Bj} (hx:Qb b.js x.id=some x):BS b (Z0 b x)∧BrI (Z0 b x) bad:=by
 unfold Z0
 split
 ·exact⟨bs_drop hx rfl rfl rfl (h.ok.at_ hx) true,drop_I h hx rfl rfl rfl rfl (h.ok.at_ hx) true⟩
 ·exact⟨.refl b,h⟩
theorem leaves_BI {b:Br} {bad:Nat→Nat→Prop} (h:BrI b bad) (l:List Nat):BS b (each Z0 b l)∧BrI (each Z0 b l) bad:=
 let ⟨h1,h2,_⟩:=each_BI (f:=Z0) (C:=fun _=>True) (fun _ _ h _ hx=>⟨(leave_BI h hx).1,(leave_BI h hx).2,trivial⟩) l b h trivial
 ⟨h1,h2⟩
theorem rep_BI {b:Br} {bad:Nat→Nat→Prop} (h:BrI b bad):BS b (rep b)∧BrI (rep b) bad:=by
 have hk:=Keep.repack h.ok.mok
 refine⟨BS.quiet ⟨rfl,rfl,rfl,rfl,rfl,rfl⟩ rfl fun _ _=>Iff.rfl,rep_ok h.ok,fun x hx=>?_,fun z hz=>?_,fun n=>?_⟩
 ·have hX:=h.j x hx;have hl:=look_keep hk.js x.id
  refine⟨hX.st,fun e=>?_,fun e=>?_,hX.d,hX.u,hX.du,hX.da⟩
  ·obtain⟨q1,q2,q3,q4,q5⟩:=hX.q e;refine⟨q1,q2,q3,q4,?_⟩;rw[q5]at hl;show look (Vm b.m).1.js x.id=none;cases hn:look (Vm b.m).1.js x.id with
   | none=>rfl
   | some y=>rw[hn]at hl;cases hl
  ·obtain⟨p1,z,p2,p3⟩:=hX.p e;rw[p2]at hl
   rcases hn:look (Vm b.m).1.js x.id with _ | y
   ·rw[hn]at hl;cases hl
   ·rw[hn]at hl;simp only[Option.map_some,Option.some.injEq]at hl;exact⟨p1,y,rfl,by rw[show y.ns=z.ns from congrArg Prod.snd hl];exact p3⟩
 ·have:z.id∈b.m.js.map (·.id):=by rw[←hk.ids];exact List.mem_map.2 ⟨z,hz,rfl⟩
  obtain⟨w,hw,e⟩:=List.mem_map.1 this;rw[←e];exact h.mj w hw
 ·rw[show (rep b).m=(Vm b.m).1 from rfl,isUpB_same hk.up hk.N];exact h.up n
theorem warn_BI {b:Br} (h:BrI b never) {x:Bj} (hx:Qb b.js x.id=some x) (hd:x.drops=none):BS b (W8 b x)∧BrI (W8 b x) never:=by
 have hX:=h.j x (Qa hx).1;have hj:=h.ok.at_ hx;have hj2:JOk b.nodes {x with warned:=true,till:=Ye b.now b.grace}:=⟨hj.id1,hj.id2,hj.tier,hj.k1,hj.kn,hj.w,hj.cr,hj.wk,hj.rise,hj.at_,hj.drop,hj.lod,hj.ran,hj.ld,hj.svl⟩;have h0:x.state=0→({x with warned:=true,till:=Ye b.now b.grace}:Bj).sav=none∧({x with warned:=true,till:=Ye b.now b.grace}:Bj).ran=none:=fun e=>⟨(hX.q e).2.2.1,(hX.q e).2.2.2.1⟩
 refine⟨⟨x.at_.map fun n=>((n,{kind:=12,job:=x.id,tick:=Ye b.now b.grace}):Od),rfl,rfl,rfl,rfl,rfl,rfl,rfl,fun o ho=>?_,fun o ho=>?_,fun i hi=>⟨fun v h1 h2 h3 h4=>?_⟩⟩,?_⟩
 ·obtain⟨n,hn,rfl⟩:=List.mem_map.1 ho;exact(hX.u hd n hn).resolve_right fun h=>h
 ·obtain⟨n,hn,rfl⟩:=List.mem_map.1 ho;exact⟨by show 12≠5;omega,by show 12≠6;omega,fun e=>(by cases e),Nat.zero_le _⟩
 ·have hp:∀id,Pres (W8 b x) i id↔Pres b i id:=fun id=>pres_same (y:={x with warned:=true,till:=Ye b.now b.grace}) hx rfl rfl rfl _ b.m i id;have hq:qOf (x.at_.map fun n=>((n,{kind:=12,job:=x.id,tick:=Ye b.now b.grace}):Od)) i=if i∈x.at_ then [{kind:=12,job:=x.id,tick:=Ye b.now b.grace}] else []:=qOf_each (fun _=>{kind:=12,job:=x.id,tick:=Ye b.now b.grace}) i (rise_nodup hj.rise)
  rw[hq]
  by_cases hm:i∈x.at_
  ·rw[if_pos hm,List.foldl_cons,List.foldl_nil];unfold Qt;rw[if_neg (by show (12:Nat)≠3;omega),if_neg (by show (12:Nat)≠5;omega),if_neg (by show (12:Nat)≠6;omega),if_neg (by show (12:Nat)≠8;omega),if_neg (by show (12:Nat)≠10;omega)];exact⟨h1,fun id=>(h3 id).trans (hp id).symm⟩
  ·rw[if_neg hm,List.foldl_nil];exact⟨h1,fun id=>(h3 id).trans (hp id).symm⟩
 ·have hI:=h.ord (b.orders++x.at_.map fun n=>((n,{kind:=12,job:=x.id,tick:=Ye b.now b.grace}):Od));exact hI.set (y:={x with warned:=true,till:=Ye b.now b.grace}) hx rfl hj2 ((hI.j x (Qa hx).1).agr (y:={x with warned:=true,till:=Ye b.now b.grace}) ⟨rfl,rfl,rfl,rfl,rfl⟩ h0)
def noDr (b:Br):Prop:=∀x∈b.js,x.drops=none
theorem noDr.warn {b:Br} (h:noDr b) (x:Bj) (hd:x.drops=none):noDr (W8 b x):=fun z hz=>by
 obtain⟨w,hw,e⟩:=List.mem_map.1 (show z∈Yf b.js {x with warned:=true,till:=Ye b.now b.grace} from hz)
 split at e
 ·subst e;exact hd
 ·subst e;exact h w hw
theorem preempt_BI {b:Br} (h:BrI b never):BS b (Q7 b)∧BrI (Q7 b) never:=by
 unfold Q7
 split
 ·exact⟨.refl b,h⟩
 split
 ·exact⟨.refl b,h⟩
 rename_i hany
 split
 ·exact⟨.refl b,h⟩
 ·have hn:noDr b:=fun x hx=>by
   cases hd:x.drops with
   | none=>rfl
   | some d=>exact absurd (List.any_eq_true.2 ⟨x,hx,by rw[hd];simp⟩) hany
  obtain⟨h1,h2,_⟩:=each_BI (f:=W8) (C:=noDr) (fun b x h hn hx=>by
   have hd:=hn x (Qa hx).1;exact⟨(warn_BI h hx hd).1,(warn_BI h hx hd).2,hn.warn x hd⟩) _ b h hn
  exact⟨h1,h2⟩
end BN
namespace PL
theorem best_row {D:List (List Int)} {k:Nat}:∀ {n:Nat} {v:Int} {i:Nat},bestUp k D n=some (v,i)→∃row,D[i]?=some row∧kth row k=some v
 | 0,_,_,h=>by cases h
 | n+1,v,i,h=>by
  unfold bestUp comb at h;cases hr:(D[n]?).bind fun row=>kth row k with
  | none=>rw[hr]at h;exact best_row h
  | some w=>
   rw[hr]at h
   have hn:∃row,D[n]?=some row∧kth row k=some w:=by
    cases hd:D[n]? with
    | none=>rw[hd]at hr;cases hr
    | some row=>rw[hd]at hr;exact⟨row,rfl,hr⟩
   cases hb:bestUp k D n with
   | none=>rw[hb]at h;cases h;exact hn
   | some p=>
    obtain⟨u,j⟩:=p;rw[hb]at h;simp only at h
    split at h
    ·cases h;exact hn
    ·cases h;exact best_row hb
theorem first_now {D:List (List Int)} {k:Int} (hok:(Xp D k).ok=true) (h0:(Xp D k).at_=0):(Xp D k).nodes.length=k.toNat∧∀n∈(Xp D k).nodes,∃row∈D,∃(i:Nat) (x:Int),n=i∧row[i]?=some x∧x≤0:=by
 unfold Xp at hok h0 ⊢
 split at hok
 ·cases hok
 rename_i hk;rw[if_neg hk]at h0 ⊢;cases hb:bestUp k.toNat D D.length with
 | none=>rw[hb]at hok;cases hok
 | some p=>
  obtain⟨v,i⟩:=p;rw[hb]at h0;have hv:v=0:=h0;subst hv;obtain⟨row,hr,hkt⟩:=best_row hb;simp only[hr,Option.getD_some];unfold kth at hkt;split at hkt
  case isFalse=>cases hkt
  rename_i hl;obtain⟨c,hc,hc0⟩:=Option.map_eq_some_iff.1 hkt;have hlen:=srt_length row
  refine⟨?_,fun n hn=>⟨row,List.mem_of_getElem? hr,?_⟩⟩
  ·rw[chosen,(srtI_perm _).length_eq,List.length_map,List.length_take];omega
  ·rw[chosen,(srtI_perm _).mem_iff]at hn;obtain⟨d,hd,rfl⟩:=List.mem_map.1 hn;obtain⟨j,hj,e⟩:=List.mem_iff_getElem.1 hd;rw[List.length_take]at hj;rw[List.getElem_take]at e;have hdm:d∈srt row:=by rw[←e];exact List.getElem_mem _
   have hle:d.2≤0:=by
    obtain⟨q1,q2⟩:=List.getElem?_eq_some_iff.1 hc
    by_cases ej:j=k.toNat-1
    ·subst ej;rw[←e,q2,hc0];exact Int.le_refl _
    ·have:=List.pairwise_iff_getElem.1 (srt_srt row) j (k.toNat-1) (by omega) q1 (by omega);rw[e,q2]at this;simp only[ltC,decide_eq_true_eq]at this;omega
   obtain⟨i,x,hx,hcx⟩:=mem_cells.1 ((srt_perm row).mem_iff.1 hdm);subst hcx;refine⟨i,x,rfl,hx,?_⟩;simp only[inI]at hle
   split at hle
   ·omega
   split at hle <;> omega
def Fr (D:List (List Int)) (U:Nat→Prop):Prop:=∀row∈D,∀(i:Nat) (x:Int),row[i]?=some x→x≤0→U i
theorem fr_set {D:List (List Int)} {U:Nat→Prop} (h:Fr D U) {v:Int} (hv:1≤v) (r:Int) (ns:List Int):Fr (raiseR D r ns v) U:=by
 unfold raiseR
 split
 ·have key:∀(ns:List Int) (row:List Int),(∀(i:Nat) (x:Int),row[i]?=some x→x≤0→U i)→∀(i:Nat) (x:Int),(setAll v row ns)[i]?=some x→x≤0→U i:=by
   intro ns;induction ns with
   | nil=>exact fun _ h=>h
   | cons n ns ih=>
    intro row hr;show ∀(i:Nat) (x:Int),(setAll v (setN v row n) ns)[i]?=some x→x≤0→U i;refine ih _ fun i x hx h0=>?_;unfold setN at hx
    split at hx
    ·rw[List.getElem?_set]at hx
     split at hx
     ·split at hx
      ·cases hx;omega
      ·cases hx
     ·exact hr i x hx h0
    ·exact hr i x hx h0
  intro row hrow i x hx h0
  rcases List.mem_or_eq_of_mem_set hrow with hm | hm
  ·exact h row hm i x hx h0
  ·subst hm;refine key ns _ (fun i x hx h0=>?_) i x hx h0;cases hd:D[r.toNat]? with
   | none=>rw[hd]at hx;simp at hx
   | some row=>rw[hd]at hx;exact h row (List.mem_of_getElem? hd) i x hx h0
 ·exact h
theorem plan_now {U:Nat→Prop}:∀ {l:List Ak} {D:List (List Int)} (_:Fr D U) {i:Nat} {s:St},(planR D l)[i]?=some s→s.ok=true→s.at_=0→∃a,l[i]?=some a∧s.nodes.length=a.k.toNat∧∀n∈s.nodes,∃i:Nat,n=i∧U i
 | [],_,_,_,_,h,_,_=>by cases h
 | a::l,D,hf,0,s,h,h1,h2=>by
  have e:Xp D a.k=s:=Option.some.inj h;subst e;obtain⟨k1,k2⟩:=first_now h1 h2;refine⟨a,rfl,k1,fun n hn=>?_⟩;obtain⟨row,hr,i,x,e,hx,h0⟩:=k2 n hn;exact⟨i,e,hf row hr i x hx h0⟩
 | a::l,D,hf,i+1,s,h,h1,h2=>by
  refine plan_now (D:=resR D (Xp D a.k) a.len) ?_ (i:=i) h h1 h2;unfold resR
  split
  ·refine fr_set hf ?_ _ _;unfold addI;have h5:=(inI_nn (Xp D a.k).at_).1;have h6:1≤inI (max a.len 1):=by unfold inI;split <;> (try split) <;> omega
   have h7:∀z:Int,1≤z→1≤inI z:=fun z hz=>by unfold inI;split <;> (try split) <;> omega
   exact h7 _ (by omega)
  ·exact hf
end PL
namespace BN
theorem qOf_idx (i:Nat):∀(l:List Nat) (f:Nat→Nt),l.Nodup→(i∉l→qOf (l.mapIdx fun r n=>((n,f r):Od)) i=[])∧(i∈l→∃r,qOf (l.mapIdx fun r n=>((n,f r):Od)) i=[f r])
 | [],_,_=>⟨fun _=>rfl,fun h=>(by cases h)⟩
 | n::l,f,h=>by
  obtain⟨h1,h2⟩:=List.nodup_cons.1 h;obtain⟨k1,k2⟩:=qOf_idx i l (fun r=>f (r+1)) h2;rw[List.mapIdx_cons];unfold qOf at k1 k2 ⊢;rw[List.filter_cons]
  by_cases e:n=i
  ·rw[if_pos (by simpa using e),List.map_cons];refine⟨fun hn=>absurd (by rw[e];exact List.mem_cons_self ..) hn,fun _=>⟨0,?_⟩⟩;rw[k1 (by rw[←e];exact h1)]
  ·rw[if_neg (by simpa using e)]
   exact⟨fun hn=>k1 fun hm=>hn (List.mem_cons_of_mem _ hm),fun hm=>by
    obtain⟨r,hr⟩:=k2 ((List.mem_cons.1 hm).resolve_left (Ne.symm e));exact⟨r+1,hr⟩⟩
theorem putR_no {m:Mx} {j:Nat} {z:Int} {l:List Int} (h:(Xq m j z l).1≠0):(Xq m j z l).2=m:=by
 unfold Xq at h ⊢
 split
 ·rfl
 rename_i h1;rw[if_neg h1]at h
 split
 ·rfl
 rename_i h2;rw[if_neg h2]at h
 split
 ·rfl
 rename_i h3;rw[if_neg h3]at h;exact absurd rfl h
theorem load_BI {b:Br} (h:BrI b never) {x:Bj} {s:PL.St} (hx:Qb b.js x.id=some x) (h0:x.state=0) (hup:∀n∈nats s.nodes,n∈b.up) (hlen:(nats s.nodes).length=x.k):BS b (V4 b x s)∧BrI (V4 b x s) never:=by
 by_cases hp:(Xq b.m x.id s.row s.nodes).1≠0
 ·rw[loadR_no hp,putR_no hp];exact⟨.refl b,h⟩
 have hX:=h.j x (Qa hx).1;have hj:=h.ok.at_ hx;obtain⟨q1,q2,q3,q4,q5⟩:=hX.q h0;have ok:=loadR_ok h.ok (s:=s) hj q3;have hp:=Classical.byContradiction hp;obtain⟨p1,p2,p3,p4⟩:=putR_zero hp;obtain⟨t1,t2⟩:=okUp_rise p1;obtain⟨o1,o2,_⟩:=put_ok h.ok.mok p2 p1;have hp':¬(Xq b.m x.id s.row s.nodes).1≠0:=fun e=>e hp;rw[Vz hp',p4]at ok ⊢;obtain⟨y,hy⟩:∃y,y=lodY x (nats s.nodes):=⟨_,rfl⟩;have hyi:y.id=x.id:=by rw[hy]
 have hya:y.at_=nats s.nodes:=by rw[hy]
 have hyd:y.drops=none:=by rw[hy];exact q2
 have hyk:y.k=x.k:=by rw[hy]
 have hys:y.state=1:=by rw[hy]
 rw[←hy]at ok ⊢;have hq:=fun i=>qOf_idx i (nats s.nodes) (fun r=>{kind:=3,job:=x.id,ver:=x.ver,rank:=r,credit:=x.credit}) (rise_nodup t1);obtain⟨E,hE⟩:∃E,E=X9 x (nats s.nodes):=⟨_,rfl⟩;rw[←hE]at ok ⊢;have hq:∀i,(i∉nats s.nodes→qOf E i=[])∧(i∈nats s.nodes→∃r,qOf E i=[{kind:=3,job:=x.id,ver:=x.ver,rank:=r,credit:=x.credit}]):=fun i=>by rw[hE];exact hq i
 have hm:∀o∈E,o.1∈nats s.nodes∧o.2.kind=3∧o.2.job=x.id∧o.2.rank≤255:=fun o ho=>by
  rw[hE,X9]at ho;obtain⟨r,hr,e⟩:=List.mem_mapIdx.1 ho;rw[←e];have h16:=riseN_len t1 t2;have hN:=h.ok.mok.N16;exact⟨List.getElem_mem _,rfl,rfl,by show r≤255;omega⟩
 have hP:∀i id,Pres (Br.set {b with m:=b.m.add ⟨x.id,s.row.toNat,ofL (nats s.nodes)⟩,orders:=b.orders++E} y) i id↔if id=x.id then (y.drops=none∧i∈y.at_) else Pres b i id:=fun i id=>pres_set hx hyi (b.orders++E) _ i id
 refine⟨⟨E,rfl,rfl,rfl,rfl,rfl,rfl,rfl,fun o ho=>hup _ (hm o ho).1,fun o ho=>?_,fun i hi=>⟨fun v h1 h2 h3 h4=>?_⟩⟩,?_⟩
 ·obtain⟨_,e1,e2,e3⟩:=hm o ho;exact⟨by omega,by omega,fun _=>by rw[e2];have:=hj.id1;omega,e3⟩
 ·have hno:¬Pres b i x.id:=fun⟨z,k1,_,k3⟩=>by
   rw[hx]at k1;cases k1;rw[q1]at k3;cases k3
  by_cases hi2:i∈nats s.nodes
  ·obtain⟨r,e⟩:=(hq i).2 hi2;rw[e,List.foldl_cons,List.foldl_nil];unfold Qt;rw[if_pos rfl]
   have hn:(Zh x.id v.rk).isSome=false:=by
    cases hg:Zh x.id v.rk with
    | none=>rfl
    | some w=>exact absurd ((h3 x.id).1 (by rw[hg];rfl)) hno
   refine⟨by show (v.wrong || (Zh x.id v.rk).isSome)=false;rw[h1,hn];rfl,fun id=>?_⟩;show (Zh id (Yr x.id _ v.rk)).isSome=true↔_;rw[nGet_put,hP i id]
   by_cases e:id=x.id
   ·rw[if_pos e,if_pos e,hyd,hya];exact⟨fun _=>⟨rfl,hi2⟩,fun _=>rfl⟩
   ·rw[if_neg e,if_neg e];exact h3 id
  ·rw[(hq i).1 hi2,List.foldl_nil];refine⟨h1,fun id=>?_⟩;rw[hP i id]
   by_cases e:id=x.id
   ·rw[if_pos e,e,hya];exact⟨fun k=>absurd ((h3 x.id).1 k) hno,fun k=>absurd k.2 hi2⟩
   ·rw[if_neg e];exact h3 id
 ·have hI:=h.ord (b.orders++E)
  refine hI.put (x:=x) (y:=y) (m:=b.m.add ⟨x.id,s.row.toNat,ofL (nats s.nodes)⟩) hx hyi ok (fun k hk=>?_) (fun z hz=>?_) (fun z=>isUpB_same rfl rfl z) ?_
  ·show look (addJ _ b.m.js) k=_;rw[look_add h.ok.mok p3,if_neg hk]
  ·rcases Xm.1 (show z∈addJ _ b.m.js from hz) with e | e
   ·exact .inl (by rw[e])
   ·exact .inr e
  ·refine⟨by rw[hys];omega,fun e=>(by rw[hys]at e;cases e),fun _=>⟨by rw[hya,hyk];exact hlen,⟨x.id,s.row.toNat,ofL (nats s.nodes)⟩,?_,by rw[hya];exact o1⟩,?_,fun _ n hn=>.inl (hup n (by rw[←hya];exact hn)),fun d e=>(by rw[hyd]at e;cases e),fun d e=>(by rw[hyd]at e;cases e)⟩
   ·show look (addJ _ b.m.js) y.id=_;rw[look_add h.ok.mok p3,hyi,if_pos rfl]
   ·rw[hys,hyd];exact⟨fun e=>(by cases e),fun e=>(by cases e)⟩
theorem load_up (b:Br) (x:Bj) (s:PL.St):(V4 b x s).up=b.up:=by
 by_cases hp:(Xq b.m x.id s.row s.nodes).1≠0
 ·rw[loadR_no hp]
 ·rw[Vz hp]
theorem place_BI:∀(zs:List (Nat×PL.St)) (b:Br),BrI b never→(zs.map (·.1)).Nodup→(∀p∈zs,∃x,Qb b.js p.1=some x∧x.state=0∧(p.2.ok=true→p.2.at_=0→(∀n∈nats p.2.nodes,n∈b.up)∧(nats p.2.nodes).length=x.k))→BS b (Yu b zs)∧BrI (Yu b zs) never
 | [],b,h,_,_=>⟨.refl b,h⟩
 | p::zs,b,h,hn,hz=>by
  have e:Yu b (p::zs)=Yu (W7 b p) zs:=by rw[X6,X6];rfl
  rw[e];obtain⟨n1,n2⟩:=List.nodup_cons.1 (show (p.1::zs.map (·.1)).Nodup from hn);obtain⟨x,g1,g2,g3⟩:=hz p (List.mem_cons_self ..);have hxi:=(Qa g1).2
  by_cases hy:p.2.ok=true∧p.2.at_=0
  ·rw[plStep_yes hy g1];obtain⟨g4,g5⟩:=g3 hy.1 hy.2;obtain⟨k1,k2⟩:=load_BI h (s:=p.2) (by rw[hxi];exact g1) g2 g4 g5
   obtain⟨l1,l2⟩:=place_BI zs (V4 b x p.2) k2 n2 fun q hq=>by
    obtain⟨z,m1,m2,m3⟩:=hz q (List.mem_cons_of_mem _ hq);refine⟨z,?_,m2,by rw[load_up];exact m3⟩;rw[load_oth b p.2 fun e=>n1 (List.mem_map.2 ⟨q,hq,by rw[e,hxi]⟩)];exact m1
   exact⟨k1.trans l1,l2⟩
  ·rw[plStep_no hy];exact place_BI zs b h n2 fun q hq=>hz q (List.mem_cons_of_mem _ hq)
theorem prof_fr {b:Br} (h:BrI b never):PL.Fr (profR b) (·∈b.up):=by
 intro row hr i x hx h0;obtain⟨r,_,rfl⟩:=List.mem_map.1 hr;rw[List.getElem?_map]at hx;obtain⟨n,hn,e⟩:=Option.map_eq_some_iff.1 hx;obtain⟨_,rfl⟩:=List.getElem?_eq_some_iff.1 hn;rw[List.getElem_range]at e;rw[h.up];cases hu:Wy b.m i with
 | true=>rfl
 | false=>
  rw[Xi,hu]at e;rw[if_neg (by decide)]at e;omega
theorem placeAll_BI {b:Br} (h:BrI b never):BS b (Xe b)∧BrI (Xe b) never:=by
 rw[placeAll_eq];refine place_BI (zsR b) b h (by rw[zsR_fst];exact waitR_nodup h.ok.srt) fun p hp=>?_;have h1:p.1∈Yk b:=by rw[←zsR_fst];exact List.mem_map.2 ⟨p,hp,rfl⟩
 obtain⟨x,g1,g2⟩:=mem_waitR h.ok.srt h1;simp only[quB,Bool.and_eq_true,decide_eq_true_eq]at g2;refine⟨x,g1,g2.1,fun k1 k2=>?_⟩;obtain⟨i,hi⟩:=List.getElem?_of_mem hp;obtain⟨a1,a2⟩:=List.getElem?_zip_eq_some.1 hi;obtain⟨a,m1,m2,m3⟩:=PL.plan_now (prof_fr h) a2 k1 k2;rw[asksR_eq,List.getElem?_map,a1]at m1;simp only[Option.map_some,Option.some.injEq]at m1;rw[akO_some g1]at m1
 refine⟨fun n hn=>?_,?_⟩
 ·obtain⟨z,hz,rfl⟩:=List.mem_map.1 hn;obtain⟨j,rfl,hj⟩:=m3 z hz;exact hj
 ·rw[List.length_map,m2,←m1];rfl
end BN
def Apart (x y:Jb):Prop:=∀i,x.ns.getLsbD i=true→y.ns.getLsbD i=true→False
structure FillI (m:Mx) (k o:Nat) (a:Bs×List Jb):Prop where
 bits:∀i,a.1.getLsbD i=true↔∃x∈V6 m k++a.2,x.ns.getLsbD i=true
 pw:(V6 m k++a.2).Pairwise Apart
 mem:∀x∈a.2,x∈m.js∧x.row≠k∧x.row<o
theorem and_zero {s t:Bs}:s &&& t=0#16↔∀i,s.getLsbD i=true→t.getLsbD i=true→False:=by
 constructor
 ·intro h i h1 h2;have:=congrArg (fun q=>q.getLsbD i) h;simp[h1,h2]at this
 ·intro h;refine BitVec.eq_of_getLsbD_eq fun i _=>?_;rw[BitVec.getLsbD_and];cases h1:s.getLsbD i with
  | false=>simp
  | true=>
   cases h2:t.getLsbD i with
   | false=>simp
   | true=>exact(h i h1 h2).elim
theorem FillI.step {m:Mx} {k o:Nat} {a:Bs×List Jb} (h:FillI m k o a) {x:Jb} (hx:x∈m.js) (hxk:x.row≠k) (hxo:x.row<o):FillI m k o (Yo a x)∧(∀i,a.1.getLsbD i=true→(Yo a x).1.getLsbD i=true)∧(∀y∈a.2,y∈(Yo a x).2)∧(x∈(Yo a x).2∨x.ns &&& (Yo a x).1≠0#16):=by
 unfold Yo
 by_cases hz:x.ns &&& a.1=0#16
 ·rw[if_pos hz];have hz:=and_zero.1 hz
  refine⟨⟨fun i=>?_,?_,fun y hy=>?_⟩,fun i hi=>?_,fun y hy=>List.mem_append_left _ hy,.inl (List.mem_append_right _ (List.mem_singleton.2 rfl))⟩
  ·show (a.1 ||| x.ns).getLsbD i=true↔_;rw[BitVec.getLsbD_or,Bool.or_eq_true,h.bits];simp only[List.mem_append,List.mem_singleton]
   constructor
   ·rintro (⟨y,hy,h1⟩ | h1)
    ·rcases hy with hy | hy
     ·exact⟨y,.inl hy,h1⟩
     ·exact⟨y,.inr (.inl hy),h1⟩
    ·exact⟨x,.inr (.inr rfl),h1⟩
   ·rintro ⟨y,hy,h1⟩
    rcases hy with hy | hy | rfl
    ·exact .inl ⟨y,.inl hy,h1⟩
    ·exact .inl ⟨y,.inr hy,h1⟩
    ·exact .inr h1
  ·show (V6 m k++(a.2++[x])).Pairwise Apart;rw[←List.append_assoc];refine List.pairwise_append.2 ⟨h.pw,List.pairwise_singleton _ _,fun y hy z hzz i h1 h2=>?_⟩;rw[List.mem_singleton]at hzz;subst hzz;exact hz i h2 ((h.bits i).2 ⟨y,hy,h1⟩)
  ·rcases List.mem_append.1 hy with hy | hy
   ·exact h.mem y hy
   ·rw[List.mem_singleton]at hy;subst hy;exact⟨hx,hxk,hxo⟩
  ·show (a.1 ||| x.ns).getLsbD i=true;rw[BitVec.getLsbD_or,hi,Bool.true_or]
 ·rw[if_neg hz];exact⟨h,fun i hi=>hi,fun y hy=>hy,.inr hz⟩
theorem FillI.fold {m:Mx} {k o:Nat}:∀(l:List Jb) {a:Bs×List Jb},FillI m k o a→(∀x∈l,x∈m.js∧x.row≠k∧x.row<o)→FillI m k o (l.foldl Yo a)∧(∀i,a.1.getLsbD i=true→(l.foldl Yo a).1.getLsbD i=true)∧(∀y∈a.2,y∈(l.foldl Yo a).2)∧∀x∈l,x∈(l.foldl Yo a).2∨x.ns &&& (l.foldl Yo a).1≠0#16
 | [],a,h,_=>⟨h,fun _ hi=>hi,fun _ hy=>hy,fun x hx=>by cases hx⟩
 | x::l,a,h,hl=>by
  obtain⟨h1,h2,h3⟩:=hl x (List.mem_cons_self ..);obtain⟨s1,s2,s3,s4⟩:=h.step h1 h2 h3;obtain⟨f1,f2,f3,f4⟩:=FillI.fold l s1 fun y hy=>hl y (List.mem_cons_of_mem _ hy);refine⟨f1,fun i hi=>f2 i (s2 i hi),fun y hy=>f3 y (s3 y hy),fun y hy=>?_⟩
  rcases List.mem_cons.1 hy with rfl | hy
  ·rcases s4 with s4 | s4
   ·exact .inl (f3 _ s4)
   ·refine .inr fun e=>s4 (and_zero.2 fun i h5 h6=>and_zero.1 e i h5 (f2 i h6))
  ·exact f4 y hy
theorem fillUp_I {m:Mx} (hm:Yn m) {k:Nat}:∀o,FillI m k o (Vk m k o)∧∀x∈m.js,x.row<o→x.row≠k→x∈(Vk m k o).2∨x.ns &&& (Vk m k o).1≠0#16
 | 0=>by
  refine⟨⟨fun i=>?_,?_,fun x hx=>by cases hx⟩,fun x _ h=>by omega⟩
  ·show (tk m.js k).getLsbD i=true↔∃x∈V6 m k++[],x.ns.getLsbD i=true;rw[tk_bit,List.append_nil]
   constructor
   ·rintro ⟨x,h1,h2,h3⟩;exact⟨x,(Ys hm).2 ⟨h1,h2⟩,h3⟩
   ·rintro ⟨x,h1,h3⟩;exact⟨x,((Ys hm).1 h1).1,((Ys hm).1 h1).2,h3⟩
  ·show (V6 m k++[]).Pairwise Apart;rw[List.append_nil];refine rowJ_srt.imp_of_mem fun {x y} hx hy hlt i h1 h2=>?_;obtain⟨x1,x2⟩:=(Ys hm).1 hx;obtain⟨y1,y2⟩:=(Ys hm).1 hy;exact hm.dis x x1 y y1 (fun e=>by rw[id_inj hm.srt x1 y1 e]at hlt;omega) (x2.trans y2.symm) i h1 h2
 | o+1=>by
  obtain⟨h1,h2⟩:=fillUp_I hm o;have h1':FillI m k (o+1) (Vk m k o):=⟨h1.bits,h1.pw,fun x hx=>by obtain⟨a,b,c⟩:=h1.mem x hx;exact⟨a,b,by omega⟩⟩;rw[Vk]
  by_cases e:o=k
  ·rw[if_pos e];exact⟨h1',fun x hx hr hk=>h2 x hx (by omega) hk⟩
  ·rw[if_neg e];obtain⟨f1,f2,f3,f4⟩:=FillI.fold (V6 m o) h1' fun x hx=>⟨((Ys hm).1 hx).1,by rw[((Ys hm).1 hx).2];exact e,by rw[((Ys hm).1 hx).2];omega⟩;refine⟨f1,fun x hx hr hk=>?_⟩
   by_cases er:x.row=o
   ·exact f4 x ((Ys hm).2 ⟨hx,er⟩)
   ·rcases h2 x hx (by omega) hk with h3 | h3
    ·exact .inl (f3 x h3)
    ·exact .inr fun e2=>h3 (and_zero.2 fun i h5 h6=>and_zero.1 e2 i h5 (f2 i h6))
def goJ (m:Mx) (k:Nat):List Jb:=V6 m k++(Vk m k m.R).2
theorem goJ_ids {m:Mx} {k:Nat} (hk:k<m.R):Q9 m k++Z8 m k=(goJ m k).map (·.id):=by
 rw[Q9,Z8,if_pos (Wf.2 ⟨by omega,by omega⟩),if_pos (Wf.2 ⟨by omega,by omega⟩),Int.toNat_natCast,goJ,List.map_append]
theorem goJ_mem {m:Mx} (hm:Yn m) {k:Nat} {x:Jb} (h:x∈goJ m k):x∈m.js:=by
 rcases List.mem_append.1 h with h | h
 ·exact((Ys hm).1 h).1
 ·exact((fillUp_I hm m.R).1.mem x h).1
theorem goJ_pw {m:Mx} (hm:Yn m) (k:Nat):(goJ m k).Pairwise Apart:=(fillUp_I hm m.R).1.pw
namespace BN
theorem mem_sAdds (x:Nat):∀(l a:List Nat),x∈l.foldl Z5 a↔x∈a∨x∈l
 | [],a=>by simp
 | y::l,a=>by
  rw[List.foldl_cons,mem_sAdds x l (Z5 a y)]
  have h:x∈Z5 a y↔x∈a∨x=y:=by
   unfold Z5
   split
   ·exact⟨fun h=>.inl h,fun h=>h.elim id fun e=>by subst e;assumption⟩
   ·simp
  rw[h,List.mem_cons]
  constructor
  ·rintro ((h | h) | h)
   ·exact .inl h
   ·exact .inr (.inl h)
   ·exact .inr (.inr h)
  ·rintro (h | h | h)
   ·exact .inl (.inl h)
   ·exact .inl (.inr h)
   ·exact .inr h
end BN
theorem goJ_nodup {m:Mx} (hm:Yn m) (k:Nat):((goJ m k).map (·.id)).Nodup:=by
 rw[List.nodup_iff_pairwise_ne,List.pairwise_map];refine(goJ_pw hm k).imp_of_mem fun {x y} hx hy ha e=>?_;have:=id_inj hm.srt (goJ_mem hm hx) (goJ_mem hm hy) e;subst this;refine hm.some x (goJ_mem hm hx) (lst_ext fun i=>?_);rw[show (0#16:Bs).getLsbD i=false by simp];exact⟨fun h=>(ha i h h).elim,fun h=>(by cases h)⟩
theorem goJ_apart {m:Mx} (hm:Yn m) {k:Nat} {x y:Jb} (hx:x∈goJ m k) (hy:y∈goJ m k) (h:x≠y):Apart x y:=by
 obtain⟨i,hi,ex⟩:=List.mem_iff_getElem.1 hx;obtain⟨j,hj,ey⟩:=List.mem_iff_getElem.1 hy;have hp:=List.pairwise_iff_getElem.1 (goJ_pw hm k)
 rcases Nat.lt_trichotomy i j with hij | hij | hij
 ·have:=hp i j hi hj hij
  rwa [ex,ey]at this
 ·subst hij;exact absurd (ex.symm.trans ey) h
 ·have:=hp j i hj hi hij;rw[ex,ey]at this;exact fun q h1 h2=>this q h2 h1
namespace BN
def atOf (b:Br) (id:Nat):List Nat:=match Qb b.js id with
 | none=>[]
 | some x=>x.at_
theorem atOf_some {b:Br} {id:Nat} {x:Bj} (h:Qb b.js id=some x):atOf b id=x.at_:=by rw[atOf,h]
def goOf (g id:Nat):Nt:={kind:=5,gen:=g,job:=id}
def goE_ (b:Br) (g:Nat) (l:List Nat):List Od:=l.flatMap fun id=>(atOf b id).map fun n=>((n,goOf g id):Od)
structure GoL (b:Br) (l:List Nat):Prop where
 nd:l.Nodup
 job:∀id∈l,∃x,Qb b.js id=some x∧x.state=2∧x.drops=none
 dis:∀id∈l,∀id'∈l,id≠id'→∀i,i∈atOf b id→i∈atOf b id'→False
theorem go_q {b:Br} (hn:∀id,(atOf b id).Nodup) (g i:Nat):∀ {l:List Nat},l.Nodup→(∀id∈l,∀id'∈l,id≠id'→i∈atOf b id→i∈atOf b id'→False)→((∀id∈l,i∉atOf b id)∧qOf (goE_ b g l) i=[])∨∃id∈l,i∈atOf b id∧qOf (goE_ b g l) i=[goOf g id]
 | [],_,_=>.inl ⟨fun _ h=>(by cases h),rfl⟩
 | id::l,h,hd=>by
  obtain⟨h1,h2⟩:=List.nodup_cons.1 h
  have hq:qOf (goE_ b g (id::l)) i=(if i∈atOf b id then [goOf g id] else [])++qOf (goE_ b g l) i:=by
   rw[goE_,List.flatMap_cons,qOf_app];exact congrArg (·++qOf (goE_ b g l) i) (qOf_each (fun _=>goOf g id) i (hn id))
  rw[hq]
  rcases go_q hn g i h2 fun a ha c hc=>hd a (List.mem_cons_of_mem _ ha) c (List.mem_cons_of_mem _ hc) with ⟨k1,k2⟩ | ⟨c,hc,k1,k2⟩
  ·by_cases hi:i∈atOf b id
   ·exact .inr ⟨id,List.mem_cons_self ..,hi,by rw[if_pos hi,k2];rfl⟩
   ·refine .inl ⟨fun c hc=>?_,by rw[if_neg hi,k2];rfl⟩
    rcases List.mem_cons.1 hc with rfl | hc
    ·exact hi
    ·exact k1 c hc
  ·have hi:i∉atOf b id:=fun hi=>hd id (List.mem_cons_self ..) c (List.mem_cons_of_mem _ hc) (fun e=>h1 (by rw[e];exact hc)) hi k1;exact .inr ⟨c,List.mem_cons_of_mem _ hc,k1,by rw[if_neg hi,k2];rfl⟩
structure RunI (b t:Br) (l:List Nat):Prop where
 bi:BrI t never
 ord:t.orders=b.orders++goE_ b b.gen l
 stp:∀i,i∈t.stops.getD []↔∃id∈l,i∈atOf b id
 som:t.stops.isSome=true
 gen:t.gen=b.gen
 mem:t.members=b.members
 stopped:t.stopped=b.stopped
 up:t.up=b.up
 nodes:t.nodes=b.nodes
 pres:∀i id,Pres t i id↔Pres b i id
 job:∀id x,Qb b.js id=some x→∃y,Qb t.js id=some y∧y.at_=x.at_∧y.drops=x.drops∧y.state=x.state
theorem RunI.step {b t:Br} {l:List Nat} (h:RunI b t l) {id:Nat} {x:Bj} (hx:Qb b.js id=some x) (h0:x.state=2):RunI b (match Qb t.js id with | none=>t | some x=>Wm t x) (l++[id]):=by
 obtain⟨y,k1,k2,k3,k4⟩:=h.job id x hx;rw[k1];have hyi:=(Qa k1).2;have k1':Qb t.js y.id=some y:=by rw[hyi];exact k1
 have hY:=h.bi.j y (Qa k1).1;have hj:=h.bi.ok.at_ k1';have hok:Qp (Wm t y):=goE.ok t y h.bi.ok k1';have hat:=atOf_some hx
 refine⟨?_,?_,fun i=>?_,rfl,h.gen,h.mem,h.stopped,h.up,h.nodes,fun i id'=>?_,fun id' x' hx'=>?_⟩
 ·have hs:=h.bi.put (x:=y) (y:={y with ran:=some []}) (m:=t.m) k1' rfl (h.bi.ok.set (x:={y with ran:=some []}) ⟨hj.id1,hj.id2,hj.tier,hj.k1,hj.kn,hj.w,hj.cr,hj.wk,hj.rise,hj.at_,hj.drop,hj.lod,fun r e=>(by cases e;intro y hy;cases hy),hj.ld,hj.svl⟩) (fun _ _=>rfl) (fun z hz=>.inr hz) (fun _=>rfl) ((hY.agr (y:={y with ran:=some []}) ⟨rfl,rfl,rfl,rfl,rfl⟩ fun e=>(by rw[k4,h0]at e;cases e)).congr rfl rfl);exact hs.same hok rfl rfl rfl
 ·show t.orders++y.at_.map (fun n=>((n,{kind:=5,gen:=t.gen,job:=y.id}):Od))=_;rw[h.ord,goE_,goE_,List.flatMap_append,List.append_assoc,h.gen,hyi,k2];simp only[List.flatMap_cons,List.flatMap_nil,List.append_nil,hat];rfl
 ·show i∈(y.at_.foldl Z5 (t.stops.getD []))↔_;rw[mem_sAdds,h.stp,k2]
  constructor
  ·rintro (⟨c,hc,hi⟩ | hi)
   ·exact⟨c,List.mem_append_left _ hc,hi⟩
   ·exact⟨id,List.mem_append_right _ (List.mem_singleton.2 rfl),by rw[hat];exact hi⟩
  ·rintro ⟨c,hc,hi⟩
   rcases List.mem_append.1 hc with hc | hc
   ·exact .inl ⟨c,hc,hi⟩
   ·rw[List.mem_singleton.1 hc,hat]at hi;exact .inr hi
 ·exact(pres_same (y:={y with ran:=some []}) k1' rfl rfl rfl t.orders t.m i id').trans (h.pres i id')
 ·obtain⟨z,m1,m2⟩:=h.job id' x' hx'
  by_cases e:id'=y.id
  ·refine⟨{y with ran:=some []},?_,?_⟩
   ·show Qb (Yf t.js {y with ran:=some []}) id'=_;rw[getJ_set,if_pos e,e,k1'];rfl
   ·rw[e,k1']at m1;cases m1;exact m2
  ·refine⟨z,?_,m2⟩;show Qb (Yf t.js {y with ran:=some []}) id'=_;rw[getJ_set,if_neg e];exact m1
theorem run_I {b:Br}:∀(l:List Nat) {t:Br} {d:List Nat},RunI b t d→(∀id∈l,∃x,Qb b.js id=some x∧x.state=2)→RunI b (each Wm t l) (d++l)
 | [],_,_,h,_=>by rw[List.append_nil];exact h
 | id::l,t,d,h,hl=>by
  obtain⟨x,h1,h2⟩:=hl id (List.mem_cons_self ..);have:=run_I l (h.step h1 h2) fun c hc=>hl c (List.mem_cons_of_mem _ hc);rw[List.append_assoc]at this;exact this
structure GJ (b:Br) (nd:List Nd):Prop where
 gi:GI b nd
 sf:b.stops=none→b.stopped=false
 ork:∀o∈b.orders,o.2.rank≤255
theorem GJ.step {b b':Br} {nd:List Nd} (h:GJ b nd) (k:BS b b') (hb:BrI b' never):GJ b' nd:=by
 obtain⟨E,k⟩:=k;refine⟨h.gi.step k hb,by rw[k.stops,k.stopped];exact h.sf,fun o ho=>?_⟩;rw[k.ord]at ho
 rcases List.mem_append.1 ho with ho | ho
 ·exact h.ork o ho
 ·exact(k.k5 o ho).2.2.2
theorem GJ.quiet {b b':Br} {nd:List Nd} (h:GJ b nd) (ok:Qp b') (hs:Sam b b') (hj:b'.js=b.js) (hm:b'.m=b.m) (ho:b'.orders=b.orders):GJ b' nd:=
 h.step (BS.quiet hs ho fun i id=>by unfold Pres;rw[hj]) (h.gi.bi.same ok hj hm hs.up)
theorem GI.ofUp {b:Br} {nd:List Nd} (h:GI b nd) {i:Nat} {n:Nd} (hn:nd[i]?=some n):n.up=true↔i∈b.up:=by
 rw[h.up i n hn];exact decide_eq_true_iff
theorem run0_I {b:Br} {l:List Nat} (h:BrI b never) (hl:l.length≤1000):RunI (run0 b l) (run0 b l) [] where
 bi:=h.same (run0_ok h.ok hl) rfl rfl rfl
 ord:=by simp[goE_]
 stp:=fun i=>⟨fun h=>(by cases h),fun⟨_,h,_⟩=>(by cases h)⟩
 som:=rfl
 gen:=rfl
 mem:=rfl
 stopped:=rfl
 up:=rfl
 nodes:=rfl
 pres:=fun _ _=>Iff.rfl
 job:=fun id x hx=>⟨x,hx,rfl,rfl,rfl⟩
theorem run_gi {b:Br} {nd:List Nd} (h:GJ b nd) (hs:b.stops=none) {l:List Nat} (hl:l.length≤1000) (hg:GoL b l):GJ (runR b l) nd:=by
 have hp:=srtN_perm l;have hg2:GoL b (srtN l):=⟨hp.nodup_iff.2 hg.nd,fun id hid=>hg.job id (hp.mem_iff.1 hid),fun id hid id' hid'=>hg.dis id (hp.mem_iff.1 hid) id' (hp.mem_iff.1 hid')⟩;have hR:=run_I (srtN l) (run0_I h.gi.bi hl) fun id hid=>(hg2.job id hid).imp fun x k=>⟨k.1,k.2.1⟩;rw[List.nil_append,←runR_eq]at hR;obtain⟨t,ht⟩:∃t,t=runR b l:=⟨_,rfl⟩;rw[←ht]at hR ⊢
 have hn:∀id,(atOf b id).Nodup:=fun id=>by
  unfold atOf;cases hx:Qb b.js id with
  | none=>exact List.nodup_nil
  | some x=>exact rise_nodup (h.gi.bi.ok.job x (Qa hx).1).rise
 have hup:∀id∈srtN l,∀i∈atOf b id,i∈b.up:=fun id hid i hi=>by
  obtain⟨x,k1,k2,k3⟩:=hg2.job id hid;rw[atOf_some k1]at hi;exact((h.gi.bi.j x (Qa k1).1).u k3 i hi).resolve_right fun e=>e
 have hsf:=h.sf hs;have hE:t.orders=b.orders++goE_ b (u32 (b.gen+1)) (srtN l):=hR.ord
 refine⟨⟨hR.bi,h.gi.len.trans hR.nodes.symm,fun o ho=>?_,fun i n k=>by rw[hR.up];exact h.gi.up i n k,h.gi.off,fun i n k hu=>?_,fun i hi=>?_⟩,fun e=>(by have:=hR.som;rw[e]at this;cases this),fun o ho=>?_⟩
 ·rw[hR.up];rw[hE]at ho
  rcases List.mem_append.1 ho with ho | ho
  ·exact h.gi.dst o ho
  ·obtain⟨id,hid,ho⟩:=List.mem_flatMap.1 ho;obtain⟨i,hi,rfl⟩:=List.mem_map.1 ho;exact hup id hid i hi
 ·have hN:=h.gi.node i n k hu;obtain⟨r1,r2,r3,r4⟩:=hN.rest hs;have hfr:=hN.finRun hs;have hq:n.inn++qOf t.orders i=(n.inn++qOf b.orders i)++qOf (goE_ b (u32 (b.gen+1)) (srtN l)) i:=by rw[hE,qOf_app,List.append_assoc]
  have hpr:∀id,Pres t i id↔Pres b i id:=fun id=>hR.pres i id
  rcases go_q hn (u32 (b.gen+1)) i hg2.nd (fun id hid id' hid' he=>hg2.dis id hid id' hid' he i) with ⟨g1,g2⟩ | ⟨id,hid,g1,g2⟩
  ·rw[g2,List.append_nil]at hq;refine⟨hN.kn,hN.ps,hN.one,hN.wr,by rw[hq];exact hN.right,by rw[hq];exact hN.ld,fun id=>by rw[hq];exact(hN.here id).trans (hpr id).symm,?_⟩;rw[hq];exact .rest (decide_eq_false fun e=>by obtain⟨id,hid,hi⟩:=(hR.stp i).1 e;exact g1 id hid hi) r2 r3 r4 r1
  ·rw[g2]at hq;obtain⟨x,k1,k2,k3⟩:=hg2.job id hid;have hi:i∈x.at_:=by rw[←atOf_some k1];exact g1
   obtain⟨r,hr⟩:=Option.isSome_iff_exists.1 ((hN.here id).2 ⟨x,k1,k3,hi⟩);have hf:fin n.rk (n.inn++qOf t.orders i)=Qt (fin n.rk (n.inn++qOf b.orders i)) (goOf (u32 (b.gen+1)) id):=by rw[hq,fin_snoc]
   have hact:Qt (fin n.rk (n.inn++qOf b.orders i)) (goOf (u32 (b.gen+1)) id)={fin n.rk (n.inn++qOf b.orders i) with wrong:=(fin n.rk (n.inn++qOf b.orders i)).wrong || decide (Qr (fin n.rk (n.inn++qOf b.orders i)).rk≠0),rk:=Yr id {r with run:=true,gen:=u32 (b.gen+1),frm:=0,til:=0} (fin n.rk (n.inn++qOf b.orders i)).rk}:=by
    exact act_go (nd:=fin n.rk (n.inn++qOf b.orders i)) (x:=goOf (u32 (b.gen+1)) id) rfl hr
   refine⟨hN.kn,hN.ps,hN.one,hN.wr,?_,fun y hy=>?_,fun c=>?_,?_⟩
   ·rw[hf,hact];show ((fin n.rk (n.inn++qOf b.orders i)).wrong || decide (Qr (fin n.rk (n.inn++qOf b.orders i)).rk≠0))=false;rw[hN.right,runOf_none hfr];rfl
   ·rw[hq]at hy
    rcases List.mem_append.1 hy with hy | hy
    ·exact hN.ld y hy
    ·rw[List.mem_singleton.1 hy];exact fun e=>(by cases e)
   ·rw[hf,hact];show (Zh c (Yr id _ (fin n.rk (n.inn++qOf b.orders i)).rk)).isSome=true↔_;rw[nGet_put,hpr c]
    by_cases e:c=id
    ·rw[if_pos e,e];exact⟨fun _=>⟨x,k1,k3,hi⟩,fun _=>rfl⟩
    ·rw[if_neg e];exact hN.here c
   ·rw[hq]
    refine .go (decide_eq_true ((hR.stp i).2 ⟨id,hid,g1⟩)) (hR.stopped.trans hsf) (r3.app fun y hy=>?_) r4 (fun y hy h5=>?_) (r1.ru _ _)
    ·rw[List.mem_singleton.1 hy];show 5≠6;omega
    ·rcases List.mem_append.1 hy with hy | hy
     ·exact absurd h5 (r2 y hy)
     ·rw[List.mem_singleton.1 hy,hR.gen,hR.mem];exact⟨rfl,hid⟩
 ·rw[hR.up];obtain⟨id,hid,k⟩:=(hR.stp i).1 hi;exact hup id hid i k
 ·rw[hE]at ho
  rcases List.mem_append.1 ho with ho | ho
  ·exact h.ork o ho
  ·obtain⟨id,_,ho⟩:=List.mem_flatMap.1 ho;obtain⟨i,_,rfl⟩:=List.mem_map.1 ho;exact Nat.zero_le _
theorem ready_go {b:Br} (h:BrI b never) {z:Int} (hz:V7 b.m z=true):GoL b (X5 b (Q9 b.m z++Z8 b.m z)):=by
 obtain⟨z1,z2⟩:=Wf.1 hz
 have hid:Q9 b.m z++Z8 b.m z=(goJ b.m z.toNat).map (·.id):=by
  rw[←goJ_ids (show z.toNat<b.m.R by omega),show ((z.toNat:Nat):Int)=z by omega]
 have hj:∀id∈X5 b (Q9 b.m z++Z8 b.m z),∃x,Qb b.js id=some x∧x.state=2∧x.drops=none:=fun id h=>by
  have h2:=(List.mem_filter.1 h).2;cases hg:Qb b.js id with
  | none=>rw[hg]at h2;cases h2
  | some x=>
   rw[hg]at h2;simp only[Bool.and_eq_true,decide_eq_true_eq,Option.isNone_iff_eq_none]at h2;exact⟨x,rfl,h2.1.1,h2.1.2⟩
 refine⟨(by rw[X5,hid];exact(goJ_nodup h.ok.mok _).filter _),hj,fun id hi id' hi' hne i k1 k2=>?_⟩;have hm:=(List.mem_filter.1 hi).1;have hm':=(List.mem_filter.1 hi').1;rw[hid]at hm hm';obtain⟨y,hy,rfl⟩:=List.mem_map.1 hm;obtain⟨y',hy',rfl⟩:=List.mem_map.1 hm';obtain⟨x,g1,g2,g3⟩:=hj y.id hi;obtain⟨x',g1',g2',g3'⟩:=hj y'.id hi';rw[atOf_some g1]at k1;rw[atOf_some g1']at k2
 have key:∀ {y:Jb} {x:Bj},y∈goJ b.m z.toNat→Qb b.js y.id=some x→x.state=2→lst y.ns=x.at_:=fun {y x} hy g1 g2=>by
  obtain⟨_,w,w1,w2⟩:=(h.j x (Qa g1).1).p (by omega);rw[(Qa g1).2,look_mem h.ok.mok.srt (goJ_mem h.ok.mok hy)]at w1;cases w1;exact w2
 rw[←key hy g1 g2]at k1;rw[←key hy' g1' g2']at k2;exact goJ_apart h.ok.mok hy hy' (fun e=>hne (by rw[e])) i (Xc.1 k1) (Xc.1 k2)
theorem start_gi {b:Br} {nd:List Nd} (h:GJ b nd) (hs:b.stops=none):∀(i:Nat) (row:Int),GJ (Y5 b row i) nd
 | 0,_=>by rw[startUp_zero];exact h
 | i+1,row=>by
  cases hn:(Z4 b.m row).2 with
  | false=>rw[startUp_no hn];exact h
  | true=>
   by_cases h2:0<(X5 b (Q9 b.m (Z4 b.m row).1)).length
   ·rw[startUp_go hn h2]
    have hz:V7 b.m (Z4 b.m row).1=true:=by
     cases hz:V7 b.m (Z4 b.m row).1 with
     | true=>rfl
     | false=>rw[Q9,hz]at h2;simp[X5]at h2
    have hg:=ready_go h.gi.bi hz
    have hl:(X5 b (Q9 b.m (Z4 b.m row).1++Z8 b.m (Z4 b.m row).1)).length≤256:=by
     have:=ready_len b (Q9 b.m (Z4 b.m row).1++Z8 b.m (Z4 b.m row).1);rw[List.length_append]at this;have:=rowIds_len h.gi.bi.ok.mok (Z4 b.m row).1;have:=fillIds_len h.gi.bi.ok.mok (Z4 b.m row).1;omega
    have hb:GJ {b with row:=(Z4 b.m row).1} nd:=h.quiet (h.gi.bi.ok.rset _) ⟨rfl,rfl,rfl,rfl,rfl,rfl⟩ rfl rfl rfl;exact run_gi hb hs (by omega) ⟨hg.nd,hg.job,hg.dis⟩
   ·rw[startUp_on hn h2];exact start_gi h hs i _
theorem work_gi {b:Br} {nd:List Nd} (h:GJ b nd) (hs:b.stops=none):GJ (workR b) nd:=by
 obtain⟨a1,a2⟩:=leaves_BI h.gi.bi b.ids;have h1:=h.step a1 a2;have s1:=a1.stops.trans hs;obtain⟨c1,c2⟩:=placeAll_BI a2;have h2:=h1.step c1 c2;have s2:=c1.stops.trans s1;obtain⟨d1,d2⟩:=preempt_BI c2;have h3:=h2.step d1 d2;have s3:=d1.stops.trans s2;obtain⟨e1,e2⟩:=rep_BI d2;have h4:=h3.step e1 e2;have s4:=e1.stops.trans s3;obtain⟨f1,f2⟩:=saves_BI e2 s4 (rep (Q7 (Xe (each Z0 b b.ids)))).ids;exact start_gi (h4.step f1 f2) (f1.stops.trans s4) _ _
theorem now_gi {b:Br} {nd:List Nd} (h:GJ b nd) {now:Nat} (hn:now≤4294967295):GJ {b with now:=now} nd:=
 h.quiet ⟨h.gi.bi.ok.R,h.gi.bi.ok.N,h.gi.bi.ok.mok,h.gi.bi.ok.srt,fun x hx=>h.gi.bi.ok.job x hx,h.gi.bi.ok.few,h.gi.bi.ok.q1,h.gi.bi.ok.q2,h.gi.bi.ok.g1,h.gi.bi.ok.g2,hn,h.gi.bi.ok.fin,h.gi.bi.ok.mem,h.gi.bi.ok.stp⟩ ⟨rfl,rfl,rfl,rfl,rfl,rfl⟩ rfl rfl rfl
theorem up_lt {b:Br} (h:BrI b never) {i:Nat} (hi:i∈b.up):i<b.nodes:=by
 have:=(h.up i).1 hi
 have h1:Wx b.m i=true:=by
  unfold Wy at this;simp only[Bool.and_eq_true]at this;exact this.1
 have:=(Xs.1 h1).2;rw[h.ok.N]at this;omega
theorem stop_gi {b:Br} {nd:List Nd} (h:GJ b nd) (hs:b.stops.isSome=true) (hst:b.stopped=false):GJ (stopR b) nd:=by
 obtain⟨E,hE⟩:∃E:List Od,E=(((List.range b.nodes).filter fun n=>decide (n∈b.stops.getD [])).map fun n=>((n,{kind:=6,gen:=b.gen}):Od)):=⟨_,rfl⟩;have ok:Qp (stopR b):=⟨h.gi.bi.ok.R,h.gi.bi.ok.N,h.gi.bi.ok.mok,h.gi.bi.ok.srt,fun x hx=>h.gi.bi.ok.job x hx,h.gi.bi.ok.few,h.gi.bi.ok.q1,h.gi.bi.ok.q2,h.gi.bi.ok.g1,h.gi.bi.ok.g2,h.gi.bi.ok.now,h.gi.bi.ok.fin,h.gi.bi.ok.mem,h.gi.bi.ok.stp⟩
 have hq:∀i,qOf E i=if i∈b.stops.getD [] then [{kind:=6,gen:=b.gen}] else []:=fun i=>by
  rw[hE];refine(qOf_each (fun _=>{kind:=6,gen:=b.gen}) i (List.nodup_range.filter _)).trans ?_
  by_cases hi:i∈b.stops.getD []
  ·rw[if_pos hi,if_pos (List.mem_filter.2 ⟨List.mem_range.2 (up_lt h.gi.bi (h.gi.stp i hi)),decide_eq_true hi⟩)]
  ·rw[if_neg hi];exact if_neg fun e=>hi (by simpa using (List.mem_filter.1 e).2)
 have ho:(stopR b).orders=b.orders++E:=by rw[hE];rfl
 refine⟨⟨h.gi.bi.same ok rfl rfl rfl,h.gi.len,fun o k=>?_,h.gi.up,h.gi.off,fun i n k hu=>?_,h.gi.stp⟩,fun e=>(by rw[show (stopR b).stops=b.stops from rfl]at e;rw[e]at hs;cases hs),fun o k=>?_⟩
 ·rw[ho]at k
  rcases List.mem_append.1 k with k | k
  ·exact h.gi.dst o k
  ·rw[hE]at k;obtain⟨n,hn,rfl⟩:=List.mem_map.1 k;exact h.gi.stp n (of_decide_eq_true (List.mem_filter.1 hn).2)
 ·have hN:=h.gi.node i n k hu;have hqq:n.inn++qOf (stopR b).orders i=(n.inn++qOf b.orders i)++qOf E i:=by rw[ho,qOf_app,List.append_assoc]
  by_cases hi:i∈b.stops.getD []
  ·rw[hq i,if_pos hi]at hqq;have hf:fin n.rk (n.inn++qOf (stopR b).orders i)=Qt (fin n.rk (n.inn++qOf b.orders i)) {kind:=6,gen:=b.gen}:=by rw[hqq,fin_snoc]
   obtain⟨V,hV⟩:∃V,V=fin n.rk (n.inn++qOf b.orders i):=⟨_,rfl⟩;have hr:=hN.right;have hh:=hN.here;rw[←hV]at hf hr hh
   have hact:(Qt V {kind:=6,gen:=b.gen}).wrong=V.wrong∧∀c,(Zh c (Qt V {kind:=6,gen:=b.gen}).rk).isSome=(Zh c V.rk).isSome:=by
    unfold Qt;rw[if_neg (by show (6:Nat)≠3;omega),if_neg (by show (6:Nat)≠5;omega),if_pos rfl]
    split
    ·split
     ·exact⟨rfl,fun _=>rfl⟩
     ·rename_i r hr;refine⟨rfl,fun c=>?_⟩;show (Zh c (Yr (Qr V.rk) _ V.rk)).isSome=_;rw[nGet_put]
      split
      ·rename_i e;rw[e,hr];rfl
      ·rfl
    ·exact⟨rfl,fun _=>rfl⟩
   refine⟨hN.kn,hN.ps,hN.one,hN.wr,by rw[hf,hact.1];exact hr,fun y hy=>?_,fun c=>by rw[hf,hact.2];exact hh c,?_⟩
   ·rw[hqq]at hy
    rcases List.mem_append.1 hy with hy | hy
    ·exact hN.ld y hy
    ·rw[List.mem_singleton.1 hy];exact fun e=>(by cases e)
   ·rw[hqq];have hp:=hN.ph;rw[decide_eq_true hi,hst]at hp;show Ph b.gen b.members (decide (i∈b.stops.getD [])) true n.rk _ n.out;rw[decide_eq_true hi];cases hp with
    | rest a1=>cases a1
    | go _ _ a3 a4 a5 a6=>exact .stop _ _ [] rfl rfl rfl rfl rfl a3 (fun _ k=>(by cases k)) (fun _ k=>(by cases k)) a5 a6 a4
    | stop _ _ _ _ a2=>cases a2
    | said _ _ _ _ a2=>cases a2
  ·rw[hq i,if_neg hi,List.append_nil]at hqq;refine⟨hN.kn,hN.ps,hN.one,hN.wr,by rw[hqq];exact hN.right,by rw[hqq];exact hN.ld,fun c=>by rw[hqq];exact hN.here c,?_⟩;rw[hqq];have hp:=hN.ph;show Ph b.gen b.members (decide (i∈b.stops.getD [])) true n.rk _ n.out;rw[decide_eq_false hi]at hp ⊢;cases hp with
   | rest a1 a2 a3 a4 a5=>exact .rest a1 a2 a3 a4 a5
   | go a1=>cases a1
   | stop _ _ _ a1=>cases a1
   | said _ _ _ a1=>cases a1
 ·rw[ho]at k
  rcases List.mem_append.1 k with k | k
  ·exact h.ork o k
  ·rw[hE]at k;obtain⟨n,_,rfl⟩:=List.mem_map.1 k;exact Nat.zero_le _
theorem tick_gi {b:Br} {nd:List Nd} (h:GJ b nd) {now:Nat} (hn:now≤4294967295):GJ (Y4 b now).2 nd:=by
 unfold Y4
 split
 ·exact h
 split
 ·exact now_gi h hn
 split
 ·rename_i hs
  split
  ·rename_i k;exact stop_gi (now_gi h hn) hs k.1
  ·exact now_gi h hn
 ·rename_i hs;exact work_gi (now_gi h hn) (by cases hb:b.stops with | none=>rfl | some d=>rw[hb]at hs;exact absurd rfl hs)
theorem act_in (nd:Nd) (x:Nt):(Qt nd x).up=nd.up∧(Qt nd x).inn=nd.inn:=by
 unfold Qt
 split
 ·exact⟨rfl,rfl⟩
 split
 ·split <;> exact⟨rfl,rfl⟩
 split
 ·split
  ·split <;> exact⟨rfl,rfl⟩
  ·exact⟨rfl,rfl⟩
 split
 ·split <;> exact⟨rfl,rfl⟩
 split <;> exact⟨rfl,rfl⟩
theorem GI.setN {b:Br} {nd:List Nd} (h:GI b nd) {i:Nat} {n n':Nd} (hn:nd[i]?=some n) (hu:n.up=true) (hu':n'.up=true) (hN:Vn b i n'):GI b (nd.set i n'):=by
 have key:∀(j:Nat) (m:Nd),(nd.set i n')[j]?=some m→(j=i∧m=n')∨nd[j]?=some m:=fun j m hm=>by
  rw[List.getElem?_set]at hm
  split at hm
  ·rename_i e
   split at hm
   ·cases hm;exact .inl ⟨e.symm,rfl⟩
   ·cases hm
  ·exact .inr hm
 refine⟨h.bi,by rw[List.length_set];exact h.len,h.dst,fun j m hm=>?_,fun j m hm k=>?_,fun j m hm k=>?_,h.stp⟩
 ·rcases key j m hm with ⟨rfl,rfl⟩ | hm
  ·rw[hu',←hu];exact h.up _ n hn
  ·exact h.up j m hm
 ·rcases key j m hm with ⟨rfl,rfl⟩ | hm
  ·rw[hu']at k;cases k
  ·exact h.off j m hm k
 ·rcases key j m hm with ⟨rfl,rfl⟩ | hm
  ·exact hN
  ·exact h.node j m hm k
theorem Vn.act {b:Br} {i:Nat} {n:Nd} (h:Vn b i n) {x:Nt} {l:List Nt} (hi:n.inn=x::l):Vn b i (Qt {n with inn:=l} x):=by
 obtain⟨q,hq⟩:∃q,q=l++qOf b.orders i:=⟨_,rfl⟩;have hQ:n.inn++qOf b.orders i=x::q:=by rw[hi,hq];rfl
 have hc:core ({n with inn:=l}:Nd)=core ⟨true,n.rk,[],[],false⟩:=by rw[core,core,h.wr]
 have hr:=h.right;rw[hQ]at hr;have hw0:(Qt ⟨true,n.rk,[],[],false⟩ x).wrong=false:=acts_right (l:=[x]) (m:=q) hr;have hca:=act_core hc x;have hw:(Qt {n with inn:=l} x).wrong=false:=(Prod.mk.inj hca).2.trans hw0;have hf:core (fin (Qt {n with inn:=l} x).rk q)=core (fin n.rk (x::q)):=(fin_cons {n with inn:=l} x q hw).trans (acts_core hca);obtain⟨f1,f2⟩:=Prod.mk.inj hf;have hin:(Qt {n with inn:=l} x).inn++qOf b.orders i=q:=by rw[(act_in _ _).2,hq]
 have hld:=h.ld;rw[hQ]at hld
 refine⟨act_keys (nd:={n with inn:=l}) h.kn,act_pos (nd:={n with inn:=l}) h.ps (hld x (List.mem_cons_self ..)),act_one (nd:={n with inn:=l}) h.one h.ps h.kn hw,hw,by rw[hin,f2];exact hr,fun y hy=>hld y (List.mem_cons_of_mem _ (by rw[hin]at hy;exact hy)),fun id=>?_,?_⟩
 ·rw[hin,f1];have:=h.here id;rw[hQ]at this;exact this
 ·rw[hin];have hp:=h.ph;rw[hQ]at hp;exact Ph.act (nd:={n with inn:=l}) hp h.one h.ps h.kn
theorem act_gi {b:Br} {nd:List Nd} (h:GJ b nd) {i:Nat} {n:Nd} (hn:nd[i]?=some n) (hu:n.up=true) {x:Nt} {l:List Nt} (hi:n.inn=x::l):GJ b (nd.set i (Qt {n with inn:=l} x)):=
 ⟨h.gi.setN hn hu ((act_in _ _).1.trans hu) ((h.gi.node i n hn hu).act hi),h.sf,h.ork⟩
abbrev sk (r:Rk):Nat×Bool×Nat:=(r.place,r.run,r.gen)
abbrev skl (l:Rs):List (Nat×Nat×Bool×Nat):=l.map fun y=>(y.1,sk y.2)
theorem skl_get {a c:Rs} (h:skl a=skl c) (k:Nat):(Zh k a).map sk=(Zh k c).map sk:=by
 induction a generalizing c with
 | nil=>rw[List.map_eq_nil_iff.1 h.symm]
 | cons x a ih=>
  cases c with
  | nil=>cases h
  | cons y c=>
   rw[skl,skl,List.map_cons,List.map_cons,List.cons.injEq]at h;obtain⟨h1,h2⟩:=h;have e1:x.1=y.1:=(Prod.mk.inj h1).1;simp only[Zh,e1]
   split
   ·exact congrArg some (Prod.mk.inj h1).2
   ·exact ih h2
theorem skl_run {a c:Rs} (h:skl a=skl c):Qr a=Qr c:=by
 unfold Qr
 have:(a.find? (·.2.run)).map (·.1)=(c.find? (·.2.run)).map (·.1):=by
  induction a generalizing c with
  | nil=>rw[List.map_eq_nil_iff.1 h.symm]
  | cons x a ih=>
   cases c with
   | nil=>cases h
   | cons y c=>
    rw[skl,skl,List.map_cons,List.map_cons,List.cons.injEq]at h;obtain⟨h1,h2⟩:=h;have e1:x.1=y.1:=(Prod.mk.inj h1).1;have e2:x.2.run=y.2.run:=congrArg (fun q:Nat×Bool×Nat=>q.2.1) (Prod.mk.inj h1).2;rw[List.find?_cons,List.find?_cons,e2]
    split
    ·simp[e1]
    ·exact ih h2
 rcases h1:a.find? (·.2.run) with _ | u
 ·rcases h2:c.find? (·.2.run) with _ | v
  ·rw[h1,h2]
  ·rw[h1,h2]at this;cases this
 ·rcases h2:c.find? (·.2.run) with _ | v
  ·rw[h1,h2]at this;cases this
  ·rw[h1,h2]at this ⊢;exact Option.some.inj this
theorem skl_put {a c:Rs} (h:skl a=skl c) (k:Nat) {r s:Rk} (hr:sk r=sk s):skl (Yr k r a)=skl (Yr k s c):=by
 induction a generalizing c with
 | nil=>
  rw[List.map_eq_nil_iff.1 h.symm];show [(k,sk r)]=[(k,sk s)];rw[hr]
 | cons x a ih=>
  cases c with
  | nil=>cases h
  | cons y c=>
   rw[skl,skl,List.map_cons,List.map_cons,List.cons.injEq]at h;obtain⟨h1,h2⟩:=h;have e1:x.1=y.1:=(Prod.mk.inj h1).1;unfold Yr;rw[e1]
   split
   ·rw[skl,skl,List.map_cons,List.map_cons,hr,h2]
   ·rw[skl,skl,List.map_cons,List.map_cons,h1];exact congrArg _ (ih h2)
theorem skl_del {a c:Rs} (h:skl a=skl c) (k:Nat):skl (nDel k a)=skl (nDel k c):=by
 induction a generalizing c with
 | nil=>rw[List.map_eq_nil_iff.1 h.symm]
 | cons x a ih=>
  cases c with
  | nil=>cases h
  | cons y c=>
   rw[skl,skl,List.map_cons,List.map_cons,List.cons.injEq]at h;obtain⟨h1,h2⟩:=h;have e1:x.1=y.1:=(Prod.mk.inj h1).1;unfold nDel;rw[e1]
   split
   ·exact h2
   ·rw[skl,skl,List.map_cons,List.map_cons,h1];exact congrArg _ (ih h2)
theorem opt_sk {a c:Option Rk} (h:a.map sk=c.map sk):(a=none∧c=none)∨∃r s,a=some r∧c=some s∧sk r=sk s:=by
 cases a <;> cases c <;> simp at h
 ·exact .inl ⟨rfl,rfl⟩
 ·exact .inr ⟨_,_,rfl,rfl,by simp[h]⟩
theorem skl_act {a c:Nd} (h:skl a.rk=skl c.rk) (hw:a.wrong=c.wrong) (x:Nt):skl (Qt a x).rk=skl (Qt c x).rk∧(Qt a x).wrong=(Qt c x).wrong:=by
 have hg:=fun k=>opt_sk (skl_get h k);have hr:=skl_run h;unfold Qt
 by_cases k3:x.kind=3
 ·rw[if_pos k3,if_pos k3];refine⟨skl_put h _ rfl,?_⟩;show (a.wrong || (Zh x.job a.rk).isSome)=(c.wrong || (Zh x.job c.rk).isSome);rcases hg x.job with ⟨e1,e2⟩ | ⟨r,s,e1,e2,_⟩ <;> rw[e1,e2,hw] <;> rfl
 rw[if_neg k3,if_neg k3]
 by_cases k5:x.kind=5
 ·rw[if_pos k5,if_pos k5]
  rcases hg x.job with ⟨e1,e2⟩ | ⟨r,s,e1,e2,e3⟩ <;> rw[e1,e2]
  ·exact⟨h,rfl⟩
  ·refine⟨skl_put h _ (by show (r.place,_,_)=(s.place,_,_);rw[show r.place=s.place from congrArg (·.1) e3]),?_⟩;show (a.wrong || decide (Qr a.rk≠0))=(c.wrong || decide (Qr c.rk≠0));rw[hw,hr]
 rw[if_neg k5,if_neg k5]
 by_cases k6:x.kind=6
 ·rw[if_pos k6,if_pos k6,hr]
  by_cases k0:Qr c.rk≠0
  ·rw[if_pos k0,if_pos k0]
   rcases hg (Qr c.rk) with ⟨e1,e2⟩ | ⟨r,s,e1,e2,e3⟩ <;> rw[e1,e2]
   ·exact⟨h,hw⟩
   ·exact⟨skl_put h _ (by show (r.place,_,r.gen)=(s.place,_,s.gen);rw[show r.place=s.place from congrArg (·.1) e3,show r.gen=s.gen from congrArg (·.2.2) e3]),hw⟩
  ·rw[if_neg k0,if_neg k0];exact⟨h,hw⟩
 rw[if_neg k6,if_neg k6]
 by_cases k8:x.kind=8
 ·rw[if_pos k8,if_pos k8]
  rcases hg x.job with ⟨e1,e2⟩ | ⟨r,s,e1,e2,e3⟩ <;> rw[e1,e2]
  ·exact⟨h,rfl⟩
  ·refine⟨h,?_⟩;show (a.wrong || r.run)=(c.wrong || s.run);rw[hw,show r.run=s.run from congrArg (·.2.1) e3]
 rw[if_neg k8,if_neg k8]
 by_cases k10:x.kind=10
 ·rw[if_pos k10,if_pos k10];exact⟨skl_del h _,hw⟩
 ·rw[if_neg k10,if_neg k10];exact⟨h,hw⟩
theorem skl_acts {q:List Nt}:∀ {a c:Nd},skl a.rk=skl c.rk→a.wrong=c.wrong→skl (q.foldl Qt a).rk=skl (q.foldl Qt c).rk∧(q.foldl Qt a).wrong=(q.foldl Qt c).wrong:=by
 induction q with
 | nil=>exact fun h1 h2=>⟨h1,h2⟩
 | cons x q ih=>exact fun h1 h2=>ih (skl_act h1 h2 x).1 (skl_act h1 h2 x).2
theorem skl_mem {a c:Rs} (h:skl a=skl c) {y:Nat×Rk} (hy:y∈a):∃z∈c,z.1=y.1∧sk z.2=sk y.2:=by
 have:(y.1,sk y.2)∈skl c:=by rw[←h];exact List.mem_map.2 ⟨y,hy,rfl⟩
 obtain⟨z,hz,e⟩:=List.mem_map.1 this;exact⟨z,hz,(Prod.mk.inj e).1,(Prod.mk.inj e).2⟩
theorem skl_keys {a c:Rs} (h:skl a=skl c):keys a=keys c:=by
 have:=congrArg (List.map Prod.fst) h;rw[skl,skl,List.map_map,List.map_map]at this;exact this
theorem Vn.skel {b:Br} {i:Nat} {n:Nd} (h:Vn b i n) {rk:Rs} (e:skl rk=skl n.rk):Vn b i {n with rk:=rk}:=by
 obtain⟨f1,f2⟩:=skl_acts (q:=n.inn++qOf b.orders i) (a:=⟨true,rk,[],[],false⟩) (c:=⟨true,n.rk,[],[],false⟩) e rfl
 have run:∀ {y:Nat×Rk},y∈rk→∃z∈n.rk,z.1=y.1∧z.2.run=y.2.run∧z.2.gen=y.2.gen:=fun {y} hy=>by
  obtain⟨z,h1,h2,h3⟩:=skl_mem e hy;simp only[sk,Prod.mk.injEq]at h3;exact⟨z,h1,h2,h3.2.1,h3.2.2⟩
 have nr:Wk n.rk→Wk rk:=fun k y hy=>by
  obtain⟨z,h1,_,h3,_⟩:=run hy;rw[←h3];exact k z h1
 have ru:∀ {g m},ruOk g m n.rk→ruOk g m rk:=fun k y hy hr=>by
  obtain⟨z,h1,h2,h3,h4⟩:=run hy;have:=k z h1 (by rw[h3];exact hr);rw[h4,h2]at this;exact this
 refine⟨by rw[skl_keys e];exact h.kn,fun y hy=>?_,fun y hy z hz h1 h2=>?_,h.wr,f2.trans h.right,h.ld,fun id=>?_,?_⟩
 ·obtain⟨z,h1,h2,_⟩:=run hy;rw[←h2];exact h.ps z h1
 ·obtain⟨y',a1,a2,a3,_⟩:=run hy;obtain⟨z',c1,c2,c3,_⟩:=run hz;rw[←a2,←c2];exact h.one y' a1 z' c1 (by rw[a3];exact h1) (by rw[c3];exact h2)
 ·have k:=skl_get f1 id
  have:(Zh id (fin rk (n.inn++qOf b.orders i)).rk).isSome=(Zh id (fin n.rk (n.inn++qOf b.orders i)).rk).isSome:=by
   rcases opt_sk k with ⟨e1,e2⟩ | ⟨r,s,e1,e2,_⟩
   ·unfold fin;rw[e1,e2]
   ·unfold fin;rw[e1,e2];rfl
  show (Zh id (fin rk (n.inn++qOf b.orders i)).rk).isSome=true↔_;rw[this];exact h.here id
 ·show Ph b.gen b.members (decide (i∈b.stops.getD [])) b.stopped rk (n.inn++qOf b.orders i) n.out;cases h.ph with
  | rest a1 a2 a3 a4 a5=>exact .rest a1 a2 a3 a4 (nr a5)
  | go a1 a2 a3 a4 a5 a6=>exact .go a1 a2 a3 a4 a5 (ru a6)
  | stop a s c a1 a2 a3 a4 a5 a6 a7 a8 a9 a10 a11=>exact .stop a s c a1 a2 a3 a4 a5 a6 a7 a8 a9 (ru a10) a11
  | said a s c a1 a2 a3 a4 a5 a6 a7 a8 a9 a10=>exact .said a s c a1 a2 a3 a4 (nr a5) a6 a7 a8 a9 a10
theorem tick_skl (now:Nat) (n:Nd):∃rk,Q0 now n={n with rk:=rk}∧skl rk=skl n.rk:=by
 unfold Q0
 split
 ·split
  ·exact⟨n.rk,rfl,rfl⟩
  ·rename_i r hr;refine⟨_,rfl,?_⟩
   have self:∀ {l:Rs} {k:Nat} {r:Rk},Zh k l=some r→Yr k r l=l:=by
    intro l;induction l with
    | nil=>intro k r h;cases h
    | cons x l ih=>
     intro k r h;simp only[Zh]at h;unfold Yr
     split
     ·rename_i e;rw[if_pos e]at h;cases h;rw[←e]
     ·rename_i e;rw[if_neg e]at h;rw[ih h]
   have:=skl_put (a:=n.rk) (c:=n.rk) rfl (Qr n.rk) (r:={r with til:=now,frm:=if r.frm=0 then now else r.frm}) (s:=r) rfl;rw[self hr]at this;exact this
 ·exact⟨n.rk,rfl,rfl⟩
theorem ndTick_up (now:Nat) (n:Nd):(Q0 now n).up=n.up∧(Q0 now n).inn=n.inn∧(Q0 now n).out=n.out∧(Q0 now n).wrong=n.wrong:=by
 unfold Q0
 split
 ·split <;> exact⟨rfl,rfl,rfl,rfl⟩
 ·exact⟨rfl,rfl,rfl,rfl⟩
theorem ndTick_gi {b:Br} {nd:List Nd} (h:GJ b nd) (now:Nat):GJ b (nd.map (Q0 now)):=by
 have key:∀(i:Nat) (m:Nd),(nd.map (Q0 now))[i]?=some m→∃n,nd[i]?=some n∧m=Q0 now n:=fun i m hm=>by
  rw[List.getElem?_map]at hm;obtain⟨n,h1,h2⟩:=Option.map_eq_some_iff.1 hm;exact⟨n,h1,h2.symm⟩
 refine⟨⟨h.gi.bi,by rw[List.length_map];exact h.gi.len,h.gi.dst,fun i m hm=>?_,fun i m hm k=>?_,fun i m hm k=>?_,h.gi.stp⟩,h.sf,h.ork⟩
 ·obtain⟨n,h1,rfl⟩:=key i m hm;rw[(ndTick_up now n).1];exact h.gi.up i n h1
 ·obtain⟨n,h1,rfl⟩:=key i m hm;rw[(ndTick_up now n).1]at k;obtain⟨k1,k2,k3,k4⟩:=h.gi.off i n h1 k;obtain⟨_,e2,e3,e4⟩:=ndTick_up now n;refine⟨?_,e2.trans k2,e3.trans k3,e4.trans k4⟩;unfold Q0;rw[if_neg (by rw[k1];exact fun e=>e rfl)];exact k1
 ·obtain⟨n,h1,rfl⟩:=key i m hm;rw[(ndTick_up now n).1]at k;have hN:=h.gi.node i n h1 k;obtain⟨rk,e1,e2⟩:=tick_skl now n;rw[e1];exact hN.skel e2
theorem Ph.same {g:Nat} {m:List Nat} {on st on' st':Bool} {rk:Rs} {q:List Nt} {out:List (Nt×List Int)} (h:Ph g m on st rk q out) (h1:on'=on) (h2:on=true→st'=st):Ph g m on' st' rk q out:=by
 subst h1;cases h with
 | rest a1 a2 a3 a4 a5=>exact .rest a1 a2 a3 a4 a5
 | go a1 a2 a3 a4 a5 a6=>exact .go a1 ((h2 a1).trans a2) a3 a4 a5 a6
 | stop a s c a1 a2 a3 a4 a5 a6 a7 a8 a9 a10 a11=>exact .stop a s c a1 ((h2 a1).trans a2) a3 a4 a5 a6 a7 a8 a9 a10 a11
 | said a s c a1 a2 a3 a4 a5 a6 a7 a8 a9 a10=>exact .said a s c a1 ((h2 a1).trans a2) a3 a4 a5 a6 a7 a8 a9 a10
structure GX (b:Br) (nd:List Nd) (n:Nat):Prop where
 bi:BrI b never
 len:nd.length=b.nodes
 dst:∀o∈b.orders,o.1∈b.up
 up:∀(i:Nat) (m:Nd),nd[i]?=some m→m.up=decide (i∈b.up)
 off:∀(i:Nat) (m:Nd),nd[i]?=some m→m.up=false→m.rk=[]∧m.inn=[]∧m.out=[]∧m.wrong=false
 node:∀(i:Nat) (m:Nd),nd[i]?=some m→m.up=true→i≠n→Vn b i m
 here:∀(m:Nd),nd[n]?=some m→m.up=true→∀b':Br,b'.js=b.js→b'.orders=b.orders→n∉b'.stops.getD []→Vn b' n m
 stp:∀i∈b.stops.getD [],i≠n→i∈b.up
 sf:b.stops=none→b.stopped=false
 ork:∀o∈b.orders,o.2.rank≤255
theorem sDel_mem {s:List Nat} {n i:Nat}:i∈Vp s n↔i∈s∧i≠n:=by unfold Vp;rw[List.mem_filter];simp
theorem Vn.stops {b b':Br} {i:Nat} {m:Nd} (h:Vn b i m) (hj:b'.js=b.js) (ho:b'.orders=b.orders) (hg:b'.gen=b.gen) (hm:b'.members=b.members) (h1:decide (i∈b'.stops.getD [])=decide (i∈b.stops.getD [])) (h2:decide (i∈b.stops.getD [])=true→b'.stopped=b.stopped):Vn b' i m:=by
 refine⟨h.kn,h.ps,h.one,h.wr,by rw[ho];exact h.right,by rw[ho];exact h.ld,fun id=>?_,by rw[ho,hg,hm];exact h.ph.same h1 h2⟩;rw[ho];refine(h.here id).trans ?_;unfold Pres;rw[hj]
theorem Qp.stset2 {b:Br} (h:Qp b) {s:Option (List Nat)} (hs:∀d,s=some d→d.Nodup) (st:Bool):Qp {b with stops:=s,stopped:=st}:=⟨h.R,h.N,h.mok,h.srt,fun x hx=>h.job x hx,h.few,h.q1,h.q2,h.g1,h.g2,h.now,h.fin,h.mem,hs⟩
theorem unstop_gi {b:Br} {nd:List Nd} {n:Nat} (h:GX b nd n):GJ (Q4 b n) nd:=by
 unfold Q4
 split
 ·rename_i hs;refine⟨⟨h.bi,h.len,h.dst,h.up,h.off,fun i m hm hu=>?_,fun i hi=>(by rw[hs]at hi;cases hi)⟩,h.sf,h.ork⟩
  by_cases e:i=n
  ·subst e;exact h.here m hm hu b rfl rfl (by rw[hs];exact fun k=>(by cases k))
  ·exact h.node i m hm hu e
 ·rename_i s hs;have hnd:=h.bi.ok.stp s hs
  split
  ·refine⟨⟨h.bi.same (h.bi.ok.stset2 (fun d e=>(by cases e;exact hnd.filter _)) b.stopped) rfl rfl rfl,h.len,h.dst,h.up,h.off,fun i m hm hu=>?_,fun i hi=>?_⟩,fun e=>(by cases e),h.ork⟩
   ·by_cases e:i=n
    ·subst e;exact h.here m hm hu _ rfl rfl fun k=>(sDel_mem.1 k).2 rfl
    ·refine(h.node i m hm hu e).stops rfl rfl rfl rfl ?_ fun _=>rfl;rw[hs];exact decide_eq_decide.2 ⟨fun k=>(sDel_mem.1 k).1,fun k=>sDel_mem.2 ⟨k,e⟩⟩
   ·obtain⟨h1,h2⟩:=sDel_mem.1 hi;exact h.stp i (by rw[hs];exact h1) h2
  ·rename_i hd;have hd:Vp s n=[]:=Classical.byContradiction hd
   have h0:GJ {b with stops:=none,stopped:=false} nd:=by
    refine⟨⟨h.bi.same (h.bi.ok.stset2 (fun d e=>(by cases e)) false) rfl rfl rfl,h.len,h.dst,h.up,h.off,fun i m hm hu=>?_,fun i hi=>(by cases hi)⟩,fun _=>rfl,h.ork⟩
    by_cases e:i=n
    ·subst e;exact h.here m hm hu _ rfl rfl fun k=>(by cases k)
    ·have hi:i∉b.stops.getD []:=fun k=>by
      rw[hs]at k;have:i∈Vp s n:=sDel_mem.2 ⟨k,e⟩;rw[hd]at this;cases this
     refine(h.node i m hm hu e).stops rfl rfl rfl rfl ?_ fun k=>absurd (of_decide_eq_true k) hi;rw[decide_eq_false hi];exact decide_eq_false fun k=>(by cases k)
   obtain⟨k1,k2⟩:=counts_BI h0.gi.bi rfl b.ids;exact h0.step k1 k2
theorem Vn.out {b:Br} {i:Nat} {n:Nd} (h:Vn b i n) {x:Nt×List Int} {l:List (Nt×List Int)} (ho:n.out=x::l) (hx:x.1.kind≠7):Vn b i {n with out:=l}:=by
 have hp:=h.ph;rw[ho]at hp;exact⟨h.kn,h.ps,h.one,h.wr,h.right,h.ld,h.here,hp.other hx⟩
theorem GJ.out {b:Br} {nd:List Nd} (h:GJ b nd) {i:Nat} {n:Nd} (hn:nd[i]?=some n) (hu:n.up=true) {x:Nt×List Int} {l:List (Nt×List Int)} (ho:n.out=x::l) (hx:x.1.kind≠7):GJ b (nd.set i {n with out:=l}):=
 ⟨h.gi.setN hn hu hu ((h.gi.node i n hn hu).out ho hx),h.sf,h.ork⟩
theorem heard_gi {b:Br} {nd:List Nd} (h:GJ b nd) {i:Nat} {n:Nd} (hn:nd[i]?=some n) (hu:n.up=true) {x:Nt×List Int} {l:List (Nt×List Int)} (ho:n.out=x::l) (hx:x.1.kind=7) (h32:x.1.frm≤4294967295∧x.1.til≤4294967295):GJ (V8 b i x.1) (nd.set i {n with out:=l}):=by
 have hN:=h.gi.node i n hn hu;have hp:=hN.ph;rw[ho]at hp;obtain⟨p1,p2,p3,p4⟩:=hp.stopped hx;have hcond:(decide (i∈b.stops.getD [])&&b.stopped&&decide (x.1.gen=b.gen))=true:=by rw[p1,p2,decide_eq_true p3];rfl
 rw[V8,if_pos hcond]
 have hstep:∀c:Br,BS b c→BrI c never→GJ (Q4 c i) (nd.set i {n with out:=l}):=fun c k1 k2=>by
  have hc:=h.step k1 k2;refine unstop_gi (n:=i) ?_
  have key:∀(j:Nat) (m:Nd),(nd.set i {n with out:=l})[j]?=some m→(j=i∧m={n with out:=l})∨nd[j]?=some m:=fun j m hm=>by
   rw[List.getElem?_set]at hm
   split at hm
   ·rename_i e
    split at hm
    ·cases hm;exact .inl ⟨e.symm,rfl⟩
    ·cases hm
   ·exact .inr hm
  refine⟨k2,by rw[List.length_set];exact hc.gi.len,hc.gi.dst,fun j m hm=>?_,fun j m hm k=>?_,fun j m hm k e=>?_,fun m hm k b' e1 e2 e3=>?_,fun j hj _=>hc.gi.stp j hj,hc.sf,hc.ork⟩
  ·rcases key j m hm with ⟨rfl,rfl⟩ | hm
   ·exact hc.gi.up _ n hn
   ·exact hc.gi.up j m hm
  ·rcases key j m hm with ⟨rfl,rfl⟩ | hm
   ·exact absurd (hu.symm.trans k) (by decide)
   ·exact hc.gi.off j m hm k
  ·rcases key j m hm with ⟨rfl,rfl⟩ | hm
   ·exact absurd rfl e
   ·exact hc.gi.node j m hm k
  ·rcases key i m hm with ⟨_,rfl⟩ | hm'
   ·have hM:=hc.gi.node i n hn hu;have hpc:=hM.ph;rw[ho]at hpc;obtain⟨_,_,_,q4⟩:=hpc.stopped hx
    refine⟨hM.kn,hM.ps,hM.one,hM.wr,by rw[e2];exact hM.right,by rw[e2];exact hM.ld,fun id=>?_,?_⟩
    ·rw[e2];refine(hM.here id).trans ?_;unfold Pres;rw[e1]
    ·rw[e2,decide_eq_false e3];exact q4 _ _ _
   ·have hlt:i<nd.length:=(List.getElem?_eq_some_iff.1 hn).1;rw[List.getElem?_set_self hlt]at hm;cases hm;have hM:=hc.gi.node i n hn hu;have hpc:=hM.ph;rw[ho]at hpc;obtain⟨_,_,_,q4⟩:=hpc.stopped hx
    refine⟨hM.kn,hM.ps,hM.one,hM.wr,by rw[e2];exact hM.right,by rw[e2];exact hM.ld,fun id=>?_,?_⟩
    ·rw[e2];refine(hM.here id).trans ?_;unfold Pres;rw[e1]
    ·rw[e2,decide_eq_false e3];exact q4 _ _ _
 cases hg:Qb b.js x.1.job with
 | none=>exact hstep b (.refl b) h.gi.bi
 | some y=>
  cases hr:y.ran with
  | none=>simp only[hr];exact hstep b (.refl b) h.gi.bi
  | some r=>
   simp only[hr]
   split
   ·have hyi:=(Qa hg).2;have hg':Qb b.js y.id=some y:=by rw[hyi];exact hg
    have hY:=h.gi.bi.j y (Qa hg).1;have hj:=h.gi.bi.ok.at_ hg'
    obtain⟨k1,k2⟩:=set_BI h.gi.bi (y:={y with ran:=some (ranPut r i (x.1.frm,x.1.til))}) hg' ⟨rfl,rfl,rfl,rfl,rfl⟩ ⟨hj.id1,hj.id2,hj.tier,hj.k1,hj.kn,hj.w,hj.cr,hj.wk,hj.rise,hj.at_,hj.drop,hj.lod,fun r' e=>(by
     cases e
     have key:∀l:List (Nat×Nat×Nat),(∀z∈l,z.2.1≤4294967295∧z.2.2≤4294967295)→∀z∈ranPut l i (x.1.frm,x.1.til),z.2.1≤4294967295∧z.2.2≤4294967295:=by
      intro l;induction l with
      | nil=>intro _ z hz;rw[List.mem_singleton.1 hz];exact h32
      | cons w l ih=>
       intro hl z hz;unfold ranPut at hz
       split at hz
       ·rcases List.mem_cons.1 hz with e | hz
        ·rw[e];exact h32
        ·exact hl z (List.mem_cons_of_mem _ hz)
       ·rcases List.mem_cons.1 hz with e | hz
        ·rw[e];exact hl w (List.mem_cons_self ..)
        ·exact ih (fun z hz=>hl z (List.mem_cons_of_mem _ hz)) z hz
     exact key r (hj.ran r hr)),hj.ld,hj.svl⟩ fun e=>(by rw[(hY.q e).2.2.2.1]at hr;cases hr)
    exact hstep _ k1 k2
   ·exact hstep b (.refl b) h.gi.bi
theorem saved_BI {b:Br} {bad:Nat→Nat→Prop} (h:BrI b bad) {x:Bj} (hx:Qb b.js x.id=some x) (n:Nat) (t:Nt) (bl:List Int):BS b (Wp b x n t bl)∧BrI (Wp b x n t bl) bad:=by
 have hX:=h.j x (Qa hx).1;have hj:=h.ok.at_ hx;unfold Wp;cases hs:x.sav with
 | none=>exact⟨.refl b,h⟩
 | some s=>
  cases hr:rankOf x.at_ n with
  | none=>exact⟨.refl b,h⟩
  | some rank=>
   simp only
   have key:∀s':Sv,s'.bs.length=x.at_.length→s'.credit≤x.w→BS b (b.set {x with sav:=some s' })∧BrI (b.set {x with sav:=some s' }) bad:=fun s' h1 h2=>
    set_BI h (y:={x with sav:=some s' }) hx ⟨rfl,rfl,rfl,rfl,rfl⟩ (hj.sset h1 h2) fun e=>(by rw[(hX.q e).2.2.1]at hs;cases hs)
   obtain⟨v1,v2⟩:=hj.svl s hs
   split
   ·exact⟨.refl b,h⟩
   ·split
    ·obtain⟨k1,k2⟩:=key {s with bs:=s.bs.set rank bl,have_:=Z5 s.have_ n,told:=true} (by show (s.bs.set rank bl).length=_;rw[List.length_set];exact v1) v2;refine⟨k1.trans (BS.quiet ⟨rfl,rfl,rfl,rfl,rfl,rfl⟩ rfl fun _ _=>Iff.rfl),k2.same ?_ rfl rfl rfl⟩;exact⟨k2.ok.R,k2.ok.N,k2.ok.mok,k2.ok.srt,fun x hx=>k2.ok.job x hx,k2.ok.few,k2.ok.q1,k2.ok.q2,k2.ok.g1,k2.ok.g2,k2.ok.now,k2.ok.fin,k2.ok.mem,k2.ok.stp⟩
    ·exact key {s with bs:=s.bs.set rank bl,have_:=Z5 s.have_ n} (by show (s.bs.set rank bl).length=_;rw[List.length_set];exact v1) v2
theorem del_BI {b:Br} {bad:Nat→Nat→Prop} (h:BrI b bad) {x:Bj} (hx:Qb b.js x.id=some x) {d:List Nat} (hd:x.drops=some d) (n:Nat):BS b (Q8 b (delX x d n))∧BrI (Q8 b (delX x d n)) bad:=by
 have hX:=h.j x (Qa hx).1;have hj:=h.ok.at_ hx;refine⟨bs_gone hx rfl (by rw[hd];rfl) rfl,h.gone hx rfl (hj.delX (hj.drop d hd) n) fun _=>?_⟩;have h3:x.state=3:=hX.d.2 (by rw[hd];rfl)
 refine⟨by show x.state≤3;omega,fun e=>(by rw[show x.state=0 from e]at h3;cases h3),hX.p,⟨fun _=>rfl,fun _=>h3⟩,fun e=>(by cases e),fun d' e m hm=>?_,fun d' e m hm=>?_⟩
 ·cases e;exact hX.du d hd m (sDel_mem.1 hm).1
 ·cases e;exact hX.da d hd m (sDel_mem.1 hm).1
theorem hearJ_BI {b:Br} {bad:Nat→Nat→Prop} (h:BrI b bad) {x:Bj} (hx:Qb b.js x.id=some x) (n:Nat) (t:Nt) (bl:List Int):BS b (Wl b x n t bl)∧BrI (Wl b x n t bl) bad:=by
 have hX:=h.j x (Qa hx).1;have hj:=h.ok.at_ hx;unfold Wl
 split
 ·split
  ·rename_i h1
   have hdn:x.drops=none:=by
    cases hd:x.drops with
    | none=>rfl
    | some d=>have:=hX.d.2 (by rw[hd];rfl);omega
   have hnd:(Z5 (x.loaded.getD []) n).Nodup:=by
    cases hl:x.loaded with
    | none=>exact sAdd_nodup List.nodup_nil n
    | some d=>exact sAdd_nodup (hj.lod d hl) n
   refine⟨bs_set (y:=lodX x (x.loaded.getD []) n) hx rfl rfl rfl,h.set (y:=lodX x (x.loaded.getD []) n) hx rfl (hj.lodX hnd) ?_⟩
   have hst:(lodX x (x.loaded.getD []) n).state=1∨(lodX x (x.loaded.getD []) n).state=2:=by
    show (if _ then 2 else 1)=1∨(if _ then 2 else 1)=2;split <;> simp
   refine⟨by omega,fun e=>(by omega),fun _=>hX.p (by omega),⟨fun e=>(by omega),fun e=>?_⟩,hX.u,hX.du,hX.da⟩;rw[show (lodX x (x.loaded.getD []) n).drops=x.drops from rfl,hdn]at e;cases e
  ·exact⟨.refl b,h⟩
 split
 ·exact saved_BI h hx n t bl
 split
 ·cases hd:x.drops with
  | none=>exact⟨.refl b,h⟩
  | some d=>exact del_BI h hx hd n
 ·exact⟨.refl b,h⟩
theorem hear_gi {b:Br} {nd:List Nd} (h:GJ b nd) {i:Nat} {n:Nd} (hn:nd[i]?=some n) (hu:n.up=true) {x:Nt×List Int} {l:List (Nt×List Int)} (ho:n.out=x::l) (h32:x.1.frm≤4294967295∧x.1.til≤4294967295):GJ (Wh b i x.1 x.2).2 (nd.set i {n with out:=l}):=by
 have hi:i∈b.up:=(h.gi.ofUp hn).1 hu
 have hno:X1 b i true=0:=by
  unfold X1;have:=up_lt h.gi.bi hi;rw[if_neg (by omega),(h.gi.bi.up i).1 hi];rfl
 unfold Wh;rw[if_neg (fun e=>e hno)]
 by_cases h7:x.1.kind=7
 ·rw[if_pos h7];exact heard_gi h hn hu ho h7 h32
 ·rw[if_neg h7];have h1:=h.out hn hu ho h7;cases hg:Qb b.js x.1.job with
  | none=>exact h1
  | some y=>
   simp only
   split
   ·have hg':Qb b.js y.id=some y:=by rw[(Qa hg).2];exact hg
    obtain⟨k1,k2⟩:=hearJ_BI h1.gi.bi hg' i x.1 x.2;exact h1.step k1 k2
   ·exact h1
theorem published_gi {b:Br} {nd:List Nd} (h:GJ b nd) (id ver:Nat) (ok:Bool):GJ (Qn b id ver ok).2 nd:=by
 unfold Qn;cases hg:Qb b.js id with
 | none=>exact h
 | some x=>
  simp only;cases hs:x.sav with
  | none=>exact h
  | some s=>
   simp only
   split
   ·exact h
   ·have hg':Qb b.js x.id=some x:=by rw[(Qa hg).2];exact hg
    have hX:=h.gi.bi.j x (Qa hg).1;have hj:=h.gi.bi.ok.at_ hg';have hj2:JOk b.nodes {x with credit:=if ok then s.credit else x.credit,sav:=none}:=⟨hj.id1,hj.id2,hj.tier,hj.k1,hj.kn,hj.w,by show (if ok then s.credit else x.credit)≤x.w;split;exact(hj.svl s hs).2;exact hj.cr,hj.wk,hj.rise,hj.at_,hj.drop,hj.lod,hj.ran,hj.ld,fun _ e=>(by cases e)⟩;obtain⟨k1,k2⟩:=finish_BI h.gi.bi (y:={x with credit:=if ok then s.credit else x.credit,sav:=none}) hg' rfl rfl rfl rfl hj2 (hX.agr ⟨rfl,rfl,rfl,rfl,rfl⟩ fun e=>(by rw[(hX.q e).2.2.1]at hs;cases hs));exact h.step k1 k2
theorem cancel_gi {b:Br} {nd:List Nd} (h:GJ b nd) (id:Nat):GJ (Ym b id).2 nd:=by
 unfold Ym;cases hg:Qb b.js id with
 | none=>exact h
 | some x=>
  have hg':Qb b.js x.id=some x:=by rw[(Qa hg).2];exact hg
  have hX:=h.gi.bi.j x (Qa hg).1;have hj:=h.gi.bi.ok.at_ hg';simp only
  split
  ·exact h.step (bs_drop hg' rfl rfl rfl hj false) (drop_I h.gi.bi hg' rfl rfl rfl rfl hj false)
  ·split
   ·obtain⟨k1,k2⟩:=set_BI h.gi.bi (y:=agX x) hg' ⟨rfl,rfl,rfl,rfl,rfl⟩ hj.agX fun e=>⟨(hX.q e).2.2.1,(hX.q e).2.2.2.1⟩;exact h.step k1 k2
   ·exact h
theorem getJ_insA {x:Bj} {js:List Bj} (hs:V2 js) (hn:Qb js x.id=none) (id:Nat):Qb (Ud x js) id=if id=x.id then some x else Qb js id:=by
 have hok:=insJ_ok hs (V0 hn)
 by_cases e:id=x.id
 ·rw[if_pos e,e];exact Xo hok (Vr.2 (.inl rfl))
 ·rw[if_neg e];cases hg:Qb js id with
  | some y=>
   obtain⟨h1,h2⟩:=Qa hg;have:=Xo hok (Vr.2 (.inr h1))
   rwa [h2]at this
  | none=>
   cases hi:Qb (Ud x js) id with
   | none=>rfl
   | some y=>
    obtain⟨h1,h2⟩:=Qa hi
    rcases Vr.1 h1 with h1 | h1
    ·rw[h1]at h2;exact absurd h2.symm e
    ·exact absurd h2 (V0 hg y h1)
theorem add_gi {b:Br} {nd:List Nd} (h:GJ b nd) {id tier k w:Nat} (h32:id≤4294967295) (hl:b.js.length≤999):GJ (addR b (newJ id tier k w 0 0)).2 nd:=by
 unfold addR
 split
 ·exact h
 rename_i hok;have hok:addOk b (newJ id tier k w 0 0)=true:=by simpa using hok
 split
 ·exact h
 rename_i hno
 have hno:Qb b.js (newJ id tier k w 0 0).id=none:=by
  cases hg:Qb b.js (newJ id tier k w 0 0).id with
  | none=>rfl
  | some y=>rw[hg]at hno;exact absurd rfl hno
 have hj:=newJ_ok h32 hok;have ok:=insB_ok h.gi.bi.ok hj hno hl;obtain⟨x,hx⟩:∃x,x=newJ id tier k w 0 0:=⟨_,rfl⟩;have hx0:x.state=0∧x.at_=[]∧x.drops=none∧x.sav=none∧x.ran=none∧x.credit=0:=by rw[hx];exact⟨rfl,rfl,rfl,rfl,rfl,rfl⟩
 rw[←hx]at hok hno hj ok ⊢;obtain⟨x1,x2,x3,x4,x5,x6⟩:=hx0;have hgi:=getJ_insA (x:=x) h.gi.bi.ok.srt hno
 have hw:x.credit<x.w:=by
  rw[x6];simp only[addOk,Bool.and_eq_true,decide_eq_true_eq]at hok;omega
 have hI:BrI (insB b x) never:=by
  refine⟨ok,fun z hz=>?_,fun z hz=>?_,h.gi.bi.up⟩
  ·rcases Vr.1 (show z∈Ud x b.js from hz) with e | hz
   ·subst e;refine⟨by omega,fun _=>⟨x2,x3,x4,x5,?_⟩,fun e=>absurd x1 e,⟨fun e=>(by omega),fun e=>(by rw[x3]at e;cases e)⟩,fun _ n hn=>(by rw[x2]at hn;cases hn),fun d e=>(by rw[x3]at e;cases e),fun d e=>(by rw[x3]at e;cases e)⟩
    rcases hl:look b.m.js z.id with _ | y
    ·rfl
    ·obtain⟨l1,l2⟩:=Vg hl;have:=h.gi.bi.mj y l1;rw[l2,hno]at this;cases this
   ·exact(h.gi.bi.j z hz).congr rfl rfl
  ·show (Qb (Ud x b.js) z.id).isSome=true;rw[hgi]
   split
   ·rfl
   ·exact h.gi.bi.mj z hz
 have hB:BS b (insB b x):=BS.quiet ⟨rfl,rfl,rfl,rfl,rfl,rfl⟩ rfl fun i id=>by
  unfold Pres;show (∃z,Qb (Ud x b.js) id=some z∧_)↔_;rw[hgi]
  split
  ·rename_i e;rw[e,hno]
   constructor
   ·rintro ⟨z,h1,_,h3⟩;cases h1;rw[x2]at h3;cases h3
   ·rintro ⟨z,h1,_⟩;cases h1
  ·exact Iff.rfl
 have hg:Qb (insB b x).js x.id=some x:=by rw[show (insB b x).js=Ud x b.js from rfl,hgi,if_pos rfl]
 have hf:Qz (insB b x) x=insB b x:=by rw[Qz,if_pos (.inl hw)];exact Qi ok hg
 show GJ (Qz (insB b x) x) nd;rw[hf];exact h.step hB hI
theorem isUp_down {m:Mx} {i j:Nat} (h:Wx m i=true):Wy (upR m i false).2 j=true↔Wy m j=true∧j≠i:=by
 rw[upR,if_pos h];show (Wx m j&&(m.up &&& ~~~BitVec.twoPow 16 i).getLsbD (j:Int).toNat)=true↔(Wx m j&&m.up.getLsbD (j:Int).toNat)=true∧j≠i;rw[Int.toNat_natCast,BitVec.getLsbD_and,BitVec.getLsbD_not,BitVec.getLsbD_twoPow,Bool.and_eq_true,Bool.and_eq_true,Bool.and_eq_true,Bool.and_eq_true]
 constructor
 ·rintro ⟨h1,h2,h3,h4⟩;refine⟨⟨h1,h2⟩,fun e=>?_⟩;subst e;simp only[Bool.not_eq_true',Bool.and_eq_false_iff,decide_eq_false_iff_not]at h4;have:=of_decide_eq_true h3;rcases h4 with h4 | h4 <;> exact h4 (by first | exact this | trivial)
 ·rintro ⟨⟨h1,h2⟩,h3⟩
  have hlt:j<16:=by
   rcases Nat.lt_or_ge j 16 with h | h
   ·exact h
   ·rw[BitVec.getLsbD_of_ge _ _ h]at h2;cases h2
  exact⟨h1,h2,decide_eq_true hlt,by simp[Ne.symm h3]⟩
theorem isUp_on {m:Mx} (hm:Yn m) {i j:Nat} (h:Wx m i=true):Wy (upR m i true).2 j=true↔Wy m j=true∨j=i:=by
 have hi:=(Xs.1 h).2;have:=hm.N16;rw[upR,if_pos h];show (Wx m j&&(m.up ||| BitVec.twoPow 16 i).getLsbD (j:Int).toNat)=true↔(Wx m j&&m.up.getLsbD (j:Int).toNat)=true∨j=i;rw[Int.toNat_natCast,BitVec.getLsbD_or,BitVec.getLsbD_twoPow,Bool.and_eq_true,Bool.and_eq_true,Bool.or_eq_true,Bool.and_eq_true,decide_eq_true_eq,decide_eq_true_eq]
 constructor
 ·rintro ⟨h1,h2 | ⟨_,h2⟩⟩
  ·exact .inl ⟨h1,h2⟩
  ·exact .inr h2.symm
 ·rintro (⟨h1,h2⟩ | h2)
  ·exact⟨h1,.inl h2⟩
  ·subst h2;exact⟨h,.inr ⟨by omega,rfl⟩⟩
def Off (n:Nat) (x:Bj):Prop:=(x.drops=none→n∉x.at_)∧∀d,x.drops=some d→n∉d
abbrev only (n:Nat):Nat→Nat→Prop:=fun _ k=>k=n
theorem gone_mem {b:Br} {x:Bj} {z:Bj} (hz:z∈(Q8 b x).js):z=x∨z=anew x∨(z∈b.js∧z.id≠x.id):=by
 unfold Q8 at hz
 have key:∀y:Bj,y.id=x.id→z∈Yf b.js y→z=y∨(z∈b.js∧z.id≠x.id):=fun y hy hz=>by
  obtain⟨w,hw,e⟩:=List.mem_map.1 hz
  split at e
  ·exact .inl e.symm
  ·rename_i hne;subst e;exact .inr ⟨hw,by rw[←hy];exact hne⟩
 split at hz
 ·split at hz
  ·rcases key (anew x) rfl hz with h | h
   ·exact .inr (.inl h)
   ·exact .inr (.inr h)
  ·obtain⟨h1,h2⟩:=List.mem_filter.1 (show z∈rmJ b.js x.id from hz);exact .inr (.inr ⟨h1,by simpa using h2⟩)
 ·rcases key x rfl hz with h | h
  ·exact .inl h
  ·exact .inr (.inr h)
theorem off_anew (n:Nat) (x:Bj):Off n (anew x):=⟨fun _ h=>(by cases h),fun _ e=>(by cases e)⟩
theorem lostJ_BI {n:Nat} {b:Br} (h:BrI b (only n)) (hu:n∉b.up) {x:Bj} (hx:Qb b.js x.id=some x) {D:List Nat} (hD:∀z∈b.js,z.id∈D→Off n z):BS b (Yg n b x)∧BrI (Yg n b x) (only n)∧(Yg n b x).up=b.up∧∀z∈(Yg n b x).js,z.id∈x.id::D→Off n z:=by
 have hj:=h.ok.at_ hx;have hX:=h.j x (Qa hx).1
 have fin:∀(b1:Br) (y:Bj),b1.js=b.js→y.id=x.id→Off n y→∀z∈(Q8 b1 y).js,z.id∈x.id::D→Off n z:=fun b1 y e1 e2 hy z hz hd=>by
  rcases gone_mem hz with rfl | rfl | ⟨k1,k2⟩
  ·exact hy
  ·exact off_anew n y
  ·rw[e1]at k1
   rcases List.mem_cons.1 hd with e | hd
   ·exact absurd (e.trans e2.symm) k2
   ·exact hD z k1 hd
 unfold Yg
 by_cases hm:n∈x.at_
 ·rw[if_pos hm]
  split
  ·rename_i hd;refine⟨bs_drop hx rfl rfl rfl hj true,drop_I h hx rfl rfl rfl rfl hj true,(dropR_same b x true).2.2.2.2,?_⟩;rw[X3 hd];refine fin {b with orders:=b.orders++(V5 b x).map (Xt x.id)} (Wn x true (V5 b x)) rfl rfl ⟨fun e=>(by cases e),fun d e k=>?_⟩;cases e;exact hu (of_decide_eq_true (List.mem_filter.1 k).2)
  ·rename_i d hd;obtain⟨k1,k2⟩:=del_BI h hx hd n;refine⟨k1,k2,(goneR_same b _).2.2.2.2,?_⟩;refine fin b (delX x d n) rfl rfl ⟨fun e=>(by cases e),fun d' e k=>?_⟩;cases e;exact(sDel_mem.1 k).2 rfl
 ·rw[if_neg hm];refine⟨.refl b,h,rfl,fun z hz hd=>?_⟩
  rcases List.mem_cons.1 hd with e | hd
  ·have:=Xo h.ok.srt hz;rw[e,hx]at this;cases this;exact⟨fun _=>hm,fun d e k=>hm (hX.da d e n k)⟩
  ·exact hD z hz hd
theorem mem_mv {i j:Nat} {l m:List Nat} (h:i∈(j::l)++m):i∈l++(j::m):=by
 rcases List.mem_append.1 h with h | h
 ·rcases List.mem_cons.1 h with h | h
  ·exact List.mem_append_right _ (List.mem_cons.2 (.inl h))
  ·exact List.mem_append_left _ h
 ·exact List.mem_append_right _ (List.mem_cons_of_mem _ h)
theorem losts_BI {n:Nat}:∀(l:List Nat) {b:Br} (_:BrI b (only n)) (_:n∉b.up) {D:List Nat} (_:∀z∈b.js,z.id∈D→Off n z),BS b (each (Yg n) b l)∧BrI (each (Yg n) b l) (only n)∧(each (Yg n) b l).up=b.up∧∀z∈(each (Yg n) b l).js,z.id∈l++D→Off n z
 | [],b,h,_,_,hD=>⟨.refl b,h,rfl,hD⟩
 | id::l,b,h,hu,D,hD=>by
  have e:each (Yg n) b (id::l)=each (Yg n) (match Qb b.js id with | none=>b | some x=>Yg n b x) l:=rfl;rw[e];cases hg:Qb b.js id with
  | none=>
   obtain⟨k1,k2,k3,k4⟩:=losts_BI l h hu (D:=id::D) fun z hz hd=>by
    rcases List.mem_cons.1 hd with e | hd
    ·exact absurd e (V0 hg z hz)
    ·exact hD z hz hd
   exact⟨k1,k2,k3,fun z hz hd=>k4 z hz (mem_mv hd)⟩
  | some x=>
   have hxi:=(Qa hg).2;obtain⟨q1,q2,q3,q4⟩:=lostJ_BI h hu (by rw[hxi];exact hg) hD;obtain⟨k1,k2,k3,k4⟩:=losts_BI l q2 (by rw[q3];exact hu) q4;exact⟨q1.trans k1,k2,k3.trans q3,fun z hz hd=>k4 z hz (by rw[hxi];exact mem_mv hd)⟩
theorem set_key {nd:List Nd} {i:Nat} {n n':Nd} (_:nd[i]?=some n) (j:Nat) (m:Nd) (hm:(nd.set i n')[j]?=some m):(j=i∧m=n')∨(j≠i∧nd[j]?=some m):=by
 rw[List.getElem?_set]at hm
 split at hm
 ·rename_i e
  split at hm
  ·cases hm;exact .inl ⟨e.symm,rfl⟩
  ·cases hm
 ·rename_i e;exact .inr ⟨Ne.symm e,hm⟩
theorem node_of {b:Br} (h:BrI b never) {i:Nat} (hi:i<b.nodes):Wx b.m i=true:=Xs.2 ⟨by omega,by rw[h.ok.N];omega⟩
theorem lost_gi {b:Br} {nd:List Nd} (h:GJ b nd) {i:Nat} {n:Nd} (hn:nd[i]?=some n) (hu:n.up=true):GJ (lostR b i).2 (nd.set i {up:=false,rk:=[],inn:=[],out:=[],wrong:=n.wrong}):=by
 have hi:i∈b.up:=(h.gi.ofUp hn).1 hu;have hlt:=up_lt h.gi.bi hi;have hnb:=node_of h.gi.bi hlt
 have hno:¬X1 b i true≠0:=by
  unfold X1;rw[if_neg (by omega),(h.gi.bi.up i).1 hi];exact fun e=>e rfl
 rw[lostR_good hno];have hw:=(h.gi.node i n hn hu).wr;have hmem:∀j,j∈(Wa b i).up↔j∈b.up∧j≠i:=fun j=>sDel_mem
 have hI0:BrI (Wa b i) (only i):=by
  refine⟨lost0_ok h.gi.bi.ok i,fun x hx=>?_,fun z hz=>?_,fun j=>?_⟩
  ·have hX:=h.gi.bi.j x hx
   have hms:∀ {k},k∈b.up∨never x.id k→k∈(Wa b i).up∨only i x.id k:=fun {k} hk=>by
    have hk:=hk.resolve_right fun e=>e
    by_cases e:k=i
    ·exact .inr e
    ·exact .inl ((hmem k).2 ⟨hk,e⟩)
   have hl:look (Wa b i).m.js x.id=look b.m.js x.id:=by show look (upR b.m i false).2.js x.id=_;rw[upR,if_pos hnb];rfl
   exact⟨hX.st,fun e=>by rw[hl];exact hX.q e,fun e=>by rw[hl];exact hX.p e,hX.d,fun e k hk=>hms (hX.u e k hk),fun d e k hk=>hms (hX.du d e k hk),hX.da⟩
  ·refine h.gi.bi.mj z ?_;have hz:z∈(upR b.m i false).2.js:=hz;rw[upR,if_pos hnb]at hz;exact hz
  ·rw[hmem,h.gi.bi.up];exact(isUp_down hnb).symm
 obtain⟨k1,k2,k3,k4⟩:=losts_BI b.ids hI0 (fun e=>((hmem i).1 e).2 rfl) (D:=[]) (fun z _ e=>(by cases e));obtain⟨E,k1⟩:=k1;obtain⟨t,ht⟩:∃t,t=each (Yg i) (Wa b i) b.ids:=⟨_,rfl⟩;rw[←ht]at k1 k2 k3 k4 ⊢
 have hids:∀z∈t.js,z.id∈b.ids:=fun z hz=>by
  have key:∀(l:List Nat) (c:Br),(∀z∈c.js,z.id∈b.ids)→∀z∈(each (Yg i) c l).js,z.id∈b.ids:=by
   intro l;induction l with
   | nil=>exact fun _ h=>h
   | cons id l ih=>
    intro c hc;have e:each (Yg i) c (id::l)=each (Yg i) (match Qb c.js id with | none=>c | some x=>Yg i c x) l:=rfl;rw[e];refine ih _ ?_;cases hg:Qb c.js id with
    | none=>exact hc
    | some x=>
     have hx:=hc x (Qa hg).1
     have gk:∀(c1:Br) (y:Bj),c1.js=c.js→y.id=x.id→∀z∈(Q8 c1 y).js,z.id∈b.ids:=fun c1 y e1 e2 z hz=>by
      rcases gone_mem hz with rfl | rfl | ⟨m1,_⟩
      ·rw[e2];exact hx
      ·show y.id∈_;rw[e2];exact hx
      ·rw[e1]at m1;exact hc z m1
     show ∀z∈(Yg i c x).js,_;unfold Yg
     split
     ·split
      ·rename_i hd;rw[X3 hd];exact gk {c with orders:=c.orders++(V5 c x).map (Xt x.id)} _ rfl rfl
      ·exact gk c _ rfl rfl
     ·exact hc
  rw[ht]at hz;exact key b.ids (Wa b i) (fun z hz=>List.mem_map.2 ⟨z,hz,rfl⟩) z hz
 have hI:BrI t never:=by
  refine⟨k2.ok,fun x hx=>?_,k2.mj,k2.up⟩;have hX:=k2.j x hx;obtain⟨o1,o2⟩:=k4 x hx (by rw[List.append_nil];exact hids x hx);exact⟨hX.st,hX.q,hX.p,hX.d,fun e k hk=>.inl ((hX.u e k hk).resolve_right fun (e2:k=i)=>o1 e (by rw[←e2];exact hk)),fun d e k hk=>.inl ((hX.du d e k hk).resolve_right fun (e2:k=i)=>o2 d e (by rw[←e2];exact hk)),hX.da⟩
 refine unstop_gi (n:=i) ⟨hI,by rw[List.length_set,k1.nodes];exact h.gi.len,fun o ho=>?_,fun j m hm=>?_,fun j m hm k=>?_,fun j m hm k e=>?_,fun m hm k=>?_,fun j hj e=>?_,by rw[k1.stops,k1.stopped];exact h.sf,fun o ho=>?_⟩
 ·rw[k1.ord]at ho;rw[k3]
  rcases List.mem_append.1 ho with ho | ho
  ·obtain⟨h1,h2⟩:=List.mem_filter.1 (show o∈b.orders.filter _ from ho);exact(hmem _).2 ⟨h.gi.dst o h1,of_decide_eq_true h2⟩
  ·exact k1.dst o ho
 ·rw[k3]
  rcases set_key hn j m hm with ⟨rfl,rfl⟩ | ⟨e,hm⟩
  ·exact(decide_eq_false fun e=>((hmem _).1 e).2 rfl).symm
  ·rw[h.gi.up j m hm];exact decide_eq_decide.2 ⟨fun k=>(hmem j).2 ⟨k,e⟩,fun k=>((hmem j).1 k).1⟩
 ·rcases set_key hn j m hm with ⟨rfl,rfl⟩ | ⟨e,hm⟩
  ·exact⟨rfl,rfl,rfl,hw⟩
  ·exact h.gi.off j m hm k
 ·rcases set_key hn j m hm with ⟨rfl,rfl⟩ | ⟨e2,hm⟩
  ·exact absurd rfl e
  ·have hN:=h.gi.node j m hm k;have hj:j∈b.up:=(h.gi.ofUp hm).1 k
   have hq:qOf (Wa b i).orders j=qOf b.orders j:=by
    show qOf (b.orders.filter fun o=>decide (o.1≠i)) j=_;unfold qOf;rw[List.filter_filter]
    congr 1
    refine List.filter_congr fun o _=>?_
    by_cases e3:o.1=j
    ·rw[decide_eq_true e3,decide_eq_true (show o.1≠i by rw[e3];exact e2)];rfl
    ·rw[decide_eq_false e3];rfl
   have hN0:Vn (Wa b i) j m:=⟨hN.kn,hN.ps,hN.one,hN.wr,by rw[hq];exact hN.right,by rw[hq];exact hN.ld,fun id=>by rw[hq];exact hN.here id,by rw[hq];exact hN.ph⟩;exact hN0.step k1 ((hmem j).2 ⟨hj,e2⟩)
 ·rcases set_key hn i m hm with ⟨_,rfl⟩ | ⟨e,_⟩
  ·cases k
  ·exact absurd rfl e
 ·rw[k1.stops]at hj;rw[k3];exact(hmem j).2 ⟨h.gi.stp j hj,e⟩
 ·rw[k1.ord]at ho
  rcases List.mem_append.1 ho with ho | ho
  ·exact h.ork o (List.mem_filter.1 (show o∈b.orders.filter _ from ho)).1
  ·exact(k1.k5 o ho).2.2.2
theorem up_gi {b:Br} {nd:List Nd} (h:GJ b nd) {i:Nat} {n:Nd} (hn:nd[i]?=some n) (hu:n.up=false):GJ (upR' b i).2 (nd.set i {n with up:=true}):=by
 have hi:i∉b.up:=fun e=>by have:=(h.gi.ofUp hn).2 e;rw[hu]at this;cases this
 have hlt:i<b.nodes:=by rw[←h.gi.len];exact(List.getElem?_eq_some_iff.1 hn).1
 have hnb:=node_of h.gi.bi hlt
 have hno:¬X1 b i false≠0:=by
  unfold X1
  have:Wy b.m i=false:=by
   cases e:Wy b.m i with
   | false=>rfl
   | true=>exact absurd ((h.gi.bi.up i).2 e) hi
  rw[if_neg (by omega),this];exact fun e=>e rfl
 have ok:=upR'_ok h.gi.bi.ok (i:Int);rw[upR',if_neg hno]at ok ⊢;obtain⟨b',hb'⟩:∃b':Br,b'={b with up:=Z5 b.up (i:Int).toNat,m:=(upR b.m i true).2}:=⟨_,rfl⟩;have hmem:∀j,j∈b'.up↔j∈b.up∨j=i:=fun j=>by rw[hb'];exact mem_sAdd
 have hl:∀k,look b'.m.js k=look b.m.js k:=fun k=>by rw[hb'];show look (upR b.m i true).2.js k=_;rw[upR,if_pos hnb];rfl
 have hms:b'.m.js=b.m.js:=by rw[hb'];show (upR b.m i true).2.js=_;rw[upR,if_pos hnb];rfl
 have hupm:∀j:Nat,Wy b'.m j=true↔Wy b.m j=true∨j=i:=fun j=>by rw[hb'];exact isUp_on h.gi.bi.ok.mok hnb
 have e1:b'.js=b.js:=by rw[hb']
 have e2:b'.orders=b.orders:=by rw[hb']
 have e3:b'.stops=b.stops:=by rw[hb']
 have e4:b'.stopped=b.stopped:=by rw[hb']
 have e5:b'.gen=b.gen:=by rw[hb']
 have e6:b'.members=b.members:=by rw[hb']
 have e7:b'.nodes=b.nodes:=by rw[hb']
 have ok:Qp b':=by rw[hb'];exact ok
 show GJ {b with up:=Z5 b.up (i:Int).toNat,m:=(upR b.m i true).2} _;rw[←hb']
 have hI:BrI b' never:=⟨ok,fun x hx=>by
  rw[e1]at hx;have hX:=h.gi.bi.j x hx;have mv:∀ {k},k∈b.up∨never x.id k→k∈b'.up∨never x.id k:=fun {k} hk=>.inl ((hmem k).2 (.inl (hk.resolve_right fun e=>e)));exact⟨hX.st,fun e=>by rw[hl];exact hX.q e,fun e=>by rw[hl];exact hX.p e,hX.d,fun e k hk=>mv (hX.u e k hk),fun d e k hk=>mv (hX.du d e k hk),hX.da⟩,fun z hz=>by rw[hms]at hz;rw[e1];exact h.gi.bi.mj z hz,fun j=>by rw[hmem,hupm,h.gi.bi.up]⟩
 have hp:∀j id,Pres b' j id↔Pres b j id:=fun j id=>by unfold Pres;rw[e1]
 refine⟨⟨hI,by rw[List.length_set,e7];exact h.gi.len,fun o ho=>(hmem _).2 (.inl (h.gi.dst o (by rw[←e2];exact ho))),fun j m hm=>?_,fun j m hm k=>?_,fun j m hm k=>?_,fun j hj=>(hmem j).2 (.inl (h.gi.stp j (by rw[←e3];exact hj)))⟩,by rw[e3,e4];exact h.sf,by rw[e2];exact h.ork⟩
 ·rcases set_key hn j m hm with ⟨rfl,rfl⟩ | ⟨e,hm⟩
  ·exact(decide_eq_true ((hmem _).2 (.inr rfl))).symm
  ·rw[h.gi.up j m hm];exact decide_eq_decide.2 ⟨fun k=>(hmem j).2 (.inl k),fun k=>((hmem j).1 k).resolve_right e⟩
 ·rcases set_key hn j m hm with ⟨rfl,rfl⟩ | ⟨e,hm⟩
  ·cases k
  ·exact h.gi.off j m hm k
 ·rcases set_key hn j m hm with ⟨rfl,rfl⟩ | ⟨e,hm⟩
  ·obtain⟨o1,o2,o3,o4⟩:=h.gi.off j n hn hu
   have hq:qOf b'.orders j=[]:=by
    rw[e2];unfold qOf;rw[List.map_eq_nil_iff,List.filter_eq_nil_iff];exact fun o ho k=>hi (by rw[←of_decide_eq_true k];exact h.gi.dst o ho)
   refine⟨by rw[o1];exact List.nodup_nil,by rw[o1];exact fun _ k=>(by cases k),by rw[o1];exact fun _ k=>(by cases k),o4,?_,?_,fun id=>?_,?_⟩
   ·show (fin n.rk (n.inn++qOf b'.orders j)).wrong=false;rw[hq,o1,o2];rfl
   ·show ∀x∈n.inn++qOf b'.orders j,_;rw[hq,o2];exact fun x k=>(by cases k)
   ·show (Zh id (fin n.rk (n.inn++qOf b'.orders j)).rk).isSome=true↔_;rw[hq,o1,o2,hp];refine⟨fun k=>(by cases k),fun⟨x,x1,x2,x3⟩=>?_⟩;exact absurd (((h.gi.bi.j x (Qa x1).1).u x2 j x3).resolve_right fun e=>e) hi
   ·show Ph b'.gen b'.members (decide (j∈b'.stops.getD [])) b'.stopped n.rk (n.inn++qOf b'.orders j) n.out;rw[hq,o1,o2,o3];exact .rest (decide_eq_false fun k=>hi (h.gi.stp j (by rw[←e3];exact k))) (fun _ k=>(by cases k)) (fun _ k=>(by cases k)) (fun _ k=>(by cases k)) (fun _ k=>(by cases k))
  ·have hN:=h.gi.node j m hm k;exact⟨hN.kn,hN.ps,hN.one,hN.wr,by rw[e2];exact hN.right,by rw[e2];exact hN.ld,fun id=>by rw[e2];exact(hN.here id).trans (hp j id).symm,by rw[e2,e5,e6,e3,e4];exact hN.ph⟩
theorem ords_at:∀(os:List Od) (nd:List Nd),(∀o∈os,∃n,nd[o.1]?=some n∧n.up=true)→(V3 nd os).length=nd.length∧∀(i:Nat) (n:Nd),nd[i]?=some n→(V3 nd os)[i]?=some {n with inn:=n.inn++qOf os i}
 | [],nd,_=>⟨rfl,fun i n h=>by rw[show V3 nd []=nd from rfl,h];simp[qOf]⟩
 | o::os,nd,h=>by
  obtain⟨n0,h1,h2⟩:=h o (List.mem_cons_self ..)
  have e:V3 nd (o::os)=V3 (nd.set o.1 {n0 with inn:=n0.inn++[o.2]}) os:=by
   show V3 (ordR nd o) os=_;rw[ordR,h1];simp only[h2,if_true]
  have hlt:=(List.getElem?_eq_some_iff.1 h1).1
  obtain⟨k1,k2⟩:=ords_at os (nd.set o.1 {n0 with inn:=n0.inn++[o.2]}) fun p hp=>by
   obtain⟨m,m1,m2⟩:=h p (List.mem_cons_of_mem _ hp)
   by_cases e:p.1=o.1
   ·rw[e,List.getElem?_set_self hlt];exact⟨_,rfl,h2⟩
   ·rw[List.getElem?_set_ne (Ne.symm e)];exact⟨m,m1,m2⟩
  rw[e];refine⟨k1.trans (List.length_set ..),fun i n hn=>?_⟩
  by_cases ei:o.1=i
  ·subst ei;rw[h1]at hn;cases hn;rw[k2 o.1 _ (List.getElem?_set_self hlt)];have:qOf (o::os) o.1=o.2::qOf os o.1:=by unfold qOf;rw[List.filter_cons,if_pos (by simp),List.map_cons]
   rw[this,List.append_assoc];rfl
  ·rw[k2 i n (by rw[List.getElem?_set_ne ei];exact hn)];have:qOf (o::os) i=qOf os i:=by unfold qOf;rw[List.filter_cons,if_neg (by simpa using ei)]
   rw[this]
theorem take_gi {b:Br} {nd:List Nd} (h:GJ b nd):GJ {b with orders:=[],images:=[],done:=[]} (V3 nd b.orders):=by
 have hd:∀o∈b.orders,∃n,nd[o.1]?=some n∧n.up=true:=fun o ho=>by
  have hi:=h.gi.dst o ho;have hlt:=up_lt h.gi.bi hi;obtain⟨n,hn⟩:=Ya (show o.1<nd.length by rw[h.gi.len];exact hlt);exact⟨n,hn,(h.gi.ofUp hn).2 hi⟩
 obtain⟨k1,k2⟩:=ords_at b.orders nd hd
 have key:∀(i:Nat) (m:Nd),(V3 nd b.orders)[i]?=some m→∃n,nd[i]?=some n∧m={n with inn:=n.inn++qOf b.orders i}:=fun i m hm=>by
  obtain⟨n,hn⟩:=Ya (show i<nd.length by rw[←k1];exact(List.getElem?_eq_some_iff.1 hm).1);rw[k2 i n hn]at hm;cases hm;exact⟨n,hn,rfl⟩
 refine⟨⟨h.gi.bi.same ?_ rfl rfl rfl,k1.trans h.gi.len,fun o ho=>(by cases ho),fun i m hm=>?_,fun i m hm k=>?_,fun i m hm k=>?_,h.gi.stp⟩,h.sf,fun o ho=>(by cases ho)⟩
 ·exact⟨h.gi.bi.ok.R,h.gi.bi.ok.N,h.gi.bi.ok.mok,h.gi.bi.ok.srt,fun x hx=>h.gi.bi.ok.job x hx,h.gi.bi.ok.few,h.gi.bi.ok.q1,h.gi.bi.ok.q2,h.gi.bi.ok.g1,h.gi.bi.ok.g2,h.gi.bi.ok.now,h.gi.bi.ok.fin,h.gi.bi.ok.mem,h.gi.bi.ok.stp⟩
 ·obtain⟨n,hn,rfl⟩:=key i m hm;exact h.gi.up i n hn
 ·obtain⟨n,hn,rfl⟩:=key i m hm;obtain⟨o1,o2,o3,o4⟩:=h.gi.off i n hn k;refine⟨o1,?_,o3,o4⟩;show n.inn++qOf b.orders i=[];rw[o2,List.nil_append];unfold qOf;rw[List.map_eq_nil_iff,List.filter_eq_nil_iff];refine fun o ho q=>?_;have:=(h.gi.ofUp hn).2 (by rw[←of_decide_eq_true q];exact h.gi.dst o ho);rw[show n.up=false from k]at this;cases this
 ·obtain⟨n,hn,rfl⟩:=key i m hm;have hN:=h.gi.node i n hn k;have hq:(n.inn++qOf b.orders i)++qOf ([]:List Od) i=n.inn++qOf b.orders i:=by rw[show qOf ([]:List Od) i=[] from rfl,List.append_nil]
  refine⟨hN.kn,hN.ps,hN.one,hN.wr,?_,?_,fun id=>?_,?_⟩
  ·show (fin n.rk ((n.inn++qOf b.orders i)++qOf [] i)).wrong=false;rw[hq];exact hN.right
  ·show ∀x∈(n.inn++qOf b.orders i)++qOf [] i,_;rw[hq];exact hN.ld
  ·show (Zh id (fin n.rk ((n.inn++qOf b.orders i)++qOf [] i)).rk).isSome=true↔_;rw[hq];exact hN.here id
  ·show Ph b.gen b.members _ b.stopped n.rk ((n.inn++qOf b.orders i)++qOf [] i) n.out;rw[hq];exact hN.ph
def Ag (b:Br):Prop:=∀x∈b.js,x.done=true→x.again=false
def JR (b b':Br):Prop:=Ag b→(b'.done=b.done∧b'.now=b.now)∧Ag b'∧∀z∈b'.js,∃x∈b.js,z.id=x.id∧(x.done=true→z.done=true)
theorem JR.refl (b:Br):JR b b:=fun h=>⟨⟨rfl,rfl⟩,h,fun z hz=>⟨z,hz,rfl,fun h=>h⟩⟩
theorem JR.trans {a b c:Br} (h:JR a b) (k:JR b c):JR a c:=fun ha=>by
 obtain⟨h1,h2,h3⟩:=h ha;obtain⟨k1,k2,k3⟩:=k h2;refine⟨⟨k1.1.trans h1.1,k1.2.trans h1.2⟩,k2,fun z hz=>?_⟩;obtain⟨y,y1,y2,y3⟩:=k3 z hz;obtain⟨x,x1,x2,x3⟩:=h3 y y1;exact⟨x,x1,y2.trans x2,fun e=>y3 (x3 e)⟩
theorem JR.same {b b':Br} (hj:b'.js=b.js) (hd:b'.done=b.done) (hn:b'.now=b.now):JR b b':=fun h=>⟨⟨hd,hn⟩,fun x hx=>by rw[hj]at hx;exact h x hx,fun z hz=>by rw[hj]at hz;exact⟨z,hz,rfl,fun h=>h⟩⟩
theorem setJ_mem {js:List Bj} {y z:Bj} (hz:z∈Yf js y):z=y∨(z∈js∧z.id≠y.id):=by
 obtain⟨w,hw,e⟩:=List.mem_map.1 hz
 split at e
 ·exact .inl e.symm
 ·rename_i hne;subst e;exact .inr ⟨hw,hne⟩
theorem jr_set {b:Br} {x y:Bj} (hx:Qb b.js x.id=some x) (hid:y.id=x.id) (h1:x.done=true→y.done=true) (h2:(x.done=true→x.again=false)→y.done=true→y.again=false):JR b (b.set y):=fun h=>by
 have hm:=(Qa hx).1
 refine⟨⟨rfl,rfl⟩,fun z hz=>?_,fun z hz=>?_⟩
 ·rcases setJ_mem (show z∈Yf b.js y from hz) with rfl | ⟨k,_⟩
  ·exact h2 (h x hm)
  ·exact h z k
 ·rcases setJ_mem (show z∈Yf b.js y from hz) with rfl | ⟨k,_⟩
  ·exact⟨x,hm,hid,h1⟩
  ·exact⟨z,k,rfl,fun h=>h⟩
theorem jr_gone {b:Br} {x y:Bj} (hx:Qb b.js x.id=some x) (hid:y.id=x.id) (h1:x.done=true→y.done=true) (h2:(x.done=true→x.again=false)→y.done=true→y.again=false):JR b (Q8 b y):=fun h=>by
 have hm:=(Qa hx).1;unfold Q8
 split
 ·split
  ·rename_i ha
   have hnd:x.done≠true:=fun e=>by
    have:=h2 (h x hm) (h1 e);rw[ha]at this;cases this
   have:=jr_set (b:={b with m:=(Q5 b.m y.id).2}) (y:=anew y) hx hid (fun e=>absurd e hnd) (fun _ e=>(by cases e)) h;exact this
  ·refine⟨⟨rfl,rfl⟩,fun z hz=>h z (List.mem_filter.1 (show z∈rmJ b.js y.id from hz)).1,fun z hz=>⟨z,(List.mem_filter.1 (show z∈rmJ b.js y.id from hz)).1,rfl,fun h=>h⟩⟩
 ·exact jr_set hx hid h1 h2 h
theorem jr_drop {b:Br} {x y:Bj} (hx:Qb b.js x.id=some x) (hid:y.id=x.id) (h1:x.done=true→y.done=true) (a:Bool):JR b (Yp b y a):=by
 have h2:∀d,(x.done=true→x.again=false)→(Wn y a d).done=true→(Wn y a d).again=false:=fun d _ e=>by
  show (a&&!y.done)=false;rw[show y.done=true from e];simp
 cases hd:y.drops with
 | some d=>rw[Wv hd];exact jr_gone hx hid h1 (h2 d)
 | none=>
  rw[X3 hd];exact(JR.same (b:=b) (b':={b with orders:=b.orders++(V5 b y).map (Xt y.id)}) rfl rfl rfl).trans (jr_gone (b:={b with orders:=b.orders++(V5 b y).map (Xt y.id)}) hx hid h1 (h2 _))
theorem jr_save {b:Br} {x y:Bj} (hx:Qb b.js x.id=some x) (hid:y.id=x.id) (hd:y.done=x.done) (ha:y.again=x.again):JR b (Y7 b y):=by
 by_cases hc:y.work=y.credit∨y.sav.isSome∨y.drops.isSome∨y.state≠2
 ·rw[Wq hc];exact jr_set hx hid (fun e=>hd.trans e) (fun h e=>ha.trans (h (hd.symm.trans e)))
 ·rw[Ve hc];exact(JR.same (b:=b) (b':={b with orders:=b.orders++y.at_.map (We (Wd y))}) rfl rfl rfl).trans (jr_set (b:={b with orders:=b.orders++y.at_.map (We (Wd y))}) (y:=Wd y) hx hid (fun e=>hd.trans e) (fun h e=>ha.trans (h (hd.symm.trans e))))
theorem jr_each {f:Br→Bj→Br} (hf:∀b x,Qb b.js x.id=some x→JR b (f b x)):∀(l:List Nat) (b:Br),JR b (each f b l)
 | [],b=>.refl b
 | id::l,b=>by
  have e:each f b (id::l)=each f (match Qb b.js id with | none=>b | some x=>f b x) l:=rfl;rw[e];cases hg:Qb b.js id with
  | none=>exact jr_each hf l b
  | some x=>exact(hf b x (by rw[(Qa hg).2];exact hg)).trans (jr_each hf l _)
theorem jr_count {b:Br} {x:Bj} (hx:Qb b.js x.id=some x):JR b (Yi b x):=by
 unfold Yi
 split
 ·exact jr_set hx rfl (fun e=>e) (fun h e=>h e)
 ·split
  ·exact jr_set (y:=ranX x) hx rfl (fun e=>e) (fun h e=>h e)
  ·exact jr_save (y:=cntX x _) hx rfl rfl rfl
theorem jr_stopHeard (b:Br) (n:Nat):JR b (Q4 b n):=by
 unfold Q4
 split
 ·exact .refl b
 ·split
  ·exact .same rfl rfl rfl
  ·exact(JR.same (b:=b) (b':={b with stops:=none,stopped:=false}) rfl rfl rfl).trans (jr_each (fun _ _ h=>jr_count h) _ _)
theorem jr_lost (b:Br) (n:Int):JR b (lostR b n).2:=by
 unfold lostR
 split
 ·exact .refl b
 ·refine JR.trans (b:=each (Yg n.toNat) {b with up:=Vp b.up n.toNat,m:=(upR b.m n false).2,orders:=b.orders.filter fun o=>decide (o.1≠n.toNat)} b.ids) ?_ (jr_stopHeard _ _);refine(JR.same (b:=b) (b':={b with up:=Vp b.up n.toNat,m:=(upR b.m n false).2,orders:=b.orders.filter fun o=>decide (o.1≠n.toNat)}) rfl rfl rfl).trans (jr_each (fun c x hx=>?_) _ _);unfold Yg
  split
  ·split
   ·exact jr_drop hx rfl (fun e=>e) true
   ·exact jr_gone hx rfl (fun e=>e) (fun h e=>h e)
  ·exact .refl c
theorem jr_hearJ {b:Br} {x:Bj} (hx:Qb b.js x.id=some x) (n:Nat) (t:Nt) (bl:List Int):JR b (Wl b x n t bl):=by
 unfold Wl
 split
 ·split
  ·exact jr_set hx rfl (fun e=>e) (fun h e=>h e)
  ·exact .refl b
 split
 ·unfold Wp;cases hs:x.sav with
  | none=>exact .refl b
  | some s=>
   cases hr:rankOf x.at_ n with
   | none=>exact .refl b
   | some rank=>
    simp only
    split
    ·exact .refl b
    ·split
     ·exact(jr_set (b:=b) (y:={x with sav:=some {s with bs:=s.bs.set rank bl,have_:=Z5 s.have_ n,told:=true}}) hx rfl (fun e=>e) (fun h e=>h e)).trans (.same rfl rfl rfl)
     ·exact jr_set (y:={x with sav:=some {s with bs:=s.bs.set rank bl,have_:=Z5 s.have_ n}}) hx rfl (fun e=>e) (fun h e=>h e)
 split
 ·split
  ·exact .refl b
  ·exact jr_gone hx rfl (fun e=>e) (fun h e=>h e)
 ·exact .refl b
theorem jr_hear (b:Br) (n:Int) (t:Nt) (bl:List Int):JR b (Wh b n t bl).2:=by
 unfold Wh
 split
 ·exact .refl b
 split
 ·show JR b (V8 b n.toNat t);unfold V8
  split
  ·refine JR.trans ?_ (jr_stopHeard _ _);cases hg:Qb b.js t.job with
   | none=>exact .refl b
   | some y=>
    simp only
    split
    ·exact .refl b
    ·split
     ·exact jr_set (x:=y) (by rw[(Qa hg).2];exact hg) rfl (fun e=>e) (fun h e=>h e)
     ·exact .refl b
  ·exact .refl b
 ·cases hg:Qb b.js t.job with
  | none=>exact .refl b
  | some x=>
   simp only
   split
   ·exact jr_hearJ (by rw[(Qa hg).2];exact hg) _ _ _
   ·exact .refl b
theorem jr_cancel (b:Br) (id:Nat):JR b (Ym b id).2:=by
 unfold Ym;cases hg:Qb b.js id with
 | none=>exact .refl b
 | some x=>
  have hx:Qb b.js x.id=some x:=by rw[(Qa hg).2];exact hg
  simp only
  split
  ·exact jr_drop hx rfl (fun e=>e) false
  ·split
   ·exact jr_set hx rfl (fun e=>e) (fun _ _=>rfl)
   ·exact .refl b
theorem jr_load {b:Br} {x:Bj} (hx:Qb b.js x.id=some x) (s:PL.St):JR b (V4 b x s):=by
 by_cases hp:(Xq b.m x.id s.row s.nodes).1≠0
 ·rw[loadR_no hp];exact .same rfl rfl rfl
 ·rw[Vz hp];exact(JR.same (b:=b) (b':={b with m:=(Xq b.m x.id s.row s.nodes).2,orders:=b.orders++X9 x (nats s.nodes)}) rfl rfl rfl).trans (jr_set (b:={b with m:=(Xq b.m x.id s.row s.nodes).2,orders:=b.orders++X9 x (nats s.nodes)}) (y:=lodY x (nats s.nodes)) hx rfl (fun e=>e) (fun h e=>h e))
theorem jr_place:∀(zs:List (Nat×PL.St)) (b:Br),JR b (Yu b zs)
 | [],b=>.refl b
 | p::zs,b=>by
  have e:Yu b (p::zs)=Yu (W7 b p) zs:=by rw[X6,X6];rfl
  rw[e];refine JR.trans ?_ (jr_place zs _);unfold W7
  split
  ·cases hg:Qb b.js p.1 with
   | none=>exact .refl b
   | some x=>exact jr_load (by rw[(Qa hg).2];exact hg) _
  ·exact .refl b
theorem jr_preempt (b:Br):JR b (Q7 b):=by
 unfold Q7
 split
 ·exact .refl b
 split
 ·exact .refl b
 split
 ·exact .refl b
 ·refine jr_each (f:=W8) (fun c x hx=>?_) _ _;exact(JR.same (b:=c) (b':={c with orders:=c.orders++x.at_.map fun n=>((n,{kind:=12,job:=x.id,tick:=Ye c.now c.grace}):Od)}) rfl rfl rfl).trans (jr_set (b:={c with orders:=c.orders++x.at_.map fun n=>((n,{kind:=12,job:=x.id,tick:=Ye c.now c.grace}):Od)}) (y:={x with warned:=true,till:=Ye c.now c.grace}) hx rfl (fun e=>e) (fun h e=>h e))
theorem jr_start (b:Br):∀(i:Nat) (row:Int),JR b (Y5 b row i)
 | 0,_=>.refl b
 | i+1,row=>by
  rw[Y5]
  split
  ·exact .refl b
  split
  ·rw[runR_eq];refine(JR.same (b:=b) (b':=run0 {b with row:=(Z4 b.m row).1} _) rfl rfl rfl).trans (jr_each (f:=Wm) (fun c x hx=>?_) _ _);exact(JR.same (b:=c) (b':={c with stops:=some (x.at_.foldl Z5 (c.stops.getD [])),orders:=c.orders++x.at_.map fun n=>((n,{kind:=5,gen:=c.gen,job:=x.id}):Od)}) rfl rfl rfl).trans (jr_set (b:={c with stops:=some (x.at_.foldl Z5 (c.stops.getD [])),orders:=c.orders++x.at_.map fun n=>((n,{kind:=5,gen:=c.gen,job:=x.id}):Od)}) (y:={x with ran:=some []}) hx rfl (fun e=>e) (fun h e=>h e))
  ·exact jr_start b i _
theorem jr_work (b:Br):JR b (workR b):=by
 have h1:=jr_each (f:=Z0) (fun c x hx=>by
  unfold Z0
  split
  ·exact jr_drop hx rfl (fun e=>e) true
  ·exact .refl c) b.ids b
 have h2:=h1.trans (jr_place (zsR (each Z0 b b.ids)) _);have h3:=h2.trans (jr_preempt _);have h4:=h3.trans (JR.same (b':=rep (Q7 (Yu (each Z0 b b.ids) (zsR (each Z0 b b.ids))))) rfl rfl rfl);have h5:=h4.trans (jr_each (f:=Y7) (fun _ x hx=>jr_save (y:=x) hx rfl rfl rfl) (rep (Q7 (Xe (each Z0 b b.ids)))).ids _);exact h5.trans (jr_start _ _ _)
structure DI (b:Br) (dn:List Nat) (next:Nat):Prop where
 srt:V2 b.js
 nd:(dn++b.done).Nodup
 old:∀id∈dn++b.done,∀x,Qb b.js id=some x→x.done=true
 lt:∀x∈b.js,x.id<next
 ltd:∀id∈dn++b.done,id<next
 ag:Ag b
theorem DI.jr {b b':Br} {dn:List Nat} {next:Nat} (h:DI b dn next) (k:JR b b') (hs:V2 b'.js):DI b' dn next:=by
 obtain⟨⟨k1,_⟩,k2,k3⟩:=k h.ag
 refine⟨hs,by rw[k1];exact h.nd,fun id hid z hz=>?_,fun z hz=>?_,by rw[k1];exact h.ltd,k2⟩
 ·rw[k1]at hid;obtain⟨z1,z2⟩:=Qa hz;obtain⟨x,x1,x2,x3⟩:=k3 z z1;exact x3 (h.old id hid x (by rw[←z2,x2];exact Xo h.srt x1))
 ·obtain⟨x,x1,x2,_⟩:=k3 z hz;rw[x2];exact h.lt x x1
theorem finish_DI {b:Br} {dn:List Nat} {next:Nat} (h:DI b dn next) {x y:Bj} (hx:Qb b.js x.id=some x) (hid:y.id=x.id) (hd:y.done=x.done) (ha:y.again=x.again) (hs:V2 (Qz b y).js):DI (Qz b y) dn next:=by
 unfold Qz at hs ⊢
 split at hs
 ·rename_i hc;rw[if_pos hc];exact h.jr (jr_set hx hid (fun e=>hd.trans e) (fun k e=>ha.trans (k (hd.symm.trans e)))) hs
 ·rename_i hc;rw[if_neg hc];have hnd:y.done≠true:=fun e=>hc (.inr e);obtain⟨b1,hb1⟩:∃b1:Br,b1={b with done:=b.done++[y.id]}:=⟨_,rfl⟩;rw[←hb1]at hs ⊢;have hx1:Qb b1.js x.id=some x:=by rw[hb1];exact hx
  have hno:y.id∉dn++b.done:=fun e=>hnd (by rw[hd];exact h.old y.id e x (by rw[hid];exact hx));have hag:Ag b1:=by rw[hb1];exact h.ag
  obtain⟨⟨k1,_⟩,k2,k3⟩:=jr_drop (y:={y with done:=true}) hx1 hid (fun _=>rfl) false hag;have e1:b1.done=b.done++[y.id]:=by rw[hb1]
  have e2:b1.js=b.js:=by rw[hb1]
  have hdone:dn++(Yp b1 {y with done:=true} false).done=(dn++b.done)++[y.id]:=by rw[k1,e1,List.append_assoc]
  have key:∀z∈(Yp b1 {y with done:=true} false).js,z.id=y.id→z.done=true:=fun z hz e=>by
   have g:∀(c:Br) (d:List Nat),c.js=b.js→z∈(Q8 c (Wn {y with done:=true} false d)).js→z.done=true:=fun c d ec hz=>by
    unfold Q8 at hz
    split at hz
    ·split at hz
     ·rename_i ha2;exact absurd ha2 (by show ¬(false&&!true)=true;decide)
     ·have:=(List.mem_filter.1 (show z∈rmJ c.js y.id from hz)).2;exact absurd e (by simpa using this)
    ·rcases setJ_mem (show z∈Yf c.js _ from hz) with rfl | ⟨_,k⟩
     ·rfl
     ·exact absurd e k
   cases hdr:y.drops with
   | some d=>
    rw[Wv (x:={y with done:=true}) hdr]at hz;exact g b1 d e2 hz
   | none=>
    rw[X3 (x:={y with done:=true}) hdr]at hz;refine g _ _ ?_ hz;exact e2
  refine⟨hs,?_,fun id hi z hz=>?_,fun z hz=>?_,?_,k2⟩
  ·rw[hdone];exact List.nodup_append.2 ⟨h.nd,List.nodup_cons.2 ⟨by simp,List.nodup_nil⟩,fun a h1 c h2 e=>hno (by rw[←List.mem_singleton.1 h2,←e];exact h1)⟩
  ·rw[hdone]at hi;obtain⟨z1,z2⟩:=Qa hz
   rcases List.mem_append.1 hi with hi | hi
   ·obtain⟨w,w1,w2,w3⟩:=k3 z z1;rw[e2]at w1;exact w3 (h.old id hi w (by rw[←z2,w2];exact Xo h.srt w1))
   ·exact key z z1 (z2.trans (List.mem_singleton.1 hi))
  ·obtain⟨w,w1,w2,_⟩:=k3 z hz;rw[e2]at w1;rw[w2];exact h.lt w w1
  ·rw[hdone];intro id hi
   rcases List.mem_append.1 hi with hi | hi
   ·exact h.ltd id hi
   ·rw[List.mem_singleton.1 hi,hid];exact h.lt x (Qa hx).1
theorem published_DI {b:Br} {dn:List Nat} {next:Nat} (h:DI b dn next) (id ver:Nat) (ok:Bool) (hs:V2 (Qn b id ver ok).2.js):DI (Qn b id ver ok).2 dn next:=by
 unfold Qn at hs ⊢;cases hg:Qb b.js id with
 | none=>exact h
 | some x=>
  rw[hg]at hs;simp only at hs ⊢
  split at hs
  ·exact h
  ·split at hs
   ·rename_i e2;rw[if_pos e2];exact h
   ·rename_i e2;rw[if_neg e2];exact finish_DI h (x:=x) (by rw[(Qa hg).2];exact hg) rfl rfl rfl hs
theorem finish_now (b:Br) {x y:Bj} (hx:Qb b.js x.id=some x) (hid:y.id=x.id) (_:y.done=x.done) (_:y.again=x.again) (hag:Ag b):(Qz b y).now=b.now:=by
 unfold Qz
 split
 ·rfl
 ·exact((jr_drop (b:={b with done:=b.done++[y.id]}) (x:=x) (y:={y with done:=true}) hx hid (fun _=>rfl) false) hag).1.2
theorem published_now {b:Br} (hag:Ag b) (id ver:Nat) (ok:Bool):(Qn b id ver ok).2.now=b.now:=by
 unfold Qn;cases hg:Qb b.js id with
 | none=>rfl
 | some x=>
  simp only
  split
  ·rfl
  ·split
   ·rfl
   ·exact finish_now b (x:=x) (by rw[(Qa hg).2];exact hg) rfl rfl rfl hag
theorem tick_DI {b:Br} {dn:List Nat} {next:Nat} (h:DI b dn next) {now:Nat} (hn:b.now<now) (hs:V2 (Y4 b now).2.js):DI (Y4 b now).2 dn next∧(Y4 b now).2.now=now∧(Y4 b now).1=0:=by
 have h1:DI {b with now:=now} dn next:=⟨h.srt,h.nd,h.old,h.lt,h.ltd,h.ag⟩;unfold Y4 at hs ⊢;rw[if_neg (by omega)]at hs ⊢
 split
 ·exact⟨h1,rfl,rfl⟩
 rename_i k2;rw[if_neg k2]at hs
 split
 ·split
  ·exact⟨⟨h.srt,h.nd,h.old,h.lt,h.ltd,h.ag⟩,rfl,rfl⟩
  ·exact⟨h1,rfl,rfl⟩
 ·rename_i k3;rw[if_neg k3]at hs;have hj:=jr_work {b with now:=now};exact⟨h1.jr hj hs,(hj h1.ag).1.2,rfl⟩
theorem done_take:∀(l:List Nat) (nd:List Nd) (dn:List Nat),(dn++l).Nodup→l.foldl doneR (nd,dn)=(nd,dn++l)
 | [],nd,dn,_=>by rw[List.append_nil];rfl
 | id::l,nd,dn,h=>by
  have hno:id∉dn:=fun e=>by
   have:=(List.nodup_append.1 h).2.2 id e id (List.mem_cons_self ..);exact this rfl
  have e:doneR (nd,dn) id=(nd,dn++[id]):=by rw[doneR,if_neg hno,Z5,if_neg hno]
  rw[List.foldl_cons,e,done_take l nd (dn++[id]) (by rw[List.append_assoc];exact h),List.append_assoc];rfl
end BN
end Go.Proofs.YtdackcibfkkniaaGreatDoor
