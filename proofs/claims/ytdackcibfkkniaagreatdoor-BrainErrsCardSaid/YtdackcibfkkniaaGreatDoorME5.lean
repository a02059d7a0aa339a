/- BrainErrs: what may not be is refused; a nil brain. -/
import Derived.Test.YtdackcibfkkniaaGreatDoorME4
set_option synthInstance.maxSize 9999
set_option synthInstance.maxHeartbeats 400000
set_option maxRecDepth 100000
namespace Go.Proofs.YtdackcibfkkniaaGreatDoor
open Go.RowKit
namespace BN
theorem choR_mem {m:Mx} {tier k:Int} {l:List Cd} {x:Cd} (h:x∈(choR m tier k l).1):x∈l:=by
 have key:∀i,x∈(chUp m tier k l i).1→x∈l:=by
  intro i;induction i with
  | zero=>exact fun h=>by cases h
  | succ i ih=>
   intro h;rw[chUp]at h
   split at h
   ·exact ofV_mem h
   ·exact ih h
 exact key _ h
theorem choR_len (m:Mx) (tier k:Int) (l:List Cd):(choR m tier k l).1.length≤l.length:=by
 have hof:∀row,(ofV m row tier k l).1.length≤l.length:=fun row=>by
  unfold ofV
  split
  ·exact Nat.zero_le _
  split
  ·exact Nat.le_trans (List.length_take_le' _ _) (lesR_len m row tier l)
  ·exact Nat.zero_le _
 have key:∀i,(chUp m tier k l i).1.length≤l.length:=by
  intro i;induction i with
  | zero=>exact Nat.zero_le _
  | succ i ih=>
   rw[chUp]
   split
   ·exact hof _
   ·exact ih
 exact key _
structure LInv (f:Br→Bj→Br) (st:Br) (l:List Nat) (e:Nat) (t:Br):Prop where
 ok:BrOk t
 ord:t.orders.length≤st.orders.length+16*e
 ids:t.js.map (·.id)=st.js.map (·.id)
theorem isSome_ids {js js':List Bj} (h:js'.map (·.id)=js.map (·.id)) (id:Nat):(getJ js' id).isSome=(getJ js id).isSome:=by
 have e:∀l:List Bj,(getJ l id).isSome=(l.map (·.id)).any fun i=>decide (i=id):=fun l=>by
  unfold getJ;rw[List.isSome_find?,List.any_map];rfl
 rw[e,e,h]
theorem linv {f:Br→Bj→Br} (hE:EachOk f) (hid:∀st x,(f st x).js.map (·.id)=st.js.map (·.id)) {st:Br} (h:BrOk st) {l:List Nat} (hl:∀id∈l,(getJ st.js id).isSome=true):∀e,e≤l.length→LInv f st l e (each f st (l.take e)):=by
 intro e;induction e with
 | zero=>exact fun _=>⟨h,Nat.le_refl _,rfl⟩
 | succ e ih=>
  intro he;have hi:=ih (by omega);obtain⟨id,hid2⟩:=getE (show e<l.length by omega);have htk:l.take (e+1)=l.take e++[id]:=by rw[List.take_add_one,hid2];rfl
  obtain⟨x,hx⟩:∃x,getJ (each f st (l.take e)).js id=some x:=Option.isSome_iff_exists.1 (by rw[isSome_ids hi.ids];exact hl id (List.mem_of_getElem? hid2));have hxi:=(getJ_some hx).2;rw[htk,each_snoc,hx];dsimp only;refine⟨hE.ok _ x hi.ok (by rw[hxi];exact hx),?_,by rw[hid];exact hi.ids⟩;have:=hE.ord _ x hi.ok (by rw[hxi];exact hx);have:=hi.ord;omega
theorem lstep {f:Br→Bj→Br} {st:Br} {l:List Nat} {e id:Nat} {x:Bj} (hid:l[e]?=some id) (hx:getJ (each f st (l.take e)).js id=some x):each f st (l.take (e+1))=f (each f st (l.take e)) x:=by
 rw[List.take_add_one,hid];show each f st (l.take e++[id])=_;rw[each_snoc,hx]
abbrev warX (st:Br) (x:Bj):Bj:={x with warned:=true,till:=laterR st.now st.grace}
abbrev warOrd (st:Br) (x:Bj) (n:Nat):Od:=(n,{kind:=12,job:=x.id,tick:=laterR st.now st.grace})
theorem warnJ_eq (st:Br) (x:Bj):warnJ st x=Br.set {st with orders:=st.orders++x.at_.map (warOrd st x)} (warX st x):=rfl
theorem JOk.warX {N:Nat} {st:Br} {x:Bj} (h:JOk N x):JOk N (warX st x):=⟨h.id1,h.id2,h.tier,h.k1,h.kn,h.w,h.cr,h.wk,h.rise,h.at_,h.drop,h.lod,h.ran,h.ld,h.svl⟩
theorem warnE:EachOk warnJ:=⟨fun st x h hx=>by rw[warnJ_eq];exact(h.oset _).set (x:=BN.warX st x) (h.at_ hx).warX,fun st x id h=>by rw[warnJ_eq];exact set_oth {st with orders:=st.orders++x.at_.map (warOrd st x)} (x:=BN.warX st x) h,fun st x h hx=>by
 rw[warnJ_eq];show (st.orders++x.at_.map (warOrd st x)).length≤_;rw[List.length_append,List.length_map];have:=len16 h hx;omega⟩
theorem warn_ids (st:Br) (x:Bj):(warnJ st x).js.map (·.id)=st.js.map (·.id):=setJ_ids st.js (BN.warX st x)
def vicR (st:Br) (y:Bj):List Nat:=jobsR (choR st.m y.tier y.k (candR st)).1
theorem pre_nil {st:Br} (h:waitR st=[]):preemptR st=st:=by rw[preemptR,h]
theorem pre_live {st:Br} (h:st.js.any lvB=true):preemptR st=st:=by
 unfold preemptR
 split
 ·rfl
 ·exact if_pos h
theorem pre_go {st:Br} {id:Nat} {l:List Nat} {y:Bj} (hw:waitR st=id::l) (h:st.js.any lvB=false) (hy:getJ st.js id=some y):preemptR st=each warnJ st (vicR st y):=by
 unfold preemptR;rw[hw];dsimp only;rw[if_neg (by rw[h];decide),hy];rfl
theorem vic_mem {st:Br} (hs:JsOk st.js) {y:Bj}:∀id∈vicR st y,(getJ st.js id).isSome=true:=fun id h=>by
 obtain⟨c,hc,e⟩:=List.mem_map.1 h;obtain⟨x,hx,e2⟩:=List.mem_map.1 (choR_mem hc);subst e2;simp only at e;rw[←e,getJ_mem hs (List.mem_filter.1 hx).1];rfl
theorem later_le (t n:Nat):laterR t n≤4294967295:=Nat.min_le_right _ _
set_option maxHeartbeats 4000000 in
theorem preempt_S (b:Nat) (st:Br) (ps:Nat→Nat) (hl:st.orders.length≤800000) {W:World} (hW:TabW W):Spec Tryz.prog 44 [pt b] [BP b st ps,old W] fun Γ _ Θ=>Θ=BP b (preemptR st) ps::old W::Γ:=by
 refine Spec.bpOk fun hok=>?_;have hN:=hok.N16;have hfew:=hok.few;have hwl:=waitR_len hok.srt;refine Zbd Tryz.func44 rfl Tryz.ntmps44 fun w0 Γ=>Zsh ?_;refine ZY 3 ?_;refine Zp (Zc1 Ze (waiting_S b st ps) ?_);rintro v Θ ⟨wv,rfl,hwn,rfl⟩;refine ZY 8 ?_;refine Zy ?_
 refine Zb 18 ef (fun hg1_3=>?_) (fun hg1_3=>?_)
 ·have hg:=pre_nil (List.eq_nil_of_length_eq_zero (show (waitR st).length=0 by omega));refine ZY 7 ?_;exact Zf ef Zq (by rw[hg])
 ·refine Zy ?_;refine Zg ef ef ef (Zc1 Ze (all_S b st ps) ?_);rintro v Θ ⟨jv,rfl,hjv,rfl⟩;refine Zg ef ef ef (Zcp Ze (contJ_S b st ps jv hjv) ?_);refine ZY 2 ?_
  refine Zi ef (fun h1=>?_) (fun h1=>?_)
  ·have hg:=pre_live h1;refine Zy ?_;exact Zf ef Zq (by rw[hg])
  ·obtain⟨id,ws,hws⟩:∃id ws,waitR st=id::ws:=by
    cases hw:waitR st with
    | nil=>exact absurd (show ((wv.n:Nat):Int)=0 by rw[hwn,hw];rfl) hg1_3
    | cons id ws=>exact⟨id,ws,rfl⟩
   obtain⟨y,hgy,hyq⟩:=mem_waitR hok.srt (show id∈waitR st by rw[hws];exact List.mem_cons_self ..);obtain⟨_,hyi⟩:=getJ_some hgy;subst hyi;have hg:=pre_go hws h1 hgy;refine ZY 8 ?_;refine S.ent (show Ent _ (own SV.nil 152 2 (([]:List Cd).flatMap cdC)::_) from Ent.ownNil 152 2) ?_;refine Zy ?_;refine Zp (Zc1 Ze (all_S b st ps) ?_);rintro v Θ ⟨j2,rfl,hj2,rfl⟩;refine S.ownLen j2 fun hl1 hl2 hl3=>?_;have hmx:maxLen≤9223372036854775807:=by unfold maxLen;omega
   refine ZY 4 ?_;refine Zl (fun fz ρ' Γ'=>∃(e:Nat) (cs:List Cd) (cv:SV),fz=st.js.length-e∧e≤st.js.length∧cs=((st.js.take e).filter fun x=>decide (x.state=2) || decide (x.state=1)).map (fun x=>(x.id,(x.tier:Int)))∧cv.n=cs.length∧cs.length≤e∧ρ'=[(0,pt b),(2,wv.v),(3,cv.v),(24,j2.v),(25,.int .i64 (j2.n:Int)),(26,.int .i64 (e:Int))]∧Γ'=own j2 86 1 (pts ps st.js)::own wv 86 1 (wps ps (waitR st))::own cv 152 2 (cs.flatMap cdC)::BP b st ps::old W::Γ) (m:=_) (⟨0,[],SV.nil,rfl,by omega,rfl,rfl,Nat.le_refl _,rfl,rfl⟩) ?_;rintro fz ρ' Γ' ⟨e,cs,cv,hfz,he,hcs,hcn,hcl,rfl,rfl⟩;refine ZY 5 ?_
   refine Zj ef (fun h2=>?_) (fun h2=>?_)
   ·refine S.ownSome j2 (by omega) fun sb so hsa _ _ _=>?_;obtain⟨x,hx⟩:=getE (show e<st.js.length by omega);have hgx:getJ st.js x.id=some x:=getJ_mem hok.srt (List.mem_of_getElem? hx);have hjx:=hok.at_ hgx;have hsn:=fun v hv=>fsnoc (p:=fun x:Bj=>decide (x.state=2) || decide (x.state=1)) hx v hv;refine S.bjOpen b st ps x hgx fun ub jb mb ov iv dv mv sb l i av lb db rb qb hF hi hset hrm hJ=>?_;refine ZY 5 ?_;refine Zv (Zx (e) ef (hsa) ef (by omega)) ?_;refine Zv (Zo (j2) (e) ef (hsa) (by rw[List.getElem?_map,hx];rfl)) ?_;refine ZY 8 ?_;refine ZY 3 ?_
    refine Zb 36 ef (fun hg6_6=>?_) (fun hg6_6=>?_)
    ·have hcs2:cs++[(x.id,(x.tier:Int))]=((st.js.take (e+1)).filter fun x=>decide (x.state=2) || decide (x.state=1)).map (fun x=>(x.id,(x.tier:Int))):=by
      rw[hsn true (by rw[decide_eq_true (show x.state=2 by omega)];rfl),List.map_append,hcs];rfl
     refine ZY 8 ?_;refine Zy ?_;refine Zd ([blk (ps x.id) 90 (bjC x av lb db rb qb).toArray]) [13] (Zra 0 12) ?_;refine ZY 8 ?_;refine ZY 3 ?_;refine Zw ef (q_build (pvs:=[(_,_),(_,_)]) [_,_] Tryz.z152.h Tryz.p152.h ⟨⟨rfl,rfl⟩,⟨rfl,rfl⟩,trivial⟩ rfl) ?_;refine Z1 (i:=12) ef ef ?_;refine(S.buildSlice (pvs:=[(_,_)]) [_,_] Tryz.underlying150 Tryz.inf152.h rfl rfl ⟨⟨rfl,rfl⟩,trivial⟩ rfl rfl ?_);intro b56;refine Zk [] ?_;refine Z1 (i:=13) ef ef ?_;refine(S.appendOw (s:=cv) (1) (cdC (x.id,(x.tier:Int))) Tryz.underlying150 Tryz.inf152.h rfl rfl rfl (blk_slAt (b:=b56) rfl (by unfold maxLen;omega)) (by first | rfl | exact allOne_bcells _) (⟨by omega,by omega⟩) rfl ?_);intro cv2 hcv2;refine ZL ([]) [14] ?_;refine Zy ?_;refine ZD ?_;refine Zy ?_;first | rw[flat_snoc cdC cs ((x.id,(x.tier:Int)):Cd)] | skip
     refine S.bjClose b st ps ub jb mb ov iv dv mv sb l i x av lb db rb qb hi rfl (hset x rfl) (hF.set hjx) hJ ?_;rw[set_self hok hgx];refine Zv (Za ef ef) ?_;refine ZY 2 ?_;first | exact ZX (fz-1) ⟨e+1,cs++[(x.id,(x.tier:Int))],cv2,by omega,by omega,hcs2,by rw[List.length_append,List.length_singleton];omega,by rw[List.length_append,List.length_singleton];omega,rfl,rfl⟩ (by omega) | exact ZX (fz-1) ⟨e+1,cs,cv,by omega,by omega,hcs2,by omega,by omega,rfl,rfl⟩ (by omega)
    ·refine ZY 8 ?_
     refine Zj ef (fun h3=>?_) (fun h3=>?_)
     ·have hcs2:cs++[(x.id,(x.tier:Int))]=((st.js.take (e+1)).filter fun x=>decide (x.state=2) || decide (x.state=1)).map (fun x=>(x.id,(x.tier:Int))):=by
       rw[hsn true (by rw[decide_eq_true (show x.state=1 by omega),Bool.or_true]),List.map_append,hcs];rfl
      refine Zd ([blk (ps x.id) 90 (bjC x av lb db rb qb).toArray]) [13] (Zra 0 12) ?_;refine ZY 8 ?_;refine ZY 3 ?_;refine Zw ef (q_build (pvs:=[(_,_),(_,_)]) [_,_] Tryz.z152.h Tryz.p152.h ⟨⟨rfl,rfl⟩,⟨rfl,rfl⟩,trivial⟩ rfl) ?_;refine Z1 (i:=12) ef ef ?_;refine(S.buildSlice (pvs:=[(_,_)]) [_,_] Tryz.underlying150 Tryz.inf152.h rfl rfl ⟨⟨rfl,rfl⟩,trivial⟩ rfl rfl ?_);intro b56;refine Zk [] ?_;refine Z1 (i:=13) ef ef ?_;refine(S.appendOw (s:=cv) (1) (cdC (x.id,(x.tier:Int))) Tryz.underlying150 Tryz.inf152.h rfl rfl rfl (blk_slAt (b:=b56) rfl (by unfold maxLen;omega)) (by first | rfl | exact allOne_bcells _) (⟨by omega,by omega⟩) rfl ?_);intro cv2 hcv2;refine ZL ([]) [14] ?_;refine Zy ?_;refine ZD ?_;refine Zy ?_;first | rw[flat_snoc cdC cs ((x.id,(x.tier:Int)):Cd)] | skip
      refine S.bjClose b st ps ub jb mb ov iv dv mv sb l i x av lb db rb qb hi rfl (hset x rfl) (hF.set hjx) hJ ?_;rw[set_self hok hgx];refine Zv (Za ef ef) ?_;refine ZY 2 ?_;first | exact ZX (fz-1) ⟨e+1,cs++[(x.id,(x.tier:Int))],cv2,by omega,by omega,hcs2,by rw[List.length_append,List.length_singleton];omega,by rw[List.length_append,List.length_singleton];omega,rfl,rfl⟩ (by omega) | exact ZX (fz-1) ⟨e+1,cs,cv,by omega,by omega,hcs2,by omega,by omega,rfl,rfl⟩ (by omega)
     ·have hcs2:cs=((st.js.take (e+1)).filter fun x=>decide (x.state=2) || decide (x.state=1)).map (fun x=>(x.id,(x.tier:Int))):=by
       rw[hsn false (by rw[decide_eq_false (show ¬x.state=2 by omega),decide_eq_false (show ¬x.state=1 by omega)];rfl),hcs];simp
      refine ZY 2 ?_;first | rw[flat_snoc cdC cs ((x.id,(x.tier:Int)):Cd)] | skip
      refine S.bjClose b st ps ub jb mb ov iv dv mv sb l i x av lb db rb qb hi rfl (hset x rfl) (hF.set hjx) hJ ?_;rw[set_self hok hgx];refine Zv (Za ef ef) ?_;refine ZY 2 ?_;first | exact ZX (fz-1) ⟨e+1,cs++[(x.id,(x.tier:Int))],cv2,by omega,by omega,hcs2,by rw[List.length_append,List.length_singleton];omega,by rw[List.length_append,List.length_singleton];omega,rfl,rfl⟩ (by omega) | exact ZX (fz-1) ⟨e+1,cs,cv,by omega,by omega,hcs2,by omega,by omega,rfl,rfl⟩ (by omega)
   ·have hcs9:cs=candR st:=by rw[hcs,show e=st.js.length by omega,List.take_length];rfl
    have hct:∀c∈cs,0≤c.2∧c.2≤255:=fun c hc=>by
     rw[hcs9]at hc;obtain⟨x,hx,e2⟩:=List.mem_map.1 hc;have:=(hok.job x (List.mem_filter.1 hx).1).tier;subst e2;exact⟨by show (0:Int)≤(x.tier:Int);omega,by show ((x.tier:Nat):Int)≤255;omega⟩
    refine S.ownSome wv (by omega) fun wb wo hwa _ _ _=>?_;have hjy:=hok.at_ hgy;refine S.bjOpen b st ps y hgy fun ub jb mb ov iv dv mv sb l i av lb db rb qb hF hi hset hrm hJ=>?_;refine ZY 2 ?_;refine Zd ([blk (ps y.id) 90 (bjC y av lb db rb qb).toArray,blk b 84 (bC st ub jb mb ov iv dv mv sb).toArray,own wv 86 1 (wps ps (waitR st))]) [] (Zra 0 19) ?_;refine ZY 6 ?_;refine Zw ef (Zx (0) ef (hwa) ef (by omega)) ?_;refine Zw ef (Zo (wv) (0) ef (hwa) (by rw[hws];rfl)) ?_;refine ZY 5 ?_;refine Zw ef (Zx (0) ef (hwa) ef (by omega)) ?_;refine Zw ef (Zo (wv) (0) ef (hwa) (by rw[hws];rfl)) ?_;refine ZY 4 ?_
    refine Z2 (i:=19) (j:=23) ef ef ef ?_ ?_
    ·refine  (Zc1 Ze (Choose_S mb st.m y.tier y.k (own cv 152 2 (cs.flatMap cdC)) cv cs hcn (by omega) hct RdS.own hW) ?_);rintro v Θ ⟨cu,rfl,hcun,rfl⟩;refine Zk [20,21,22] ?_;refine ZY 3 ?_;refine Z1 (i:=23) ef ef ?_;refine(S.alloc Tryz.z154.h rfl ?_);intro b6;refine Zk [] ?_;refine Z1 (i:=24) ef ef ?_;refine  (Zs ef ef (cs':=[_,_]) ef ?_);refine Zk [25] ?_;refine Zy ?_;refine ZD ?_;refine ZY 2 ?_;have hvr:jobsR (choR st.m y.tier y.k cs).1=vicR st y:=by rw[hcs9];rfl
     have hcl2:(choR st.m y.tier y.k cs).1.length=(vicR st y).length:=by rw[←hvr,List.length_map]
     rw[hvr];rw[hcl2]at hcun;refine S.bjClose b st ps ub jb mb ov iv dv mv sb l i y av lb db rb qb hi rfl (hset y rfl) (hF.set hjy) hJ ?_;rw[set_self hok hgy];refine S.ownLen cu fun hc1 hc2 hc3=>?_
     have hvl:(vicR st y).length≤1000:=by
      have h1:(vicR st y).length≤(candR st).length:=Nat.le_trans (Nat.le_of_eq (List.length_map ..)) (choR_len st.m y.tier y.k (candR st));have h2:(candR st).length≤st.js.length:=by rw[candR,List.length_map];exact List.length_filter_le _ _
      omega
     refine ZY 6 ?_;refine Zl (fun fz ρ' Γ'=>∃(e:Nat) (t:Br),fz=(vicR st y).length-e∧e≤(vicR st y).length∧t=each warnJ st ((vicR st y).take e)∧ρ'=[(0,pt b),(83,cu.v),(84,.int .i64 (cu.n:Int)),(85,.int .i64 (e:Int))]∧Γ'=own cu 31 1 (idsV (vicR st y))::BP b t ps::old W::Γ) (m:=_) (⟨0,st,rfl,by omega,rfl,rfl,rfl⟩) ?_;rintro fz ρ' Γ' ⟨e,t,hfz,he,ht,rfl,rfl⟩;have hI:LInv warnJ st (vicR st y) e t:=by rw[ht];exact linv warnE warn_ids hok (vic_mem hok.srt) e he
     have hIo:=hI.ord;refine ZY 5 ?_
     refine Zj ef (fun h4=>?_) (fun h4=>?_)
     ·refine S.ownSome cu (by omega) fun sb so hsa _ _ _=>?_;obtain⟨id,hid⟩:=getE (show e<(vicR st y).length by omega);obtain⟨x,hgx⟩:∃x,getJ t.js id=some x:=Option.isSome_iff_exists.1 (by rw[isSome_ids hI.ids];exact vic_mem hok.srt id (List.mem_of_getElem? hid));obtain⟨_,hxi⟩:=getJ_some hgx;subst hxi;have hst:each warnJ st ((vicR st y).take (e+1))=warnJ t x:=by rw[ht];exact lstep hid (by rw[←ht];exact hgx)
      have hokt:=hI.ok;have hjx:=hokt.at_ hgx;have hal:=Nat.le_trans hjx.len hokt.N16;obtain⟨x1,hx1⟩:∃x1:Bj,x1=warX t x:=⟨_,rfl⟩;have hj1:JOk t.nodes x1:=by rw[hx1];exact hjx.warX
      have hidx:x1.id=x.id:=by rw[hx1]
      have e1:x1.till=laterR t.now t.grace:=by rw[hx1]
      refine S.bjOpen b t ps x hgx fun ub jb mb ov iv dv mv sb l i av lb db rb qb hF hi hset hrm hJ=>?_;have hlk:alGet (x.id:Int) l=some (pt (ps x.id)):=by rw[jE_get hokt.srt hF.perm,hgx];rfl
      have han:=hJ.an;refine ZY 5 ?_;refine Zv (Zx (e) ef (hsa) ef (by omega)) ?_;refine Zv (Zo (cu) (e) ef (hsa) (idsV_get hid)) ?_;refine ZY 8 ?_;refine Zy ?_;refine Zv (q_lookup1 (pt (ps x.id)) Tryz.underlying82 Tryz.underlying31 Tryz.zv86.h rfl rfl rfl (by rw[hlk];rfl)) ?_;refine ZY 3 ?_;refine Zd ([blk b 84 (bC t ub jb mb ov iv dv mv sb).toArray]) [] (Zra 0 11) ?_;refine ZY 8 ?_;refine ZY 3 ?_;refine Z1 (i:=11) ef ef ?_;refine  (Zcp Ze (later_S t.now t.grace hokt.now (by have:=hokt.g2;omega)) ?_);refine Zk [12,13] ?_;refine ZY 2 ?_;refine Z1 (i:=14) ef ef ?_;refine(S.store (cs':=[_,_,_,_,_,_,_,_,_,_,_,_,_,_,_,_,_]) Eo.h rfl rfl rfl rfl rfl ?_);refine Zk [15,16] ?_;refine ZY 2 ?_;refine Z1 (i:=17) ef ef ?_;refine(S.store (cs':=[_,_,_,_,_,_,_,_,_,_,_,_,_,_,_,_,_]) Eo.h rfl rfl rfl rfl rfl ?_);refine Zk [] ?_;refine ZD ?_;refine ZY 2 ?_;refine S.blkAs (ps x.id) (bjC x1 av lb db rb qb).toArray (by rw[hx1]) ?_;refine ZY 8 ?_;refine Zl (fun fy ρ' Γ'=>∃(e3:Nat) (os:List Od) (ov2:SV),fy=x.at_.length-e3∧e3≤x.at_.length∧os=t.orders++(x.at_.take e3).map (warOrd t x)∧ov2.n=os.length∧os.length=t.orders.length+e3∧ρ'=[(0,pt b),(9,.int .u32 (x.id:Int)),(10,pt (ps x.id)),(83,cu.v),(84,.int .i64 (cu.n:Int)),(85,.int .i64 (e:Int)),(114,av.v),(115,.int .i64 (av.n:Int)),(116,.int .i64 (e3:Int))] ∧   Γ'=blk (ps x.id) 90 (bjC x1 av lb db rb qb).toArray::own av 3 1 (nds x.at_)::optS lb x.loaded::optS db x.drops::optR rb x.ran::savB qb x.id x.sav::blk b 84 (bC t ub jb mb ov2 iv dv mv sb).toArray::mapL ub .i64 (setE t.up)::mapL jb .u32 l::jT ps t.js i::jD ps t.js i::MI mb t.m::own ov2 97 14 (os.flatMap odC)::imgs iv t.images::own dv 31 1 (idsV t.done)::own mv 31 1 (idsV t.members)::optS sb t.stops::own cu 31 1 (idsV (vicR st y))::old W::Γ) (m:=_) (⟨0,t.orders,ov,rfl,by omega,by simp,hF.on,rfl,rfl,rfl⟩) ?_;rintro fy ρ' Γ' ⟨e3,os,ov2,hfy,he3,hos,hov2,hol,rfl,rfl⟩;refine ZY 5 ?_
      refine Zj ef (fun h5=>?_) (fun h5=>?_)
      ·refine S.ownSome av (by omega) fun ab ao haa _ _ _=>?_;obtain⟨z,hz⟩:=getE (show e3<x.at_.length by omega);have htk:x.at_.take (e3+1)=x.at_.take e3++[z]:=by rw[List.take_add_one,hz];rfl
       have hos2:os++[((z,{kind:=12,job:=x.id,tick:=laterR t.now t.grace}):Od)]=t.orders++(x.at_.take (e3+1)).map (warOrd t x):=by rw[hos,htk,List.map_append,List.append_assoc];rfl
       refine ZY 5 ?_;refine Zv (Zx (e3) ef (haa) ef (by omega)) ?_;refine Zv (Zo (av) (e3) ef (haa) (by rw[List.getElem?_map,hz];rfl)) ?_;refine ZY 8 ?_;refine ZY 2 ?_;refine Zv (q_build (pvs:=[(_,_),(_,_),(_,_)]) [_,_,_,_,_,_,_,_,_,_,_,_,_] Tryz.z72.h Tryz.p72.h ⟨⟨rfl,rfl⟩,⟨rfl,rfl⟩,⟨rfl,rfl⟩,trivial⟩ rfl) ?_;rw[e1];refine Zp (Zc1 Ze (order_S b t ub jb mb ov2 iv dv mv sb z {kind:=12,job:=x.id,tick:=laterR t.now t.grace} os hov2 (by omega)) ?_);rintro v Θ ⟨ov3,hov3,rfl⟩;refine ZY 2 ?_;refine Zv (Za ef ef) ?_;refine ZY 2 ?_;exact ZX (fy-1) (⟨e3+1,os++[((z,{kind:=12,job:=x.id,tick:=laterR t.now t.grace}):Od)],ov3,by omega,by omega,hos2,hov3,by rw[List.length_append,List.length_singleton];omega,rfl,rfl⟩) (by omega)
      ·rw[show x.at_.take e3=x.at_ by rw[show e3=x.at_.length by omega,List.take_length]]at hos;have hwj:warnJ t x=Br.set {t with orders:=os} x1:=by rw[warnJ_eq,hos,hx1]
       refine ZY 2 ?_;refine S.sub (jX (ps x.id) x1 av lb db rb qb (bR b {t with orders:=os} ps ub jb mb ov2 iv dv mv sb l i (own cu 31 1 (idsV (vicR st y))::old W::Γ))) (e:=by subst hx1;infer_instance) ?_;refine S.bjClose b {t with orders:=os} ps ub jb mb ov2 iv dv mv sb l i x1 av lb db rb qb hi hidx (hset x1 hidx) (BF.set (st:={t with orders:=os}) ⟨hokt.oset os,hF.perm,hov2,hF.im,hF.dn,hF.mn,hF.sn⟩ hj1) ⟨by rw[hx1];exact hJ.an,by rw[hx1];exact hJ.l,by rw[hx1];exact hJ.d,by rw[hx1];exact hJ.r,by rw[hx1];exact hJ.s⟩ ?_;rw[←hwj];refine Zv (Za ef ef) ?_;refine ZY 2 ?_;exact ZX (fz-1) (⟨e+1,warnJ t x,by omega,by omega,by rw[hst],rfl,rfl⟩) (by omega)
     ·rw[show (vicR st y).take e=vicR st y by rw[show e=(vicR st y).length by omega,List.take_length]]at ht;refine Zy ?_;exact Zfn ef Zq (by rw[hg,←ht])
    ·refine(S.alloc Tryz.z154.h rfl ?_);intro b6;refine Zk [] ?_;refine Z1 (i:=19) ef ef ?_;refine  (Zc1 Ze (Choose_S mb st.m y.tier y.k (own cv 152 2 (cs.flatMap cdC)) cv cs hcn (by omega) hct RdS.own hW) ?_);rintro v Θ ⟨cu,rfl,hcun,rfl⟩;refine Zk [20,21,22] ?_;refine ZY 3 ?_;refine Z1 (i:=24) ef ef ?_;refine  (Zs ef ef (cs':=[_,_]) ef ?_);refine Zk [25] ?_;refine Zy ?_;refine ZD ?_;refine ZY 2 ?_;have hvr:jobsR (choR st.m y.tier y.k cs).1=vicR st y:=by rw[hcs9];rfl
     have hcl2:(choR st.m y.tier y.k cs).1.length=(vicR st y).length:=by rw[←hvr,List.length_map]
     rw[hvr];rw[hcl2]at hcun;refine S.bjClose b st ps ub jb mb ov iv dv mv sb l i y av lb db rb qb hi rfl (hset y rfl) (hF.set hjy) hJ ?_;rw[set_self hok hgy];refine S.ownLen cu fun hc1 hc2 hc3=>?_
     have hvl:(vicR st y).length≤1000:=by
      have h1:(vicR st y).length≤(candR st).length:=Nat.le_trans (Nat.le_of_eq (List.length_map ..)) (choR_len st.m y.tier y.k (candR st));have h2:(candR st).length≤st.js.length:=by rw[candR,List.length_map];exact List.length_filter_le _ _
      omega
     refine ZY 6 ?_;refine Zl (fun fz ρ' Γ'=>∃(e:Nat) (t:Br),fz=(vicR st y).length-e∧e≤(vicR st y).length∧t=each warnJ st ((vicR st y).take e)∧ρ'=[(0,pt b),(83,cu.v),(84,.int .i64 (cu.n:Int)),(85,.int .i64 (e:Int))]∧Γ'=own cu 31 1 (idsV (vicR st y))::BP b t ps::old W::Γ) (m:=_) (⟨0,st,rfl,by omega,rfl,rfl,rfl⟩) ?_;rintro fz ρ' Γ' ⟨e,t,hfz,he,ht,rfl,rfl⟩;have hI:LInv warnJ st (vicR st y) e t:=by rw[ht];exact linv warnE warn_ids hok (vic_mem hok.srt) e he
     have hIo:=hI.ord;refine ZY 5 ?_
     refine Zj ef (fun h4=>?_) (fun h4=>?_)
     ·refine S.ownSome cu (by omega) fun sb so hsa _ _ _=>?_;obtain⟨id,hid⟩:=getE (show e<(vicR st y).length by omega);obtain⟨x,hgx⟩:∃x,getJ t.js id=some x:=Option.isSome_iff_exists.1 (by rw[isSome_ids hI.ids];exact vic_mem hok.srt id (List.mem_of_getElem? hid));obtain⟨_,hxi⟩:=getJ_some hgx;subst hxi;have hst:each warnJ st ((vicR st y).take (e+1))=warnJ t x:=by rw[ht];exact lstep hid (by rw[←ht];exact hgx)
      have hokt:=hI.ok;have hjx:=hokt.at_ hgx;have hal:=Nat.le_trans hjx.len hokt.N16;obtain⟨x1,hx1⟩:∃x1:Bj,x1=warX t x:=⟨_,rfl⟩;have hj1:JOk t.nodes x1:=by rw[hx1];exact hjx.warX
      have hidx:x1.id=x.id:=by rw[hx1]
      have e1:x1.till=laterR t.now t.grace:=by rw[hx1]
      refine S.bjOpen b t ps x hgx fun ub jb mb ov iv dv mv sb l i av lb db rb qb hF hi hset hrm hJ=>?_;have hlk:alGet (x.id:Int) l=some (pt (ps x.id)):=by rw[jE_get hokt.srt hF.perm,hgx];rfl
      have han:=hJ.an;refine ZY 5 ?_;refine Zv (Zx (e) ef (hsa) ef (by omega)) ?_;refine Zv (Zo (cu) (e) ef (hsa) (idsV_get hid)) ?_;refine ZY 8 ?_;refine Zy ?_;refine Zv (q_lookup1 (pt (ps x.id)) Tryz.underlying82 Tryz.underlying31 Tryz.zv86.h rfl rfl rfl (by rw[hlk];rfl)) ?_;refine ZY 3 ?_;refine Zd ([blk b 84 (bC t ub jb mb ov iv dv mv sb).toArray]) [] (Zra 0 11) ?_;refine ZY 8 ?_;refine ZY 3 ?_;refine Z1 (i:=11) ef ef ?_;refine  (Zcp Ze (later_S t.now t.grace hokt.now (by have:=hokt.g2;omega)) ?_);refine Zk [12,13] ?_;refine ZY 2 ?_;refine Z1 (i:=14) ef ef ?_;refine(S.store (cs':=[_,_,_,_,_,_,_,_,_,_,_,_,_,_,_,_,_]) Eo.h rfl rfl rfl rfl rfl ?_);refine Zk [15,16] ?_;refine ZY 2 ?_;refine Z1 (i:=17) ef ef ?_;refine(S.store (cs':=[_,_,_,_,_,_,_,_,_,_,_,_,_,_,_,_,_]) Eo.h rfl rfl rfl rfl rfl ?_);refine Zk [] ?_;refine ZD ?_;refine ZY 2 ?_;refine S.blkAs (ps x.id) (bjC x1 av lb db rb qb).toArray (by rw[hx1]) ?_;refine ZY 8 ?_;refine Zl (fun fy ρ' Γ'=>∃(e3:Nat) (os:List Od) (ov2:SV),fy=x.at_.length-e3∧e3≤x.at_.length∧os=t.orders++(x.at_.take e3).map (warOrd t x)∧ov2.n=os.length∧os.length=t.orders.length+e3∧ρ'=[(0,pt b),(9,.int .u32 (x.id:Int)),(10,pt (ps x.id)),(83,cu.v),(84,.int .i64 (cu.n:Int)),(85,.int .i64 (e:Int)),(114,av.v),(115,.int .i64 (av.n:Int)),(116,.int .i64 (e3:Int))] ∧   Γ'=blk (ps x.id) 90 (bjC x1 av lb db rb qb).toArray::own av 3 1 (nds x.at_)::optS lb x.loaded::optS db x.drops::optR rb x.ran::savB qb x.id x.sav::blk b 84 (bC t ub jb mb ov2 iv dv mv sb).toArray::mapL ub .i64 (setE t.up)::mapL jb .u32 l::jT ps t.js i::jD ps t.js i::MI mb t.m::own ov2 97 14 (os.flatMap odC)::imgs iv t.images::own dv 31 1 (idsV t.done)::own mv 31 1 (idsV t.members)::optS sb t.stops::own cu 31 1 (idsV (vicR st y))::old W::Γ) (m:=_) (⟨0,t.orders,ov,rfl,by omega,by simp,hF.on,rfl,rfl,rfl⟩) ?_;rintro fy ρ' Γ' ⟨e3,os,ov2,hfy,he3,hos,hov2,hol,rfl,rfl⟩;refine ZY 5 ?_
      refine Zj ef (fun h5=>?_) (fun h5=>?_)
      ·refine S.ownSome av (by omega) fun ab ao haa _ _ _=>?_;obtain⟨z,hz⟩:=getE (show e3<x.at_.length by omega);have htk:x.at_.take (e3+1)=x.at_.take e3++[z]:=by rw[List.take_add_one,hz];rfl
       have hos2:os++[((z,{kind:=12,job:=x.id,tick:=laterR t.now t.grace}):Od)]=t.orders++(x.at_.take (e3+1)).map (warOrd t x):=by rw[hos,htk,List.map_append,List.append_assoc];rfl
       refine ZY 5 ?_;refine Zv (Zx (e3) ef (haa) ef (by omega)) ?_;refine Zv (Zo (av) (e3) ef (haa) (by rw[List.getElem?_map,hz];rfl)) ?_;refine ZY 8 ?_;refine ZY 2 ?_;refine Zv (q_build (pvs:=[(_,_),(_,_),(_,_)]) [_,_,_,_,_,_,_,_,_,_,_,_,_] Tryz.z72.h Tryz.p72.h ⟨⟨rfl,rfl⟩,⟨rfl,rfl⟩,⟨rfl,rfl⟩,trivial⟩ rfl) ?_;rw[e1];refine Zp (Zc1 Ze (order_S b t ub jb mb ov2 iv dv mv sb z {kind:=12,job:=x.id,tick:=laterR t.now t.grace} os hov2 (by omega)) ?_);rintro v Θ ⟨ov3,hov3,rfl⟩;refine ZY 2 ?_;refine Zv (Za ef ef) ?_;refine ZY 2 ?_;exact ZX (fy-1) (⟨e3+1,os++[((z,{kind:=12,job:=x.id,tick:=laterR t.now t.grace}):Od)],ov3,by omega,by omega,hos2,hov3,by rw[List.length_append,List.length_singleton];omega,rfl,rfl⟩) (by omega)
      ·rw[show x.at_.take e3=x.at_ by rw[show e3=x.at_.length by omega,List.take_length]]at hos;have hwj:warnJ t x=Br.set {t with orders:=os} x1:=by rw[warnJ_eq,hos,hx1]
       refine ZY 2 ?_;refine S.sub (jX (ps x.id) x1 av lb db rb qb (bR b {t with orders:=os} ps ub jb mb ov2 iv dv mv sb l i (own cu 31 1 (idsV (vicR st y))::old W::Γ))) (e:=by subst hx1;infer_instance) ?_;refine S.bjClose b {t with orders:=os} ps ub jb mb ov2 iv dv mv sb l i x1 av lb db rb qb hi hidx (hset x1 hidx) (BF.set (st:={t with orders:=os}) ⟨hokt.oset os,hF.perm,hov2,hF.im,hF.dn,hF.mn,hF.sn⟩ hj1) ⟨by rw[hx1];exact hJ.an,by rw[hx1];exact hJ.l,by rw[hx1];exact hJ.d,by rw[hx1];exact hJ.r,by rw[hx1];exact hJ.s⟩ ?_;rw[←hwj];refine Zv (Za ef ef) ?_;refine ZY 2 ?_;exact ZX (fz-1) (⟨e+1,warnJ t x,by omega,by omega,by rw[hst],rfl,rfl⟩) (by omega)
     ·rw[show (vicR st y).take e=vicR st y by rw[show e=(vicR st y).length by omega,List.take_length]]at ht;refine Zy ?_;exact Zfn ef Zq (by rw[hg,←ht])
theorem srtN_perm (l:List Nat):(srtN l).Perm l:=List.mergeSort_perm l _
theorem srtN_srt (l:List Nat):(srtN l).Pairwise (·≤·):=by
 have:=List.pairwise_mergeSort (le:=fun a b:Nat=>decide (a≤b)) (fun a b c h1 h2=>by simp only[decide_eq_true_eq]at *;omega) (fun a b=>by simp only[Bool.or_eq_true,decide_eq_true_eq];omega) l;exact this.imp fun h=>by simpa using h
theorem srtN_len (l:List Nat):(srtN l).length=l.length:=(srtN_perm l).length_eq
theorem sortN_S (s:SV) (l:List Nat) (hl:l.length≤65535) (hsn:s.n=l.length):Spec Tryz.prog 101 [s.v] [own s 31 1 (idsV l)] fun Γ _ Θ=>Θ=own s 31 1 (idsV (srtN l))::Γ:=by
 have h:=Go.Proofs.YtdackcibfkkniaaGreatDoor.Sort_S s (l.map fun n:Nat=>(n:Int)).toArray (by simpa using hl) (by simpa using hsn)
 have e:∀m:List Nat,uA (m.map fun n:Nat=>(n:Int)).toArray=idsV m:=fun m=>by
  show (m.map fun n:Nat=>(n:Int)).map (Value.int .u32)=_;rw[List.map_map];rfl
 rw[e]at h;refine h.weaken fun Γ=>⟨Γ,Ent.refl _,?_⟩;rintro v Θ ⟨R,h1,h2,rfl⟩;refine⟨_,rfl,?_⟩
 have h3:R.toList=(srtN l).map fun n:Nat=>(n:Int):=by
  refine(h1.trans ?_).eq_of_pairwise (le:=fun a b:Int=>a≤b) (fun a b _ _ h1 h2=>Int.le_antisymm h1 h2) h2 (List.pairwise_map.2 ((srtN_srt l).imp fun h=>by omega));show ((l.map fun n:Nat=>(n:Int)).toArray).toList.Perm _;exact((srtN_perm l).symm.map _)
 have h4:uA R=idsV (srtN l):=by
  show R.toList.map (Value.int .u32)=_;rw[h3,List.map_map];rfl
 rw[h4];exact Ent.refl _
theorem Ent.unfocusX {b:Nat} {st:Br} {ps:Nat→Nat} {ub jb mb:Nat} {ov iv dv mv:SV} {sb:Option Nat} {l:List (Int×Value)} {i:Nat} {x x':Bj} (hx:st.js[i]?=some x) (hid:x'.id=x.id) (hset:setJ st.js x'=st.js.set i x') (Γ:List Assn) :
  Ent (JI (ps x.id) x'::bR b st ps ub jb mb ov iv dv mv sb l i Γ) (bX b (st.set x') ps ub jb mb ov iv dv mv sb l Γ):=by
 have h1:Ent (JI (ps x.id) x'::jT ps st.js i::jD ps st.js i::MI mb st.m::own ov 97 14 (st.orders.flatMap odC)::imgs iv st.images::own dv 31 1 (idsV st.done)::own mv 31 1 (idsV st.members)::optS sb st.stops::Γ) (alls (st.js.set i x') (jI ps)::MI mb st.m::own ov 97 14 (st.orders.flatMap odC)::imgs iv st.images::own dv 31 1 (idsV st.done)::own mv 31 1 (idsV st.members)::optS sb st.stops::Γ):=by
  rw[←hid];exact Ent.allsBack (jI ps) (x':=x') hx _
 have h3:(st.set x').js=st.js.set i x':=hset;rw[←h3]at h1;exact(((Ent.swap _ _ _).trans ((Ent.swap _ _ _).cons _)).trans (((Ent.swap _ _ _).cons _).cons _)).trans ((((h1.cons _).cons _).cons _))
section
variable {n:Nat} {md:Bool} {w0:WM md} {ρ:Env} {Γ Δ:List Assn} {φ:Act→World→Prop}
theorem S.bxFocus (b:Nat) (st:Br) (ps:Nat→Nat) (ub jb mb:Nat) (ov iv dv mv:SV) (sb:Option Nat) (l:List (Int×Value)) {i:Nat} {x:Bj} (hx:st.js[i]?=some x) [q:Picks (bX b st ps ub jb mb ov iv dv mv sb l []) Γ Δ] (k:∀av lb db rb qb,JF x av lb db rb qb→S n w0 ρ (jX (ps x.id) x av lb db rb qb (bR b st ps ub jb mb ov iv dv mv sb l i Δ)) φ):S n w0 ρ Γ φ:=by
 refine S.ent (q.ent.trans (Ent.focus hx Δ)) ?_;refine S.jiOpen (ps x.id) x fun av lb db rb qb q1 q2 q3 q4 q5=>?_;exact k av lb db rb qb ⟨q1,q2,q3,q4,q5⟩
theorem S.bxClose (b:Nat) (st:Br) (ps:Nat→Nat) (ub jb mb:Nat) (ov iv dv mv:SV) (sb:Option Nat) (l:List (Int×Value)) (i:Nat) {x:Bj} (x':Bj) (av:SV) (lb db rb qb:Option Nat) (hx:st.js[i]?=some x) (hid:x'.id=x.id) (hset:setJ st.js x'=st.js.set i x') (hJ:JF x' av lb db rb qb)
  [q:Picks (jX (ps x.id) x' av lb db rb qb (bR b st ps ub jb mb ov iv dv mv sb l i [])) Γ Δ] (k:S n w0 ρ (bX b (st.set x') ps ub jb mb ov iv dv mv sb l Δ) φ):S n w0 ρ Γ φ:=by
 refine S.ent ?_ k
 have h1:Ent (jX (ps x.id) x' av lb db rb qb (bR b st ps ub jb mb ov iv dv mv sb l i Δ)) (JI (ps x.id) x'::bR b st ps ub jb mb ov iv dv mv sb l i Δ):=
  (Ent.pack (jX (ps x.id) x' av lb db rb qb []) _).trans (Ent.mono1 _ fun _ s=>⟨av,lb,db,rb,qb,hJ.an,hJ.l,hJ.d,hJ.r,hJ.s,s⟩)
 exact q.ent.trans (h1.trans (Ent.unfocusX hx hid hset Δ))
end
abbrev goX (x:Bj):Bj:={x with ran:=some []}
abbrev goOrd (st:Br) (x:Bj) (n:Nat):Od:=(n,{kind:=5,gen:=st.gen,job:=x.id})
theorem goJob_eq (st:Br) (x:Bj):goJob st x=Br.set {st with stops:=some (x.at_.foldl sAdd (st.stops.getD [])),orders:=st.orders++x.at_.map (goOrd st x)} (goX x):=rfl
theorem JOk.goX {N:Nat} {x:Bj} (h:JOk N x):JOk N (goX x):=⟨h.id1,h.id2,h.tier,h.k1,h.kn,h.w,h.cr,h.wk,h.rise,h.at_,h.drop,h.lod,fun r hr=>(by cases hr;intro y hy;cases hy),h.ld,h.svl⟩
theorem fold_nodup:∀(l s:List Nat),s.Nodup→(l.foldl sAdd s).Nodup
 | [],_,h=>h
 | x::l,s,h=>fold_nodup l (sAdd s x) (sAdd_nodup h x)
theorem BrOk.stset {st:Br} (h:BrOk st) {s:Option (List Nat)} (hs:∀d,s=some d→d.Nodup):BrOk {st with stops:=s}:=⟨h.R,h.N,h.mok,h.srt,fun x hx=>h.job x hx,h.few,h.q1,h.q2,h.g1,h.g2,h.now,h.fin,h.mem,hs⟩
theorem goE:EachOk goJob:=by
 refine⟨fun st x h hx=>?_,fun st x id h=>by rw[goJob_eq];exact set_oth {st with stops:=some (x.at_.foldl sAdd (st.stops.getD [])),orders:=st.orders++x.at_.map (goOrd st x)} (x:=BN.goX x) h,fun st x h hx=>?_⟩
 ·have hn:∀d,some (x.at_.foldl sAdd (st.stops.getD []))=some d→d.Nodup:=fun d hd=>by
   cases hd;refine fold_nodup _ _ ?_;cases hs:st.stops with
   | none=>exact List.nodup_nil
   | some s=>exact h.stp s hs
  have h2:BrOk {st with stops:=some (x.at_.foldl sAdd (st.stops.getD [])),orders:=st.orders++x.at_.map (goOrd st x)}:=(h.oset (st.orders++x.at_.map (goOrd st x))).stset hn;rw[goJob_eq];exact BrOk.set h2 (x:=BN.goX x) (h.at_ hx).goX
 ·rw[goJob_eq];show (st.orders++x.at_.map (goOrd st x)).length≤_;rw[List.length_append,List.length_map];have:=len16 h hx;omega
theorem go_ids (st:Br) (x:Bj):(goJob st x).js.map (·.id)=st.js.map (·.id):=setJ_ids st.js (BN.goX x)
theorem go_same (st:Br) (x:Bj):(goJob st x).members=st.members∧(goJob st x).gen=st.gen∧(goJob st x).stops.isSome=true:=⟨rfl,rfl,rfl⟩
theorem each_go_same {l:List Nat}:∀ {st:Br},st.stops.isSome=true→(each goJob st l).members=st.members∧(each goJob st l).stops.isSome=true:=by
 induction l with
 | nil=>exact fun h=>⟨rfl,h⟩
 | cons id l ih=>
  intro st h;have e:each goJob st (id::l)=each goJob (match getJ st.js id with | none=>st | some x=>goJob st x) l:=rfl;rw[e];cases hg:getJ st.js id with
  | none=>exact ih h
  | some x=>
   obtain⟨a1,a2,a3⟩:=go_same st x;obtain⟨b1,b2⟩:=ih (st:=goJob st x) a3;exact⟨b1.trans a1,b2⟩
abbrev run0 (st:Br) (l:List Nat):Br:={st with gen:=u32 (st.gen+1),members:=srtN l,fin:=laterR st.now st.quantum,stops:=some []}
theorem runR_eq (st:Br) (l:List Nat):runR st l=each goJob (run0 st l) (srtN l):=rfl
theorem run0_ok {st:Br} (h:BrOk st) {l:List Nat} (hl:l.length≤1000):BrOk (run0 st l):=⟨h.R,h.N,h.mok,h.srt,fun x hx=>h.job x hx,h.few,h.q1,h.q2,h.g1,h.g2,h.now,later_le _ _,by show (srtN l).length≤_;rw[srtN_len];exact hl,fun d hd=>(by cases hd;exact List.nodup_nil)⟩
theorem run_ok {st:Br} (h:BrOk st) {l:List Nat} (hl:l.length≤1000) (hm:∀id∈l,(getJ st.js id).isSome=true):BrOk (runR st l)∧(runR st l).orders.length≤st.orders.length+16*l.length:=by
 have:=linv goE go_ids (run0_ok h hl) (l:=srtN l) (fun id hid=>hm id ((srtN_perm l).mem_iff.1 hid)) _ (Nat.le_refl _);rw[List.take_length]at this;rw[runR_eq];exact⟨this.ok,by have:=this.ord;rw[srtN_len]at this;exact this⟩
set_option maxHeartbeats 4000000 in
theorem run_S (b:Nat) (st:Br) (ps:Nat→Nat) (s:SV) (xs:List Nat) (hsn:s.n=xs.length) (hxl:xs.length≤1000) (hxm:∀id∈xs,(getJ st.js id).isSome=true) (hl:st.orders.length≤800000):Spec Tryz.prog 90 [pt b,s.v] [BP b st ps,own s 31 1 (idsV xs)] fun Γ _ Θ=>Θ=BP b (runR st xs) ps::Γ:=by
 refine Spec.bpOk fun hok=>?_;have hok0:=run0_ok hok hxl;have hxm2:∀id∈srtN xs,(getJ (run0 st xs).js id).isSome=true:=fun id hid=>hxm id ((srtN_perm xs).mem_iff.1 hid);have hsl:=srtN_len xs;refine Zbd Tryz.func90 rfl Tryz.ntmps90 fun w0 Γ=>Zsh ?_;refine ZY 3 ?_;refine Zp (Zc1 Ze (sortN_S s xs (by omega) hsn) ?_);rintro v Θ rfl;refine S.bpOpen b st ps fun ub jb mb ov iv dv mv sb l hF=>?_;refine ZY 7 ?_;refine Zv (q_addW rfl rfl) ?_;rw[wrap32];refine ZY 8 ?_;refine ZY 5 ?_;refine Zd ([blk b 84 (bC {st with gen:=u32 (st.gen+1),members:=srtN xs} ub jb mb ov iv dv s sb).toArray]) [13] (Zra 0 10) ?_;refine ZY 8 ?_;refine ZY 2 ?_;refine Z1 (i:=10) ef ef ?_;refine  (Zcp Ze (later_S st.now st.quantum hok.now (by have:=hok.q2;omega)) ?_);refine Zk [11,12] ?_;refine ZY 2 ?_;refine Z1 (i:=13) ef ef ?_;refine(S.store (cs':=[_,_,_,_,_,_,_,_,_,_,_,_,_,_,_,_,_,_]) Eo.h rfl rfl rfl rfl rfl ?_);refine ZL ([]) [] ?_;refine ZD ?_;refine ZY 3 ?_;refine Zp (S.makeMap .i64 rfl ?_);intro b36;refine ZY 6 ?_;refine S.conv (mapL b36 .i64 []) (show Ent _ (optS (some b36) (some [])::_) from Ent.opt2 (s:=some []) rfl _) ?_;refine S.blkAs b (bC (run0 st xs) ub jb mb ov iv dv s (some b36)).toArray rfl ?_;refine S.sub (bX b (run0 st xs) ps ub jb mb ov iv dv s (some b36) l Γ) ?_;have hF0:BF (run0 st xs) ps ov iv dv s (some b36) l:=⟨hok0,hF.perm,hF.on,hF.im,hF.dn,by show s.n=(srtN xs).length;omega,rfl⟩;clear hF
 refine ZY 5 ?_;refine Zl (fun fz ρ' Γ'=>∃(e:Nat) (t:Br) (ub jb mb:Nat) (ov iv dv:SV) (sb:Option Nat) (l:List (Int×Value)),fz=(srtN xs).length-e∧e≤(srtN xs).length∧t=each goJob (run0 st xs) ((srtN xs).take e)∧BF t ps ov iv dv s sb l∧ρ'=[(0,pt b),(39,s.v),(40,.int .i64 (s.n:Int)),(41,.int .i64 (e:Int))]∧Γ'=bX b t ps ub jb mb ov iv dv s sb l Γ) (m:=_) (⟨0,run0 st xs,ub,jb,mb,ov,iv,dv,some b36,l,rfl,by omega,rfl,hF0,rfl,rfl⟩) ?_;rintro fz ρ' Γ' ⟨e,t,ub,jb,mb,ov,iv,dv,sb,l,hfz,he,ht,hF,rfl,rfl⟩;have hI:LInv goJob (run0 st xs) (srtN xs) e t:=by rw[ht];exact linv goE go_ids hok0 hxm2 e he
 have hIo:t.orders.length≤st.orders.length+16*e:=hI.ord;obtain⟨hmem,hsome⟩:t.members=srtN xs∧t.stops.isSome=true:=by rw[ht];exact each_go_same (st:=run0 st xs) rfl
 refine ZY 5 ?_
 refine Zj ef (fun h1=>?_) (fun h1=>?_)
 ·obtain⟨id,hid⟩:=getE (show e<(srtN xs).length by omega);obtain⟨x,hgx⟩:∃x,getJ t.js id=some x:=Option.isSome_iff_exists.1 (by rw[isSome_ids hI.ids];exact hxm2 id (List.mem_of_getElem? hid));obtain⟨_,hxi⟩:=getJ_some hgx;subst hxi;have hst:each goJob (run0 st xs) ((srtN xs).take (e+1))=goJob t x:=by rw[ht];exact lstep hid (by rw[←ht];exact hgx)
  have hokt:=hI.ok;have hjx:=hokt.at_ hgx;have hal:=Nat.le_trans hjx.len hokt.N16;obtain⟨ss,hss⟩:∃ss,t.stops=some ss:=Option.isSome_iff_exists.1 hsome;obtain⟨q,rfl⟩:∃q,sb=some q:=by have:=hF.sn;rw[hss]at this;cases sb with | none=>cases this | some q=>exact⟨q,rfl⟩
  obtain⟨x1,hx1⟩:∃x1:Bj,x1=goX x:=⟨_,rfl⟩;have hj1:JOk t.nodes x1:=by rw[hx1];exact hjx.goX
  have hidx:x1.id=x.id:=by rw[hx1]
  refine S.ownSome s (by omega) fun ib io hia _ _ _=>?_;obtain⟨i,hi,hset,_⟩:=getJ_at hokt.srt hgx;refine S.bxFocus b t ps ub jb mb ov iv dv s (some q) l hi fun av lb db rb qb hJ=>?_;refine S.conv (optS (some q) t.stops) (Ent.opt1 hss _) ?_;have hlk:alGet (x.id:Int) l=some (pt (ps x.id)):=by rw[jE_get hokt.srt hF.perm,hgx];rfl
  have han:=hJ.an;refine ZY 5 ?_;refine Zv (Zx (e) ef (hia) ef (by omega)) ?_;refine Zv (Zo (s) (e) ef (hia) (by rw[hmem];exact idsV_get hid)) ?_;refine ZY 8 ?_;refine Zy ?_;refine Zv (q_lookup1 (pt (ps x.id)) Tryz.underlying82 Tryz.underlying31 Tryz.zv86.h rfl rfl rfl (by rw[hlk];rfl)) ?_;refine ZY 5 ?_;refine Zp (S.makeMap .i64 rfl ?_);intro b52;refine ZY 6 ?_;refine S.blkAs (ps x.id) (bjC x1 av lb db (some b52) qb).toArray (by rw[hx1]) ?_;refine ZY 8 ?_;refine Zl (fun fy ρ' Γ'=>∃(e3:Nat) (s3:List Nat) (os:List Od) (ov2:SV),fy=x.at_.length-e3∧e3≤x.at_.length∧s3=(x.at_.take e3).foldl sAdd ss∧os=t.orders++(x.at_.take e3).map (goOrd t x)∧ov2.n=os.length∧os.length=t.orders.length+e3∧ρ'=[(0,pt b),(5,.int .u32 (x.id:Int)),(6,pt (ps x.id)),(39,s.v),(40,.int .i64 (s.n:Int)),(41,.int .i64 (e:Int)),(58,av.v),(59,.int .i64 (av.n:Int)),(60,.int .i64 (e3:Int))] ∧   Γ'=blk (ps x.id) 90 (bjC x1 av lb db (some b52) qb).toArray::mapL b52 .i64 []::mapL q .i64 (setE s3)::own av 3 1 (nds x.at_)::optS lb x.loaded::optS db x.drops::savB qb x.id x.sav::blk b 84 (bC t ub jb mb ov2 iv dv s (some q)).toArray::mapL ub .i64 (setE t.up)::mapL jb .u32 l::jT ps t.js i::jD ps t.js i::MI mb t.m::own ov2 97 14 (os.flatMap odC)::imgs iv t.images::own dv 31 1 (idsV t.done)::own s 31 1 (idsV t.members)::Γ) (m:=_) (⟨0,ss,t.orders,ov,rfl,by omega,rfl,by simp,hF.on,rfl,rfl,rfl⟩) ?_;rintro fy ρ' Γ' ⟨e3,s3,os,ov2,hfy,he3,hs3,hos,hov2,hol,rfl,rfl⟩;refine ZY 5 ?_
  refine Zj ef (fun h2=>?_) (fun h2=>?_)
  ·refine S.ownSome av (by omega) fun ab ao haa _ _ _=>?_;obtain⟨z,hz⟩:=getE (show e3<x.at_.length by omega);have htk:x.at_.take (e3+1)=x.at_.take e3++[z]:=by rw[List.take_add_one,hz];rfl
   have hos2:os++[((z,{kind:=5,gen:=t.gen,job:=x.id}):Od)]=t.orders++(x.at_.take (e3+1)).map (goOrd t x):=by rw[hos,htk,List.map_append,List.append_assoc];rfl
   have hs32:sAdd s3 z=(x.at_.take (e3+1)).foldl sAdd ss:=by rw[htk,List.foldl_append,←hs3];rfl
   refine ZY 5 ?_;refine Zv (Zx (e3) ef (haa) ef (by omega)) ?_;refine Zv (Zo (av) (e3) ef (haa) (by rw[List.getElem?_map,hz];rfl)) ?_;refine ZY 8 ?_;refine Zy ?_;refine Zp (Zc1 Ze (add_S q s3 z) ?_);rintro v Θ rfl;refine ZY 8 ?_;refine Zy ?_;refine Zv (q_build (pvs:=[(_,_),(_,_),(_,_)]) [_,_,_,_,_,_,_,_,_,_,_,_,_] Tryz.z72.h Tryz.p72.h ⟨⟨rfl,rfl⟩,⟨rfl,rfl⟩,⟨rfl,rfl⟩,trivial⟩ rfl) ?_;refine Zp (Zc1 Ze (order_S b t ub jb mb ov2 iv dv s (some q) z {kind:=5,gen:=t.gen,job:=x.id} os hov2 (by omega)) ?_);rintro v Θ ⟨ov3,hov3,rfl⟩;refine ZY 2 ?_;refine Zv (Za ef ef) ?_;refine ZY 2 ?_;exact ZX (fy-1) (⟨e3+1,sAdd s3 z,os++[((z,{kind:=5,gen:=t.gen,job:=x.id}):Od)],ov3,by omega,by omega,hs32,hos2,hov3,by rw[List.length_append,List.length_singleton];omega,rfl,rfl⟩) (by omega)
  ·rw[show x.at_.take e3=x.at_ by rw[show e3=x.at_.length by omega,List.take_length]]at hos hs3;have hwj:goJob t x=Br.set {t with stops:=some s3,orders:=os} x1:=by rw[goJob_eq,hos,hs3,hx1,hss];rfl
   have hokg:BrOk (goJob t x):=goE.ok t x hokt hgx;have hF1:BF (goJob t x) ps ov2 iv dv s (some q) l:=⟨hokg,by rw[hwj];show l.Perm ((setJ t.js x1).map (jE ps));rw[jE_set];exact hF.perm,by rw[hwj];exact hov2,by rw[hwj];exact hF.im,by rw[hwj];exact hF.dn,by rw[hwj];exact hF.mn,by rw[hwj];rfl⟩;refine ZY 2 ?_;refine S.conv (mapL q .i64 (setE s3)) (show Ent _ (optS (some q) (some s3)::_) from Ent.opt2 (s:=some s3) rfl _) ?_;refine S.conv (mapL b52 .i64 []) (show Ent _ (optR (some b52) x1.ran::_) by rw[hx1];exact Ent.refl _) ?_;refine S.sub (jX (ps x.id) x1 av lb db (some b52) qb (bR b {t with stops:=some s3,orders:=os} ps ub jb mb ov2 iv dv s (some q) l i Γ)) (e:=by subst hx1;infer_instance) ?_;refine S.bxClose b {t with stops:=some s3,orders:=os} ps ub jb mb ov2 iv dv s (some q) l i x1 av lb db (some b52) qb hi hidx (hset x1 hidx) ⟨by rw[hx1];exact hJ.an,by rw[hx1];exact hJ.l,by rw[hx1];exact hJ.d,by rw[hx1];rfl,by rw[hx1];exact hJ.s⟩ ?_;rw[←hwj];refine Zv (Za ef ef) ?_;refine ZY 2 ?_;exact ZX (fz-1) (⟨e+1,goJob t x,ub,jb,mb,ov2,iv,dv,some q,l,by omega,by omega,by rw[hst],hF1,rfl,rfl⟩) (by omega)
 ·rw[show (srtN xs).take e=srtN xs by rw[show e=(srtN xs).length by omega,List.take_length]]at ht;refine Zy ?_;refine S.bpClose b t ps ub jb mb ov iv dv s sb l hF ?_;exact Zfn ef Zq (by rw[runR_eq,←ht])
theorem repTry_first {m:Mx} {j:Nat} {r:Mv×Mx}:∀ {p:Nat},repTry m j p=some r→∃i,i<p∧moveR m j i=(some r.1,r.2)∧∀k,k<i→(moveR m j k).1=none
 | 0,h=>by cases h
 | p+1,h=>by
  rw[repTry]at h;cases hr:repTry m j p with
  | some r'=>
   rw[hr]at h;simp only[Option.some.injEq]at h;subst h;obtain⟨i,h3,h4,h5⟩:=repTry_first hr;exact⟨i,by omega,h4,h5⟩
  | none=>
   rw[hr]at h;simp only at h;cases hv:moveR m j p with
   | mk x m'=>
    rw[hv]at h;cases x with
    | none=>cases h
    | some x=>
     simp only[Option.some.injEq]at h;subst h;exact⟨p,by omega,hv,repTry_none hr⟩
def Mvs (m:Mx):List Mv→Mx→Prop
 | [],m'=>m'=m
 | x::xs,m'=>(moveR m x.1 x.2.2).1=some x∧Mvs (moveR m x.1 x.2.2).2 xs m'
theorem go_append {m m1 m2:Mx} {xs ys:List Mv} (h:Mvs m xs m1) (h2:Mvs m1 ys m2):Mvs m (xs++ys) m2:=by
 induction xs generalizing m with
 | nil=>rw[show m1=m from h]at h2;exact h2
 | cons x xs ih=>exact⟨h.1,ih h.2⟩
theorem go_one {m m':Mx} {j:Nat} {z:Int} {x:Mv} (h:moveR m j z=(some x,m')):Mvs m [x] m':=by
 obtain⟨y,_,_,rfl,_⟩:=moveR_some h;refine⟨by rw[h],?_⟩;show m'=_;rw[h]
theorem repRow_go {m0:Mx} {j:Nat} {ids:List Nat} {a:Mx×List Mv} (h:Mvs m0 a.2 a.1):∀q,Mvs m0 (repRow j ids a q).2 (repRow j ids a q).1
 | 0=>h
 | q+1=>by
  have ih:=repRow_go (ids:=ids) h q (j:=j);rw[repRow];cases ht:repTry (repRow j ids a q).1 (ids.getD q 0) j with
  | none=>exact ih
  | some r=>
   obtain⟨i,_,hv,_⟩:=repTry_first ht;exact go_append ih (go_one hv)
theorem repUp_go (m:Mx):∀k,Mvs m (repUp m k).2 (repUp m k).1
 | 0=>rfl
 | k+1=>repRow_go (repUp_go m k) _
theorem repack_go (m:Mx):Mvs m (repackR m).2 (repackR m).1:=repUp_go m _
abbrev idNs (x:Jb):Nat×Bs:=(x.id,x.ns)
structure Keep (m m':Mx):Prop where
 ok:MxOk m'
 R:m'.R=m.R
 N:m'.N=m.N
 up:m'.up=m.up
 js:m'.js.map idNs=m.js.map idNs
theorem Keep.refl {m:Mx} (h:MxOk m):Keep m m:=⟨h,rfl,rfl,rfl,rfl⟩
theorem Keep.trans {a b c:Mx} (h:Keep a b) (h2:Keep b c):Keep a c:=⟨h2.ok,h2.R.trans h.R,h2.N.trans h.N,h2.up.trans h.up,h2.js.trans h.js⟩
theorem reRow_keep (js:List Jb) (j t:Nat):(reRow js j t).map idNs=js.map idNs:=by
 rw[reRow,List.map_map];refine List.map_congr_left fun x _=>?_;show idNs (if x.id=j then _ else x)=_;split <;> rfl
theorem Keep.move {m:Mx} (hm:MxOk m) (j:Nat) (z:Int):Keep m (moveR m j z).2:=by
 obtain⟨h1,h2,h3⟩:=moveR_N m j z;refine⟨moveR_ok hm j z,h1,h2,h3,?_⟩;cases hv:moveR m j z with
 | mk x m'=>
  cases x with
  | none=>rw[(moveR_none hv).1]
  | some x=>
   obtain⟨y,_,_,_,e⟩:=moveR_some hv;rw[e];exact reRow_keep _ _ _
theorem Keep.go {xs:List Mv}:∀ {m m':Mx},MxOk m→Mvs m xs m'→Keep m m':=by
 induction xs with
 | nil=>intro m m' hm h;rw[show m'=m from h];exact .refl hm
 | cons x xs ih=>intro m m' hm h;exact(Keep.move hm x.1 x.2.2).trans (ih (moveR_ok hm _ _) h.2)
theorem Keep.repack {m:Mx} (hm:MxOk m):Keep m (repackR m).1:=Keep.go hm (repack_go m)
theorem rowIds_len {m:Mx} (_h:MxOk m) (z:Int):(rowIds m z).length≤128:=by
 unfold rowIds
 split
 ·rw[List.length_map];have h2:=rowJ_len m z.toNat;omega
 ·exact Nat.zero_le _
theorem fillIds_len {m:Mx} (h:MxOk m) (z:Int):(fillIds m z).length≤128:=by
 unfold fillIds
 split
 ·rw[List.length_map];have h1:=fillUp_len m z.toNat m.R;have:=h.R8;omega
 ·exact Nat.zero_le _
theorem startUp_zero (b:Br) (row:Int):startUp b row 0=b:=rfl
theorem startUp_no {b:Br} {row:Int} {i:Nat} (h:(nextR b.m row).2=false):startUp b row (i+1)=b:=by rw[startUp,if_pos h]
theorem startUp_go {b:Br} {row:Int} {i:Nat} (h:(nextR b.m row).2=true) (h2:0<(readyR b (rowIds b.m (nextR b.m row).1)).length):startUp b row (i+1)=runR {b with row:=(nextR b.m row).1} (readyR b (rowIds b.m (nextR b.m row).1++fillIds b.m (nextR b.m row).1)):=by
 rw[startUp,if_neg (by rw[h];decide),if_pos h2]
theorem startUp_on {b:Br} {row:Int} {i:Nat} (h:(nextR b.m row).2=true) (h2:¬0<(readyR b (rowIds b.m (nextR b.m row).1)).length):startUp b row (i+1)=startUp b (nextR b.m row).1 i:=by
 rw[startUp,if_neg (by rw[h];decide),if_neg h2]
theorem ready_mem {st:Br} {l:List Nat}:∀id∈readyR st l,(getJ st.js id).isSome=true:=fun id h=>by
 have h2:=(List.mem_filter.1 h).2;cases hg:getJ st.js id with
 | none=>rw[hg]at h2;cases h2
 | some x=>rfl
theorem ready_len (st:Br) (l:List Nat):(readyR st l).length≤l.length:=List.length_filter_le _ _
theorem BrOk.rset {st:Br} (h:BrOk st) (z:Int):BrOk {st with row:=z}:=⟨h.R,h.N,h.mok,h.srt,fun x hx=>h.job x hx,h.few,h.q1,h.q2,h.g1,h.g2,h.now,h.fin,h.mem,h.stp⟩
theorem start_ok {st:Br} (h:BrOk st):∀(i:Nat) (row:Int),BrOk (startUp st row i)∧(startUp st row i).orders.length≤st.orders.length+4096
 | 0,_=>⟨h,by rw[startUp_zero];omega⟩
 | i+1,row=>by
  cases hn:(nextR st.m row).2 with
  | false=>rw[startUp_no hn];exact⟨h,by omega⟩
  | true=>
   by_cases h2:0<(readyR st (rowIds st.m (nextR st.m row).1)).length
   ·rw[startUp_go hn h2]
    have hl:(readyR st (rowIds st.m (nextR st.m row).1++fillIds st.m (nextR st.m row).1)).length≤256:=by
     have:=ready_len st (rowIds st.m (nextR st.m row).1++fillIds st.m (nextR st.m row).1);rw[List.length_append]at this;have:=rowIds_len h.mok (nextR st.m row).1;have:=fillIds_len h.mok (nextR st.m row).1;omega
    obtain⟨a,b⟩:=run_ok (h.rset (nextR st.m row).1) (l:=readyR st (rowIds st.m (nextR st.m row).1++fillIds st.m (nextR st.m row).1)) (by omega) (ready_mem (st:=st));exact⟨a,Nat.le_trans b (by show st.orders.length+_≤_;omega)⟩
   ·rw[startUp_on hn h2];exact start_ok h i _
set_option maxHeartbeats 4000000 in
theorem start_S (b:Nat) (st:Br) (ps:Nat→Nat) (hl:st.orders.length≤800000) {W:World} (hW:TabW W):Spec Tryz.prog 47 [pt b] [BP b st ps,old W] fun Γ _ Θ=>Θ=BP b (startUp st st.row st.rows) ps::old W::Γ:=by
 refine Spec.bpOk fun hok=>?_;have hR8:st.rows≤8:=by have:=hok.mok.R8;rw[hok.R]at this;exact this
 refine Zbd Tryz.func47 rfl Tryz.ntmps47 fun w0 Γ=>Zsh ?_;refine S.bpOpen b st ps fun ub jb mb ov iv dv mv sb l hF=>?_;refine ZY 8 ?_;refine ZY 7 ?_;refine S.bpClose b st ps ub jb mb ov iv dv mv sb l hF ?_;refine ZY 3 ?_;refine Zl (fun fz ρ' Γ'=>∃(e:Nat) (row:Int),fz=st.rows-e∧e≤st.rows∧startUp st st.row st.rows=startUp st row (st.rows-e)∧ρ'=[(0,pt b),(2,.int .i64 row),(13,.int .i64 (st.rows:Int)),(14,.int .i64 (e:Int))]∧Γ'=BP b st ps::old W::Γ) (m:=_) (⟨0,st.row,rfl,by omega,rfl,rfl,rfl⟩) ?_;rintro fz ρ' Γ' ⟨e,row,hfz,he,hs,rfl,rfl⟩;refine ZY 5 ?_
 refine Zj ef (fun h1=>?_) (fun h1=>?_)
 ·refine S.bpOpen b st ps fun ub jb mb ov iv dv mv sb l hF=>?_;have hse:st.rows-e=(st.rows-(e+1))+1:=by omega
  rw[hse]at hs;refine ZY 8 ?_;refine ZY 2 ?_;refine Zp (Zcp Ze (Go.Proofs.YtdackcibfkkniaaGreatDoor.Next_S mb st.m row) ?_);refine ZY 8 ?_;refine ZY 4 ?_
  refine Zi ef (fun h2=>?_) (fun h2=>?_)
  ·have hgs:=hs.trans (startUp_no (by simpa using h2));refine Zy ?_;refine S.bpClose b st ps ub jb mb ov iv dv mv sb l hF ?_;exact Zf ef Zq (by rw[hgs])
  ·have hnx:(nextR st.m row).2=true:=by simpa using h2
   obtain⟨z,hz⟩:∃z,z=(nextR st.m row).1:=⟨_,rfl⟩;rw[←hz];have hrl:=rowIds_len hok.mok z;refine ZY 8 ?_;refine ZY 6 ?_;refine Zp (Zc1 Ze (Go.Proofs.YtdackcibfkkniaaGreatDoor.Row_S mb st.m z hW) ?_);rintro v Θ ⟨rv,rfl,hrn,rfl⟩;refine S.bpClose b st ps ub jb mb ov iv dv mv sb l hF ?_;refine Zp (Zc1 Ze (ready_S b st ps rv (rowIds st.m z) hrn (by omega)) ?_);rintro v Θ ⟨u,rfl,hun,rfl⟩;refine ZY 3 ?_
   refine Zj ef (fun h3=>?_) (fun h3=>?_)
   ·have hgs:=hs.trans (startUp_go hnx (by rw[←hz];omega));rw[←hz]at hgs;have hfl:=fillIds_len hok.mok z;have hrdl:=ready_len st (rowIds st.m z++fillIds st.m z);rw[List.length_append]at hrdl;refine S.bpOpen b st ps fun ub jb mb ov iv dv mv sb l hF=>?_;refine ZY 8 ?_;refine Zy ?_;refine Zd ([blk b 84 (bC {st with row:=z} ub jb mb ov iv dv mv sb).toArray]) [15] [] ?_;refine ZP 0 [1,2,3,4,5,6,8,9,10,11,12] ef (q_move rfl) ef ?_;refine ZY 8 ?_;refine ZY 3 ?_;refine Z1 (i:=7) ef ef ?_;refine  (Zc1 Ze (Go.Proofs.YtdackcibfkkniaaGreatDoor.Row_S mb st.m z hW) ?_);rintro v Θ ⟨r2,rfl,hr2,rfl⟩;refine Zk [] ?_;refine Z1 (i:=13) ef ef ?_;refine  (Zc1 Ze (Go.Proofs.YtdackcibfkkniaaGreatDoor.Fill_S mb st.m z hW) ?_);rintro v Θ ⟨f2,rfl,hf2,rfl⟩;refine Zk [] ?_;refine Z1 (i:=14) ef ef ?_;refine(S.appendOw (s:=r2) (f2.n) (idsV (fillIds st.m z)) Tryz.underlying53 Tryz.inf31.h rfl rfl rfl (fun w hs=>HasOw.slAt inferInstance hs) (idV_one _) (⟨by omega,by omega⟩) rfl ?_);intro a2 ha2;rw[show idsV (rowIds st.m z)++idsV (fillIds st.m z)=idsV (rowIds st.m z++fillIds st.m z) from List.map_append.symm];refine Zk [] ?_;refine Z1 (i:=15) ef ef ?_;refine S.sub (bX b {st with row:=z} ps ub jb mb ov iv dv mv sb l (own a2 31 1 (idsV (rowIds st.m z++fillIds st.m z))::old W::Γ)) ?_;refine S.bpClose b {st with row:=z} ps ub jb mb ov iv dv mv sb l ⟨hok.rset z,hF.perm,hF.on,hF.im,hF.dn,hF.mn,hF.sn⟩ ?_;refine  (Zc1 Ze (ready_S b {st with row:=z} ps a2 (rowIds st.m z++fillIds st.m z) (by rw[List.length_append];omega) (by rw[List.length_append];omega)) ?_);rintro v Θ ⟨u2,rfl,hu2,rfl⟩;refine ZL ([]) [] ?_;refine Z1 (i:=16) ef ef ?_;refine  (Zc1 Ze (run_S b {st with row:=z} ps u2 (readyR {st with row:=z} (rowIds st.m z++fillIds st.m z)) hu2 (by show (readyR st _).length≤_;omega) (ready_mem (st:={st with row:=z})) hl) ?_);rintro v Θ rfl;rw[show readyR {st with row:=z} (rowIds st.m z++fillIds st.m z)=readyR st (rowIds st.m z++fillIds st.m z) from rfl];refine Zk [] ?_;refine ZD ?_;refine Zy ?_;exact Zf ef Zq (by rw[hgs])
   ·have hgs:=hs.trans (startUp_on hnx (by rw[←hz];omega));rw[←hz]at hgs;refine ZY 2 ?_;refine Zv (Za ef ef) ?_;refine ZY 2 ?_;exact ZX (fz-1) (⟨e+1,z,by omega,by omega,hgs,rfl,rfl⟩) (by omega)
 ·rw[show st.rows-e=0 by omega,startUp_zero]at hs;refine Zy ?_;exact Zfn ef Zq (by rw[hs])
theorem leave_wsav {st:Br} {x:Bj} (h:WSav st):WSav (leaveJ st x):=by
 have hset:∀(b:Br) (y:Bj),WSav b→(y.state=0→y.sav=none)→WSav (b.set y):=fun b y hb hy z hz h0=>by
  obtain⟨w,hw,e⟩:=List.mem_map.1 hz
  split at e
  ·subst e;exact hy h0
  ·subst e;exact hb w hw h0
 have hgone:∀(b:Br) (y:Bj),WSav b→(y.state=0→y.sav=none)→WSav (goneR b y):=fun b y hb hy=>by
  unfold goneR
  split
  ·split
   ·exact hset {b with m:=(removeR b.m y.id).2} _ hb fun _=>rfl
   ·intro z hz h0;exact hb z (List.mem_filter.1 hz).1 h0
  ·exact hset b y hb hy
 unfold leaveJ
 split
 ·unfold dropR
  split
  ·exact hgone _ _ h fun _=>rfl
  ·exact hgone _ _ h fun _=>rfl
 ·exact h
theorem each_wsav {f:Br→Bj→Br} (hf:∀st x,WSav st→WSav (f st x)):∀(l:List Nat) {st:Br},WSav st→WSav (each f st l)
 | [],_,h=>h
 | id::l,st,h=>by
  have e:each f st (id::l)=each f (match getJ st.js id with | none=>st | some x=>f st x) l:=rfl;rw[e];cases hg:getJ st.js id with
  | none=>exact each_wsav hf l h
  | some x=>exact each_wsav hf l (hf st x h)
abbrev rep (st:Br):Br:={st with m:=(repackR st.m).1}
theorem rep_ok {st:Br} (h:BrOk st):BrOk (rep st):=by
 have k:=Keep.repack h.mok;exact h.mset2 k.ok k.N k.R
theorem preempt_ok {st:Br} (h:BrOk st):BrOk (preemptR st)∧(preemptR st).orders.length≤st.orders.length+16*st.js.length:=by
 cases hw:waitR st with
 | nil=>rw[pre_nil hw];exact⟨h,Nat.le_add_right ..⟩
 | cons id l=>
  cases hlv:st.js.any lvB with
  | true=>rw[pre_live hlv];exact⟨h,Nat.le_add_right ..⟩
  | false=>
   obtain⟨y,hy,_⟩:=mem_waitR h.srt (show id∈waitR st by rw[hw];exact List.mem_cons_self ..);rw[pre_go hw hlv hy];have:=linv warnE warn_ids h (vic_mem h.srt (y:=y)) _ (Nat.le_refl _);rw[List.take_length]at this
   have hv:(vicR st y).length≤st.js.length:=by
    have h1:(vicR st y).length≤(candR st).length:=Nat.le_trans (Nat.le_of_eq (List.length_map ..)) (choR_len st.m y.tier y.k (candR st));have h2:(candR st).length≤st.js.length:=by rw[candR,List.length_map];exact List.length_filter_le _ _
    omega
   exact⟨this.ok,by have:=this.ord;omega⟩
theorem BrOk.nset {st:Br} (h:BrOk st) {n:Nat} (hn:n≤4294967295):BrOk {st with now:=n}:=⟨h.R,h.N,h.mok,h.srt,fun x hx=>h.job x hx,h.few,h.q1,h.q2,h.g1,h.g2,hn,h.fin,h.mem,h.stp⟩
section
variable {st:Br} {now:Nat}
theorem tick_stale (h:now≤st.now):tickR st now=(12,st):=by rw[tickR,if_pos h]
theorem tick_hold (h:¬now≤st.now) (h2:now≤st.hold):tickR st now=(0,{st with now:=now}):=by rw[tickR,if_neg h,if_pos h2]
theorem tick_stop (h:¬now≤st.now) (h2:¬now≤st.hold) (h3:st.stops.isSome=true) (h4:st.stopped=false∧(st.fin≤now∨idleB st=true)):tickR st now=(0,stopR {st with now:=now}):=by rw[tickR,if_neg h,if_neg h2,if_pos h3,if_pos h4]
theorem tick_run (h:¬now≤st.now) (h2:¬now≤st.hold) (h3:st.stops.isSome=true) (h4:¬(st.stopped=false∧(st.fin≤now∨idleB st=true))):tickR st now=(0,{st with now:=now}):=by rw[tickR,if_neg h,if_neg h2,if_pos h3,if_neg h4]
theorem tick_work (h:¬now≤st.now) (h2:¬now≤st.hold) (h3:st.stops.isSome=false):tickR st now=(0,workR {st with now:=now}):=by rw[tickR,if_neg h,if_neg h2,if_neg (by rw[h3];decide)]
end
theorem stopR_ok2 {st:Br} (h:BrOk st):BrOk (stopR st):=(h.oset (stopR st).orders).hset true
theorem each_len {f:Br→Bj→Br} (hE:EachOk f) {st:Br} (h:BrOk st):(each f st st.ids).orders.length≤st.orders.length+16000:=by
 have:=each_ord hE h;have:=h.few;omega
theorem work_ok {st:Br} (h:BrOk st) (hw:WSav st):BrOk (workR st)∧(workR st).orders.length≤st.orders.length+70000:=by
 have h1:=each_ok leaveE h;have l1:=each_len leaveE h;have w1:WSav (each leaveJ st st.ids):=each_wsav (fun st x h=>leave_wsav h) _ hw;obtain⟨h2,l2⟩:=placeAll_ok h1 w1;obtain⟨h3,l3⟩:=preempt_ok h2;have h4:=rep_ok h3;have h5:=each_ok saveE h4;have l5:=each_len saveE h4;obtain⟨h6,l6⟩:=start_ok h5 (each saveR (rep (preemptR (placeAll (each leaveJ st st.ids)))) (rep (preemptR (placeAll (each leaveJ st st.ids)))).ids).rows (each saveR (rep (preemptR (placeAll (each leaveJ st st.ids)))) (rep (preemptR (placeAll (each leaveJ st st.ids)))).ids).row;refine⟨h6,?_⟩;have f1:=h1.few;have f2:=h2.few;have l5':_≤(preemptR (placeAll (each leaveJ st st.ids))).orders.length+16000:=l5;exact Nat.le_trans l6 (by omega)
set_option maxHeartbeats 4000000 in
theorem Tick_S (b:Nat) (st:Br) (ps:Nat→Nat) (now:Nat) (hnow:now≤4294967295) (hw:WSav st) (hl:st.orders.length≤700000) {W:World} (hW:TabW W):Spec Tryz.prog 14 [pt b,.int .u32 (now:Int)] [BP b st ps,old W] fun Γ v Θ=>v=.int .i64 (tickR st now).1∧Θ=BP b (tickR st now).2 ps::old W::Γ:=by
 refine Spec.bpOk fun hok=>?_;have hokn:=hok.nset hnow;have hfew:=hok.few;obtain⟨t,ht⟩:∃t:Br,t={st with now:=now}:=⟨_,rfl⟩;have hokt:BrOk t:=by rw[ht];exact hokn
 have hwt:WSav t:=by rw[ht];exact hw
 have hlt:t.orders.length≤700000:=by rw[ht];exact hl
 refine Zbd Tryz.func14 rfl Tryz.ntmps14 fun w0 Γ=>Zsh ?_;refine S.bpOpen b st ps fun ub jb mb ov iv dv mv sb l hF=>?_;refine ZY 8 ?_;refine ZY 4 ?_;refine ZF ef ?_;refine ZY 8 ?_;refine ZY 2 ?_
 refine Zj ef (fun h2=>?_) (fun h2=>?_)
 ·have hg:=tick_stale (st:=st) (now:=now) (by omega);refine ZY 5 ?_;refine S.bpClose b st ps ub jb mb ov iv dv mv sb l hF ?_;exact Zf ef Zq (⟨by rw[hg];rfl,by rw[hg]⟩)
 ·have h2n:¬now≤st.now:=by omega
  refine ZY 8 ?_;refine ZY 8 ?_;refine ZY 3 ?_
  refine Zj ef (fun h3=>?_) (fun h3=>?_)
  ·have hg:=tick_hold (st:=st) (now:=now) h2n (by omega);refine ZY 5 ?_;refine S.sub (bX b {st with now:=now} ps ub jb mb ov iv dv mv sb l (old W::Γ)) ?_;refine S.bpClose b {st with now:=now} ps ub jb mb ov iv dv mv sb l ⟨hokn,hF.perm,hF.on,hF.im,hF.dn,hF.mn,hF.sn⟩ ?_;exact Zf ef Zq (⟨by rw[hg];rfl,by rw[hg]⟩)
  ·have h3n:¬now≤st.hold:=by omega
   refine ZY 8 ?_;refine Zv (q_neMN Tryz.underlying81 rfl rfl) ?_;refine Zy ?_
   refine Zi ef (fun h4=>?_) (fun h4=>?_)
   ·have h4s:st.stops.isSome=true:=by rw[←hF.sn];simpa using h4
    refine ZY 8 ?_;refine Zy ?_
    refine Zbb 35 ef (fun hg9_5=>?_) (fun hg9_5=>?_)
    ·refine ZY 7 ?_
     refine Zb 42 ef (fun hg9_12=>?_) (fun hg9_12=>?_)
     ·have hg:=tick_stop (st:=st) (now:=now) h2n h3n h4s ⟨by simpa using hg9_5,.inl (by omega)⟩;refine ZY 8 ?_;first | (refine S.sub (bX b {st with now:=now} ps ub jb mb ov iv dv mv sb l (old W::Γ)) ?_;refine S.bpClose b {st with now:=now} ps ub jb mb ov iv dv mv sb l ⟨hokn,hF.perm,hF.on,hF.im,hF.dn,hF.mn,hF.sn⟩ ?_;rw[←ht]) | skip
      refine Zp (Zc1 Ze (stop_S b t ps (by omega)) ?_);rintro v Θ rfl;refine ZY 6 ?_;first | (refine S.sub (bX b {st with now:=now} ps ub jb mb ov iv dv mv sb l (old W::Γ)) ?_;refine S.bpClose b {st with now:=now} ps ub jb mb ov iv dv mv sb l ⟨hokn,hF.perm,hF.on,hF.im,hF.dn,hF.mn,hF.sn⟩ ?_;rw[←ht]) | skip
      exact Zf ef Zq (⟨by rw[hg];rfl,by rw[hg,←ht]⟩)
     ·refine Zy ?_
      (refine S.sub (bX b {st with now:=now} ps ub jb mb ov iv dv mv sb l (old W::Γ)) ?_;refine S.bpClose b {st with now:=now} ps ub jb mb ov iv dv mv sb l ⟨hokn,hF.perm,hF.on,hF.im,hF.dn,hF.mn,hF.sn⟩ ?_;rw[←ht])
      refine Zg ef ef ef (Zcp Ze (idle_S b t ps) ?_);have hid:idleB t=idleB st:=by rw[ht];rfl
      refine ZY 3 ?_
      refine Zi ef (fun h5=>?_) (fun h5=>?_)
      ·have hg:=tick_stop (st:=st) (now:=now) h2n h3n h4s ⟨by simpa using hg9_5,.inr (by rw[←hid];exact h5)⟩;refine ZY 2 ?_;first | (refine S.sub (bX b {st with now:=now} ps ub jb mb ov iv dv mv sb l (old W::Γ)) ?_;refine S.bpClose b {st with now:=now} ps ub jb mb ov iv dv mv sb l ⟨hokn,hF.perm,hF.on,hF.im,hF.dn,hF.mn,hF.sn⟩ ?_;rw[←ht]) | skip
       refine Zp (Zc1 Ze (stop_S b t ps (by omega)) ?_);rintro v Θ rfl;refine ZY 6 ?_;first | (refine S.sub (bX b {st with now:=now} ps ub jb mb ov iv dv mv sb l (old W::Γ)) ?_;refine S.bpClose b {st with now:=now} ps ub jb mb ov iv dv mv sb l ⟨hokn,hF.perm,hF.on,hF.im,hF.dn,hF.mn,hF.sn⟩ ?_;rw[←ht]) | skip
       exact Zf ef Zq (⟨by rw[hg];rfl,by rw[hg,←ht]⟩)
      ·have hg:=tick_run (st:=st) (now:=now) h2n h3n h4s (fun h=>by rcases h.2 with h | h;(exact hg9_12 (by omega));(rw[←hid,h5]at h;cases h));refine ZY 6 ?_;first | (refine S.sub (bX b {st with now:=now} ps ub jb mb ov iv dv mv sb l (old W::Γ)) ?_;refine S.bpClose b {st with now:=now} ps ub jb mb ov iv dv mv sb l ⟨hokn,hF.perm,hF.on,hF.im,hF.dn,hF.mn,hF.sn⟩ ?_;rw[←ht]) | skip
       exact Zf ef Zq (⟨by rw[hg];rfl,by rw[hg,←ht]⟩)
    ·have hg:=tick_run (st:=st) (now:=now) h2n h3n h4s (fun h=>by rw[h.1]at hg9_5;cases hg9_5);refine ZY 8 ?_;refine ZY 8 ?_;refine ZY 3 ?_;first | (refine S.sub (bX b {st with now:=now} ps ub jb mb ov iv dv mv sb l (old W::Γ)) ?_;refine S.bpClose b {st with now:=now} ps ub jb mb ov iv dv mv sb l ⟨hokn,hF.perm,hF.on,hF.im,hF.dn,hF.mn,hF.sn⟩ ?_;rw[←ht]) | skip
     exact Zf ef Zq (⟨by rw[hg];rfl,by rw[hg,←ht]⟩)
   ·have h4s:st.stops.isSome=false:=by rw[←hF.sn];simpa using h4
    have hg:=tick_work (st:=st) (now:=now) h2n h3n h4s
    (refine S.sub (bX b {st with now:=now} ps ub jb mb ov iv dv mv sb l (old W::Γ)) ?_;refine S.bpClose b {st with now:=now} ps ub jb mb ov iv dv mv sb l ⟨hokn,hF.perm,hF.on,hF.im,hF.dn,hF.mn,hF.sn⟩ ?_;rw[←ht])
    obtain⟨t1,ht1⟩:∃t1,t1=each leaveJ t t.ids:=⟨_,rfl⟩;obtain⟨t2,ht2⟩:∃t2,t2=placeAll t1:=⟨_,rfl⟩;obtain⟨t3,ht3⟩:∃t3,t3=preemptR t2:=⟨_,rfl⟩;obtain⟨t4,ht4⟩:∃t4,t4=rep t3:=⟨_,rfl⟩;obtain⟨t5,ht5⟩:∃t5,t5=each saveR t4 t4.ids:=⟨_,rfl⟩;have o1:BrOk t1:=by rw[ht1];exact each_ok leaveE hokt
    have w1:WSav t1:=by rw[ht1];exact each_wsav (fun st x h=>leave_wsav h) _ hwt
    have l1:t1.orders.length≤t.orders.length+16000:=by rw[ht1];exact each_len leaveE hokt
    have o2:BrOk t2∧t2.orders.length≤t1.orders.length+16*t1.js.length:=by rw[ht2];exact placeAll_ok o1 w1
    have o3:BrOk t3∧t3.orders.length≤t2.orders.length+16*t2.js.length:=by rw[ht3];exact preempt_ok o2.1
    have o4:BrOk t4:=by rw[ht4];exact rep_ok o3.1
    have l4:t4.orders.length=t3.orders.length:=by rw[ht4]
    have o5:BrOk t5∧t5.orders.length≤t4.orders.length+16000:=by rw[ht5];exact⟨each_ok saveE o4,each_len saveE o4⟩
    have f1:=o1.few;have f2:=o2.1.few;have hwk:workR t=startUp t5 t5.row t5.rows:=by rw[ht5,ht4,ht3,ht2,ht1];rfl
    refine ZY 4 ?_;refine Zp (Zc1 Ze (leave_S b t ps (by omega)) ?_);rintro v Θ rfl;rw[←ht1];refine ZY 4 ?_;refine Zp (Zc1 Ze (place_S b t1 ps w1 (by omega)) ?_);rintro v Θ rfl;rw[←ht2];refine ZY 4 ?_;refine Zp (Zc1 Ze (preempt_S b t2 ps (by omega) hW) ?_);rintro v Θ rfl;rw[←ht3];refine ZY 3 ?_;refine S.bpOpen b t3 ps fun ub jb mb ov iv dv mv sb l hF=>?_;refine ZY 5 ?_;refine Zp (Zc1 Ze (Go.Proofs.YtdackcibfkkniaaGreatDoor.Repack_S mb t3.m hW) ?_);rintro v Θ ⟨c,sv,rfl,hsv,rfl⟩;refine ZY 8 ?_;refine ZY 2 ?_;refine S.sub (bX b (rep t3) ps ub jb c ov iv dv mv sb l (old W::Γ)) ?_;refine S.bpClose b (rep t3) ps ub jb c ov iv dv mv sb l ⟨by rw[←ht4];exact o4,hF.perm,hF.on,hF.im,hF.dn,hF.mn,hF.sn⟩ ?_;rw[←ht4];refine Zp (Zc1 Ze (save1_S b t4 ps (by omega)) ?_);rintro v Θ rfl;rw[←ht5];refine ZY 4 ?_;refine Zp (Zc1 Ze (start_S b t5 ps (by omega) hW) ?_);rintro v Θ rfl;refine ZY 6 ?_;exact Zf ef Zq (⟨by rw[hg];rfl,by rw[hg,←ht,hwk]⟩)
structure Sm3 (b b':Br) (i d j:Nat):Prop where
 im:b'.images.length≤b.images.length+i
 dn:b'.done.length≤b.done.length+d
 js:b'.js.length≤b.js.length+j
 nodes:b'.nodes=b.nodes
theorem Sm3.refl (b:Br):Sm3 b b 0 0 0:=⟨Nat.le_refl _,Nat.le_refl _,Nat.le_refl _,rfl⟩
theorem Sm3.trans {a b c:Br} {i d j i' d' j':Nat} (h:Sm3 a b i d j) (k:Sm3 b c i' d' j'):Sm3 a c (i+i') (d+d') (j+j'):=⟨by have:=h.im;have:=k.im;omega,by have:=h.dn;have:=k.dn;omega,by have:=h.js;have:=k.js;omega,k.nodes.trans h.nodes⟩
theorem Sm3.tr0 {a b c:Br} {i d j:Nat} (h:Sm3 a b 0 0 0) (k:Sm3 b c i d j):Sm3 a c i d j:=by have:=h.trans k;simpa using this
theorem Sm3.set (b:Br) (x:Bj):Sm3 b (b.set x) 0 0 0:=⟨Nat.le_refl _,Nat.le_refl _,by show (setJ b.js x).length≤_;rw[setJ_len];exact Nat.le_refl _,rfl⟩
theorem Sm3.gone (b:Br) (x:Bj):Sm3 b (goneR b x) 0 0 0:=by
 unfold goneR
 split
 ·split
  ·exact⟨Nat.le_refl _,Nat.le_refl _,by show (setJ b.js _).length≤_;rw[setJ_len];exact Nat.le_refl _,rfl⟩
  ·exact⟨Nat.le_refl _,Nat.le_refl _,List.length_filter_le _ _,rfl⟩
 ·exact .set b x
theorem Sm3.drop (b:Br) (x:Bj) (a:Bool):Sm3 b (dropR b x a) 0 0 0:=by
 unfold dropR
 split
 ·exact .gone b _
 ·exact(show Sm3 b {b with orders:=b.orders++(upOf b x).map (dropOrd x.id)} 0 0 0 from ⟨Nat.le_refl _,Nat.le_refl _,Nat.le_refl _,rfl⟩).tr0 (.gone _ _)
theorem Sm3.save (b:Br) (x:Bj):Sm3 b (saveR b x) 0 0 0:=by
 by_cases hc:x.work=x.credit∨x.sav.isSome∨x.drops.isSome∨x.state≠2
 ·rw[saveR_no hc];exact .set b x
 ·rw[saveR_yes hc];exact⟨Nat.le_refl _,Nat.le_refl _,by show (setJ b.js _).length≤_;rw[setJ_len];exact Nat.le_refl _,rfl⟩
theorem Sm3.each {f:Br→Bj→Br} (hf:∀b x,Sm3 b (f b x) 0 0 0):∀(l:List Nat) (b:Br),Sm3 b (each f b l) 0 0 0
 | [],b=>.refl b
 | id::l,b=>by
  have e:BN.each f b (id::l)=BN.each f (match getJ b.js id with | none=>b | some x=>f b x) l:=rfl;rw[e];cases getJ b.js id with
  | none=>exact Sm3.each hf l b
  | some x=>exact(hf b x).tr0 (Sm3.each hf l _)
theorem Sm3.load (b:Br) (x:Bj) (s:PL.St):Sm3 b (loadR b x s) 0 0 0:=by
 by_cases hp:(putR b.m x.id s.row s.nodes).1≠0
 ·rw[loadR_no hp];exact⟨Nat.le_refl _,Nat.le_refl _,Nat.le_refl _,rfl⟩
 ·rw[loadR_yes hp];exact⟨Nat.le_refl _,Nat.le_refl _,by show (setJ b.js _).length≤_;rw[setJ_len];exact Nat.le_refl _,rfl⟩
theorem Sm3.place (l:List (Nat×PL.St)):∀b:Br,Sm3 b (placeUp b l) 0 0 0:=by
 induction l with
 | nil=>exact fun b=>.refl b
 | cons p l ih=>
  intro b;have e:placeUp b (p::l)=placeUp (plStep b p) l:=by rw[placeUp_eq,placeUp_eq];rfl
  rw[e];refine Sm3.tr0 ?_ (ih _);unfold plStep
  split
  ·split
   ·exact .refl b
   ·exact .load b _ _
  ·exact .refl b
theorem Sm3.preempt (b:Br):Sm3 b (preemptR b) 0 0 0:=by
 unfold preemptR
 split
 ·exact .refl b
 split
 ·exact .refl b
 split
 ·exact .refl b
 ·exact .each (f:=warnJ) (fun b x=>⟨Nat.le_refl _,Nat.le_refl _,by show (setJ b.js _).length≤_;rw[setJ_len];exact Nat.le_refl _,rfl⟩) _ _
theorem Sm3.run (b:Br) (l:List Nat):Sm3 b (runR b l) 0 0 0:=
 (show Sm3 b (run0 b l) 0 0 0 from ⟨Nat.le_refl _,Nat.le_refl _,Nat.le_refl _,rfl⟩).tr0 (.each (f:=goJob) (fun b x=>⟨Nat.le_refl _,Nat.le_refl _,by show (setJ b.js _).length≤_;rw[setJ_len];exact Nat.le_refl _,rfl⟩) _ _)
theorem Sm3.start (b:Br):∀(i:Nat) (row:Int),Sm3 b (startUp b row i) 0 0 0
 | 0,_=>.refl b
 | i+1,row=>by
  rw[startUp]
  split
  ·exact .refl b
  split
  ·exact(show Sm3 b {b with row:=(nextR b.m row).1} 0 0 0 from ⟨Nat.le_refl _,Nat.le_refl _,Nat.le_refl _,rfl⟩).tr0 (.run _ _)
  ·exact .start b i _
theorem Sm3.leave (b:Br) (x:Bj):Sm3 b (leaveJ b x) 0 0 0:=by
 unfold leaveJ
 split
 ·exact .drop b x true
 ·exact .refl b
theorem Sm3.work (b:Br):Sm3 b (workR b) 0 0 0:=by
 have h1:=Sm3.each Sm3.leave b.ids b;have h2:=h1.tr0 (Sm3.place (zsR (BN.each leaveJ b b.ids)) _);have h3:=h2.tr0 (Sm3.preempt _);have h4:=h3.tr0 (show Sm3 _ (rep (preemptR (placeAll (BN.each leaveJ b b.ids)))) 0 0 0 from ⟨Nat.le_refl _,Nat.le_refl _,Nat.le_refl _,rfl⟩);have h5:=h4.tr0 (Sm3.each Sm3.save (rep (preemptR (placeAll (BN.each leaveJ b b.ids)))).ids _);exact h5.tr0 (Sm3.start _ _ _)
theorem Sm3.tick (b:Br) (now:Nat):Sm3 b (tickR b now).2 0 0 0:=by
 unfold tickR
 split
 ·exact .refl b
 split
 ·exact⟨Nat.le_refl _,Nat.le_refl _,Nat.le_refl _,rfl⟩
 split
 ·split
  ·exact⟨Nat.le_refl _,Nat.le_refl _,Nat.le_refl _,rfl⟩
  ·exact⟨Nat.le_refl _,Nat.le_refl _,Nat.le_refl _,rfl⟩
 ·exact(show Sm3 b {b with now:=now} 0 0 0 from ⟨Nat.le_refl _,Nat.le_refl _,Nat.le_refl _,rfl⟩).tr0 (.work _)
theorem tick_after {b:Br} (h:BrOk b) (hw:WSav b) {now:Nat} (hn:now≤4294967295):BrOk (tickR b now).2∧(tickR b now).2.orders.length≤b.orders.length+70000:=by
 unfold tickR
 split
 ·exact⟨h,Nat.le_add_right ..⟩
 split
 ·exact⟨h.nset hn,Nat.le_add_right ..⟩
 split
 ·split
  ·refine⟨stopR_ok2 (h.nset hn),?_⟩;show (b.orders++_).length≤_;rw[List.length_append,List.length_map]
   have h1:((List.range b.nodes).filter fun n=>decide (n∈b.stops.getD [])).length≤b.nodes:=by
    have:=List.length_filter_le (fun n=>decide (n∈b.stops.getD [])) (List.range b.nodes)
    rwa [List.length_range]at this
   have h1:(List.filter (fun n=>decide (n∈({b with now:=now}:Br).stops.getD [])) (List.range ({b with now:=now}:Br).nodes)).length≤b.nodes:=h1;have:=h.N16;omega
  ·exact⟨h.nset hn,Nat.le_add_right ..⟩
 ·exact work_ok (h.nset hn) hw
abbrev ncE (cr:List (Nat×Nat)):List (Int×Value):=cr.map fun p:Nat×Nat=>((p.1:Int),Value.int .i64 (p.2:Int))
theorem nc_get (cr:List (Nat×Nat)) (id:Nat):alGet (id:Int) (ncE cr)=(nGet id cr).map fun v:Nat=>Value.int .i64 (v:Int):=by
 induction cr with
 | nil=>rfl
 | cons x cr ih=>
  simp only[List.map_cons,alGet,nGet]
  by_cases h:x.1=id
  ·rw[if_pos h,if_pos (by omega)];rfl
  ·rw[if_neg h,if_neg (by omega)];exact ih
theorem nc_put (cr:List (Nat×Nat)) (id v:Nat):alPut (id:Int) (.int .i64 (v:Int)) (ncE cr)=ncE (nPut id v cr):=by
 induction cr with
 | nil=>rfl
 | cons x cr ih=>
  simp only[List.map_cons,alPut,nPut]
  by_cases h:x.1=id
  ·rw[if_pos h,if_pos (by omega)];rfl
  ·rw[if_neg h,if_neg (by omega)];exact congrArg _ ih
def crStep (cr:List (Nat×Nat)) (n:Nd):List (Nat×Nat):=if runOf n.rk≠0 then nPut (runOf n.rk) (nLook (runOf n.rk) cr+1) cr else cr
def crOf (l:List Nd):List (Nat×Nat):=l.foldl crStep []
theorem crOf_snoc (l:List Nd) (n:Nd):crOf (l++[n])=crStep (crOf l) n:=by rw[crOf,List.foldl_append];rfl
theorem cntOf_snoc (l:List Nd) (n:Nd) (id:Nat):cntOf (l++[n]) id=cntOf l id+if runOf n.rk=id then 1 else 0:=by
 unfold cntOf;rw[List.filter_append,List.length_append]
 congr 1
 by_cases h:runOf n.rk=id
 ·simp[h]
 ·simp[h]
theorem cr_get (l:List Nd):(keys (crOf l)).Nodup∧∀id,nGet id (crOf l)=if id≠0∧0<cntOf l id then some (cntOf l id) else none:=by
 have key:∀(l m:List Nd),((keys (crOf m)).Nodup∧∀id,nGet id (crOf m)=if id≠0∧0<cntOf m id then some (cntOf m id) else none)→((keys (crOf (m++l))).Nodup∧∀id,nGet id (crOf (m++l))=if id≠0∧0<cntOf (m++l) id then some (cntOf (m++l) id) else none):=by
  intro l;induction l with
  | nil=>intro m h;rw[List.append_nil];exact h
  | cons n l ih=>
   intro m h;have e:m++n::l=(m++[n])++l:=by simp
   rw[e];refine ih (m++[n]) ?_;rw[crOf_snoc];unfold crStep
   by_cases hr:runOf n.rk≠0
   ·rw[if_pos hr];refine⟨nPut_keys _ _ h.1,fun id=>?_⟩;rw[nGet_put,cntOf_snoc]
    by_cases e2:id=runOf n.rk
    ·rw[if_pos e2,if_pos e2.symm,if_pos ⟨by rw[e2];exact hr,by omega⟩]
     congr 1
     rw[nLook,h.2,←e2]
     split
     ·rfl
     ·rename_i h3;have h3:¬(id≠0∧0<cntOf m id):=h3
      have:cntOf m id=0:=by
       have:id≠0:=by rw[e2];exact hr
       exact Classical.byContradiction fun h4=>h3 ⟨this,by omega⟩
      rw[this];rfl
    ·have hz:(if runOf n.rk=id then 1 else 0)=0:=if_neg (fun e3=>e2 e3.symm);rw[if_neg e2,hz,Nat.add_zero];exact h.2 id
   ·rw[if_neg hr];refine⟨h.1,fun id=>?_⟩;rw[h.2,cntOf_snoc]
    by_cases e2:runOf n.rk=id
    ·have:id=0:=by rw[←e2];exact Classical.byContradiction hr
     rw[if_neg (fun h=>h.1 this),if_neg (fun h=>h.1 this)]
    ·rw[if_neg e2,Nat.add_zero]
 have:=key l [] ⟨List.nodup_nil,fun id=>by rw[if_neg (fun h=>absurd h.2 (by simp[cntOf]))];rfl⟩
 simpa using this
def hit (s:Sm) (l:List Nd) (id:Nat):Bool:=match jobOf s.jobs id with
 | none=>false
 | some j=>ranB l j
def ranN (s:Sm) (l:List Nd) (id:Nat):Nat:=nLook id s.ran+if hit s l id then 1 else 0
theorem nLook_put (k v:Nat) (l:List (Nat×Nat)) (i:Nat):nLook i (nPut k v l)=if i=k then v else nLook i l:=by
 unfold nLook;rw[nGet_put];split <;> rfl
theorem ranR_look (s:Sm) (l:List Nd) (hn:(s.jobs.map (·.id)).Nodup) (id:Nat):nLook id (ranR s l)=ranN s l id:=by
 unfold ranR ranN hit
 have key:∀(js:List Jo) (r:List (Nat×Nat)),(js.map (·.id)).Nodup→nLook id (js.foldl (fun r j=>if ranB l j then nPut j.id (nLook j.id r+1) r else r) r)=nLook id r+if (match jobOf js id with | none=>false | some j=>ranB l j)=true then 1 else 0:=by
  intro js;induction js with
  | nil=>intro r _;rfl
  | cons j js ih=>
   intro r hn;rw[List.map_cons,List.nodup_cons]at hn;rw[List.foldl_cons,ih _ hn.2]
   have e:jobOf (j::js) id=if j.id=id then some j else jobOf js id:=by
    unfold jobOf;rw[List.find?_cons]
    by_cases h:j.id=id
    ·rw[if_pos h,decide_eq_true h]
    ·rw[if_neg h,decide_eq_false h]
   rw[e]
   by_cases h:j.id=id
   ·have hno:jobOf js id=none:=List.find?_eq_none.2 fun x hx=>by
     have:x.id≠id:=fun e9=>hn.1 (List.mem_map.2 ⟨x,hx,by rw[e9,h]⟩);simp[this]
    rw[if_pos h,hno];dsimp only
    by_cases hb:ranB l j=true
    ·rw[if_pos hb,if_pos hb,nLook_put,if_pos h.symm,h];rfl
    ·rw[if_neg hb,if_neg hb];rfl
   ·rw[if_neg h]
    by_cases hb:ranB l j=true
    ·rw[if_pos hb,nLook_put,if_neg (fun e9=>h e9.symm)]
    ·rw[if_neg hb]
 exact key s.jobs s.ran hn
def ranG (b:Nat) (g:Nat→Nat):Assn:=fun h=>∃l:List (Int×Value),(∀id:Nat,(alGet (id:Int) l).getD (.int .i64 0)=.int .i64 (g id:Nat))∧mapL b .u32 l h
theorem Ent.ranG {b:Nat} {f:List (Nat×Nat)} {g:Nat→Nat} (h:∀id,g id=nLook id f) (Γ:List Assn):Ent (ranM b f::Γ) (ranG b g::Γ):=Ent.mono1 Γ fun _ ⟨l,a,b⟩=>⟨l,fun id=>by rw[a,h],b⟩
theorem Ent.ranU {b:Nat} {f:List (Nat×Nat)} {g:Nat→Nat} (h:∀id,g id=nLook id f) (Γ:List Assn):Ent (BN.ranG b g::Γ) (ranM b f::Γ):=Ent.mono1 Γ fun _ ⟨l,a,b⟩=>⟨l,fun id=>by rw[a,h],b⟩
section
variable {n:Nat} {md:Bool} {w0:WM md} {ρ:Env} {Γ Δ:List Assn} {φ:Act→World→Prop}
theorem S.ranOpen (b:Nat) (g:Nat→Nat) [q:Pick (ranG b g) Γ Δ] (f:∀l:List (Int×Value),(∀id:Nat,(alGet (id:Int) l).getD (.int .i64 0)=.int .i64 (g id:Nat))→S n w0 ρ (mapL b .u32 l::Δ) φ):S n w0 ρ Γ φ:=by
 intro a w ha hs hx;obtain⟨h0,l0,h1,h2,d,l1,l2,⟨l,q1,q2⟩,s⟩:=hs.ent q.ent;exact f l q1 a w ha ⟨h0,l0,h1,h2,d,l1,l2,q2,s⟩ hx
theorem Ent.ranClose {b:Nat} {g:Nat→Nat} {l:List (Int×Value)} (h:∀id:Nat,(alGet (id:Int) l).getD (.int .i64 0)=.int .i64 (g id:Nat)) (Γ:List Assn):Ent (mapL b .u32 l::Γ) (BN.ranG b g::Γ):=Ent.mono1 Γ fun _ s=>⟨l,h,s⟩
end
theorem jo_get (js:List Jo) (id:Nat):alGet (id:Int) (js.map joE)=(jobOf js id).map fun j=>Value.agg (joC j).toArray:=by
 unfold jobOf;induction js with
 | nil=>rfl
 | cons j js ih=>
  rw[List.map_cons,List.find?_cons];simp only[alGet]
  by_cases h:j.id=id
  ·rw[if_pos (by omega),decide_eq_true h];rfl
  ·rw[if_neg (by omega),decide_eq_false h];exact ih
theorem alGet_putI (z:Int) (v:Value) (l:List (Int×Value)) (y:Int):alGet y (alPut z v l)=if y=z then some v else alGet y l:=by
 induction l with
 | nil=>
  simp only[alPut,alGet]
 | cons x l ih=>
  simp only[alPut]
  by_cases h:z=x.1
  ·rw[if_pos h];simp only[alGet]
   by_cases h2:y=z
   ·rw[if_pos h2,if_pos h2]
   ·rw[if_neg h2,if_neg h2,if_neg (by omega)]
  ·rw[if_neg h];simp only[alGet]
   by_cases h2:y=x.1
   ·rw[if_pos h2,if_pos h2,if_neg (by omega)]
   ·rw[if_neg h2,if_neg h2,ih]
theorem S.mapAs {n:Nat} {md:Bool} {w0:WM md} {ρ:Env} {Γ:List Assn} {φ:Act→World→Prop} (b:Nat) {kk:IntKind} {l:List (Int×Value)} (l':List (Int×Value)) {Δ:List Assn} [h:HasM Γ b kk l Δ] (hl:l=l') (k:S n w0 ρ (mapL b kk l'::Δ) φ):S n w0 ρ Γ φ:=S.ent h.ent (by subst hl;exact k)
theorem hit_no {s:Sm} {l:List Nd} {id:Nat} (h:id∉keys (crOf l)):hit s l id=false:=by
 have h1:=(cr_get l).2 id;rw[nGet_none.2 h]at h1;have h2:¬(id≠0∧0<cntOf l id):=fun h2=>by rw[if_pos h2]at h1;cases h1
 unfold hit;cases hj:jobOf s.jobs id with
 | none=>rfl
 | some j=>
  have hid:j.id=id:=by have h9:=List.find?_some hj;exact of_decide_eq_true h9
  cases hb:ranB l j with
  | false=>exact hb
  | true=>
   simp only[ranB,Bool.and_eq_true,decide_eq_true_eq]at hb;rw[hid]at hb;exact absurd ⟨hb.1.1,hb.2⟩ h2
structure StOk (s:Sm):Prop where
 tk:TkOk s
 now:s.now+1≤4294967295
 am:amAll s.nd=true
 am2:amAll (s.nd.map (ndTick (s.now+1)))=true
 ws:WSav s.b
 o7:s.b.orders.length≤700000
 n16:s.cn≤16
 rn:∀id,nLook id s.ran≤s.now
theorem tick_len (now:Nat) (n:Nd):(ndTick now n).inn=n.inn∧(ndTick now n).out=n.out∧(ndTick now n).up=n.up∧(ndTick now n).wrong=n.wrong:=by
 unfold ndTick
 split
 ·split <;> exact⟨rfl,rfl,rfl,rfl⟩
 ·exact⟨rfl,rfl,rfl,rfl⟩
theorem qLe.tick {l:List Nd} {k:Nat} (h:qLe l k) (now:Nat):qLe (l.map (ndTick now)) k:=fun n hn=>by
 obtain⟨m,hm,rfl⟩:=List.mem_map.1 hn;obtain⟨e1,e2,_⟩:=tick_len now m;rw[e1,e2];exact h m hm
abbrev stNd (s:Sm):List Nd:=if (tickR s.b (s.now+1)).1≠0 then setWrong (s.nd.map (ndTick (s.now+1))) else s.nd.map (ndTick (s.now+1))
theorem stickR_eq (s:Sm):stickR s=takeR {s with now:=s.now+1,ran:=ranR s (s.nd.map (ndTick (s.now+1))),b:=(tickR s.b (s.now+1)).2,nd:=stNd s,ok:=s.ok&&stB s}:=rfl
set_option maxHeartbeats 8000000 in
theorem stick_S (p:Nat) (s:Sm) (hk:StOk s) {W:World} (hW:TabW W):Spec Tryz.prog 55 [pt p] [SP p s,old W] fun Γ _ Θ=>Θ=SP p (stickR s)::old W::Γ:=by
 have hn1:=hk.tk.n1;have hnow:=hk.now;have hlen:=hk.tk.len;have hkd:=hk.tk.d;have hki:=hk.tk.i;refine Zbd Tryz.func55 rfl Tryz.ntmps55 fun w0 Γ=>Zsh ?_;refine S.spOpen p s fun b ps nv ns rb jb gb db wb iv dv wv hF=>?_;have hnn:=hF.nn;refine S.mapNodup jb fun hnd0=>?_
 have hjn:(s.jobs.map (·.id)).Nodup:=by
  rw[List.map_map]at hnd0;refine List.pairwise_map.2 ((List.pairwise_map.1 hnd0).imp fun h e=>h ?_);exact congrArg (fun n:Nat=>(n:Int)) e
 refine S.ownLen nv fun hv1 hv2 hv3=>?_;rw[List.length_map]at hv1;have hmx:maxLen≤9223372036854775807:=by unfold maxLen;omega
 obtain⟨L,hL⟩:∃L,L=s.nd.map (ndTick (s.now+1)):=⟨_,rfl⟩;have hLl:L.length=s.cn:=by rw[hL,List.length_map,hlen]
 refine ZY 6 ?_;refine Zv (q_add rfl rfl (inU32 (by omega) (by omega))) ?_;refine ZY 6 ?_;refine Zp (S.makeMap .u32 rfl ?_);intro b15;refine ZY 5 ?_;refine S.mapAs b15 (ncE []) rfl ?_;refine S.blkAs p (smC {s with now:=s.now+1} b nv rb jb gb db wb iv dv wv).toArray rfl ?_;refine ZY 8 ?_;refine Zl (fun fz ρ' Γ'=>∃(e:Nat) (ns:List No) (cr:List (Nat×Nat)),fz=s.nd.length-e∧e≤s.nd.length∧cr=crOf (L.take e)∧ns.map (·.2)=L.take e++s.nd.drop e∧ρ'=[(0,pt p),(2,.map (some b15)),(19,nv.v),(20,.int .i64 (nv.n:Int)),(21,.int .i64 (e:Int))] ∧   Γ'=mapL b15 .u32 (ncE cr)::blk p 55 (smC {s with now:=s.now+1} b nv rb jb gb db wb iv dv wv).toArray::BP b s.b ps::own nv 103 1 (ns.map noV)::alls ns noB::ranM rb s.ran::mapL jb .u32 (s.jobs.map joE)::mapL gb .u32 (setT s.gone)::mapL db .u32 (setT s.done)::imgs iv s.images::warM wb::lstM dv s.fu::lstM wv s.fu::old W::Γ) (m:=_) (⟨0,ns,[],rfl,by omega,rfl,by rw[List.take_zero,List.drop_zero];exact hF.nd,rfl,rfl⟩) ?_;rintro fz ρ' Γ' ⟨e,ns,cr,hfz,he,hcr,hns,rfl,rfl⟩;refine ZY 5 ?_
 refine Zj ef (fun h1=>?_) (fun h1=>?_)
 ·refine S.ownSome nv (by omega) fun nb nof hna _ _ _=>?_;obtain⟨x,hx⟩:=getE (show e<s.nd.length by omega);have hLx:L[e]?=some (ndTick (s.now+1) x):=by rw[hL,List.getElem?_map,hx];rfl
  have hLt:L.take (e+1)=L.take e++[ndTick (s.now+1) x]:=by rw[List.take_add_one,hLx];rfl
  have hxx:(L.take e++s.nd.drop e)[e]?=some x:=by
   rw[List.getElem?_append_right (by rw[List.length_take];omega),List.length_take,Nat.min_eq_left (by omega),Nat.sub_self,List.getElem?_drop,Nat.add_zero];exact hx
  obtain⟨q,hq⟩:=ns_at hns hxx;obtain⟨m1,m2⟩:=ns_set hq (ndTick (s.now+1) x)
  have hns2:(ns.set e (q,ndTick (s.now+1) x)).map (·.2)=L.take (e+1)++s.nd.drop (e+1):=by
   rw[m2,hns,List.set_append_right _ _ (by rw[List.length_take];omega),List.length_take,Nat.min_eq_left (by omega),Nat.sub_self,hLt,List.append_assoc]
   congr 1
   have hkl:=List.getElem?_eq_some_iff.1 hx;rw[List.drop_eq_getElem_cons hkl.1];rfl
  have ham:amB x.rk=true:=List.all_eq_true.1 hk.am x (List.mem_of_getElem? hx);have ham2:amB (ndTick (s.now+1) x).rk=true:=List.all_eq_true.1 hk.am2 _ (by rw[←hL];exact List.mem_of_getElem? hLx);have hcr2:crOf (L.take (e+1))=crStep cr (ndTick (s.now+1) x):=by rw[hLt,crOf_snoc,hcr]
  have hcrl:∀id,nLook id cr≤1000:=fun id=>by
   rw[nLook,hcr,(cr_get _).2]
   split
   ·have:cntOf (L.take e) id≤(L.take e).length:=List.length_filter_le _ _;rw[List.length_take]at this;have:=hk.tk.fu;show cntOf (L.take e) id≤1000;have:=hk.n16;omega
   ·exact Nat.zero_le _
  refine S.conv (alls ns noB) (Ent.allsAt noB hq _) ?_;refine ZY 5 ?_;refine Zv (Zx (e) ef (hna) ef (by omega)) ?_;refine Zv (Zo (nv) (e) ef (hna) (by rw[List.getElem?_map,hq];rfl)) ?_;refine ZY 8 ?_;refine Zy ?_;refine Zp (Zc1 Ze (ntick_S q x (s.now+1) ham) ?_);rintro v Θ rfl;refine ZY 4 ?_;refine Zp (Zcp Ze (running_S q (ndTick (s.now+1) x) ham2) ?_);obtain⟨j0,hj0⟩:∃j0,j0=runOf (ndTick (s.now+1) x).rk:=⟨_,rfl⟩;rw[←hj0];refine S.conv3 (NI q (ndTick (s.now+1) x)) (alls (ns.take e) noB) (alls (ns.drop (e+1)) noB) (Ent.allsBack noB (x':=((q,ndTick (s.now+1) x):No)) hq _) ?_;rw[←m1];refine ZY 7 ?_
  refine Zj ef (fun h2=>?_) (fun h2=>?_)
  ·have hcr3:crStep cr (ndTick (s.now+1) x)=nPut j0 (nLook j0 cr+1) cr:=by rw[crStep,←hj0,if_pos (by omega)]
   have hlo:=hcrl j0;obtain⟨c0,hc0⟩:∃c0,c0=nLook j0 cr:=⟨_,rfl⟩;rw[←hc0]at hcr3 hlo;refine ZY 3 ?_;refine Zv (q_lookup1 (.int .i64 (c0:Int)) Tryz.underlying44 Tryz.underlying31 Tryz.zv3.h rfl rfl rfl (by rw[nc_get,hc0,nLook];cases nGet j0 cr <;> rfl)) ?_;refine Zv (Za ef ef) ?_;refine Zp (S.mapUpdate Tryz.underlying44 Tryz.underlying31 rfl rfl rfl rfl ?_);rw[show ((c0:Int)+1)=((c0+1:Nat):Int) by omega,nc_put];refine ZY 2 ?_;refine S.mapAs b15 (ncE (crOf (L.take (e+1)))) (by rw[hcr2,hcr3]) ?_;refine Zv (Za ef ef) ?_;refine ZY 2 ?_;exact ZX (fz-1) (⟨e+1,ns.set e (q,ndTick (s.now+1) x),crOf (L.take (e+1)),by omega,by omega,rfl,hns2,rfl,rfl⟩) (by omega)
  ·have hcr3:crStep cr (ndTick (s.now+1) x)=cr:=by rw[crStep,←hj0,if_neg (by omega)]
   refine ZY 2 ?_;refine S.mapAs b15 (ncE (crOf (L.take (e+1)))) (by rw[hcr2,hcr3]) ?_;refine Zv (Za ef ef) ?_;refine ZY 2 ?_;exact ZX (fz-1) (⟨e+1,ns.set e (q,ndTick (s.now+1) x),crOf (L.take (e+1)),by omega,by omega,rfl,hns2,rfl,rfl⟩) (by omega)
 ·rw[show L.take e=L by rw[show e=L.length by omega,List.take_length],show s.nd.drop e=[] by rw[show e=s.nd.length by omega,List.drop_length],List.append_nil]at hns;rw[show L.take e=L by rw[show e=L.length by omega,List.take_length]]at hcr;obtain⟨CR,hCR⟩:∃CR,CR=cr:=⟨_,rfl⟩;rw[←hCR]at hcr ⊢;have hCR:=hcr;obtain⟨hcn,hcg⟩:=cr_get L;rw[←hCR]at hcn hcg;refine S.conv (ranM rb s.ran) (Ent.ranG (g:=fun id=>nLook id s.ran) (fun _=>rfl) _) ?_;refine ZY 5 ?_;refine Zp (S.range Tryz.underlying44 rfl rfl ?_);intro r41;refine ZY 2 ?_;refine Zl (fun fz ρ' Γ'=>∃(left:List (Int×Value)) (cur:Option (Int×Value)) (jl:List (Nat×Nat)) (g:Nat→Nat),fz=left.length∧left=ncE jl∧(∀y∈jl,y∈CR)∧(keys jl).Nodup∧(∀id,g id=if id∈keys jl then nLook id s.ran else ranN s L id)∧ρ'=[(0,pt p),(41,.pointer (some ⟨r41,0,none⟩))] ∧   Γ'=rngM r41 b15 .u32 (ncE CR) left cur::blk p 55 (smC {s with now:=s.now+1} b nv rb jb gb db wb iv dv wv).toArray::BP b s.b ps::own nv 103 1 (ns.map noV)::alls ns noB::ranG rb g::mapL jb .u32 (s.jobs.map joE)::mapL gb .u32 (setT s.gone)::mapL db .u32 (setT s.done)::imgs iv s.images::warM wb::lstM dv s.fu::lstM wv s.fu::old W::Γ) (m:=_) (⟨ncE CR,none,CR,fun id=>nLook id s.ran,rfl,rfl,fun y hy=>hy,hcn,fun id=>by by_cases hi:id∈keys CR;(rw[if_pos hi]);(rw[if_neg hi,ranN,hit_no (by rw[←hCR];exact hi)];rfl),rfl,rfl⟩) ?_;rintro fz ρ' Γ' ⟨left,cur,jl,g,hfz,hleft,hsub,hjn2,hg,rfl,rfl⟩;refine ZY 2 ?_
  refine Zp (S.nextR rfl rfl (fun hl42=>?_) (fun i42 z42 v42 hi42=>?_))
  ·obtain rfl:jl=[]:=by
    rw[hl42]at hleft;exact List.map_eq_nil_iff.1 hleft.symm
   refine S.conv (ranG rb g) (Ent.ranU (f:=ranR s L) (fun id=>by rw[hg,if_neg (by simp),ranR_look s L hjn]) _) ?_;obtain⟨s3,hs3⟩:∃s3:Sm,s3={s with now:=s.now+1,ran:=ranR s L,b:=(tickR s.b (s.now+1)).2,nd:=stNd s,ok:=s.ok&&stB s}:=⟨_,rfl⟩;have hT:stickR s=takeR s3:=by rw[stickR_eq,hs3,hL]
   have hstn:stNd s=if (tickR s.b (s.now+1)).1≠0 then setWrong L else L:=by rw[hL]
   refine S.bpOk b s.b ps fun hok=>?_;obtain⟨_,hto⟩:=tick_after hok hk.ws (now:=s.now+1) hk.now;have htb:=Sm3.tick s.b (s.now+1);have htbi:=htb.im;have htbd:=htb.dn;have ho7:=hk.o7
   have hqL:qLe (stNd s) s.fu:=by
    rw[hstn]
    split
    ·rw[hL];exact(hk.tk.q.tick _).wrong
    ·rw[hL];exact hk.tk.q.tick _
   have hlL:(stNd s).length=s.cn:=by
    rw[hstn]
    split
    ·rw[setWrong_len,hLl]
    ·exact hLl
   have hk3:TkOk s3:=by
    rw[hs3];exact⟨hlL,hn1,hqL,hk.tk.im,hk.tk.fu,by show (tickR s.b (s.now+1)).2.orders.length≤_;omega,by show (tickR s.b (s.now+1)).2.images.length≤_;omega,by show (tickR s.b (s.now+1)).2.done.length≤_;omega⟩
   refine ZY 7 ?_;refine Zd ([blk p 55 (smC {s with now:=s.now+1} b nv rb jb gb db wb iv dv wv).toArray]) [] (Zra 0 8) ?_;refine ZY 8 ?_;refine Z1 (i:=8) ef ef ?_;refine  (Zcp Ze (Tick_S b s.b ps (s.now+1) hk.now hk.ws hk.o7 hW) ?_);refine Zk [9] ?_;refine Zy ?_;refine ZD ?_
   refine Zj ef (fun h5=>?_) (fun h5=>?_)
   ·rw[if_pos h5]at hstn;refine S.ownSome nv (by omega) fun nb nof hna _ _ _=>?_;obtain⟨x0,hx0⟩:=getE (show 0<L.length by omega);obtain⟨q0,hq0⟩:=ns_at hns hx0;have hsw:setWrong L=L.set 0 {x0 with wrong:=true}:=setWrong_set hx0;obtain⟨m1,m2⟩:=ns_set hq0 {x0 with wrong:=true};rw[hns]at m2;refine ZY 5 ?_;refine Zv (Zx (0) ef (hna) ef (by omega)) ?_;refine Zv (Zo (nv) (0) ef (hna) (by rw[List.getElem?_map,hq0];rfl)) ?_;refine S.conv (alls ns noB) (Ent.allsAt noB hq0 _) ?_;refine S.niOpen q0 x0 fun nrb niv nov rs os hN=>?_;refine ZY 4 ?_;refine S.niClose q0 {x0 with wrong:=true} nrb niv nov rs os ⟨hN.rk,hN.os,hN.i,hN.o⟩ ?_;refine S.conv3 (noB ((q0,{x0 with wrong:=true}):No)) (alls (ns.take 0) noB) (alls (ns.drop (0+1)) noB) (Ent.allsBack noB (x':=((q0,{x0 with wrong:=true}):No)) hq0 _) ?_;rw[←m1];refine S.sub (smX p s3 b ps nv (ns.set 0 (q0,{x0 with wrong:=true})) rb jb gb db wb iv dv wv (old W::Γ)) (e:=by subst hs3;infer_instance) ?_;refine S.spClose p s3 b ps nv (ns.set 0 (q0,{x0 with wrong:=true})) rb jb gb db wb iv dv wv ⟨by rw[hs3];show _=stNd s;rw[m2,hstn,hsw],by rw[hs3];show nv.n=(stNd s).length;omega,by rw[hs3];exact hF.im⟩ ?_;refine ZY 2 ?_;refine Zp (Zc1 Ze (take_S p s3 hk3) ?_);rintro v Θ rfl;refine Zy ?_;exact Zfn ef Zq (by rw[hT])
   ·rw[if_neg h5]at hstn;refine Zy ?_;refine S.sub (smX p s3 b ps nv ns rb jb gb db wb iv dv wv (old W::Γ)) (e:=by subst hs3;infer_instance) ?_;refine S.spClose p s3 b ps nv ns rb jb gb db wb iv dv wv ⟨by rw[hs3];show _=stNd s;rw[hns,hstn],by rw[hs3];show nv.n=(stNd s).length;omega,by rw[hs3];exact hF.im⟩ ?_;refine ZY 2 ?_;refine Zp (Zc1 Ze (take_S p s3 hk3) ?_);rintro v Θ rfl;refine Zy ?_;exact Zfn ef Zq (by rw[hT])
  ·obtain⟨x,hx,hxe⟩:∃x,jl[i42]?=some x∧((x.1:Int),Value.int .i64 (x.2:Int))=(z42,v42):=by
    rw[hleft,List.getElem?_map]at hi42;exact Option.map_eq_some_iff.1 hi42
   simp only[Prod.mk.injEq]at hxe;obtain⟨rfl,rfl⟩:=hxe;have hxm:=List.mem_of_getElem? hx;have hgx:=nGet_of_mem (k:=x.1) (v:=x.2) hcn (hsub x hxm);rw[hcg]at hgx
   obtain⟨hx0,hxc,hxk⟩:x.1≠0∧0<cntOf L x.1∧cntOf L x.1=x.2:=by
    split at hgx
    ·rename_i h;exact⟨h.1,h.2,Option.some.inj hgx⟩
    ·cases hgx
   have hlen2:(left.eraseIdx i42).length<fz:=by
    rw[hfz,List.length_eraseIdx_of_lt (by have:=(List.getElem?_eq_some_iff.1 hi42).1;exact this)];have:=(List.getElem?_eq_some_iff.1 hi42).1;omega
   have hle:(left.eraseIdx i42)=ncE (jl.eraseIdx i42):=by rw[hleft];exact(map_eraseIdx' _ jl i42).symm
   have hsub2:∀y∈jl.eraseIdx i42,y∈CR:=fun y hy=>hsub y (List.mem_of_mem_eraseIdx hy);have hpe:=perm_erase hx;have hjn3:(x.1::keys (jl.eraseIdx i42)).Nodup:=(hpe.map Prod.fst).nodup_iff.1 hjn2;rw[List.nodup_cons]at hjn3;have hkm:∀id,id∈keys jl↔id=x.1∨id∈keys (jl.eraseIdx i42):=fun id=>((hpe.map Prod.fst).mem_iff).trans List.mem_cons;have hgo:g x.1=nLook x.1 s.ran:=by rw[hg,if_pos ((hkm _).2 (.inl rfl))]
   have hrn:=hk.rn x.1;refine ZY 8 ?_;refine Zv (q_entryR rfl) ?_;refine ZY 6 ?_
   rcases hj:jobOf s.jobs x.1 with _ | j
   ·have hhit:hit s L x.1=false:=by rw[hit,hj]
    refine ZY 7 ?_;refine Zv (q_lookup1 (.agg #[.int .u32 0,.int .u8 0,.int .i64 0,.int .i64 0,.int .u8 0,.int .i64 0]) Tryz.underlying49 Tryz.underlying31 Tryz.zv35.h rfl rfl rfl (by rw[jo_get,hj];rfl)) ?_;refine ZY 3 ?_
    refine Zj ef (fun h4=>?_) (fun h4=>?_)
    ·exact absurd h4 (by omega)
    ·have hhit:hit s L x.1=false:=by
      first
       | exact hhit
       | (rw[hit,hj];show ranB L j=false;rw[ranB,hjid,decide_eq_false (show ¬cntOf L x.1=j.k by omega),Bool.and_false];rfl)
     have hg2:∀id,g id=if id∈keys (jl.eraseIdx i42) then nLook id s.ran else ranN s L id:=fun id=>by
      rw[hg]
      by_cases hi:id=x.1
      ·rw[if_pos ((hkm id).2 (.inl hi)),if_neg (by rw[hi];exact hjn3.1),ranN,hi,hhit];rfl
      ·by_cases h9:id∈keys (jl.eraseIdx i42)
       ·rw[if_pos h9,if_pos ((hkm id).2 (.inr h9))]
       ·rw[if_neg h9,if_neg (fun h=>by rcases (hkm id).1 h with h | h;exact hi h;exact h9 h)]
     refine Zy ?_;first | exact ZX (left.eraseIdx i42).length ⟨left.eraseIdx i42,some ((x.1:Int),Value.int .i64 (x.2:Int)),jl.eraseIdx i42,fun id=>if id=x.1 then g0+1 else g id,rfl,hle,hsub2,hjn3.2,hg2,rfl,rfl⟩ hlen2 | exact ZX (left.eraseIdx i42).length ⟨left.eraseIdx i42,some ((x.1:Int),Value.int .i64 (x.2:Int)),jl.eraseIdx i42,g,rfl,hle,hsub2,hjn3.2,hg2,rfl,rfl⟩ hlen2
   ·have hjid:j.id=x.1:=by have h9:=List.find?_some hj;exact of_decide_eq_true h9
    refine ZY 7 ?_;refine Zv (q_lookup1 (.agg (joC j).toArray) Tryz.underlying49 Tryz.underlying31 Tryz.zv35.h rfl rfl rfl (by rw[jo_get,hj];rfl)) ?_;refine ZY 3 ?_
    refine Zj ef (fun h4=>?_) (fun h4=>?_)
    ·have hhit:hit s L x.1=true:=by rw[hit,hj];simp only[ranB,hjid,Bool.and_eq_true,decide_eq_true_eq];exact⟨⟨hx0,by omega⟩,hxc⟩
     refine S.ranOpen rb g fun lst hlst=>?_;obtain⟨g0,hg0⟩:∃g0,g0=g x.1:=⟨_,rfl⟩;have hl0:=hlst x.1;rw[←hg0]at hl0 hgo;refine ZY 6 ?_;refine Zv (q_lookup1 (.int .i64 (g0:Int)) Tryz.underlying44 Tryz.underlying31 Tryz.zv3.h rfl rfl rfl (hl0.symm)) ?_;refine Zv (Za ef ef) ?_;refine Zp (S.mapUpdate Tryz.underlying44 Tryz.underlying31 rfl rfl rfl rfl ?_);refine Zy ?_
     refine S.conv (mapL rb .u32 (alPut (x.1:Int) (.int .i64 ((g0:Int)+1)) lst)) (Ent.ranClose (g:=fun id=>if id=x.1 then g0+1 else g id) (fun id=>by
      rw[alGet_putI]
      by_cases hi:id=x.1
      ·rw[if_pos (by omega),if_pos hi];show Value.int .i64 ((g0:Int)+1)=_;congr 1
      ·rw[if_neg (by omega),if_neg hi];exact hlst id) _) ?_
     have hg2:∀id,(fun id=>if id=x.1 then g0+1 else g id) id=if id∈keys (jl.eraseIdx i42) then nLook id s.ran else ranN s L id:=fun id=>by
      show (if id=x.1 then g0+1 else g id)=_
      by_cases hi:id=x.1
      ·rw[if_pos hi,if_neg (by rw[hi];exact hjn3.1),ranN,hi,hhit,hgo];rfl
      ·rw[if_neg hi,hg]
       by_cases h9:id∈keys (jl.eraseIdx i42)
       ·rw[if_pos h9,if_pos ((hkm id).2 (.inr h9))]
       ·rw[if_neg h9,if_neg (fun h=>by rcases (hkm id).1 h with h | h;exact hi h;exact h9 h)]
     first | exact ZX (left.eraseIdx i42).length ⟨left.eraseIdx i42,some ((x.1:Int),Value.int .i64 (x.2:Int)),jl.eraseIdx i42,fun id=>if id=x.1 then g0+1 else g id,rfl,hle,hsub2,hjn3.2,hg2,rfl,rfl⟩ hlen2 | exact ZX (left.eraseIdx i42).length ⟨left.eraseIdx i42,some ((x.1:Int),Value.int .i64 (x.2:Int)),jl.eraseIdx i42,g,rfl,hle,hsub2,hjn3.2,hg2,rfl,rfl⟩ hlen2
    ·have hhit:hit s L x.1=false:=by
      first
       | exact hhit
       | (rw[hit,hj];show ranB L j=false;rw[ranB,hjid,decide_eq_false (show ¬cntOf L x.1=j.k by omega),Bool.and_false];rfl)
     have hg2:∀id,g id=if id∈keys (jl.eraseIdx i42) then nLook id s.ran else ranN s L id:=fun id=>by
      rw[hg]
      by_cases hi:id=x.1
      ·rw[if_pos ((hkm id).2 (.inl hi)),if_neg (by rw[hi];exact hjn3.1),ranN,hi,hhit];rfl
      ·by_cases h9:id∈keys (jl.eraseIdx i42)
       ·rw[if_pos h9,if_pos ((hkm id).2 (.inr h9))]
       ·rw[if_neg h9,if_neg (fun h=>by rcases (hkm id).1 h with h | h;exact hi h;exact h9 h)]
     refine Zy ?_;first | exact ZX (left.eraseIdx i42).length ⟨left.eraseIdx i42,some ((x.1:Int),Value.int .i64 (x.2:Int)),jl.eraseIdx i42,fun id=>if id=x.1 then g0+1 else g id,rfl,hle,hsub2,hjn3.2,hg2,rfl,rfl⟩ hlen2 | exact ZX (left.eraseIdx i42).length ⟨left.eraseIdx i42,some ((x.1:Int),Value.int .i64 (x.2:Int)),jl.eraseIdx i42,g,rfl,hle,hsub2,hjn3.2,hg2,rfl,rfl⟩ hlen2
theorem tkB_ok {s:Sm} (h:tkB s=true):TkOk s:=by
 simp only[tkB,Bool.and_eq_true,decide_eq_true_eq,List.all_eq_true]at h;obtain⟨⟨⟨⟨⟨⟨⟨h1,h2⟩,h3⟩,h4⟩,h5⟩,h6⟩,h7⟩,h8⟩:=h;exact⟨h1,h2,h3,h4,h5,h6,h7,h8⟩
theorem nLook_le {l:List (Nat×Nat)} {k:Nat} (h:∀x∈l,x.2≤k) (id:Nat):nLook id l≤k:=by
 unfold nLook;cases hg:nGet id l with
 | none=>exact Nat.zero_le _
 | some v=>exact h _ (nGet_mem hg)
theorem stB_ok {s:Sm} (h:stB s=true):StOk s:=by
 simp only[stB,Bool.and_eq_true,decide_eq_true_eq]at h;obtain⟨⟨⟨⟨⟨⟨⟨h1,h2⟩,h3⟩,h4⟩,h5⟩,h6⟩,h7⟩,h8⟩:=h;refine⟨tkB_ok h1,h2,h3,h4,fun x hx h0=>?_,h6,h7,fun id=>nLook_le (fun x hx=>of_decide_eq_true (List.all_eq_true.1 h8 x hx)) id⟩;have:=List.all_eq_true.1 h5 x hx;rw[Bool.or_eq_true,decide_eq_true_eq]at this
 rcases this with h9 | h9
 ·exact absurd h0 h9
 ·exact Option.isNone_iff_eq_none.1 h9
section
variable {s:Sm} {i:Nat} {n:Nd}
theorem dv_down {back:Bool} (h:s.nd[i]?=some n) (hu:n.up=false):deliverR s i back=(false,s):=by rw[deliverR,h];dsimp only;rw[if_pos hu]
theorem dv_back0 (h:s.nd[i]?=some n) (ho:n.out=[]):deliverR s i true=(false,s):=by
 rw[deliverR,h];dsimp only;rw[ho];split <;> rfl
theorem dv_back {x:Nt×List Int} {l:List (Nt×List Int)} (h:s.nd[i]?=some n) (hu:¬n.up=false) (ho:n.out=x::l):deliverR s i true=(true,takeR {hear1 s i n x l with ok:=s.ok&&ntB x&&tkB s&&decide (s.b.orders.length≤800000)&&decide (s.b.images.length≤800000)&&tkB (hear1 s i n x l)}):=by rw[deliverR,h];dsimp only;rw[if_neg hu,if_pos rfl,ho]
theorem dv_in0 (h:s.nd[i]?=some n) (ho:n.inn=[]):deliverR s i false=(false,s):=by
 rw[deliverR,h];dsimp only;rw[ho];split <;> rfl
theorem dv_in {x:Nt} {l:List Nt} (h:s.nd[i]?=some n) (hu:¬n.up=false) (ho:n.inn=x::l):deliverR s i false=(true,{act1 s i n x l with ok:=s.ok&&amB n.rk&&tkB s}):=by rw[deliverR,h];dsimp only;rw[if_neg hu,if_neg (by decide),ho]
end
theorem TkOk.withOk {s:Sm} (h:TkOk s) (o:Bool):TkOk {s with ok:=o}:=⟨h.len,h.n1,h.q,h.im,h.fu,h.o,h.i,h.d⟩
theorem takeR_ok (s:Sm):(takeR s).ok=s.ok:=rfl
set_option maxHeartbeats 8000000 in
theorem deliver_S (p:Nat) (s:Sm) (i:Nat) (back:Bool) (hi:i<s.nd.length) (hok:(deliverR s i back).2.ok=true):Spec Tryz.prog 57 [pt p,.int .i64 (i:Int),.bool back] [SP p s] fun Γ v Θ=>v=.bool (deliverR s i back).1∧Θ=SP p (deliverR s i back).2::Γ:=by
 obtain⟨n,hn⟩:=getE hi;refine Zbd Tryz.func57 rfl Tryz.ntmps57 fun w0 Γ=>Zsh ?_;refine S.spOpen p s fun b ps nv ns rb jb gb db wb iv dv wv hF=>?_;have hnn:=hF.nn;refine S.ownSome nv (by omega) fun nb nof hna _ _ _=>?_;obtain⟨q,hq⟩:=ns_at hF.nd hn;refine S.conv (alls ns noB) (Ent.allsAt noB hq _) ?_;refine S.niOpen q n fun nrb niv nov rs os hN=>?_;have hNi:=hN.i;have hNo:=hN.o;refine ZY 5 ?_
 cases back
 ·skip
  refine ZY 6 ?_;refine Zv (Zx (i) ef (hna) ef (by omega)) ?_;refine Zv (Zo (nv) (i) ef (hna) (by rw[List.getElem?_map,hq];rfl)) ?_;refine ZY 8 ?_;refine ZY 3 ?_
  refine Zi ef (fun h1=>?_) (fun h1=>?_)
  ·have hd:=dv_down (back:=false) hn (by simpa using h1);refine ZY 5 ?_;refine S.niClose q n nrb niv nov rs os hN ?_;refine S.conv3 (noB ((q,n):No)) (alls (ns.take i) noB) (alls (ns.drop (i+1)) noB) (Ent.allsBack' noB hq _) ?_;refine S.spClose p s b ps nv ns rb jb gb db wb iv dv wv hF ?_;exact Zf ef Zq (⟨by rw[hd];rfl,by rw[hd]⟩)
  ·have hup:¬n.up=false:=by simpa using h1
   refine ZY 8 ?_;refine ZY 8 ?_;refine ZY 8 ?_;refine ZY 6 ?_
   refine Zj ef (fun h3=>?_) (fun h3=>?_)
   ·obtain⟨x,l,hxl⟩:∃x l,n.inn=x::l:=by
     cases ho:n.inn with
     | nil=>exfalso;rw[ho,List.length_nil]at hNi;omega
     | cons x l=>exact⟨x,l,rfl⟩
    have hd:=dv_in hn hup hxl;rw[hd]at hok ⊢;simp only[Bool.and_eq_true]at hok;obtain⟨⟨k1,k2⟩,k3⟩:=hok;have hk:=tkB_ok k3;have hko:=(hk.q n (List.mem_of_getElem? hn)).2;have hkf:=hk.fu;have hlo:1≤niv.n:=by rw[hxl,List.length_cons]at hNi;omega
    refine S.conv (own niv 72 13 (n.inn.flatMap niC)) (show Ent _ (own niv 72 13 ((x::l).flatMap niC)::_) by rw[hxl];exact Ent.refl _) ?_;refine S.ownSome niv (by omega) fun ob oof hoa _ _ _=>?_;obtain⟨s3,hs3⟩:∃s3:Sm,s3={act1 s i n x l with ok:=s.ok&&amB n.rk&&tkB s}:=⟨_,rfl⟩;rw[←hs3];obtain⟨m1,m2⟩:=ns_set hq (actR {n with inn:=l} x);rw[hF.nd]at m2;refine ZY 6 ?_;refine Zv (Zx (0) ef (hoa) ef (by omega)) ?_;refine Zv (q_loadOwS (niv) (0*13) [_,_,_,_,_,_,_,_,_,_,_,_,_] Eo.h rfl hoa (by first | rfl | exact Nat.add_assoc _ _ _ | omega) rfl (flat_seg (enc:=niC) (sz:=13) (fun _=>rfl) (show (x::l)[0]?=some x from rfl))) ?_;refine Zp (S.alloc Tryz.z72.h rfl ?_);intro b9;refine Zp (Zs ef ef (cs':=[_,_,_,_,_,_,_,_,_,_,_,_,_]) ef ?_);refine ZY 8 ?_;refine Zp (S.sliceDrop (s:=niv) (1) Eo.h rfl rfl rfl (hlo) rfl ?_);intro niv2 hniv2;rw[show ((x::l).flatMap niC).drop (1*13)=l.flatMap niC from List.drop_left' rfl];refine ZY 8 ?_;refine S.niClose q {n with inn:=l} nrb niv2 nov rs os ⟨hN.rk,hN.os,by rw[hxl,List.length_cons]at hNi;show niv2.n=l.length;omega,hN.o⟩ ?_;refine Zp (Zc1 Ze (act_S q {n with inn:=l} x k2 (by show n.out.length≤_;omega)) ?_);rintro v Θ rfl;refine ZY 3 ?_;refine S.conv3 (NI q (actR {n with inn:=l} x)) (alls (ns.take i) noB) (alls (ns.drop (i+1)) noB) (Ent.allsBack noB (x':=((q,actR {n with inn:=l} x):No)) hq _) ?_;rw[←m1];refine S.conv (lstM dv s.fu) (Ent.lstLe dv (k':=s.fu+1) (by omega) _) ?_;refine S.conv (lstM wv s.fu) (Ent.lstLe wv (k':=s.fu+1) (by omega) _) ?_;refine S.sub (smX p s3 b ps nv (ns.set i (q,actR {n with inn:=l} x)) rb jb gb db wb iv dv wv Γ) (e:=by subst hs3;infer_instance) ?_;refine S.spClose p s3 b ps nv (ns.set i (q,actR {n with inn:=l} x)) rb jb gb db wb iv dv wv ⟨by rw[hs3];exact m2,by rw[hs3];show nv.n=(s.nd.set i _).length;rw[List.length_set];exact hnn,by rw[hs3];exact hF.im⟩ ?_;refine ZY 3 ?_;exact Zf ef Zq (⟨rfl,rfl⟩)
   ·have hd:=dv_in0 hn (show n.inn=[] from List.eq_nil_of_length_eq_zero (by omega));refine ZY 6 ?_;refine S.niClose q n nrb niv nov rs os hN ?_;refine S.conv3 (noB ((q,n):No)) (alls (ns.take i) noB) (alls (ns.drop (i+1)) noB) (Ent.allsBack' noB hq _) ?_;refine S.spClose p s b ps nv ns rb jb gb db wb iv dv wv hF ?_;exact Zf ef Zq (⟨by rw[hd];rfl,by rw[hd]⟩)
 ·skip
  refine ZY 6 ?_;refine Zv (Zx (i) ef (hna) ef (by omega)) ?_;refine Zv (Zo (nv) (i) ef (hna) (by rw[List.getElem?_map,hq];rfl)) ?_;refine ZY 8 ?_;refine ZY 3 ?_
  refine Zi ef (fun h1=>?_) (fun h1=>?_)
  ·have hd:=dv_down (back:=true) hn (by simpa using h1);refine ZY 5 ?_;refine S.niClose q n nrb niv nov rs os hN ?_;refine S.conv3 (noB ((q,n):No)) (alls (ns.take i) noB) (alls (ns.drop (i+1)) noB) (Ent.allsBack' noB hq _) ?_;refine S.spClose p s b ps nv ns rb jb gb db wb iv dv wv hF ?_;exact Zf ef Zq (⟨by rw[hd];rfl,by rw[hd]⟩)
  ·have hup:¬n.up=false:=by simpa using h1
   refine ZY 8 ?_;refine ZY 6 ?_
   refine Zj ef (fun h2=>?_) (fun h2=>?_)
   ·obtain⟨x,l,hxl⟩:∃x l,n.out=x::l:=by
     cases ho:n.out with
     | nil=>exfalso;rw[ho,List.length_nil]at hNo;omega
     | cons x l=>exact⟨x,l,rfl⟩
    obtain⟨o,os2,rfl⟩:∃o os2,os=o::os2:=by
     cases ho:os with
     | nil=>have:=hN.os;rw[ho,hxl]at this;cases this
     | cons o os2=>exact⟨o,os2,rfl⟩
    have hoo:=hN.os;rw[hxl,List.map_cons,List.cons.injEq]at hoo;obtain⟨rfl,rfl⟩:=hoo;have hd:=dv_back hn hup hxl;rw[hd]at hok ⊢;rw[takeR_ok]at hok;simp only[Bool.and_eq_true,decide_eq_true_eq]at hok;obtain⟨⟨⟨⟨⟨k1,k2⟩,k3⟩,k4⟩,k5⟩,k6⟩:=hok;have k2':=k2;simp only[ntB,Bool.and_eq_true,decide_eq_true_eq]at k2';obtain⟨⟨⟨e1,e2⟩,e3⟩,e4⟩:=k2';have hlo:1≤nov.n:=by rw[hxl,List.length_cons]at hNo;omega
    refine S.ownSome nov (by omega) fun ob oof hoa _ _ _=>?_;refine S.conv (alls (o::os2) otB) (Ent.allsUncons otB o os2 _) ?_;refine S.ownLen o.v fun hov1 hov2 hov3=>?_;rw[bcells_length,Nat.mul_one,Nat.mul_one]at hov1;obtain⟨s3,hs3⟩:∃s3:Sm,s3={hear1 s i n (otR o) (os2.map otR) with ok:=s.ok&&ntB (otR o)&&tkB s&&decide (s.b.orders.length≤800000)&&decide (s.b.images.length≤800000)&&tkB (hear1 s i n (otR o) (os2.map otR))}:=⟨_,rfl⟩;have hk3:TkOk s3:=by rw[hs3];exact(tkB_ok (s:=hear1 s i n (otR o) (os2.map otR)) k6).withOk _
    rw[←hs3];obtain⟨m1,m2⟩:=ns_set hq {n with out:=os2.map otR};rw[hF.nd]at m2;refine ZY 6 ?_;refine Zv (Zx (0) ef (hoa) ef (by omega)) ?_;refine Zv (q_loadOwS (nov) (0*13) [_,_,_,_,_,_,_,_,_,_,_,_,_] Eo.h rfl hoa (by first | rfl | exact Nat.add_assoc _ _ _ | omega) rfl (flat_seg (enc:=otC) (sz:=13) (fun _=>rfl) (show (o::os2)[0]?=some o from rfl))) ?_;refine Zp (S.alloc Tryz.z72.h rfl ?_);intro b8;refine Zp (Zs ef ef (cs':=[_,_,_,_,_,_,_,_,_,_,_,_,_]) ef ?_);refine ZY 8 ?_;refine Zp (S.sliceDrop (s:=nov) (1) Eo.h rfl rfl rfl (hlo) rfl ?_);intro nov2 hnov2;rw[show ((o::os2).flatMap otC).drop (1*13)=os2.flatMap otC from List.drop_left' (otC_len o)];refine ZY 5 ?_;refine Zd ([blk p 55 (smC s b nv rb jb gb db wb iv dv wv).toArray,blk b8 72 (otC o).toArray]) [] (Zra 0 6) ?_;refine ZY 6 ?_;refine Z1 (i:=6) ef ef ?_;refine  (Zcp Ze (Hear_S b s.b ps i o.x (otB o) o.v o.bs hov1.symm e4 RdS.own ⟨e2,e3⟩ e1 (by omega) (by omega)) ?_);refine Zk [] ?_;refine ZD ?_;refine ZY 3 ?_;refine S.niClose q {n with out:=os2.map otR} nrb niv nov2 rs os2 ⟨hN.rk,rfl,hN.i,by rw[hxl,List.length_cons]at hNo;show nov2.n=(os2.map otR).length;omega⟩ ?_;refine S.conv3 (noB ((q,{n with out:=os2.map otR}):No)) (alls (ns.take i) noB) (alls (ns.drop (i+1)) noB) (Ent.allsBack noB (x':=((q,{n with out:=os2.map otR}):No)) hq _) ?_;rw[←m1];refine S.sub (smX p s3 b ps nv (ns.set i (q,{n with out:=os2.map otR})) rb jb gb db wb iv dv wv Γ) (e:=by subst hs3;infer_instance) ?_;refine S.spClose p s3 b ps nv (ns.set i (q,{n with out:=os2.map otR})) rb jb gb db wb iv dv wv ⟨by rw[hs3];exact m2,by rw[hs3];show nv.n=(s.nd.set i _).length;rw[List.length_set];exact hnn,by rw[hs3];exact hF.im⟩ ?_;refine Zp (Zc1 Ze (take_S p s3 hk3) ?_);rintro v Θ rfl;refine ZY 6 ?_;exact Zf ef Zq (⟨rfl,rfl⟩)
   ·have hd:=dv_back0 hn (show n.out=[] from List.eq_nil_of_length_eq_zero (by omega));refine ZY 8 ?_;refine ZY 8 ?_;refine ZY 6 ?_;refine S.niClose q n nrb niv nov rs os hN ?_;refine S.conv3 (noB ((q,n):No)) (alls (ns.take i) noB) (alls (ns.drop (i+1)) noB) (Ent.allsBack' noB hq _) ?_;refine S.spClose p s b ps nv ns rb jb gb db wb iv dv wv hF ?_;exact Zf ef Zq (⟨by rw[hd];rfl,by rw[hd]⟩)
theorem pb_nil {s:Sm} {ok:Bool} (h:s.images=[]):publishR s ok=(false,s):=by rw[publishR,h]
theorem pb_cons {s:Sm} {ok:Bool} {x:Im} {l:List Im} (h:s.images=x::l):publishR s ok=(true,takeR {pub1 s x l ok with ok:=s.ok&&tkB s&&decide (s.b.orders.length≤800000)&&decide (s.b.done.length≤800000)&&tkB (pub1 s x l ok)}):=by rw[publishR,h]
set_option maxHeartbeats 4000000 in
theorem publish_S (p:Nat) (s:Sm) (ok:Bool) (hok:(publishR s ok).2.ok=true):Spec Tryz.prog 58 [pt p,.bool ok] [SP p s] fun Γ v Θ=>v=.bool (publishR s ok).1∧Θ=SP p (publishR s ok).2::Γ:=by
 refine Zbd Tryz.func58 rfl Tryz.ntmps58 fun w0 Γ=>Zsh ?_;refine S.spOpen p s fun b ps nv ns rb jb gb db wb iv dv wv hF=>?_;have him:=hF.im;refine ZY 8 ?_;refine ZY 6 ?_
 refine Zj ef (fun h1=>?_) (fun h1=>?_)
 ·have hd:=pb_nil (ok:=ok) (show s.images=[] from List.eq_nil_of_length_eq_zero (by omega));refine ZY 5 ?_;refine S.spClose p s b ps nv ns rb jb gb db wb iv dv wv hF ?_;exact Zf ef Zq (⟨by rw[hd];rfl,by rw[hd]⟩)
 ·obtain⟨x,l,hxl⟩:∃x l,s.images=x::l:=by
   cases ho:s.images with
   | nil=>exfalso;rw[ho,List.length_nil]at him;omega
   | cons x l=>exact⟨x,l,rfl⟩
  have hd:=pb_cons (ok:=ok) hxl;rw[hd]at hok;rw[takeR_ok]at hok;simp only[Bool.and_eq_true,decide_eq_true_eq]at hok;obtain⟨⟨⟨⟨k1,k2⟩,k3⟩,k4⟩,k5⟩:=hok;obtain⟨s3,hs3⟩:∃s3:Sm,s3={pub1 s x l ok with ok:=s.ok&&tkB s&&decide (s.b.orders.length≤800000)&&decide (s.b.done.length≤800000)&&tkB (pub1 s x l ok)}:=⟨_,rfl⟩;have hk3:TkOk s3:=by rw[hs3];exact(tkB_ok (s:=pub1 s x l ok) k5).withOk _
  rw[←hs3]at hd;refine S.imgsOpen iv s.images fun io hio=>?_
  obtain⟨o,io2,rfl⟩:∃o io2,io=o::io2:=by
   cases ho:io with
   | nil=>rw[ho,hxl]at hio;cases hio
   | cons o io2=>exact⟨o,io2,rfl⟩
  rw[hxl,List.map_cons,List.cons.injEq]at hio;obtain⟨rfl,rfl⟩:=hio;have hlo:1≤iv.n:=by rw[hxl,List.length_cons]at him;omega
  refine S.ownSome iv (by omega) fun ob oof hoa _ _ _=>?_;refine ZY 7 ?_;refine Zv (Zx (0) ef (hoa) ef (by omega)) ?_;refine Zv (q_loadOwS (iv) (0*4) [_,_,_,_] Eo.h rfl hoa (by first | rfl | exact Nat.add_assoc _ _ _ | omega) rfl (flat_seg (enc:=igC) (sz:=4) (fun _=>rfl) (show (o::io2)[0]?=some o from rfl))) ?_;refine Zp (S.alloc Tryz.z60.h rfl ?_);intro b5;refine Zp (Zs ef ef (cs':=[_,_,_,_]) ef ?_);refine ZY 8 ?_;refine Zp (S.sliceDrop (s:=iv) (1) Eo.h rfl rfl rfl (hlo) rfl ?_);intro iv2 hiv2;rw[show ((o::io2).flatMap igC).drop (1*4)=io2.flatMap igC from List.drop_left' rfl];refine ZY 5 ?_;refine Zd ([blk p 55 (smC s b nv rb jb gb db wb iv2 dv wv).toArray,blk b5 60 (igC o).toArray]) [] (Zra 0 9) ?_;refine ZY 8 ?_;refine Zy ?_;refine Z1 (i:=9) ef ef ?_;refine  (Zcp Ze (Published_S b s.b ps o.2.job o.2.ver ok (by omega) (by omega)) ?_);refine Zk [] ?_;refine ZD ?_;refine ZY 3 ?_;refine S.conv (alls (o::io2) igB) ((Ent.allsUncons igB o io2 _).trans (Ent.drop _ _)) ?_;refine S.conv2 (own iv2 60 4 (io2.flatMap igC)) (alls io2 igB) (Ent.toImgs iv2 io2 _) ?_;refine S.sub (smX p s3 b ps nv ns rb jb gb db wb iv2 dv wv Γ) (e:=by subst hs3;infer_instance) ?_;refine S.spClose p s3 b ps nv ns rb jb gb db wb iv2 dv wv ⟨by rw[hs3];exact hF.nd,by rw[hs3];exact hF.nn,by rw[hs3];rw[hxl,List.length_cons]at him;show iv2.n=(io2.map _).length;omega⟩ ?_;refine Zp (Zc1 Ze (take_S p s3 hk3) ?_);rintro v Θ rfl;refine ZY 6 ?_;exact Zf ef Zq (⟨by rw[hd];rfl,by rw[hd]⟩)
theorem deliver_ok {s:Sm} {i:Nat} {back:Bool} (h:(deliverR s i back).2.ok=true):s.ok=true:=by
 cases hn:s.nd[i]? with
 | none=>rw[deliverR,hn]at h;exact h
 | some n=>
  by_cases hu:n.up=false
  ·rw[dv_down hn hu]at h;exact h
  ·cases back with
   | true=>
    cases ho:n.out with
    | nil=>rw[dv_back0 hn ho]at h;exact h
    | cons x l=>
     rw[dv_back hn hu ho,takeR_ok]at h;simp only[Bool.and_eq_true]at h;exact h.1.1.1.1.1
   | false=>
    cases ho:n.inn with
    | nil=>rw[dv_in0 hn ho]at h;exact h
    | cons x l=>
     rw[dv_in hn hu ho]at h;simp only[Bool.and_eq_true]at h;exact h.1.1
theorem publish_ok {s:Sm} {o:Bool} (h:(publishR s o).2.ok=true):s.ok=true:=by
 cases hi:s.images with
 | nil=>rw[pb_nil hi]at h;exact h
 | cons x l=>
  rw[pb_cons hi,takeR_ok]at h;simp only[Bool.and_eq_true]at h;exact h.1.1.1.1
theorem roundUp_ok {s:Sm} {o:Bool}:∀ {i:Nat},(roundUp s o i).2.ok=true→s.ok=true
 | 0,h=>h
 | _+1,h=>roundUp_ok (deliver_ok (deliver_ok h))
theorem calmUp_ok:∀ {k:Nat} {s:Sm},(calmUp s k).ok=true→s.ok=true
 | 0,_,h=>h
 | k+1,s,h=>by
  simp only[calmUp]at h
  split at h
  ·exact publish_ok (roundUp_ok (calmUp_ok h))
  ·exact publish_ok (roundUp_ok h)
theorem stick_ok {s:Sm} (h:(stickR s).ok=true):s.ok=true∧stB s=true:=by
 rw[stickR_eq,takeR_ok]at h
 simpa only [Bool.and_eq_true] using h
theorem takeR_len (s:Sm):(takeR s).nd.length=s.nd.length:=by
 show (List.foldl doneR (ordsR s.nd s.b.orders,s.done) s.b.done).1.length=_;rw[donesR_len,ordsR_len]
theorem deliver_len (s:Sm) (i:Nat) (back:Bool):(deliverR s i back).2.nd.length=s.nd.length:=by
 cases hn:s.nd[i]? with
 | none=>rw[deliverR,hn]
 | some n=>
  by_cases hu:n.up=false
  ·rw[dv_down hn hu]
  ·cases back with
   | true=>
    cases ho:n.out with
    | nil=>rw[dv_back0 hn ho]
    | cons x l=>rw[dv_back hn hu ho,takeR_len];exact List.length_set
   | false=>
    cases ho:n.inn with
    | nil=>rw[dv_in0 hn ho]
    | cons x l=>rw[dv_in hn hu ho];exact List.length_set
theorem roundUp_len (s:Sm) (o:Bool):∀i,(roundUp s o i).2.nd.length=s.nd.length
 | 0=>rfl
 | i+1=>by
  show (deliverR (deliverR (roundUp s o i).2 i false).2 i true).2.nd.length=_;rw[deliver_len,deliver_len,roundUp_len s o i]
theorem roundUp_le {s:Sm} {o:Bool} {i:Nat}:∀ {k:Nat},(roundUp s o (i+k)).2.ok=true→(roundUp s o i).2.ok=true
 | 0,h=>h
 | k+1,h=>roundUp_le (k:=k) (deliver_ok (deliver_ok h))
theorem calmUp_succ (s:Sm) (k:Nat):calmUp s (k+1)=if (roundUp (publishR s true).2 (publishR s true).1 (publishR s true).2.nd.length).1 then calmUp (roundUp (publishR s true).2 (publishR s true).1 (publishR s true).2.nd.length).2 k else (roundUp (publishR s true).2 (publishR s true).1 (publishR s true).2.nd.length).2:=rfl
set_option maxHeartbeats 4000000 in
theorem calm_S (p:Nat) (s:Sm) (hok:(calmR s).ok=true) {W:World} (hW:TabW W):Spec Tryz.prog 28 [pt p] [SP p s,old W] fun Γ _ Θ=>Θ=SP p (calmR s)::old W::Γ:=by
 obtain⟨k1,k2⟩:=stick_ok (calmUp_ok hok);obtain⟨T,hT⟩:∃T,T=calmR s:=⟨_,rfl⟩;rw[←hT]at hok ⊢;refine Zbd Tryz.func28 rfl Tryz.ntmps28 fun w0 Γ=>Zsh ?_;obtain⟨s0,hs0⟩:∃s0,s0=stickR s:=⟨_,rfl⟩;refine ZY 3 ?_;refine Zp (Zc1 Ze (stick_S p s (stB_ok k2) hW) ?_);rintro v Θ rfl;rw[←hs0];refine ZY 6 ?_;refine Zl (fun fz ρ' Γ'=>∃(k:Nat) (t:Sm),fz=3000-k∧k≤3000∧calmUp t fz=T∧ρ'=[(0,pt p),(2,.int .i64 (k:Int))]∧Γ'=SP p t::old W::Γ) (m:=_) (⟨0,s0,rfl,by omega,by rw[hs0];exact hT.symm,rfl,rfl⟩) ?_;rintro fz ρ' Γ' ⟨k,t,hfz,hk,ht,rfl,rfl⟩;refine ZY 6 ?_
 refine Zj ef (fun h1=>?_) (fun h1=>?_)
 ·obtain⟨fy,rfl⟩:∃fy,fz=fy+1:=⟨fz-1,by omega⟩;rw[calmUp_succ]at ht;obtain⟨t1,ht1⟩:∃t1,t1=publishR t true:=⟨_,rfl⟩;rw[←ht1]at ht
  have hro:(roundUp t1.2 t1.1 t1.2.nd.length).2.ok=true:=by
   split at ht
   ·rw[←ht]at hok;exact calmUp_ok hok
   ·rw[←ht]at hok;exact hok
  have hpo:(publishR t true).2.ok=true:=by rw[←ht1];exact roundUp_ok hro
  refine ZY 6 ?_;refine Zp (Zcp Ze (publish_S p t true hpo) ?_);rw[←ht1];refine S.spOpen p t1.2 fun b ps nv ns rb jb gb db wb iv dv wv hF=>?_;have hnn:=hF.nn;refine S.ownLen nv fun hv1 hv2 hv3=>?_;rw[List.length_map]at hv1;have hmx:maxLen≤9223372036854775807:=by unfold maxLen;omega
  refine ZY 8 ?_;refine ZY 2 ?_;refine S.spClose p t1.2 b ps nv ns rb jb gb db wb iv dv wv hF ?_;refine ZY 3 ?_;refine Zl (fun fy2 ρ' Γ'=>∃(i:Nat) (r:Bool×Sm),fy2=t1.2.nd.length-i∧i≤t1.2.nd.length∧r=roundUp t1.2 t1.1 i∧ρ'=[(0,pt p),(2,.int .i64 (k:Int)),(3,.bool r.1),(17,.int .i64 (nv.n:Int)),(18,.int .i64 (i:Int))]∧Γ'=SP p r.2::old W::Γ) (m:=_) (⟨0,t1,rfl,by omega,rfl,rfl,rfl⟩) ?_;rintro fy2 ρ' Γ' ⟨i,r,hfy2,hi,hr,rfl,rfl⟩;refine ZY 5 ?_
  refine Zj ef (fun h2=>?_) (fun h2=>?_)
  ·have hr1:roundUp t1.2 t1.1 (i+1)=((deliverR (deliverR r.2 i false).2 i true).1 || (deliverR r.2 i false).1 || r.1,(deliverR (deliverR r.2 i false).2 i true).2):=by rw[hr];rfl
   have hro1:(roundUp t1.2 t1.1 (i+1)).2.ok=true:=roundUp_le (k:=t1.2.nd.length-(i+1)) (by rw[Nat.add_sub_cancel' (by omega)];exact hro);have hil:i<r.2.nd.length:=by rw[hr,roundUp_len];omega
   obtain⟨q1,hq1⟩:∃q1,q1=deliverR r.2 i false:=⟨_,rfl⟩;rw[←hq1]at hr1;obtain⟨q2,hq2⟩:∃q2,q2=deliverR q1.2 i true:=⟨_,rfl⟩;rw[←hq2]at hr1;have hq2o:q2.2.ok=true:=by rw[hr1]at hro1;exact hro1
   have hq1o:q1.2.ok=true:=by rw[hq2]at hq2o;exact deliver_ok hq2o
   have hil1:i<q1.2.nd.length:=by rw[hq1,deliver_len];exact hil
   obtain⟨sm,hsm⟩:∃sm,sm=(q1.1 || r.1):=⟨_,rfl⟩;obtain⟨sm2,hsm2⟩:∃sm2,sm2=(q2.1 || sm):=⟨_,rfl⟩;rw[Bool.or_assoc,←hsm,←hsm2]at hr1;refine ZY 2 ?_
   refine Zc (fun ρ' Γ'=>ρ'=[(0,pt p),(2,.int .i64 (k:Int)),(3,.bool sm2),(17,.int .i64 (nv.n:Int)),(18,.int .i64 (i:Int))]∧Γ'=SP p q2.2::old W::Γ) ?_ ?_
   ·refine ZY 7 ?_
    refine Zc (fun ρ' Γ'=>ρ'=[(0,pt p),(2,.int .i64 (k:Int)),(3,.bool sm),(4,.int .i64 (i:Int)),(17,.int .i64 (nv.n:Int)),(18,.int .i64 (i:Int))]∧Γ'=SP p q1.2::old W::Γ) ?_ ?_
    ·refine ZY 3 ?_;refine Zp (Zcp Ze (deliver_S p r.2 i false hil (by rw[←hq1];exact hq1o)) ?_);rw[←hq1];refine Zy ?_
     refine Zbb 24 ef (fun hg8_3=>?_) (fun hg8_3=>?_)
     ·refine ZY 4 ?_;rw[hsm,hg8_3];exact ZM ⟨rfl,rfl⟩
     ·refine ZY 4 ?_;rw[hsm,hg8_3];exact ZM ⟨rfl,rfl⟩
    ·rintro ρ' Γ' ⟨rfl,rfl⟩;refine ZY 3 ?_;refine Zp (Zcp Ze (deliver_S p q1.2 i true hil1 (by rw[←hq2];exact hq2o)) ?_);rw[←hq2];refine Zy ?_
     refine Zbb 30 ef (fun hg9_3=>?_) (fun hg9_3=>?_)
     ·refine ZY 4 ?_;rw[hsm2,hg9_3];exact ZM ⟨rfl,rfl⟩
     ·refine ZY 4 ?_;rw[hsm2,hg9_3];exact ZM ⟨rfl,rfl⟩
   ·rintro ρ' Γ' ⟨rfl,rfl⟩;refine Zy ?_;refine Zv (Za ef ef) ?_;refine ZY 2 ?_;exact ZX (fy2-1) (⟨i+1,(sm2,q2.2),by omega,by omega,hr1.symm,rfl,rfl⟩) (by omega)
  ·rw[show i=t1.2.nd.length by omega]at hr;rw[←hr]at ht;refine ZY 6 ?_
   refine Zi ef (fun h3=>?_) (fun h3=>?_)
   ·rw[show r.1=false by simpa using h3]at ht;rw[if_neg (by decide)]at ht;refine Zy ?_;exact Zf ef Zq (by rw[←ht])
   ·rw[show r.1=true by simpa using h3,if_pos rfl]at ht;refine ZY 3 ?_;refine Zv (Za ef ef) ?_;refine ZY 2 ?_;exact ZX (fy) (⟨k+1,r.2,by omega,by omega,ht,rfl,rfl⟩) (by omega)
 ·obtain rfl:fz=0:=by omega
  replace ht:t=T:=ht;refine Zy ?_;exact Zfn ef Zq (by rw[←ht])
abbrev nd0:Nd:=⟨true,[],[],[],false⟩
theorem ran0 (b:Nat) (Γ:List Assn):Ent (mapL b .u32 []::Γ) (ranM b []::Γ):=Ent.mono1 Γ fun _ s=>⟨[],fun _=>rfl,s⟩
theorem lst0 (k:Nat) (Γ:List Assn):Ent Γ (lstM SV.nil k::Γ):=(show Ent Γ (own SV.nil 31 1 (idsV [])::Γ) from Ent.ownNil 31 1).trans (Ent.lst SV.nil (l:=[]) (Nat.zero_le _) rfl Γ)
theorem niE (p rb:Nat) (up wr:Bool) (Γ:List Assn):Ent (blk p 107 #[.bool up,.map (some rb),SV.nil.v,SV.nil.v,.bool wr]::mapL rb .u32 []::Γ) (NI p ⟨up,[],[],[],wr⟩::Γ):=by
 have h1:Ent Γ (own SV.nil 72 13 (([]:List Nt).flatMap niC)::own SV.nil 72 13 (([]:List Ot).flatMap otC)::alls ([]:List Ot) otB::Γ):=(Ent.allsNil otB Γ).trans ((Ent.ownNil 72 13).trans (Ent.ownNil 72 13));have h2:Ent (blk p 107 #[.bool up,.map (some rb),SV.nil.v,SV.nil.v,.bool wr]::mapL rb .u32 []::Γ) (ndX p ⟨up,[],[],[],wr⟩ rb SV.nil SV.nil [] [] Γ):=Ent.cons _ (Ent.cons _ ((Ent.allsNil roB Γ).trans (Ent.cons _ h1)));exact h2.trans ((Ent.pack (ndX p ⟨up,[],[],[],wr⟩ rb SV.nil SV.nil [] [] []) Γ).trans (Ent.mono1 Γ fun _ s=>⟨rb,SV.nil,SV.nil,[],[],⟨rfl,rfl,rfl,rfl⟩,s⟩))
theorem ni0 (p rb:Nat) (Γ:List Assn):Ent (blk p 107 #[.bool true,.map (some rb),SV.nil.v,SV.nil.v,.bool false]::mapL rb .u32 []::Γ) (NI p nd0::Γ):=niE p rb true false Γ
def upTo (b:Br) (i:Nat):Br:=(List.range i).foldl (fun b (i:Nat)=>(upR' b i).2) b
theorem upTo_succ (b:Br) (i:Nat):upTo b (i+1)=(upR' (upTo b i) (i:Nat)).2:=by rw[upTo,List.range_succ,List.foldl_append];rfl
set_option maxHeartbeats 4000000 in
theorem begin_S (N R Q G:Nat) (hR1:1≤R) (hR8:R≤8) (hN1:1≤N) (hN16:N≤16) (hQ1:1≤Q) (hQ2:Q≤1000) (hG1:1≤G) (hG2:G≤1000) :
  Spec Tryz.prog 19 [.agg #[.int .i64 (N:Int),.int .i64 (R:Int),.int .i64 (Q:Int),.int .i64 (G:Int)]] [] fun Γ v Θ=>∃p,v=pt p∧Θ=SP p (beginR N R Q G)::Γ:=by
 refine Zbd Tryz.func19 rfl Tryz.ntmps19 fun w0 Γ=>Zsh ?_;obtain⟨B0,hB0⟩:∃B0,B0=beginR N R Q G:=⟨_,rfl⟩;obtain⟨n0,hn0⟩:∃n0,n0=newR N R Q G 0:=⟨_,rfl⟩;rw[←hB0];refine ZY 2 ?_;refine Zp (S.box (cs:=[_,_,_,_]) rfl rfl rfl ?_);intro b1;refine ZY 5 ?_;refine Zp (Zc1 Ze (BNew_S N R Q G 0 hR1 hR8 hN1 hN16 hQ1 hQ2 hG1 hG2) ?_);rintro v Θ ⟨b,ps,rfl,rfl⟩;rw[←hn0];refine ZY 8 ?_;refine ZY 8 ?_;refine ZF ef ?_;refine ZY 5 ?_;refine Zp (S.makeMap .u32 rfl ?_);intro b20;refine Zp (S.makeMap .u32 rfl ?_);intro b21;refine Zp (S.makeMap .u32 rfl ?_);intro b22;refine Zp (S.makeMap .u32 rfl ?_);intro b23;refine Zp (S.makeMap .u32 rfl ?_);intro b24;refine Zv (q_build (pvs:=[(_,_),(_,_),(_,_),(_,_),(_,_),(_,_),(_,_),(_,_)]) [_,_,_,_,_,_,_,_,_,_,_,_,_,_,_,_] Tryz.z55.h Tryz.p55.h ⟨⟨rfl,rfl⟩,⟨rfl,rfl⟩,⟨rfl,rfl⟩,⟨rfl,rfl⟩,⟨rfl,rfl⟩,⟨rfl,rfl⟩,⟨rfl,rfl⟩,⟨rfl,rfl⟩,trivial⟩ rfl) ?_;refine Zp (S.box (cs:=[_,_,_,_,_,_,_,_,_,_,_,_,_,_,_,_]) rfl rfl rfl ?_);intro b26;refine ZY 5 ?_;refine S.blkAs b26 (smC B0 b SV.nil b20 b21 b22 b23 b24 SV.nil SV.nil SV.nil).toArray (by rw[hB0];rfl) ?_;refine S.ent (Ent.allsNil noB _) ?_;refine S.ent (show Ent _ (own SV.nil 103 1 (([]:List No).map noV)::_) from Ent.ownNil 103 1) ?_;refine ZY 5 ?_;refine Zl (fun fz ρ' Γ'=>∃(i:Nat) (nv:SV) (ns:List No) (b0:Br),fz=N-i∧i≤N∧nv.n=i∧ns.map (·.2)=List.replicate i nd0∧b0=upTo n0 i∧ρ'=[(3,pt b),(5,pt b26),(28,.int .i64 (N:Int)),(29,.int .i64 (i:Int))]∧Γ'=blk b26 55 (smC B0 b nv b20 b21 b22 b23 b24 SV.nil SV.nil SV.nil).toArray::own nv 103 1 (ns.map noV)::alls ns noB::BP b b0 ps::mapL b20 .u32 []::mapL b21 .u32 []::mapL b22 .u32 []::mapL b23 .u32 []::mapL b24 .u32 []::Γ) (m:=_) (⟨0,SV.nil,[],n0,rfl,by omega,rfl,rfl,rfl,rfl,rfl⟩) ?_;rintro fz ρ' Γ' ⟨i,nv,ns,b0,hfz,hi,hnv,hns,hb0,rfl,rfl⟩;refine ZY 5 ?_
 refine Zj ef (fun h2=>?_) (fun h2=>?_)
 ·refine ZY 8 ?_;refine ZY 7 ?_;refine Zp (S.makeMap .u32 rfl ?_);intro b37;refine Zv (q_build (pvs:=[(_,_),(_,_)]) [_,_,_,_,_] Tryz.z107.h Tryz.p107.h ⟨⟨rfl,rfl⟩,⟨rfl,rfl⟩,trivial⟩ rfl) ?_;refine Zp (S.box (cs:=[_,_,_,_,_]) rfl rfl rfl ?_);intro b39;refine Zp (S.buildSlice (pvs:=[(_,_)]) [_] Tryz.underlying48 Tryz.inf103.h rfl rfl ⟨⟨rfl,rfl⟩,trivial⟩ rfl rfl ?_);intro b40;refine Zp (S.appendOw (s:=nv) (1) ([pt b39]) Tryz.underlying48 Tryz.inf103.h rfl rfl rfl (blk_slAt (b:=b40) rfl (by unfold maxLen;omega)) (by first | rfl | exact allOne_bcells _) (⟨by omega,by omega⟩) rfl ?_);intro nv2 hnv2;rw[show ns.map noV++[pt b39]=(ns++[((b39,nd0):No)]).map noV by rw[List.map_append];rfl];refine ZY 7 ?_;refine Zp (Zcp Ze (Up_S b b0 ps i) ?_);refine ZY 2 ?_;refine S.conv2 (blk b39 107 #[.bool true,.map (some b37),SV.nil.v,SV.nil.v,.bool false]) (mapL b37 .u32 []) (ni0 b39 b37 _) ?_;refine S.conv2 (NI b39 nd0) (alls ns noB) (Ent.allsSnoc noB ns ((b39,nd0):No) _) ?_;refine Zv (Za ef ef) ?_;refine ZY 2 ?_;exact ZX (fz-1) (⟨i+1,nv2,ns++[(b39,nd0)],(upR' b0 (i:Nat)).2,by omega,by omega,by omega,by rw[List.map_append,hns,List.replicate_succ'];rfl,by rw[hb0,upTo_succ],rfl,rfl⟩) (by omega)
 ·obtain rfl:i=N:=by omega
  refine ZY 7 ?_;refine S.conv (mapL b20 .u32 []) (ran0 b20 _) ?_;refine S.conv (mapL b24 .u32 []) (Ent.war b24 [] _) ?_;refine S.ent (lst0 0 _) ?_;refine S.ent (lst0 0 _) ?_;refine S.ent (imgs0 _) ?_;refine S.sub (blk b26 55 (smC B0 b nv b20 b21 b22 b23 b24 SV.nil SV.nil SV.nil).toArray::BP b b0 ps::own nv 103 1 (ns.map noV)::alls ns noB::ranM b20 []::mapL b21 .u32 []::mapL b22 .u32 []::mapL b23 .u32 []::imgs SV.nil []::warM b24::lstM SV.nil 0::lstM SV.nil 0::Γ) ?_;refine S.ent (show Ent _ (smX b26 B0 b ps nv ns b20 b21 b22 b23 b24 SV.nil SV.nil SV.nil Γ) by subst hB0;subst hb0;subst hn0;exact Ent.refl _) ?_;refine S.spClose b26 B0 b ps nv ns b20 b21 b22 b23 b24 SV.nil SV.nil SV.nil ⟨by rw[hns,hB0];rfl,by rw[hB0,hnv];exact List.length_replicate.symm,by rw[hB0];rfl⟩ ?_;exact Zf ef Zq (⟨b26,rfl,rfl⟩)
def sA:Sm:={beginR 2 1 5 3 with jobs:=[⟨1,0,2,3⟩],b:=(addR (beginR 2 1 5 3).b (newJ 1 0 2 3 0 0)).2}
def aw:Nat→Sm
 | 0=>sA
 | k+1=>calmR (aw k)
theorem aw200:(aw 200).ok=true∧1∈(aw 200).done∧3≤nLook 1 (aw 200).ran∧(aw 200).b.js=[]:=by decide +kernel
theorem S.ranOpenM {n:Nat} {md:Bool} {w0:WM md} {ρ:Env} {Γ Δ:List Assn} {φ:Act→World→Prop} (b:Nat) (f:List (Nat×Nat)) [q:Pick (ranM b f) Γ Δ] (k:∀l:List (Int×Value),(∀id:Nat,(alGet (id:Int) l).getD (.int .i64 0)=.int .i64 (nLook id f:Nat))→S n w0 ρ (mapL b .u32 l::Δ) φ):S n w0 ρ Γ φ:=by
 intro a w ha hs hx;obtain⟨h0,l0,h1,h2,d,l1,l2,⟨l,q1,q2⟩,s⟩:=hs.ent q.ent;exact k l q1 a w ha ⟨h0,l0,h1,h2,d,l1,l2,q2,s⟩ hx
theorem aw_ok {k:Nat} (h:k≤200):(aw k).ok=true:=by
 have key:∀j,j+k≤200→(aw (j+k)).ok=true→(aw k).ok=true:=by
  intro j;induction j with
  | zero=>intro _ h;rwa [Nat.zero_add]at h
  | succ j ih=>
   intro hj hk;refine ih (by omega) ?_;rw[show j+1+k=(j+k)+1 by omega]at hk;exact(stick_ok (calmUp_ok hk)).1
 refine key (200-k) (by omega) ?_;rw[show 200-k+k=200 by omega];exact aw200.1
theorem sA_add:addOk (beginR 2 1 5 3).b (newJ 1 0 2 3 0 0)=true∧(beginR 2 1 5 3).b.js.length≤999∧(beginR 2 1 5 3).b.orders.length≤900000∧(beginR 2 1 5 3).b.done.length≤900000:=by decide +kernel
set_option maxHeartbeats 4000000 in
theorem awake_S {W:World} (hW:TabW W):Spec Tryz.prog 9 [] [old W] fun Γ v Θ=>v=.bool true∧Θ=old W::Γ:=by
 obtain⟨B0,hB0⟩:∃B0,B0=beginR 2 1 5 3:=⟨_,rfl⟩;obtain⟨d1,d2,d3,d4⟩:=sA_add;rw[←hB0]at d1 d2 d3 d4;obtain⟨A0,hA0⟩:∃A0,A0=sA:=⟨_,rfl⟩;have hA1:A0={B0 with jobs:=[⟨1,0,2,3⟩],b:=(addR B0.b (newJ 1 0 2 3 0 0)).2}:=by rw[hA0,hB0];rfl
 refine Zbd Tryz.func9 rfl Tryz.ntmps9 fun w0 Γ=>Zsh ?_;refine ZY 6 ?_;refine Zv (q_build (pvs:=[(_,_),(_,_),(_,_),(_,_)]) [_,_,_,_] Tryz.z25.h Tryz.p25.h ⟨⟨rfl,rfl⟩,⟨rfl,rfl⟩,⟨rfl,rfl⟩,⟨rfl,rfl⟩,trivial⟩ rfl) ?_;refine Zp (Zc1 Ze (begin_S 2 1 5 3 (by omega) (by omega) (by omega) (by omega) (by omega) (by omega) (by omega) (by omega)) ?_);rintro v Θ ⟨p,rfl,rfl⟩;rw[←hB0];refine ZY 8 ?_;refine ZF ef ?_;refine ZY 4 ?_;refine S.spOpen p B0 fun b ps nv ns rb jb gb db wb iv dv wv hF=>?_;refine S.mapAs jb [] (by rw[hB0];rfl) ?_;refine ZY 3 ?_;refine Zv (q_build (pvs:=[(_,_),(_,_),(_,_)]) [_,_,_,_,_,_] Tryz.z35.h Tryz.p35.h ⟨⟨rfl,rfl⟩,⟨rfl,rfl⟩,⟨rfl,rfl⟩,trivial⟩ rfl) ?_;refine Zp (S.mapUpdate Tryz.underlying49 Tryz.underlying31 rfl rfl rfl rfl ?_);refine S.mapAs jb (([⟨1,0,2,3⟩]:List Jo).map joE) rfl ?_;refine ZY 2 ?_;refine Zd ([blk p 55 (smC B0 b nv rb jb gb db wb iv dv wv).toArray,mapL jb .u32 (([⟨1,0,2,3⟩]:List Jo).map joE)]) [] (Zra 0 9) ?_;refine ZY 8 ?_;refine Zw ef (q_lookup1 (.agg (joC ⟨1,0,2,3⟩).toArray) Tryz.underlying49 Tryz.underlying31 Tryz.zv35.h rfl rfl rfl (rfl)) ?_;refine Z1 (i:=9) ef ef ?_;refine  (Zc1 Ze (Add_S b B0.b ps 1 0 2 3 0 0 0 (by omega) d1 d2 d3 d4) ?_);rintro v Θ ⟨ps2,rfl,rfl⟩;refine Zk [] ?_;refine ZD ?_;refine ZY 3 ?_;refine S.sub (smX p A0 b ps2 nv ns rb jb gb db wb iv dv wv (old W::Γ)) (e:=by rw[hA1];infer_instance) ?_;refine S.spClose p A0 b ps2 nv ns rb jb gb db wb iv dv wv ⟨by rw[hA1];exact hF.nd,by rw[hA1];exact hF.nn,by rw[hA1];exact hF.im⟩ ?_;refine ZY 3 ?_;refine Zl (fun fz ρ' Γ'=>∃(k:Nat) (t:Sm),fz=200-k∧k≤200∧t=aw k∧ρ'=[(1,pt p),(21,.int .i64 (k:Int))]∧Γ'=SP p t::old W::Γ) (m:=_) (⟨0,A0,rfl,by omega,hA0,rfl,rfl⟩) ?_;rintro fz ρ' Γ' ⟨k,t,hfz,hk,ht,rfl,rfl⟩;refine ZY 5 ?_
 refine Zj ef (fun h2=>?_) (fun h2=>?_)
 ·refine ZY 5 ?_;refine Zp (Zc1 Ze (calm_S p t (by rw[ht];exact aw_ok (k:=k+1) (by omega)) hW) ?_);rintro v Θ rfl;refine ZY 2 ?_;refine Zv (Za ef ef) ?_;refine ZY 2 ?_;exact ZX (fz-1) (⟨k+1,calmR t,by omega,by omega,by rw[ht];rfl,rfl,rfl⟩) (by omega)
 ·rw[show k=200 by omega]at ht;obtain⟨_,e1,e2,e3⟩:=aw200;rw[←ht]at e1 e2 e3;refine S.spOpen p t fun b ps nv ns rb jb gb db wb iv dv wv hF=>?_;refine ZY 7 ?_;refine Zv (q_lookup1 (.bool true) Tryz.underlying50 Tryz.underlying31 Tryz.zv4.h rfl rfl rfl (by rw[show alGet 1 (setT t.done)=some (.bool true) from (setT_get t.done 1).trans (if_pos e1)];rfl)) ?_;refine ZY 5 ?_;refine S.ranOpenM rb t.ran fun lst hlst=>?_;obtain⟨c0,hc0⟩:∃c0,c0=nLook 1 t.ran:=⟨_,rfl⟩;have hl0:=hlst 1;rw[←hc0]at e2 hl0;refine Zvg ef ef ef (q_lookup1 (.int .i64 (c0:Int)) Tryz.underlying44 Tryz.underlying31 Tryz.zv3.h rfl rfl rfl (hl0.symm)) ?_;refine ZY 3 ?_;refine Zu 39 true ef ((decide_eq_true (by omega))) ?_;refine ZY 4 ?_;refine Zg ef ef ef (Zc1 Ze (Jobs_S b t.b ps) ?_);rintro v Θ ⟨tv,rfl,htv,rfl⟩;rw[e3]at htv;refine ZY 6 ?_;exact Zf ef Zq (⟨by rw[decide_eq_true (show (tv.n:Int)=0 by rw[htv];rfl)];rfl,rfl⟩)
theorem Nnode_S (z:Int) (on:Bool):Spec Tryz.prog 37 [.pointer none,.int .i64 z,.bool on] [] fun Γ v Θ=>v=.int .i64 6∧Θ=Γ:=by
 refine Zbd Tryz.func37 rfl Tryz.ntmps37 fun w0 Γ=>Zsh ?_;refine ZY 8 ?_;refine ZY 4 ?_;refine ZT ef ?_;refine ZY 5 ?_;exact Zf ef Zq (⟨rfl,rfl⟩)
theorem NAdd_S (j t k w s c x:Int):Spec Tryz.prog 13 [.pointer none,.agg #[.int .u32 j,.int .u8 t,.int .i64 k,.int .i64 w,.int .u8 s,.int .i64 c],.int .u32 x] [] fun Γ v Θ=>v=.int .i64 6∧Θ=Γ:=by
 refine Zbd Tryz.func13 rfl Tryz.ntmps13 fun w0 Γ=>Zsh ?_;refine ZY 2 ?_;refine Zp (S.box (cs:=[_,_,_,_,_,_]) rfl rfl rfl ?_);intro b4;refine ZY 8 ?_;refine ZY 2 ?_;refine ZT ef ?_;refine ZY 5 ?_;exact Zf ef Zq (⟨rfl,rfl⟩)
theorem NCancel_S (j:Int):Spec Tryz.prog 29 [.pointer none,.int .u32 j] [] fun Γ v Θ=>v=.int .i64 6∧Θ=Γ:=by
 refine Zbd Tryz.func29 rfl Tryz.ntmps29 fun w0 Γ=>Zsh ?_;refine ZY 8 ?_;refine ZY 8 ?_;refine ZY 8 ?_;refine ZY 8 ?_;refine ZY 8 ?_;refine ZY 8 ?_;refine Zy ?_;exact Zf ef Zq (⟨rfl,rfl⟩)
theorem NbUp_S (z:Int):Spec Tryz.prog 12 [.pointer none,.int .i64 z] [] fun Γ v Θ=>v=.int .i64 6∧Θ=Γ:=by
 refine Zbd Tryz.func12 rfl Tryz.ntmps12 fun w0 Γ=>Zsh ?_;refine ZY 8 ?_;refine Zy ?_;refine Zp (Zcp Ze (Nnode_S z false) ?_);refine ZY 7 ?_;refine ZT ef ?_;refine ZY 6 ?_;exact Zf ef Zq (⟨rfl,rfl⟩)
theorem NLost_S (z:Int):Spec Tryz.prog 15 [.pointer none,.int .i64 z] [] fun Γ v Θ=>v=.int .i64 6∧Θ=Γ:=by
 refine Zbd Tryz.func15 rfl Tryz.ntmps15 fun w0 Γ=>Zsh ?_;refine ZY 2 ?_;refine Zp (S.box (cs:=[_]) rfl rfl rfl ?_);intro b3;refine ZY 7 ?_;refine Zp (Zcp Ze (Nnode_S z true) ?_);refine ZY 7 ?_;refine ZT ef ?_;refine ZY 6 ?_;exact Zf ef Zq (⟨rfl,rfl⟩)
theorem NHear_S (z a0 a1 a2 a3 a4 a5 a6 a7 a8 a9 a10 a11:Int) (bv:Value):Spec Tryz.prog 30 [.pointer none,.int .i64 z,.agg #[.int .u8 a0,.int .u8 a1,.int .u32 a2,.int .u32 a3,.int .u32 a4,.int .u32 a5,.int .u32 a6,.int .u32 a7,.int .u8 a8,.int .i64 a9,.int .u32 a10,.int .u32 a11,bv]] [] fun Γ v Θ=>v=.int .i64 6∧Θ=Γ:=by
 refine Zbd Tryz.func30 rfl Tryz.ntmps30 fun w0 Γ=>Zsh ?_;refine ZY 2 ?_;refine Zp (S.box (cs:=[_,_,_,_,_,_,_,_,_,_,_,_,_]) rfl rfl rfl ?_);intro b5;refine ZY 7 ?_;refine Zp (Zcp Ze (Nnode_S z true) ?_);refine ZY 7 ?_;refine ZT ef ?_;refine ZY 6 ?_;exact Zf ef Zq (⟨rfl,rfl⟩)
theorem NTick_S (x:Int):Spec Tryz.prog 14 [.pointer none,.int .u32 x] [] fun Γ v Θ=>v=.int .i64 6∧Θ=Γ:=by
 refine Zbd Tryz.func14 rfl Tryz.ntmps14 fun w0 Γ=>Zsh ?_;refine ZY 8 ?_;refine ZY 4 ?_;refine ZT ef ?_;refine ZY 5 ?_;exact Zf ef Zq (⟨rfl,rfl⟩)
theorem NbTake_S  : Spec Tryz.prog 16 [.pointer none] [] fun Γ v Θ=>v=SV.nil.v∧Θ=Γ:=by
 refine Zbd Tryz.func16 rfl Tryz.ntmps16 fun w0 Γ=>Zsh ?_;refine ZY 8 ?_;refine ZY 2 ?_;refine ZT ef ?_;refine ZY 5 ?_;exact Zf ef Zq (⟨rfl,rfl⟩)
theorem NbImages_S  : Spec Tryz.prog 31 [.pointer none] [] fun Γ v Θ=>v=SV.nil.v∧Θ=Γ:=by
 refine Zbd Tryz.func31 rfl Tryz.ntmps31 fun w0 Γ=>Zsh ?_;refine ZY 8 ?_;refine ZY 2 ?_;refine ZT ef ?_;refine ZY 5 ?_;exact Zf ef Zq (⟨rfl,rfl⟩)
theorem NbDone_S  : Spec Tryz.prog 33 [.pointer none] [] fun Γ v Θ=>v=SV.nil.v∧Θ=Γ:=by
 refine Zbd Tryz.func33 rfl Tryz.ntmps33 fun w0 Γ=>Zsh ?_;refine ZY 8 ?_;refine ZY 2 ?_;refine ZT ef ?_;refine ZY 5 ?_;exact Zf ef Zq (⟨rfl,rfl⟩)
theorem NbJobs_S  : Spec Tryz.prog 27 [.pointer none] [] fun Γ v Θ=>v=SV.nil.v∧Θ=Γ:=by
 refine Zbd Tryz.func27 rfl Tryz.ntmps27 fun w0 Γ=>Zsh ?_;refine ZY 8 ?_;refine ZY 2 ?_;refine ZT ef ?_;refine ZY 5 ?_;exact Zf ef Zq (⟨rfl,rfl⟩)
theorem NbMembers_S  : Spec Tryz.prog 34 [.pointer none] [] fun Γ v Θ=>v=SV.nil.v∧Θ=Γ:=by
 refine Zbd Tryz.func34 rfl Tryz.ntmps34 fun w0 Γ=>Zsh ?_;refine ZY 8 ?_;refine ZY 2 ?_;refine ZT ef ?_;refine ZY 5 ?_;exact Zf ef Zq (⟨rfl,rfl⟩)
theorem NMatrix_S  : Spec Tryz.prog 23 [.pointer none] [] fun Γ v Θ=>v=.pointer none∧Θ=Γ:=by
 refine Zbd Tryz.func23 rfl Tryz.ntmps23 fun w0 Γ=>Zsh ?_;refine ZY 8 ?_;refine ZY 2 ?_;refine ZT ef ?_;refine ZY 5 ?_;exact Zf ef Zq (⟨rfl,rfl⟩)
theorem NGen_S  : Spec Tryz.prog 18 [.pointer none] [] fun Γ v Θ=>v=.int .u32 0∧Θ=Γ:=by
 refine Zbd Tryz.func18 rfl Tryz.ntmps18 fun w0 Γ=>Zsh ?_;refine ZY 8 ?_;refine ZY 2 ?_;refine ZT ef ?_;refine ZY 5 ?_;exact Zf ef Zq (⟨rfl,rfl⟩)
theorem NPublished_S (j x:Int) (ok:Bool):Spec Tryz.prog 32 [.pointer none,.int .u32 j,.int .u32 x,.bool ok] [] fun Γ v Θ=>v=.int .i64 6∧Θ=Γ:=by
 refine Zbd Tryz.func32 rfl Tryz.ntmps32 fun w0 Γ=>Zsh ?_;refine ZY 8 ?_;refine ZY 8 ?_;refine ZY 8 ?_;refine Zy ?_;exact Zf ef Zq (⟨rfl,rfl⟩)
theorem NResting_S  : Spec Tryz.prog 17 [.pointer none] [] fun Γ v Θ=>v=.bool false∧Θ=Γ:=by
 refine Zbd Tryz.func17 rfl Tryz.ntmps17 fun w0 Γ=>Zsh ?_;refine ZY 8 ?_;refine ZY 8 ?_;refine ZY 2 ?_;exact Zf ef Zq (⟨rfl,rfl⟩)
end BN
theorem NewBad_S (r n:Int) (h:¬(1≤r∧r≤8∧1≤n∧n≤16)):Spec Tryz.prog 35 [.int .i64 r,.int .i64 n] [] fun Γ v Θ=>v=.tuple #[.pointer none,.int .i64 1]∧Θ=Γ:=by
 refine Zbd Tryz.func35 rfl Tryz.ntmps35 fun w0 Γ=>Zsh ?_;refine ZY 7 ?_
 refine Zc (fun ρ' Γ'=>ρ'=[(0,.int .i64 r),(1,.int .i64 n),(19,.bool true)]∧Γ'=Γ) ?_ ?_
 ·refine ZY 4 ?_
  refine Zb 8 ef (fun hg1_2=>?_) (fun hg1_2=>?_)
  ·refine ZY 8 ?_;refine ZY 4 ?_;first | exact S.meet ⟨rfl,rfl⟩ ⟨rfl,rfl,rfl,trivial⟩ Sub.ent | (rw[show decide ((16:Int)<n)=true from decide_eq_true (by omega)];exact S.meet ⟨rfl,rfl⟩ ⟨rfl,rfl,rfl,trivial⟩ Sub.ent)
  ·refine ZY 4 ?_
   refine Zb 12 ef (fun hg1_6=>?_) (fun hg1_6=>?_)
   ·refine ZY 8 ?_;first | exact S.meet ⟨rfl,rfl⟩ ⟨rfl,rfl,rfl,trivial⟩ Sub.ent | (rw[show decide ((16:Int)<n)=true from decide_eq_true (by omega)];exact S.meet ⟨rfl,rfl⟩ ⟨rfl,rfl,rfl,trivial⟩ Sub.ent)
   ·refine ZY 4 ?_
    refine Zb 16 ef (fun hg1_10=>?_) (fun hg1_10=>?_)
    ·refine ZY 4 ?_;first | exact S.meet ⟨rfl,rfl⟩ ⟨rfl,rfl,rfl,trivial⟩ Sub.ent | (rw[show decide ((16:Int)<n)=true from decide_eq_true (by omega)];exact S.meet ⟨rfl,rfl⟩ ⟨rfl,rfl,rfl,trivial⟩ Sub.ent)
    ·refine ZY 4 ?_;first | exact S.meet ⟨rfl,rfl⟩ ⟨rfl,rfl,rfl,trivial⟩ Sub.ent | (rw[show decide ((16:Int)<n)=true from decide_eq_true (by omega)];exact S.meet ⟨rfl,rfl⟩ ⟨rfl,rfl,rfl,trivial⟩ Sub.ent)
 ·rintro ρ' Γ' ⟨rfl,hG⟩;rw[hG];refine ZT ef ?_;refine ZY 6 ?_;exact Zf ef Zq (⟨rfl,rfl⟩)
namespace BN
theorem BNewBad_S (N R Q G hold:Int) (h:¬(1≤N∧N≤16∧1≤R∧R≤8∧1≤Q∧Q≤1000∧1≤G∧G≤1000)):Spec Tryz.prog 11 [.agg #[.int .i64 N,.int .i64 R,.int .i64 Q,.int .i64 G],.int .u32 hold] [] fun Γ v Θ=>v=.tuple #[.pointer none,.int .i64 1]∧Θ=Γ:=by
 refine Spec.of_body Tryz.func11 rfl Tryz.ntmps11 rfl ?_;intro w0 Γ;show S _ w0 [(0,.agg #[.int .i64 N,.int .i64 R,.int .i64 Q,.int .i64 G]),(1,.int .u32 hold)] Γ _
 by_cases hm:1≤R∧R≤8∧1≤N∧N≤16
 ·obtain⟨R,rfl⟩:∃k:Nat,R=k:=⟨R.toNat,by omega⟩;obtain⟨N,rfl⟩:∃k:Nat,N=k:=⟨N.toNat,by omega⟩;refine ZS ?_;refine ZY 2 ?_;refine Zp (S.box (cs:=[_,_,_,_]) rfl rfl rfl ?_);intro b2;refine ZY 8 ?_;refine Zy ?_;refine Zp (Zc1 Ze (Go.Proofs.YtdackcibfkkniaaGreatDoor.New_S R N (by omega) (by omega) (by omega) (by omega)) ?_);rintro v Θ ⟨mb,rfl,rfl⟩;refine ZY 8 ?_
  refine Zc (fun ρ' Γ'=>ρ'=[(38,.bool true)]∧Γ'=Γ) ?_ ?_
  ·refine ZY 8 ?_;refine Zy ?_
   refine Zb 24 ef (fun hg2_7=>?_) (fun hg2_7=>?_)
   ·refine ZY 8 ?_;refine ZY 7 ?_;first | exact S.meet ⟨rfl,rfl⟩ ⟨rfl,trivial⟩ Sub.ent | (rw[show decide ((1000:Int)<G)=true from decide_eq_true (by omega)];exact S.meet ⟨rfl,rfl⟩ ⟨rfl,trivial⟩ Sub.ent)
   ·refine ZY 5 ?_
    refine Zb 29 ef (fun hg2_12=>?_) (fun hg2_12=>?_)
    ·refine ZY 8 ?_;refine ZY 2 ?_;first | exact S.meet ⟨rfl,rfl⟩ ⟨rfl,trivial⟩ Sub.ent | (rw[show decide ((1000:Int)<G)=true from decide_eq_true (by omega)];exact S.meet ⟨rfl,rfl⟩ ⟨rfl,trivial⟩ Sub.ent)
    ·refine ZY 5 ?_
     refine Zb 34 ef (fun hg2_17=>?_) (fun hg2_17=>?_)
     ·refine ZY 5 ?_;first | exact S.meet ⟨rfl,rfl⟩ ⟨rfl,trivial⟩ Sub.ent | (rw[show decide ((1000:Int)<G)=true from decide_eq_true (by omega)];exact S.meet ⟨rfl,rfl⟩ ⟨rfl,trivial⟩ Sub.ent)
     ·refine ZY 5 ?_;first | exact S.meet ⟨rfl,rfl⟩ ⟨rfl,trivial⟩ Sub.ent | (rw[show decide ((1000:Int)<G)=true from decide_eq_true (by omega)];exact S.meet ⟨rfl,rfl⟩ ⟨rfl,trivial⟩ Sub.ent)
  ·rintro ρ' Γ' ⟨rfl,hG⟩;rw[hG];refine ZT ef ?_;refine ZY 6 ?_;exact Zf ef Zq (⟨rfl,rfl⟩)
 ·have hm2:=hm;refine ZS ?_;refine ZY 2 ?_;refine Zp (S.box (cs:=[_,_,_,_]) rfl rfl rfl ?_);intro b2;refine ZY 8 ?_;refine Zy ?_;refine Zp (Zcp Ze (NewBad_S R N hm) ?_);refine ZY 8 ?_;refine ZY 4 ?_;refine Zu 19 true ef ((by decide)) ?_;refine ZY 8 ?_;refine ZY 8 ?_;refine ZY 8 ?_;refine ZY 3 ?_;exact Zf ef Zq (⟨rfl,rfl⟩)
abbrev jobI (id t k w s c:Int):Array Value:=#[.int .u32 id,.int .u8 t,.int .i64 k,.int .i64 w,.int .u8 s,.int .i64 c]
theorem AddBad_S (b:Nat) (st:Br) (ps:Nat→Nat) (id t k w s c x:Int) (h:¬(id≠0∧1≤k∧k≤st.nodes∧1≤w∧w≤10000∧0≤c∧c≤w∧t≤3)):Spec Tryz.prog 13 [pt b,.agg (jobI id t k w s c),.int .u32 x] [BP b st ps] fun Γ v Θ=>v=.int .i64 1∧Θ=BP b st ps::Γ:=by
 refine Zbd Tryz.func13 rfl Tryz.ntmps13 fun w0 Γ=>Zsh ?_;refine S.bpOpen b st ps fun ub jb mb ov iv dv mv sb l hF=>?_;refine ZY 2 ?_;refine Zp (S.box (cs:=[_,_,_,_,_,_]) rfl rfl rfl ?_);intro b4;refine ZY 8 ?_;refine ZY 2 ?_;refine ZF ef ?_;refine Zy ?_
 refine Zc (fun ρ' Γ'=>ρ'=[(11,.bool true)]∧Γ'=bX b st ps ub jb mb ov iv dv mv sb l Γ) ?_ ?_
 ·refine Zd ([blk b4 35 #[.int .u32 id,.int .u8 t,.int .i64 k,.int .i64 w,.int .u8 s,.int .i64 c],blk b 84 (bC st ub jb mb ov iv dv mv sb).toArray]) [] (Zra 0 4) ?_;refine ZY 4 ?_
  refine Zb 15 ef (fun hg3_3=>?_) (fun hg3_3=>?_)
  ·refine Zr (Zra 4 42) ?_;refine ZY 8 ?_;refine ZY 8 ?_;refine ZY 8 ?_;refine ZY 8 ?_;refine ZY 8 ?_;refine ZY 2 ?_;refine ZD ?_;first | exact S.meet ⟨rfl,rfl⟩ ⟨rfl,trivial⟩ Sub.ent | (rw[show decide ((3:Int)<t)=true from decide_eq_true (by omega)];exact S.meet ⟨rfl,rfl⟩ ⟨rfl,trivial⟩ Sub.ent)
  ·refine Zr (Zra 4 5) ?_;refine ZY 5 ?_
   refine Zb 20 ef (fun hg3_8=>?_) (fun hg3_8=>?_)
   ·refine Zr (Zra 9 37) ?_;refine ZY 8 ?_;refine ZY 8 ?_;refine ZY 8 ?_;refine ZY 8 ?_;refine ZY 5 ?_;refine ZD ?_;first | exact S.meet ⟨rfl,rfl⟩ ⟨rfl,trivial⟩ Sub.ent | (rw[show decide ((3:Int)<t)=true from decide_eq_true (by omega)];exact S.meet ⟨rfl,rfl⟩ ⟨rfl,trivial⟩ Sub.ent)
   ·refine Zr (Zra 9 10) ?_;refine ZY 8 ?_;refine ZY 2 ?_
    refine Zb 30 ef (fun hg3_18=>?_) (fun hg3_18=>?_)
    ·refine Zr (Zra 19 27) ?_;refine ZY 8 ?_;refine ZY 8 ?_;refine ZY 8 ?_;refine ZY 3 ?_;refine ZD ?_;first | exact S.meet ⟨rfl,rfl⟩ ⟨rfl,trivial⟩ Sub.ent | (rw[show decide ((3:Int)<t)=true from decide_eq_true (by omega)];exact S.meet ⟨rfl,rfl⟩ ⟨rfl,trivial⟩ Sub.ent)
    ·refine Zr (Zra 19 5) ?_;refine ZY 5 ?_
     refine Zb 35 ef (fun hg3_23=>?_) (fun hg3_23=>?_)
     ·refine Zr (Zra 24 22) ?_;refine ZY 8 ?_;refine ZY 8 ?_;refine ZY 6 ?_;refine ZD ?_;first | exact S.meet ⟨rfl,rfl⟩ ⟨rfl,trivial⟩ Sub.ent | (rw[show decide ((3:Int)<t)=true from decide_eq_true (by omega)];exact S.meet ⟨rfl,rfl⟩ ⟨rfl,trivial⟩ Sub.ent)
     ·refine Zr (Zra 24 5) ?_;refine ZY 5 ?_
      refine Zb 40 ef (fun hg3_28=>?_) (fun hg3_28=>?_)
      ·refine Zr (Zra 29 17) ?_;refine ZY 8 ?_;refine ZY 8 ?_;refine Zy ?_;refine ZD ?_;first | exact S.meet ⟨rfl,rfl⟩ ⟨rfl,trivial⟩ Sub.ent | (rw[show decide ((3:Int)<t)=true from decide_eq_true (by omega)];exact S.meet ⟨rfl,rfl⟩ ⟨rfl,trivial⟩ Sub.ent)
      ·refine Zr (Zra 29 5) ?_;refine ZY 5 ?_
       refine Zb 45 ef (fun hg3_33=>?_) (fun hg3_33=>?_)
       ·refine Zr (Zra 34 12) ?_;refine ZY 8 ?_;refine ZY 4 ?_;refine ZD ?_;first | exact S.meet ⟨rfl,rfl⟩ ⟨rfl,trivial⟩ Sub.ent | (rw[show decide ((3:Int)<t)=true from decide_eq_true (by omega)];exact S.meet ⟨rfl,rfl⟩ ⟨rfl,trivial⟩ Sub.ent)
       ·refine Zr (Zra 34 7) ?_;refine ZY 7 ?_
        refine Zb 52 ef (fun hg3_40=>?_) (fun hg3_40=>?_)
        ·refine Zr (Zra 41 5) ?_;refine ZY 5 ?_;refine ZD ?_;first | exact S.meet ⟨rfl,rfl⟩ ⟨rfl,trivial⟩ Sub.ent | (rw[show decide ((3:Int)<t)=true from decide_eq_true (by omega)];exact S.meet ⟨rfl,rfl⟩ ⟨rfl,trivial⟩ Sub.ent)
        ·refine Zr (Zra 41 5) ?_;refine ZY 5 ?_;refine ZD ?_;first | exact S.meet ⟨rfl,rfl⟩ ⟨rfl,trivial⟩ Sub.ent | (rw[show decide ((3:Int)<t)=true from decide_eq_true (by omega)];exact S.meet ⟨rfl,rfl⟩ ⟨rfl,trivial⟩ Sub.ent)
 ·rintro ρ' Γ' ⟨rfl,rfl⟩;refine ZT ef ?_;refine ZY 5 ?_;refine S.bpClose b st ps ub jb mb ov iv dv mv sb l hF ?_;exact Zf ef Zq (⟨rfl,rfl⟩)
abbrev noteI (a0 a1 a2 a3 a4 a5 a6 a7 a8 a9 a10 a11:Int) (bv:Value):Array Value:=#[.int .u8 a0,.int .u8 a1,.int .u32 a2,.int .u32 a3,.int .u32 a4,.int .u32 a5,.int .u32 a6,.int .u32 a7,.int .u8 a8,.int .i64 a9,.int .u32 a10,.int .u32 a11,bv]
theorem HearBad_S (b:Nat) (st:Br) (ps:Nat→Nat) (n a0 a1 a2 a3 a4 a5 a6 a7 a8 a9 a10 a11:Int) (bv:Value) (h:nodeR st n true≠0):Spec Tryz.prog 30 [pt b,.int .i64 n,.agg (noteI a0 a1 a2 a3 a4 a5 a6 a7 a8 a9 a10 a11 bv)] [BP b st ps] fun Γ v Θ=>v=.int .i64 (nodeR st n true)∧Θ=BP b st ps::Γ:=by
 refine Zbd Tryz.func30 rfl Tryz.ntmps30 fun w0 Γ=>Zsh ?_;refine ZY 2 ?_;refine Zp (S.box (cs:=[_,_,_,_,_,_,_,_,_,_,_,_,_]) rfl rfl rfl ?_);intro b5;refine ZY 7 ?_;refine Zp (Zcp Ze (node_S b st ps n true) ?_);refine ZY 7 ?_
 refine Zj ef (fun h1=>?_) (fun h1=>?_)
 ·refine ZY 6 ?_;exact Zf ef Zq (⟨rfl,rfl⟩)
 ·exact absurd h h1
def noK (k:Nat) (q:List Nt):Prop:=∀x∈q,x.kind≠k
def noKo (k:Nat) (q:List (Nt×List Int)):Prop:=∀x∈q,x.1.kind≠k
def goOk (g:Nat) (m:List Nat) (q:List Nt):Prop:=∀x∈q,x.kind=5→x.gen=g∧x.job∈m
def ruOk (g:Nat) (m:List Nat) (rk:Rs):Prop:=∀y∈rk,y.2.run=true→y.2.gen=g∧y.1∈m
inductive Ph (g:Nat) (m:List Nat) (on st:Bool) (rk:Rs) (q:List Nt) (out:List (Nt×List Int)):Prop
 | rest:on=false→noK 5 q→noK 6 q→noKo 7 out→noRun rk→Ph g m on st rk q out
 | go:on=true→st=false→noK 6 q→noKo 7 out→goOk g m q→ruOk g m rk→Ph g m on st rk q out
 | stop (a:List Nt) (s:Nt) (c:List Nt):on=true→st=true→q=a++s::c→s.kind=6→s.gen=g→noK 6 a→noK 5 c→noK 6 c→goOk g m a→ruOk g m rk→noKo 7 out→Ph g m on st rk q out
 | said (a:List (Nt×List Int)) (s:Nt×List Int) (c:List (Nt×List Int)):on=true→st=true→noK 5 q→noK 6 q→noRun rk→out=a++s::c→s.1.kind=7→s.1.gen=g→noKo 7 a→noKo 7 c→Ph g m on st rk q out
structure Quiet (nd nd':Nd):Prop where
 no:noRun nd.rk→noRun nd'.rk
 ru:∀g m,ruOk g m nd.rk→ruOk g m nd'.rk
 out:∃o,nd'.out=nd.out++o∧noKo 7 o
def Pres (b:Br) (i id:Nat):Prop:=∃x,getJ b.js id=some x∧x.drops=none∧i∈x.at_
def qOf (os:List Od) (i:Nat):List Nt:=(os.filter fun o=>decide (o.1=i)).map (·.2)
structure JInv (b:Br) (bad:Nat→Nat→Prop) (x:Bj):Prop where
 st:x.state≤3
 q:x.state=0→x.at_=[]∧x.drops=none∧x.sav=none∧x.ran=none∧look b.m.js x.id=none
 p:x.state≠0→x.at_.length=x.k∧∃y,look b.m.js x.id=some y∧lst y.ns=x.at_
 d:x.state=3↔x.drops.isSome=true
 u:x.drops=none→∀n∈x.at_,n∈b.up∨bad x.id n
 du:∀d,x.drops=some d→∀n∈d,n∈b.up∨bad x.id n
 da:∀d,x.drops=some d→∀n∈d,n∈x.at_
structure BrI (b:Br) (bad:Nat→Nat→Prop):Prop where
 ok:BrOk b
 j:∀x∈b.js,JInv b bad x
 mj:∀y∈b.m.js,(getJ b.js y.id).isSome=true
 up:∀n:Nat,n∈b.up↔isUpB b.m n=true
abbrev never:Nat→Nat→Prop:=fun _ _=>False
structure NodeI (b:Br) (i:Nat) (n:Nd):Prop where
 kn:(keys n.rk).Nodup
 ps:pos n.rk
 one:oneRun n.rk
 wr:n.wrong=false
 right:(fin n.rk (n.inn++qOf b.orders i)).wrong=false
 ld:∀x∈n.inn++qOf b.orders i,x.kind=3→x.job≠0
 here:∀id,(nGet id (fin n.rk (n.inn++qOf b.orders i)).rk).isSome=true↔Pres b i id
 ph:Ph b.gen b.members (decide (i∈b.stops.getD [])) b.stopped n.rk (n.inn++qOf b.orders i) n.out
structure Eff (b b':Br) (i:Nat) (e:List Nt):Prop where
 go:∀v:Nd,v.wrong=false→(keys v.rk).Nodup→(∀id,(nGet id v.rk).isSome=true↔Pres b i id)→(b.stops=none→noRun v.rk)→(e.foldl actR v).wrong=false∧∀id,(nGet id (e.foldl actR v).rk).isSome=true↔Pres b' i id
structure BStep (b b':Br) (E:List Od):Prop where
 nodes:b'.nodes=b.nodes
 up:b'.up=b.up
 gen:b'.gen=b.gen
 mem:b'.members=b.members
 stops:b'.stops=b.stops
 stopped:b'.stopped=b.stopped
 ord:b'.orders=b.orders++E
 dst:∀o∈E,o.1∈b.up
 k5:∀o∈E,o.2.kind≠5∧o.2.kind≠6∧(o.2.kind=3→o.2.job≠0)∧o.2.rank≤255
 eff:∀i∈b.up,Eff b b' i (qOf E i)
structure GI (b:Br) (nd:List Nd):Prop where
 bi:BrI b never
 len:nd.length=b.nodes
 dst:∀o∈b.orders,o.1∈b.up
 up:∀(i:Nat) (n:Nd),nd[i]?=some n→n.up=decide (i∈b.up)
 off:∀(i:Nat) (n:Nd),nd[i]?=some n→n.up=false→n.rk=[]∧n.inn=[]∧n.out=[]∧n.wrong=false
 node:∀(i:Nat) (n:Nd),nd[i]?=some n→n.up=true→NodeI b i n
 stp:∀i∈b.stops.getD [],i∈b.up
def BS (b b':Br):Prop:=∃E,BStep b b' E
structure Sam (b b':Br):Prop where
 nodes:b'.nodes=b.nodes
 up:b'.up=b.up
 gen:b'.gen=b.gen
 mem:b'.members=b.members
 stops:b'.stops=b.stops
 stopped:b'.stopped=b.stopped
structure Agr (x y:Bj):Prop where
 id:y.id=x.id
 at_:y.at_=x.at_
 dr:y.drops=x.drops
 st:y.state=x.state
 k:y.k=x.k
end BN
def Apart (x y:Jb):Prop:=∀i,x.ns.getLsbD i=true→y.ns.getLsbD i=true→False
structure FillI (m:Mx) (k o:Nat) (a:Bs×List Jb):Prop where
 bits:∀i,a.1.getLsbD i=true↔∃x∈rowJ m k++a.2,x.ns.getLsbD i=true
 pw:(rowJ m k++a.2).Pairwise Apart
 mem:∀x∈a.2,x∈m.js∧x.row≠k∧x.row<o
namespace BN
def atOf (b:Br) (id:Nat):List Nat:=match getJ b.js id with
 | none=>[]
 | some x=>x.at_
def goOf (g id:Nat):Nt:={kind:=5,gen:=g,job:=id}
def goE_ (b:Br) (g:Nat) (l:List Nat):List Od:=l.flatMap fun id=>(atOf b id).map fun n=>((n,goOf g id):Od)
structure RunI (b t:Br) (l:List Nat):Prop where
 bi:BrI t never
 ord:t.orders=b.orders++goE_ b b.gen l
 stp:∀i,i∈t.stops.getD []↔∃id∈l,i∈atOf b id
 som:t.stops.isSome=true
 gen:t.gen=b.gen
 mem:t.members=b.members
 stopped:t.stopped=b.stopped
 up:t.up=b.up
 nodes:t.nodes=b.nodes
 pres:∀i id,Pres t i id↔Pres b i id
 job:∀id x,getJ b.js id=some x→∃y,getJ t.js id=some y∧y.at_=x.at_∧y.drops=x.drops∧y.state=x.state
structure GJ (b:Br) (nd:List Nd):Prop where
 gi:GI b nd
 sf:b.stops=none→b.stopped=false
 ork:∀o∈b.orders,o.2.rank≤255
theorem isUp_on {m:Mx} (hm:MxOk m) {i j:Nat} (h:nodeB m i=true):isUpB (upR m i true).2 j=true↔isUpB m j=true∨j=i:=by
 have hi:=(nodeB_iff.1 h).2;have:=hm.N16;rw[upR,if_pos h];show (nodeB m j&&(m.up ||| BitVec.twoPow 16 i).getLsbD (j:Int).toNat)=true↔(nodeB m j&&m.up.getLsbD (j:Int).toNat)=true∨j=i;rw[Int.toNat_natCast,BitVec.getLsbD_or,BitVec.getLsbD_twoPow,Bool.and_eq_true,Bool.and_eq_true,Bool.or_eq_true,Bool.and_eq_true,decide_eq_true_eq,decide_eq_true_eq]
 constructor
 ·rintro ⟨h1,h2 | ⟨_,h2⟩⟩
  ·exact .inl ⟨h1,h2⟩
  ·exact .inr h2.symm
 ·rintro (⟨h1,h2⟩ | h2)
  ·exact⟨h1,.inl h2⟩
  ·subst h2;exact⟨h,.inr ⟨by omega,rfl⟩⟩
abbrev only (n:Nat):Nat→Nat→Prop:=fun _ k=>k=n
def Ag (b:Br):Prop:=∀x∈b.js,x.done=true→x.again=false
def JR (b b':Br):Prop:=Ag b→(b'.done=b.done∧b'.now=b.now)∧Ag b'∧∀z∈b'.js,∃x∈b.js,z.id=x.id∧(x.done=true→z.done=true)
theorem JR.refl (b:Br):JR b b:=fun h=>⟨⟨rfl,rfl⟩,h,fun z hz=>⟨z,hz,rfl,fun h=>h⟩⟩
theorem JR.trans {a b c:Br} (h:JR a b) (k:JR b c):JR a c:=fun ha=>by
 obtain⟨h1,h2,h3⟩:=h ha;obtain⟨k1,k2,k3⟩:=k h2;refine⟨⟨k1.1.trans h1.1,k1.2.trans h1.2⟩,k2,fun z hz=>?_⟩;obtain⟨y,y1,y2,y3⟩:=k3 z hz;obtain⟨x,x1,x2,x3⟩:=h3 y y1;exact⟨x,x1,y2.trans x2,fun e=>y3 (x3 e)⟩
theorem JR.same {b b':Br} (hj:b'.js=b.js) (hd:b'.done=b.done) (hn:b'.now=b.now):JR b b':=fun h=>⟨⟨hd,hn⟩,fun x hx=>by rw[hj]at hx;exact h x hx,fun z hz=>by rw[hj]at hz;exact⟨z,hz,rfl,fun h=>h⟩⟩
theorem setJ_mem {js:List Bj} {y z:Bj} (hz:z∈setJ js y):z=y∨(z∈js∧z.id≠y.id):=by
 obtain⟨w,hw,e⟩:=List.mem_map.1 hz
 split at e
 ·exact .inl e.symm
 ·rename_i hne;subst e;exact .inr ⟨hw,hne⟩
theorem jr_set {b:Br} {x y:Bj} (hx:getJ b.js x.id=some x) (hid:y.id=x.id) (h1:x.done=true→y.done=true) (h2:(x.done=true→x.again=false)→y.done=true→y.again=false):JR b (b.set y):=fun h=>by
 have hm:=(getJ_some hx).1
 refine⟨⟨rfl,rfl⟩,fun z hz=>?_,fun z hz=>?_⟩
 ·rcases setJ_mem (show z∈setJ b.js y from hz) with rfl | ⟨k,_⟩
  ·exact h2 (h x hm)
  ·exact h z k
 ·rcases setJ_mem (show z∈setJ b.js y from hz) with rfl | ⟨k,_⟩
  ·exact⟨x,hm,hid,h1⟩
  ·exact⟨z,k,rfl,fun h=>h⟩
theorem jr_gone {b:Br} {x y:Bj} (hx:getJ b.js x.id=some x) (hid:y.id=x.id) (h1:x.done=true→y.done=true) (h2:(x.done=true→x.again=false)→y.done=true→y.again=false):JR b (goneR b y):=fun h=>by
 have hm:=(getJ_some hx).1;unfold goneR
 split
 ·split
  ·rename_i ha
   have hnd:x.done≠true:=fun e=>by
    have:=h2 (h x hm) (h1 e);rw[ha]at this;cases this
   have:=jr_set (b:={b with m:=(removeR b.m y.id).2}) (y:=anew y) hx hid (fun e=>absurd e hnd) (fun _ e=>(by cases e)) h;exact this
  ·refine⟨⟨rfl,rfl⟩,fun z hz=>h z (List.mem_filter.1 (show z∈rmJ b.js y.id from hz)).1,fun z hz=>⟨z,(List.mem_filter.1 (show z∈rmJ b.js y.id from hz)).1,rfl,fun h=>h⟩⟩
 ·exact jr_set hx hid h1 h2 h
theorem jr_drop {b:Br} {x y:Bj} (hx:getJ b.js x.id=some x) (hid:y.id=x.id) (h1:x.done=true→y.done=true) (a:Bool):JR b (dropR b y a):=by
 have h2:∀d,(x.done=true→x.again=false)→(dropX y a d).done=true→(dropX y a d).again=false:=fun d _ e=>by
  show (a&&!y.done)=false;rw[show y.done=true from e];simp
 cases hd:y.drops with
 | some d=>rw[drop_some hd];exact jr_gone hx hid h1 (h2 d)
 | none=>
  rw[drop_none hd];exact(JR.same (b:=b) (b':={b with orders:=b.orders++(upOf b y).map (dropOrd y.id)}) rfl rfl rfl).trans (jr_gone (b:={b with orders:=b.orders++(upOf b y).map (dropOrd y.id)}) hx hid h1 (h2 _))
theorem jr_save {b:Br} {x y:Bj} (hx:getJ b.js x.id=some x) (hid:y.id=x.id) (hd:y.done=x.done) (ha:y.again=x.again):JR b (saveR b y):=by
 by_cases hc:y.work=y.credit∨y.sav.isSome∨y.drops.isSome∨y.state≠2
 ·rw[saveR_no hc];exact jr_set hx hid (fun e=>hd.trans e) (fun h e=>ha.trans (h (hd.symm.trans e)))
 ·rw[saveR_yes hc];exact(JR.same (b:=b) (b':={b with orders:=b.orders++y.at_.map (saveOrd (saveY y))}) rfl rfl rfl).trans (jr_set (b:={b with orders:=b.orders++y.at_.map (saveOrd (saveY y))}) (y:=saveY y) hx hid (fun e=>hd.trans e) (fun h e=>ha.trans (h (hd.symm.trans e))))
theorem jr_each {f:Br→Bj→Br} (hf:∀b x,getJ b.js x.id=some x→JR b (f b x)):∀(l:List Nat) (b:Br),JR b (each f b l)
 | [],b=>.refl b
 | id::l,b=>by
  have e:each f b (id::l)=each f (match getJ b.js id with | none=>b | some x=>f b x) l:=rfl;rw[e];cases hg:getJ b.js id with
  | none=>exact jr_each hf l b
  | some x=>exact(hf b x (by rw[(getJ_some hg).2];exact hg)).trans (jr_each hf l _)
theorem jr_load {b:Br} {x:Bj} (hx:getJ b.js x.id=some x) (s:PL.St):JR b (loadR b x s):=by
 by_cases hp:(putR b.m x.id s.row s.nodes).1≠0
 ·rw[loadR_no hp];exact .same rfl rfl rfl
 ·rw[loadR_yes hp];exact(JR.same (b:=b) (b':={b with m:=(putR b.m x.id s.row s.nodes).2,orders:=b.orders++loadOrd x (nats s.nodes)}) rfl rfl rfl).trans (jr_set (b:={b with m:=(putR b.m x.id s.row s.nodes).2,orders:=b.orders++loadOrd x (nats s.nodes)}) (y:=lodY x (nats s.nodes)) hx rfl (fun e=>e) (fun h e=>h e))
theorem jr_place:∀(zs:List (Nat×PL.St)) (b:Br),JR b (placeUp b zs)
 | [],b=>.refl b
 | p::zs,b=>by
  have e:placeUp b (p::zs)=placeUp (plStep b p) zs:=by rw[placeUp_eq,placeUp_eq];rfl
  rw[e];refine JR.trans ?_ (jr_place zs _);unfold plStep
  split
  ·cases hg:getJ b.js p.1 with
   | none=>exact .refl b
   | some x=>exact jr_load (by rw[(getJ_some hg).2];exact hg) _
  ·exact .refl b
theorem jr_preempt (b:Br):JR b (preemptR b):=by
 unfold preemptR
 split
 ·exact .refl b
 split
 ·exact .refl b
 split
 ·exact .refl b
 ·refine jr_each (f:=warnJ) (fun c x hx=>?_) _ _;exact(JR.same (b:=c) (b':={c with orders:=c.orders++x.at_.map fun n=>((n,{kind:=12,job:=x.id,tick:=laterR c.now c.grace}):Od)}) rfl rfl rfl).trans (jr_set (b:={c with orders:=c.orders++x.at_.map fun n=>((n,{kind:=12,job:=x.id,tick:=laterR c.now c.grace}):Od)}) (y:={x with warned:=true,till:=laterR c.now c.grace}) hx rfl (fun e=>e) (fun h e=>h e))
theorem jr_start (b:Br):∀(i:Nat) (row:Int),JR b (startUp b row i)
 | 0,_=>.refl b
 | i+1,row=>by
  rw[startUp]
  split
  ·exact .refl b
  split
  ·rw[runR_eq];refine(JR.same (b:=b) (b':=run0 {b with row:=(nextR b.m row).1} _) rfl rfl rfl).trans (jr_each (f:=goJob) (fun c x hx=>?_) _ _);exact(JR.same (b:=c) (b':={c with stops:=some (x.at_.foldl sAdd (c.stops.getD [])),orders:=c.orders++x.at_.map fun n=>((n,{kind:=5,gen:=c.gen,job:=x.id}):Od)}) rfl rfl rfl).trans (jr_set (b:={c with stops:=some (x.at_.foldl sAdd (c.stops.getD [])),orders:=c.orders++x.at_.map fun n=>((n,{kind:=5,gen:=c.gen,job:=x.id}):Od)}) (y:={x with ran:=some []}) hx rfl (fun e=>e) (fun h e=>h e))
  ·exact jr_start b i _
theorem jr_work (b:Br):JR b (workR b):=by
 have h1:=jr_each (f:=leaveJ) (fun c x hx=>by
  unfold leaveJ
  split
  ·exact jr_drop hx rfl (fun e=>e) true
  ·exact .refl c) b.ids b
 have h2:=h1.trans (jr_place (zsR (each leaveJ b b.ids)) _);have h3:=h2.trans (jr_preempt _);have h4:=h3.trans (JR.same (b':=rep (preemptR (placeUp (each leaveJ b b.ids) (zsR (each leaveJ b b.ids))))) rfl rfl rfl);have h5:=h4.trans (jr_each (f:=saveR) (fun _ x hx=>jr_save (y:=x) hx rfl rfl rfl) (rep (preemptR (placeAll (each leaveJ b b.ids)))).ids _);exact h5.trans (jr_start _ _ _)
structure DI (b:Br) (dn:List Nat) (next:Nat):Prop where
 srt:JsOk b.js
 nd:(dn++b.done).Nodup
 old:∀id∈dn++b.done,∀x,getJ b.js id=some x→x.done=true
 lt:∀x∈b.js,x.id<next
 ltd:∀id∈dn++b.done,id<next
 ag:Ag b
structure NB (now:Nat) (n:Nd):Prop where
 i:∀x∈n.inn,x.rank≤255
 r:∀y∈n.rk,y.2.place≤255∧y.2.frm≤now∧y.2.til≤now
 o:∀x∈n.out,x.1.rank≤255∧x.1.frm≤now∧x.1.til≤now∧x.2.length≤1000000
structure SB (s:Sm) (F T:Nat):Prop where
 gj:GJ s.b s.nd
 di:DI s.b s.done s.next
 now:s.b.now=s.now
 len:s.nd.length=s.cn
 c1:1≤s.cn
 c16:s.cn≤16
 jb:s.next=s.jobs.length+1
 jl:s.jobs.length≤20
 jid:∀j∈s.jobs,j.id<s.next
 jn:(s.jobs.map (·.id)).Nodup
 ran:∀x∈s.ran,x.2≤s.now
 nb:∀n∈s.nd,NB s.now n
 fl:∀n∈s.nd,n.inn.length≤s.fu∧n.out.length≤s.fu
 im:s.images.length≤s.fu
 fu:s.fu≤F
 tm:s.now≤T
structure SI (s:Sm) (F T:Nat):Prop where
 sb:SB s F T
 ok:s.ok=true
 e1:s.b.orders=[]
 e2:s.b.images=[]
 e3:s.b.done=[]
structure Cx where
 k:Nat→Nat
 w:Nat→Nat
 ran:Nat→Nat
 s:Nat→Nat→Nat×Nat
 v:Nat
 g:Nat→Nat→Prop
abbrev blobOf (r c:Nat):List Int:=[(r:Int),((c % 256:Nat):Int)]
structure RanI (c:Cx) (id work:Nat) (at_:List Nat) (r:List (Nat×Nat×Nat)):Prop where
 ne:at_≠[]
 nd:(r.map (·.1)).Nodup
 e:∀e∈r,e.2=c.s id e.1∧0<e.2.1∧e.1∈at_
 ov:∀F T,(∀i∈at_,0<(c.s id i).1∧(c.s id i).1≤F∧T≤(c.s id i).2)→work+(T+1-F)≤c.ran id
 g:∀i,c.g id i→i∈at_
structure SavI (ver credit work:Nat) (at_:List Nat) (s:Sv):Prop where
 ver:s.ver=ver
 cr:credit≤s.credit
 wk:s.credit≤work
 len:s.bs.length=at_.length
 nd:s.have_.Nodup
 b:∀n∈s.have_,∃r,rankOf at_ n=some r∧s.bs[r]?=some (blobOf r s.credit)
structure JC (c:Cx) (x:Bj):Prop where
 k:x.k=c.k x.id
 w:x.w=c.w x.id
 cw:x.credit≤x.work
 ww:x.work≤x.w
 wr:x.work≤c.ran x.id
 ver:x.ver≤c.v
 ran:∀r,x.ran=some r→RanI c x.id x.work x.at_ r
 sav:∀s,x.sav=some s→SavI x.ver x.credit x.work x.at_ s
structure JZ (x y:Bj):Prop where
 id:y.id=x.id
 ver:x.ver≤y.ver
 sav:∀t,y.sav=some t→(∃s,x.sav=some s∧s.ver=t.ver∧s.credit=t.credit∧(t.told=false→s.told=false))∨x.ver<t.ver
structure JM (x y:Bj):Prop extends JZ x y where
 cr:y.credit=x.credit
def BZ (b b':Br):Prop:=∀z∈b'.js,∃x∈b.js,JZ x z
def BM (b b':Br):Prop:=∀z∈b'.js,∃x∈b.js,JM x z
def Fit (b:Br) (i v r:Nat):Prop:=∀x∈b.js,x.id=i→v≤x.ver∧∀s,x.sav=some s→s.ver=v→r=s.credit
def Fit9 (b:Br) (i v rk:Nat) (l:List Int):Prop:=∀x∈b.js,x.id=i→v≤x.ver∧∀s,x.sav=some s→s.ver=v→l=blobOf rk s.credit
structure FitI (c:Cx) (b:Br) (i:Im):Prop where
 len:i.bs.length=c.k i.job
 ran:i.credit≤c.ran i.job
 bs:∀r,r<i.bs.length→i.bs[r]?=some (blobOf r i.credit)
 j:∀x∈b.js,x.id=i.job→x.credit≤i.credit∧i.ver≤x.ver∧∀s,x.sav=some s→s.told=false→i.ver<s.ver
structure CB (c:Cx) (E8:Nat→Nat→Nat→Prop) (E9:Nat→Nat→Nat→List Int→Prop) (im0:List Im) (b:Br):Prop where
 j:∀x∈b.js,JC c x
 o8:∀o∈b.orders,o.2.kind=8→Fit b o.2.job o.2.ver o.2.credit
 o5:∀o∈b.orders,o.2.kind=5→c.g o.2.job o.1
 e8:∀i v r,E8 i v r→Fit b i v r
 e9:∀i v r l,E9 i v r l→Fit9 b i v r l
 im:∀i∈im0++b.images,FitI c b i
 ord:(im0++b.images).Pairwise fun a d=>a.job=d.job→a.ver<d.ver
 dn:∀id∈b.done,c.w id≤c.ran id
section
variable {c:Cx} {E8:Nat→Nat→Nat→Prop} {E9:Nat→Nat→Nat→List Int→Prop} {im0:List Im} {b:Br} {x y:Bj}
def VB (v:Nat) (b:Br):Prop:=∀x∈b.js,x.ver≤v+if x.sav.isSome then 1 else 0
theorem each_P {P:Br→Prop} {f:Br→Bj→Br} (hf:∀b x,P b→getJ b.js x.id=some x→P (f b x)):∀(l:List Nat) (b:Br),P b→P (each f b l)
 | [],_,h=>h
 | id::l,b,h=>by
  have e:each f b (id::l)=each f (match getJ b.js id with | none=>b | some x=>f b x) l:=rfl;rw[e];cases hg:getJ b.js id with
  | none=>exact each_P hf l b h
  | some x=>exact each_P hf l _ (hf b x h (by rw[(getJ_some hg).2];exact hg))
end
def VL (v:Nat) (b:Br):Prop:=∀x∈b.js,x.ver≤v
def VM (b b':Br):Prop:=∀z∈b'.js,∃x∈b.js,z.ver=x.ver
def QP (b:Br):Prop:=∀x∈b.js,x.sav=none∧x.work=x.credit
theorem qp_set {b:Br} {y:Bj} (h:QP b) (hy:y.sav=none∧y.work=y.credit):QP (b.set y):=fun z hz=>by
 rcases setJ_mem (show z∈setJ b.js y from hz) with rfl | ⟨k,_⟩
 ·exact hy
 ·exact h z k
theorem qp_gone {b:Br} {y:Bj} (h:QP b) (hy:y.sav=none∧y.work=y.credit):QP (goneR b y):=by
 unfold goneR
 split
 ·split
  ·exact qp_set (b:={b with m:=(removeR b.m y.id).2}) (y:=anew y) h ⟨rfl,rfl⟩
  ·exact fun z hz=>h z (List.mem_filter.1 (show z∈rmJ b.js y.id from hz)).1
 ·exact qp_set h hy
theorem qp_drop {b:Br} (h:QP b) (y:Bj) (a:Bool):QP (dropR b y a):=by
 cases hd:y.drops with
 | some d=>rw[drop_some hd];exact qp_gone h ⟨rfl,rfl⟩
 | none=>rw[drop_none hd];exact qp_gone (b:={b with orders:=b.orders++(upOf b y).map (dropOrd y.id)}) h ⟨rfl,rfl⟩
theorem qp_save {b:Br} {y:Bj} (h:QP b) (hy:y.sav=none∧y.work=y.credit):QP (saveR b y):=by
 rw[saveR_no (.inl hy.2)];exact qp_set h hy
theorem qp_load {b:Br} {x:Bj} (h:QP b) (hx:getJ b.js x.id=some x) (s:PL.St):QP (loadR b x s):=by
 by_cases hp:(putR b.m x.id s.row s.nodes).1≠0
 ·rw[loadR_no hp];exact h
 ·rw[loadR_yes hp];exact qp_set (b:={b with m:=(putR b.m x.id s.row s.nodes).2,orders:=b.orders++loadOrd x (nats s.nodes)}) (y:=lodY x (nats s.nodes)) h (h x (getJ_some hx).1)
theorem qp_place:∀(zs:List (Nat×PL.St)) (b:Br),QP b→QP (placeUp b zs)
 | [],_,h=>h
 | p::zs,b,h=>by
  have e:placeUp b (p::zs)=placeUp (plStep b p) zs:=by rw[placeUp_eq,placeUp_eq];rfl
  rw[e];refine qp_place zs _ ?_;unfold plStep
  split
  ·cases hg:getJ b.js p.1 with
   | none=>exact h
   | some x=>exact qp_load h (by rw[(getJ_some hg).2];exact hg) _
  ·exact h
theorem qp_preempt {b:Br} (h:QP b):QP (preemptR b):=by
 unfold preemptR
 split
 ·exact h
 split
 ·exact h
 split
 ·exact h
 ·refine each_P (P:=QP) (f:=warnJ) (fun c x k hx=>?_) _ _ h;exact qp_set (b:={c with orders:=c.orders++x.at_.map fun n=>((n,{kind:=12,job:=x.id,tick:=laterR c.now c.grace}):Od)}) (y:={x with warned:=true,till:=laterR c.now c.grace}) k (k x (getJ_some hx).1)
theorem qp_start (b:Br) (h:QP b):∀(i:Nat) (row:Int),QP (startUp b row i)
 | 0,_=>h
 | i+1,row=>by
  rw[startUp]
  split
  ·exact h
  split
  ·rw[runR_eq];refine each_P (P:=QP) (f:=goJob) (fun c x k hx=>?_) _ _ h;exact qp_set (b:={c with stops:=some (x.at_.foldl sAdd (c.stops.getD [])),orders:=c.orders++x.at_.map fun n=>((n,{kind:=5,gen:=c.gen,job:=x.id}):Od)}) (y:={x with ran:=some []}) k (k x (getJ_some hx).1)
  ·exact qp_start b h i _
theorem qp_work {b:Br} (h:QP b):QP (workR b):=by
 have h1:=each_P (P:=QP) (f:=leaveJ) (fun c x k hx=>by
  unfold leaveJ
  split
  ·exact qp_drop k x true
  ·exact k) b.ids b h
 have h2:=qp_place (zsR (each leaveJ b b.ids)) _ h1;have h3:=qp_preempt h2;have h4:QP (rep (preemptR (placeUp (each leaveJ b b.ids) (zsR (each leaveJ b b.ids))))):=h3;have h5:=each_P (P:=QP) (f:=saveR) (fun c x k hx=>qp_save k (k x (getJ_some hx).1)) (rep (preemptR (placeAll (each leaveJ b b.ids)))).ids _ h4;exact qp_start _ h5 _ _
theorem qp_tick {b:Br} (h:QP b) (now:Nat):QP (tickR b now).2:=by
 unfold tickR
 split
 ·exact h
 split
 ·exact h
 split
 ·split
  ·exact h
  ·exact h
 ·exact qp_work (b:={b with now:=now}) h
theorem pub_qp {b:Br} (h:QP b) (id ver:Nat) (ok:Bool):publishedR b id ver ok=(6,b):=by
 unfold publishedR;cases hg:getJ b.js id with
 | none=>rfl
 | some x=>
  simp only;rw[(h x (getJ_some hg).1).1]
structure EI (N:Nat) (b:Br):Prop where
 ok:BrOk b
 nodes:b.nodes=N
 up:∀z:Int,isUpB b.m z=false
 st:b.stops=none
 now:b.now=0
 hold:b.hold=5
 ord:b.orders=[]
 dn:b.done.length≤1
 qp:QP b
 ag:Ag b
 few:b.js.length≤999
theorem drop_new {b:Br} {y:Bj} (hd:y.drops=none) (ha:y.at_=[]):dropR b y false={b with m:=(removeR b.m y.id).2,js:=rmJ b.js y.id}:=by
 have hu:upOf b y=[]:=by unfold upOf;rw[ha];rfl
 rw[drop_none hd,hu];have h1:(dropX y false []).drops=some []:=rfl;have h2:¬(dropX y false []).again=true:=by show ¬((false&&!y.done)=true);simp
 unfold goneR;rw[if_pos h1,if_neg h2];simp
theorem addOk_of {N R Q G id t k w c x:Nat} (h:id≠0∧1≤k∧k≤N∧1≤w∧w≤10000∧c≤w∧t≤3):addOk (newR N R Q G 5) (newJ id t k w c x)=true:=by
 obtain⟨h1,h2,h3,h4,h5,h6,h7⟩:=h;unfold addOk;simp only[Bool.and_eq_true,decide_eq_true_eq];exact⟨⟨⟨⟨⟨⟨h1,h2⟩,h3⟩,h4⟩,h5⟩,h6⟩,h7⟩
theorem up0 (R N:Nat) (z:Int):isUpB {mx0 R N with up:=0#16} z=false:=by
 unfold isUpB;simp
theorem new_EI {N R Q G:Nat} (h:BrOk (newR N R Q G 5)):EI N (newR N R Q G 5):=
 ⟨h,rfl,up0 R N,rfl,rfl,rfl,rfl,by show (0:Nat)≤1;omega,fun x hx=>(by cases hx),fun x hx=>(by cases hx),Nat.zero_le _⟩
theorem add_EI {N R Q G id t k w c x:Nat} (h0:BrOk (newR N R Q G 5)) (h32:id≤4294967295) (h:addOk (newR N R Q G 5) (newJ id t k w c x)=true) :
  (addR (newR N R Q G 5) (newJ id t k w c x)).1=0∧EI N (addR (newR N R Q G 5) (newJ id t k w c x)).2∧(c<w→(getJ (addR (newR N R Q G 5) (newJ id t k w c x)).2.js id).isSome=true):=by
 have hgn:getJ (newR N R Q G 5).js id=none:=rfl;have hj:=newJ_ok h32 h;have ok:=insB_ok h0 hj hgn (Nat.zero_le _)
 have e:addR (newR N R Q G 5) (newJ id t k w c x)=(0,finishR (insB (newR N R Q G 5) (newJ id t k w c x)) (newJ id t k w c x)):=by
  unfold addR;rw[if_neg (by rw[h];decide),if_neg (by show ¬(getJ (newR N R Q G 5).js id).isSome=true;rw[hgn];simp)]
 rw[e];have hcw:c≤w:=hj.cr
 have hget:getJ (insB (newR N R Q G 5) (newJ id t k w c x)).js (newJ id t k w c x).id=some (newJ id t k w c x):=by
  show getJ [newJ id t k w c x] id=_;unfold getJ;rw[List.find?_cons_of_pos (by simp)]
 refine⟨rfl,?_,fun hlt=>?_⟩
 ·by_cases hlt:c<w
  ·have e2:finishR (insB (newR N R Q G 5) (newJ id t k w c x)) (newJ id t k w c x)=insB (newR N R Q G 5) (newJ id t k w c x):=by
    unfold finishR;rw[if_pos (.inl hlt)];exact set_self ok hget
   show EI N (finishR (insB (newR N R Q G 5) (newJ id t k w c x)) (newJ id t k w c x));rw[e2];have hm:∀z∈(insB (newR N R Q G 5) (newJ id t k w c x)).js,z=newJ id t k w c x:=fun z hz=>List.mem_singleton.1 (show z∈[newJ id t k w c x] from hz);exact⟨ok,rfl,up0 R N,rfl,rfl,rfl,rfl,by show (0:Nat)≤1;omega,fun z hz=>by rw[hm z hz];exact⟨rfl,rfl⟩,fun z hz hd=>by rw[hm z hz],by show (1:Nat)≤999;omega⟩
  ·have hd:finishR (insB (newR N R Q G 5) (newJ id t k w c x)) (newJ id t k w c x)={newR N R Q G 5 with done:=[id]}:=by
    unfold finishR;rw[if_neg (fun k=>by rcases k with k | k;exact hlt k;cases k)];rw[drop_new rfl rfl];have hr:(removeR (newR N R Q G 5).m id).2=(newR N R Q G 5).m:=by rw[removeR_none rfl]
    have hm:rmJ [newJ id t k w c x] id=[]:=by
     unfold rmJ;rw[List.filter_cons_of_neg (by simp)];rfl
    show ({newR N R Q G 5 with done:=[id],m:=(removeR (newR N R Q G 5).m id).2,js:=rmJ [newJ id t k w c x] id}:Br)=_;rw[hm,hr];rfl
   show EI N (finishR (insB (newR N R Q G 5) (newJ id t k w c x)) (newJ id t k w c x));rw[hd];exact⟨h0.dset _,rfl,up0 R N,rfl,rfl,rfl,rfl,by show (1:Nat)≤1;omega,fun z hz=>(by cases hz),fun z hz=>(by cases hz),Nat.zero_le _⟩
 ·have e2:finishR (insB (newR N R Q G 5) (newJ id t k w c x)) (newJ id t k w c x)=insB (newR N R Q G 5) (newJ id t k w c x):=by
   unfold finishR;rw[if_pos (.inl hlt)];exact set_self ok hget
  show (getJ (finishR (insB (newR N R Q G 5) (newJ id t k w c x)) (newJ id t k w c x)).js id).isSome=true;rw[e2];rw[show getJ (insB (newR N R Q G 5) (newJ id t k w c x)).js id=some (newJ id t k w c x) from hget];rfl
theorem EI.down {N:Nat} {b:Br} (h:EI N b) {n:Int} (hn:0≤n∧n<N):nodeR b n true=14∧nodeR b n false=0:=by
 have hN:=h.nodes;have h1:¬(n<0∨(b.nodes:Int)≤n):=by rw[hN];omega
 unfold nodeR;rw[if_neg h1,if_neg h1,h.up n];exact⟨by simp,by simp⟩
theorem EI.out {N:Nat} {b:Br} (h:EI N b) {n:Int} (hn:¬(0≤n∧n<N)) (u:Bool):nodeR b n u=1:=by
 have hN:=h.nodes;have h1:n<0∨(b.nodes:Int)≤n:=by rw[hN];omega
 unfold nodeR;rw[if_pos h1]
structure EJ (b:Br):Prop where
 ok:BrOk b
 st:b.stops=none
 now:b.now=0
 hold:b.hold=5
 ord:b.orders=[]
 dn:b.done.length≤1
 qp:QP b
 ag:Ag b
theorem EI.j {N:Nat} {b:Br} (h:EI N b):EJ b:=⟨h.ok,h.st,h.now,h.hold,h.ord,h.dn,h.qp,h.ag⟩
theorem EI.up1 {N:Nat} {b:Br} (h:EI N b) {n:Int} (hn:0≤n∧n<N):(upR' b n).1=0∧EJ (upR' b n).2∧nodeR (upR' b n).2 n false=14:=by
 obtain⟨h1,h2⟩:=h.down hn;have hok:=upR'_ok h.ok n;obtain⟨k,rfl⟩:∃k:Nat,n=k:=⟨n.toNat,by omega⟩;have hnb:nodeB b.m (k:Int)=true:=nodeB_iff.2 ⟨by omega,by have:=h.ok.N;have:=h.nodes;omega⟩
 have e:upR' b k=((upR b.m k true).1,{b with up:=sAdd b.up k,m:=(upR b.m k true).2}):=by
  unfold upR';rw[if_neg (by rw[h2];simp)];rfl
 rw[e]at hok ⊢;have hu:(upR b.m k true).1=0:=by unfold upR;rw[if_pos hnb]
 have hon:=(isUp_on h.ok.mok (i:=k) (j:=k) hnb).2 (.inr rfl);refine⟨hu,⟨hok,h.st,h.now,h.hold,h.ord,h.dn,h.qp,h.ag⟩,?_⟩;unfold nodeR;have:=h.nodes;rw[if_neg (by show ¬((k:Int)<0∨(b.nodes:Int)≤k);omega)];show (if isUpB (upR b.m k true).2 k≠false then (14:Int) else 0)=14;rw[hon];simp
theorem EJ.ws {b:Br} (h:EJ b):WSav b:=fun x hx _=>(h.qp x hx).1
structure EK (b:Br) (now:Nat):Prop where
 nw:now≤b.now
 qp:QP b
 ord:b.orders.length≤70000
 dn:b.done.length≤1
 rest:now≤5→b.stops=none
theorem EK.ws {b:Br} {now:Nat} (h:EK b now):WSav b:=fun x hx _=>(h.qp x hx).1
theorem EK.twice {b:Br} {now:Nat} (h:EK b now):tickR b now=(12,b):=tick_stale h.nw
theorem EJ.tick {b:Br} (h:EJ b) {now:Nat} (h32:now≤4294967295):((tickR b now).1=if now=0 then 12 else 0)∧EK (tickR b now).2 now:=by
 have hb:=h.now;have hdn:=h.dn
 by_cases h0:now=0
 ·subst h0;rw[tick_stale (Nat.zero_le _)];exact⟨rfl,Nat.zero_le _,h.qp,by rw[h.ord];exact Nat.zero_le _,hdn,fun _=>h.st⟩
 obtain⟨_,o1⟩:=tick_after h.ok h.ws (now:=now) h32;have o2:=(Sm3.tick b now).dn;have hq:=qp_tick h.qp now;rw[h.ord]at o1;simp only[List.length_nil]at o1;rw[if_neg h0]
 by_cases hh:now≤b.hold
 ·rw[tick_hold (by omega) hh]at o1 o2 hq ⊢;exact⟨rfl,Nat.le_refl _,hq,by omega,by omega,fun _=>h.st⟩
 ·have hs:b.stops.isSome=false:=by rw[h.st];rfl
  rw[tick_work (by omega) hh hs]at o1 o2 hq ⊢;have hn:=((jr_work {b with now:=now}) h.ag).1.2;have:=h.hold;exact⟨rfl,Nat.le_of_eq hn.symm,hq,by omega,by omega,fun k=>absurd k (by omega)⟩
abbrev rightJ (N:Nat) (id t k w c:Int):Prop:=id≠0∧1≤k∧k≤(N:Int)∧1≤w∧w≤10000∧0≤c∧c≤w∧t≤3
theorem AddAny_S (b:Nat) (ps:Nat→Nat) (N R Q G:Nat) (id t k w s c:Int) (h0:BrOk (newR N R Q G 5)) (hi:0≤id∧id≤4294967295) (ht:0≤t) (hs:0≤s):Spec Tryz.prog 13 [pt b,.agg (jobI id t k w s c),.int .u32 3] [BP b (newR N R Q G 5) ps] fun Γ v Θ=>∃(e:Int) (st:Br) (ps':Nat→Nat),v=.int .i64 e∧Θ=BP b st ps'::Γ∧EI N st∧(rightJ N id t k w c→e=0∧(c<w→(getJ st.js id.toNat).isSome=true))∧(¬rightJ N id t k w c→e=1):=by
 by_cases hr:rightJ N id t k w c
 ·obtain⟨h1,h2,h3,h4,h5,h6,h7,h8⟩:=hr;obtain⟨id,rfl⟩:∃m:Nat,id=m:=⟨id.toNat,by omega⟩;obtain⟨t,rfl⟩:∃m:Nat,t=m:=⟨t.toNat,by omega⟩;obtain⟨k,rfl⟩:∃m:Nat,k=m:=⟨k.toNat,by omega⟩;obtain⟨w,rfl⟩:∃m:Nat,w=m:=⟨w.toNat,by omega⟩;obtain⟨c,rfl⟩:∃m:Nat,c=m:=⟨c.toNat,by omega⟩;obtain⟨s,rfl⟩:∃m:Nat,s=m:=⟨s.toNat,by omega⟩;have ha:addOk (newR N R Q G 5) (newJ id t k w c 3)=true:=addOk_of ⟨by omega,by omega,by omega,by omega,by omega,by omega,by omega⟩;obtain⟨q1,q2,q3⟩:=add_EI h0 (by omega) ha;refine Spec.mono (Add_S b (newR N R Q G 5) ps id t k w c 3 s (by omega) ha (Nat.zero_le _) (Nat.zero_le _) (Nat.zero_le _)) ?_;rintro Γ v Θ ⟨ps',rfl,rfl⟩;exact⟨_,_,ps',rfl,rfl,q2,fun _=>⟨q1,fun h=>by rw[Int.toNat_natCast];exact q3 (by omega)⟩,fun h=>absurd ⟨h1,h2,h3,h4,h5,h6,h7,h8⟩ h⟩
 ·refine Spec.mono (AddBad_S b (newR N R Q G 5) ps id t k w s c 3 hr) ?_;rintro Γ v Θ ⟨rfl,rfl⟩;exact⟨1,newR N R Q G 5,ps,rfl,rfl,new_EI h0,fun h=>absurd h hr,fun _=>rfl⟩
theorem AddTwice_S (b:Nat) (ps:Nat→Nat) {N:Nat} {st:Br} (hE:EI N st) (id t k w s c:Int) (hi:0≤id∧id≤4294967295) (ht:0≤t) (hs:0≤s) (hr:rightJ N id t k w c) (hg:(getJ st.js id.toNat).isSome=true) (hjl:st.js.length≤999):Spec Tryz.prog 13 [pt b,.agg (jobI id t k w s c),.int .u32 3] [BP b st ps] fun Γ v Θ=>∃ps',v=.int .i64 7∧Θ=BP b st ps'::Γ:=by
 obtain⟨h1,h2,h3,h4,h5,h6,h7,h8⟩:=hr;obtain⟨id,rfl⟩:∃m:Nat,id=m:=⟨id.toNat,by omega⟩;obtain⟨t,rfl⟩:∃m:Nat,t=m:=⟨t.toNat,by omega⟩;obtain⟨k,rfl⟩:∃m:Nat,k=m:=⟨k.toNat,by omega⟩;obtain⟨w,rfl⟩:∃m:Nat,w=m:=⟨w.toNat,by omega⟩;obtain⟨c,rfl⟩:∃m:Nat,c=m:=⟨c.toNat,by omega⟩;obtain⟨s,rfl⟩:∃m:Nat,s=m:=⟨s.toNat,by omega⟩;rw[Int.toNat_natCast]at hg;have hn:=hE.nodes;have hdn:=hE.dn
 have ha:addOk st (newJ id t k w c 3)=true:=by
  unfold addOk;simp only[Bool.and_eq_true,decide_eq_true_eq];exact⟨⟨⟨⟨⟨⟨by omega,by omega⟩,by omega⟩,by omega⟩,by omega⟩,by omega⟩,by omega⟩
 have he:addR st (newJ id t k w c 3)=(7,st):=by
  unfold addR;rw[if_neg (by rw[ha];decide),if_pos hg]
 refine Spec.mono (Add_S b st ps id t k w c 3 s (by omega) ha hjl (by rw[hE.ord];exact Nat.zero_le _) (by omega)) ?_;rintro Γ v Θ ⟨ps',rfl,rfl⟩;rw[he];exact⟨ps',rfl,rfl⟩
set_option maxHeartbeats 4000000 in
theorem ErrsBad_S (N R Q G id t k w s c node a0 a1 a2 a3 a4 a5 a6 a7 a8 a9 a10 a11:Int) (bv:Value) (now:Nat) (hi:0≤id∧id≤4294967295) (ht:0≤t) (hs:0≤s) (h32:now≤4294967295) (hg:¬(1≤N∧N≤16∧1≤R∧R≤8∧1≤Q∧Q≤1000∧1≤G∧G≤1000)) {W:World} (hW:TabW W):LawS 8 [.agg #[.int .i64 N,.int .i64 R,.int .i64 Q,.int .i64 G],.agg #[.int .u32 id,.int .u8 t,.int .i64 k,.int .i64 w,.int .u8 s,.int .i64 c],.int .i64 node,.agg #[.int .u8 a0,.int .u8 a1,.int .u32 a2,.int .u32 a3,.int .u32 a4,.int .u32 a5,.int .u32 a6,.int .u32 a7,.int .u8 a8,.int .i64 a9,.int .u32 a10,.int .u32 a11,bv],.int .u32 (now:Int)] W:=by
 refine Zbd Tryz.func8 rfl Tryz.ntmps8 fun w0 Γ=>Zsh ?_;have hg2:=hg;refine ZY 2 ?_;refine Zp (S.box (cs:=[_,_,_,_]) rfl rfl rfl ?_);intro b5;refine Zp (S.box (cs:=[_,_,_,_,_,_]) rfl rfl rfl ?_);intro b6;refine Zp (S.box (cs:=[_,_,_,_,_,_,_,_,_,_,_,_,_]) rfl rfl rfl ?_);intro b8;refine ZY 5 ?_;refine Zp (Zcp Ze (awake_S hW) ?_);refine ZY 2 ?_;refine ZF ef ?_;refine ZY 4 ?_;refine Zp (Zcp Ze (BNewBad_S N R Q G 5 hg) ?_);refine ZY 7 ?_
 refine Zc (fun ρ' Γ'=>ρ'=[(2,.int .i64 node),(4,.int .u32 (now:Int)),(5,pt b5),(6,pt b6),(8,pt b8),(11,.pointer none),(12,.int .i64 1),(13,.bool false)]∧Γ'=blk b6 35 #[.int .u32 id,.int .u8 t,.int .i64 k,.int .i64 w,.int .u8 s,.int .i64 c]::blk b8 72 #[.int .u8 a0,.int .u8 a1,.int .u32 a2,.int .u32 a3,.int .u32 a4,.int .u32 a5,.int .u32 a6,.int .u32 a7,.int .u8 a8,.int .i64 a9,.int .u32 a10,.int .u32 a11,bv]::old W::Γ) ?_ ?_
 ·refine ZY 5 ?_
  refine Zb 28 ef (fun hg4_3=>?_) (fun hg4_3=>?_)
  ·refine ZY 5 ?_
   refine Zb 33 ef (fun hg4_8=>?_) (fun hg4_8=>?_)
   ·refine ZY 5 ?_
    refine Zb 38 ef (fun hg4_13=>?_) (fun hg4_13=>?_)
    ·refine ZY 5 ?_
     refine Zb 43 ef (fun hg4_18=>?_) (fun hg4_18=>?_)
     ·refine ZY 5 ?_
      refine Zb 48 ef (fun hg4_23=>?_) (fun hg4_23=>?_)
      ·refine ZY 5 ?_
       refine Zb 53 ef (fun hg4_28=>?_) (fun hg4_28=>?_)
       ·refine ZY 5 ?_
        refine Zb 58 ef (fun hg4_33=>?_) (fun hg4_33=>?_)
        ·refine ZY 6 ?_;first | exact S.meet ⟨rfl,rfl⟩ ⟨rfl,rfl,rfl,rfl,rfl,rfl,rfl,rfl,trivial⟩ Sub.ent | (rw[show decide (G≤(1000:Int))=false from decide_eq_false (by omega)];exact S.meet ⟨rfl,rfl⟩ ⟨rfl,rfl,rfl,rfl,rfl,rfl,rfl,rfl,trivial⟩ Sub.ent)
        ·refine ZY 6 ?_;first | exact S.meet ⟨rfl,rfl⟩ ⟨rfl,rfl,rfl,rfl,rfl,rfl,rfl,rfl,trivial⟩ Sub.ent | (rw[show decide (G≤(1000:Int))=false from decide_eq_false (by omega)];exact S.meet ⟨rfl,rfl⟩ ⟨rfl,rfl,rfl,rfl,rfl,rfl,rfl,rfl,trivial⟩ Sub.ent)
       ·refine ZY 8 ?_;refine ZY 3 ?_;first | exact S.meet ⟨rfl,rfl⟩ ⟨rfl,rfl,rfl,rfl,rfl,rfl,rfl,rfl,trivial⟩ Sub.ent | (rw[show decide (G≤(1000:Int))=false from decide_eq_false (by omega)];exact S.meet ⟨rfl,rfl⟩ ⟨rfl,rfl,rfl,rfl,rfl,rfl,rfl,rfl,trivial⟩ Sub.ent)
      ·refine ZY 8 ?_;refine ZY 8 ?_;first | exact S.meet ⟨rfl,rfl⟩ ⟨rfl,rfl,rfl,rfl,rfl,rfl,rfl,rfl,trivial⟩ Sub.ent | (rw[show decide (G≤(1000:Int))=false from decide_eq_false (by omega)];exact S.meet ⟨rfl,rfl⟩ ⟨rfl,rfl,rfl,rfl,rfl,rfl,rfl,rfl,trivial⟩ Sub.ent)
     ·refine ZY 8 ?_;refine ZY 8 ?_;refine ZY 5 ?_;first | exact S.meet ⟨rfl,rfl⟩ ⟨rfl,rfl,rfl,rfl,rfl,rfl,rfl,rfl,trivial⟩ Sub.ent | (rw[show decide (G≤(1000:Int))=false from decide_eq_false (by omega)];exact S.meet ⟨rfl,rfl⟩ ⟨rfl,rfl,rfl,rfl,rfl,rfl,rfl,rfl,trivial⟩ Sub.ent)
    ·refine ZY 8 ?_;refine ZY 8 ?_;refine ZY 8 ?_;refine ZY 2 ?_;first | exact S.meet ⟨rfl,rfl⟩ ⟨rfl,rfl,rfl,rfl,rfl,rfl,rfl,rfl,trivial⟩ Sub.ent | (rw[show decide (G≤(1000:Int))=false from decide_eq_false (by omega)];exact S.meet ⟨rfl,rfl⟩ ⟨rfl,rfl,rfl,rfl,rfl,rfl,rfl,rfl,trivial⟩ Sub.ent)
   ·refine ZY 8 ?_;refine ZY 8 ?_;refine ZY 8 ?_;refine ZY 7 ?_;first | exact S.meet ⟨rfl,rfl⟩ ⟨rfl,rfl,rfl,rfl,rfl,rfl,rfl,rfl,trivial⟩ Sub.ent | (rw[show decide (G≤(1000:Int))=false from decide_eq_false (by omega)];exact S.meet ⟨rfl,rfl⟩ ⟨rfl,rfl,rfl,rfl,rfl,rfl,rfl,rfl,trivial⟩ Sub.ent)
  ·refine ZY 8 ?_;refine ZY 8 ?_;refine ZY 8 ?_;refine ZY 8 ?_;refine ZY 4 ?_;first | exact S.meet ⟨rfl,rfl⟩ ⟨rfl,rfl,rfl,rfl,rfl,rfl,rfl,rfl,trivial⟩ Sub.ent | (rw[show decide (G≤(1000:Int))=false from decide_eq_false (by omega)];exact S.meet ⟨rfl,rfl⟩ ⟨rfl,rfl,rfl,rfl,rfl,rfl,rfl,rfl,trivial⟩ Sub.ent)
 ·rintro ρ' Γ' ⟨rfl,rfl⟩;refine ZY 8 ?_;refine Zu 67 false ef ((by decide)) ?_;refine ZY 3 ?_;refine Zu 70 true ef ((by decide)) ?_;refine ZY 3 ?_;refine Zu 73 false ef ((by decide)) ?_;refine ZY 6 ?_;refine ZF ef ?_;refine ZY 7 ?_;refine ZT ef ?_;refine ZY 2 ?_;simp only[List.append];refine ZY 2 ?_;refine Zp (Zcp Ze (NAdd_S id t k w s c 0) ?_);refine ZY 2 ?_;refine Zu 85 true ef ((by decide)) ?_;refine Zy ?_;refine Zg ef ef ef (Zcp Ze (NCancel_S 1) ?_);refine ZY 3 ?_;refine Zu 90 true ef ((by decide)) ?_;refine ZY 2 ?_;refine Zg ef ef ef (Zcp Ze (NbUp_S node) ?_);refine ZY 3 ?_;refine Zu 96 true ef ((by decide)) ?_;refine ZY 2 ?_;refine Zg ef ef ef (Zcp Ze (NLost_S node) ?_);refine ZY 3 ?_;refine Zu 102 true ef ((by decide)) ?_;refine ZY 3 ?_;refine Zg ef ef ef (Zcp Ze (NHear_S node a0 a1 a2 a3 a4 a5 a6 a7 a8 a9 a10 a11 bv) ?_);refine ZY 3 ?_;refine Zu 109 true ef ((by decide)) ?_;refine ZY 2 ?_;refine Zg ef ef ef (Zcp Ze (NTick_S now) ?_);refine ZY 3 ?_;refine Zu 115 true ef ((by decide)) ?_;refine Zy ?_;refine Zg ef ef ef (Zcp Ze (NbTake_S) ?_);refine ZY 4 ?_;refine Zu 121 true ef ((by decide)) ?_;refine Zy ?_;refine Zg ef ef ef (Zcp Ze (NbImages_S) ?_);refine ZY 4 ?_;refine Zu 127 true ef ((by decide)) ?_;refine Zy ?_;refine Zg ef ef ef (Zcp Ze (NPublished_S 1 1 true) ?_);refine ZY 3 ?_;refine Zu 132 true ef ((by decide)) ?_;refine Zy ?_;refine Zg ef ef ef (Zcp Ze (NbDone_S) ?_);refine ZY 4 ?_;refine Zu 138 true ef ((by decide)) ?_;refine Zy ?_;refine Zg ef ef ef (Zcp Ze (NbJobs_S) ?_);refine ZY 4 ?_;refine Zu 144 true ef ((by decide)) ?_;refine Zy ?_;refine Zg ef ef ef (Zcp Ze (NMatrix_S) ?_);refine ZY 3 ?_;refine Zu 149 true ef ((by decide)) ?_;refine Zy ?_;refine Zg ef ef ef (Zcp Ze (NGen_S) ?_);refine ZY 3 ?_;refine Zu 154 true ef ((by decide)) ?_;refine Zy ?_;refine Zg ef ef ef (Zcp Ze (NbMembers_S) ?_);refine ZY 4 ?_;refine Zu 160 true ef ((by decide)) ?_;refine Zy ?_;refine Zg ef ef ef (Zcp Ze (NResting_S) ?_);refine ZY 5 ?_;exact Zf ef Zq (⟨rfl,rfl⟩)
set_option maxHeartbeats 4000000 in
theorem ErrsGood_S (N R Q G id t k w s c node a0 a1 a2 a3 a4 a5 a6 a7 a8 a9 a10 a11:Int) (bv:Value) (now:Nat) (hi:0≤id∧id≤4294967295) (ht:0≤t) (hs:0≤s) (h32:now≤4294967295) (hg:1≤N∧N≤16∧1≤R∧R≤8∧1≤Q∧Q≤1000∧1≤G∧G≤1000) {W:World} (hW:TabW W):LawS 8 [.agg #[.int .i64 N,.int .i64 R,.int .i64 Q,.int .i64 G],.agg #[.int .u32 id,.int .u8 t,.int .i64 k,.int .i64 w,.int .u8 s,.int .i64 c],.int .i64 node,.agg #[.int .u8 a0,.int .u8 a1,.int .u32 a2,.int .u32 a3,.int .u32 a4,.int .u32 a5,.int .u32 a6,.int .u32 a7,.int .u8 a8,.int .i64 a9,.int .u32 a10,.int .u32 a11,bv],.int .u32 (now:Int)] W:=by
 refine Zbd Tryz.func8 rfl Tryz.ntmps8 fun w0 Γ=>Zsh ?_;obtain⟨N,rfl⟩:∃m:Nat,N=m:=⟨N.toNat,by omega⟩;obtain⟨R,rfl⟩:∃m:Nat,R=m:=⟨R.toNat,by omega⟩;obtain⟨Q,rfl⟩:∃m:Nat,Q=m:=⟨Q.toNat,by omega⟩;obtain⟨G,rfl⟩:∃m:Nat,G=m:=⟨G.toNat,by omega⟩;have hok0:BrOk (newR N R Q G 5):=newR_ok (mx0_ok (by omega) (by omega) (by omega) (by omega)) (by omega) (by omega) (by omega) (by omega);refine ZY 2 ?_;refine Zp (S.box (cs:=[_,_,_,_]) rfl rfl rfl ?_);intro b5;refine Zp (S.box (cs:=[_,_,_,_,_,_]) rfl rfl rfl ?_);intro b6;refine Zp (S.box (cs:=[_,_,_,_,_,_,_,_,_,_,_,_,_]) rfl rfl rfl ?_);intro b8;refine ZY 5 ?_;refine Zp (Zcp Ze (awake_S hW) ?_);refine ZY 2 ?_;refine ZF ef ?_;refine ZY 4 ?_;refine Zp (Zc1 Ze (BNew_S N R Q G 5 (by omega) (by omega) (by omega) (by omega) (by omega) (by omega) (by omega) (by omega)) ?_);rintro v Θ ⟨b,ps,rfl,rfl⟩;refine ZY 8 ?_;refine ZY 4 ?_;refine Zu 28 true ef ((decide_eq_true (by omega))) ?_;refine ZY 5 ?_;refine Zu 33 true ef ((decide_eq_true (by omega))) ?_;refine ZY 5 ?_;refine Zu 38 true ef ((decide_eq_true (by omega))) ?_;refine ZY 5 ?_;refine Zu 43 true ef ((decide_eq_true (by omega))) ?_;refine ZY 5 ?_;refine Zu 48 true ef ((decide_eq_true (by omega))) ?_;refine ZY 5 ?_;refine Zu 53 true ef ((decide_eq_true (by omega))) ?_;refine ZY 5 ?_;refine Zu 58 true ef ((decide_eq_true (by omega))) ?_;refine ZY 8 ?_;refine Zy ?_;rw[show decide ((G:Int)≤1000)=true from decide_eq_true (by omega)];refine ZY 5 ?_;refine Zu 67 false ef ((by decide)) ?_;refine ZY 3 ?_;refine Zu 70 false ef ((by decide)) ?_;refine ZY 8 ?_;refine ZY 8 ?_;refine Zy ?_;refine ZF ef ?_;refine ZY 2 ?_
 refine Zc (fun ρ' Γ'=>ρ'=[(2,.int .i64 node),(4,.int .u32 (now:Int)),(5,pt b5),(6,pt b6),(8,pt b8),(11,pt b),(14,.bool (decide (id≠0∧1≤k∧k≤(N:Int)∧1≤w∧w≤10000∧0≤c∧c≤w∧t≤3)))]∧Γ'=blk b5 25 #[.int .i64 (N:Int),.int .i64 (R:Int),.int .i64 (Q:Int),.int .i64 (G:Int)]::blk b6 35 #[.int .u32 id,.int .u8 t,.int .i64 k,.int .i64 w,.int .u8 s,.int .i64 c]::blk b8 72 #[.int .u8 a0,.int .u8 a1,.int .u32 a2,.int .u32 a3,.int .u32 a4,.int .u32 a5,.int .u32 a6,.int .u32 a7,.int .u8 a8,.int .i64 a9,.int .u32 a10,.int .u32 a11,bv]::BP b (newR N R Q G 5) ps::old W::Γ) ?_ ?_
 ·refine ZY 5 ?_
  refine Zbb 168 ef (fun hg9_3=>?_) (fun hg9_3=>?_)
  ·have hid:id≠0:=by simpa using hg9_3
   refine ZY 5 ?_
   refine Zb 173 ef (fun hg9_8=>?_) (fun hg9_8=>?_)
   ·refine ZY 7 ?_
    refine Zb 180 ef (fun hg9_15=>?_) (fun hg9_15=>?_)
    ·refine ZY 5 ?_
     refine Zb 185 ef (fun hg9_20=>?_) (fun hg9_20=>?_)
     ·refine ZY 5 ?_
      refine Zb 190 ef (fun hg9_25=>?_) (fun hg9_25=>?_)
      ·refine ZY 5 ?_
       refine Zb 195 ef (fun hg9_30=>?_) (fun hg9_30=>?_)
       ·refine ZY 7 ?_
        refine Zb 202 ef (fun hg9_37=>?_) (fun hg9_37=>?_)
        ·refine ZY 6 ?_;first | (rw[show decide (id≠0∧1≤k∧k≤(N:Int)∧1≤w∧w≤10000∧0≤c∧c≤w∧t≤3)=decide (t≤3) from decide_eq_decide.2 (by omega)];exact S.meet ⟨rfl,rfl⟩ ⟨rfl,rfl,rfl,rfl,rfl,rfl,rfl,trivial⟩ Sub.ent) | (rw[show decide (id≠0∧1≤k∧k≤(N:Int)∧1≤w∧w≤10000∧0≤c∧c≤w∧t≤3)=false from decide_eq_false (by omega)];exact S.meet ⟨rfl,rfl⟩ ⟨rfl,rfl,rfl,rfl,rfl,rfl,rfl,trivial⟩ Sub.ent)
        ·refine ZY 6 ?_;first | (rw[show decide (id≠0∧1≤k∧k≤(N:Int)∧1≤w∧w≤10000∧0≤c∧c≤w∧t≤3)=decide (t≤3) from decide_eq_decide.2 (by omega)];exact S.meet ⟨rfl,rfl⟩ ⟨rfl,rfl,rfl,rfl,rfl,rfl,rfl,trivial⟩ Sub.ent) | (rw[show decide (id≠0∧1≤k∧k≤(N:Int)∧1≤w∧w≤10000∧0≤c∧c≤w∧t≤3)=false from decide_eq_false (by omega)];exact S.meet ⟨rfl,rfl⟩ ⟨rfl,rfl,rfl,rfl,rfl,rfl,rfl,trivial⟩ Sub.ent)
       ·refine ZY 8 ?_;refine ZY 5 ?_;first | (rw[show decide (id≠0∧1≤k∧k≤(N:Int)∧1≤w∧w≤10000∧0≤c∧c≤w∧t≤3)=decide (t≤3) from decide_eq_decide.2 (by omega)];exact S.meet ⟨rfl,rfl⟩ ⟨rfl,rfl,rfl,rfl,rfl,rfl,rfl,trivial⟩ Sub.ent) | (rw[show decide (id≠0∧1≤k∧k≤(N:Int)∧1≤w∧w≤10000∧0≤c∧c≤w∧t≤3)=false from decide_eq_false (by omega)];exact S.meet ⟨rfl,rfl⟩ ⟨rfl,rfl,rfl,rfl,rfl,rfl,rfl,trivial⟩ Sub.ent)
      ·refine ZY 8 ?_;refine ZY 8 ?_;refine ZY 2 ?_;first | (rw[show decide (id≠0∧1≤k∧k≤(N:Int)∧1≤w∧w≤10000∧0≤c∧c≤w∧t≤3)=decide (t≤3) from decide_eq_decide.2 (by omega)];exact S.meet ⟨rfl,rfl⟩ ⟨rfl,rfl,rfl,rfl,rfl,rfl,rfl,trivial⟩ Sub.ent) | (rw[show decide (id≠0∧1≤k∧k≤(N:Int)∧1≤w∧w≤10000∧0≤c∧c≤w∧t≤3)=false from decide_eq_false (by omega)];exact S.meet ⟨rfl,rfl⟩ ⟨rfl,rfl,rfl,rfl,rfl,rfl,rfl,trivial⟩ Sub.ent)
     ·refine ZY 8 ?_;refine ZY 8 ?_;refine ZY 7 ?_;first | (rw[show decide (id≠0∧1≤k∧k≤(N:Int)∧1≤w∧w≤10000∧0≤c∧c≤w∧t≤3)=decide (t≤3) from decide_eq_decide.2 (by omega)];exact S.meet ⟨rfl,rfl⟩ ⟨rfl,rfl,rfl,rfl,rfl,rfl,rfl,trivial⟩ Sub.ent) | (rw[show decide (id≠0∧1≤k∧k≤(N:Int)∧1≤w∧w≤10000∧0≤c∧c≤w∧t≤3)=false from decide_eq_false (by omega)];exact S.meet ⟨rfl,rfl⟩ ⟨rfl,rfl,rfl,rfl,rfl,rfl,rfl,trivial⟩ Sub.ent)
    ·refine ZY 8 ?_;refine ZY 8 ?_;refine ZY 8 ?_;refine ZY 4 ?_;first | (rw[show decide (id≠0∧1≤k∧k≤(N:Int)∧1≤w∧w≤10000∧0≤c∧c≤w∧t≤3)=decide (t≤3) from decide_eq_decide.2 (by omega)];exact S.meet ⟨rfl,rfl⟩ ⟨rfl,rfl,rfl,rfl,rfl,rfl,rfl,trivial⟩ Sub.ent) | (rw[show decide (id≠0∧1≤k∧k≤(N:Int)∧1≤w∧w≤10000∧0≤c∧c≤w∧t≤3)=false from decide_eq_false (by omega)];exact S.meet ⟨rfl,rfl⟩ ⟨rfl,rfl,rfl,rfl,rfl,rfl,rfl,trivial⟩ Sub.ent)
   ·refine ZY 8 ?_;refine ZY 8 ?_;refine ZY 8 ?_;refine ZY 8 ?_;refine ZY 3 ?_;first | (rw[show decide (id≠0∧1≤k∧k≤(N:Int)∧1≤w∧w≤10000∧0≤c∧c≤w∧t≤3)=decide (t≤3) from decide_eq_decide.2 (by omega)];exact S.meet ⟨rfl,rfl⟩ ⟨rfl,rfl,rfl,rfl,rfl,rfl,rfl,trivial⟩ Sub.ent) | (rw[show decide (id≠0∧1≤k∧k≤(N:Int)∧1≤w∧w≤10000∧0≤c∧c≤w∧t≤3)=false from decide_eq_false (by omega)];exact S.meet ⟨rfl,rfl⟩ ⟨rfl,rfl,rfl,rfl,rfl,rfl,rfl,trivial⟩ Sub.ent)
  ·have hid:id=0:=by simpa using hg9_3
   refine ZY 8 ?_;refine ZY 8 ?_;refine ZY 8 ?_;refine ZY 8 ?_;refine ZY 8 ?_;first | (rw[show decide (id≠0∧1≤k∧k≤(N:Int)∧1≤w∧w≤10000∧0≤c∧c≤w∧t≤3)=decide (t≤3) from decide_eq_decide.2 (by omega)];exact S.meet ⟨rfl,rfl⟩ ⟨rfl,rfl,rfl,rfl,rfl,rfl,rfl,trivial⟩ Sub.ent) | (rw[show decide (id≠0∧1≤k∧k≤(N:Int)∧1≤w∧w≤10000∧0≤c∧c≤w∧t≤3)=false from decide_eq_false (by omega)];exact S.meet ⟨rfl,rfl⟩ ⟨rfl,rfl,rfl,rfl,rfl,rfl,rfl,trivial⟩ Sub.ent)
 ·rintro ρ' Γ' ⟨rfl,rfl⟩;refine ZY 4 ?_;refine Zp (Zc1 Ze (AddAny_S b ps N R Q G id t k w s c hok0 hi ht hs) ?_);rintro v Θ ⟨e,st,ps1,rfl,rfl,hE,hA1,hA2⟩;refine ZY 4 ?_
  refine Zc (fun ρ' Γ'=>∃ps',ρ'=[(2,.int .i64 node),(4,.int .u32 (now:Int)),(5,pt b5),(8,pt b8),(11,pt b),(237,.bool false)]∧Γ'=blk b5 25 #[.int .i64 (N:Int),.int .i64 (R:Int),.int .i64 (Q:Int),.int .i64 (G:Int)]::blk b8 72 #[.int .u8 a0,.int .u8 a1,.int .u32 a2,.int .u32 a3,.int .u32 a4,.int .u32 a5,.int .u32 a6,.int .u32 a7,.int .u8 a8,.int .i64 a9,.int .u32 a10,.int .u32 a11,bv]::BP b st ps'::old W::Γ) ?_ ?_
  ·by_cases hr:(id≠0∧1≤k∧k≤(N:Int)∧1≤w∧w≤10000∧0≤c∧c≤w∧t≤3)
   ·obtain⟨rfl,hT⟩:=hA1 hr;rw[decide_eq_true hr];refine ZY 6 ?_;refine Zu 214 false ef ((by decide)) ?_;refine ZY 3 ?_;refine Zu 217 false ef ((by decide)) ?_;refine ZY 8 ?_;refine ZY 6 ?_
    refine Zb 231 ef (fun hg11_21=>?_) (fun hg11_21=>?_)
    ·refine ZY 2 ?_;refine Zg ef ef ef (Zc1 Ze (AddTwice_S b ps1 hE id t k w s c hi ht hs hr (hT hg11_21) hE.few) ?_);rintro v Θ ⟨ps2,rfl,rfl⟩;refine ZY 4 ?_;first | exact S.meet ⟨ps2,rfl,rfl⟩ ⟨rfl,rfl,rfl,rfl,rfl,rfl,trivial⟩ Sub.ent | exact S.meet ⟨ps1,rfl,rfl⟩ ⟨rfl,rfl,rfl,rfl,rfl,rfl,trivial⟩ Sub.ent
    ·refine ZY 7 ?_;first | exact S.meet ⟨ps2,rfl,rfl⟩ ⟨rfl,rfl,rfl,rfl,rfl,rfl,trivial⟩ Sub.ent | exact S.meet ⟨ps1,rfl,rfl⟩ ⟨rfl,rfl,rfl,rfl,rfl,rfl,trivial⟩ Sub.ent
   ·obtain rfl:=hA2 hr;rw[decide_eq_false hr];refine ZY 6 ?_;refine Zu 214 false ef ((by decide)) ?_;refine ZY 3 ?_;refine Zu 217 true ef ((by decide)) ?_;refine ZY 5 ?_;refine Zu 222 false ef ((by decide)) ?_;refine ZY 8 ?_;refine ZY 8 ?_;first | exact S.meet ⟨ps2,rfl,rfl⟩ ⟨rfl,rfl,rfl,rfl,rfl,rfl,trivial⟩ Sub.ent | exact S.meet ⟨ps1,rfl,rfl⟩ ⟨rfl,rfl,rfl,rfl,rfl,rfl,trivial⟩ Sub.ent
  ·rintro ρ' Γ' ⟨ps3,rfl,rfl⟩;refine ZF ef ?_;refine ZY 2 ?_
   refine Zc (fun ρ' Γ'=>ρ'=[(2,.int .i64 node),(4,.int .u32 (now:Int)),(8,pt b8),(11,pt b),(16,.bool (decide (0≤node∧node<(N:Int))))]∧Γ'=blk b8 72 #[.int .u8 a0,.int .u8 a1,.int .u32 a2,.int .u32 a3,.int .u32 a4,.int .u32 a5,.int .u32 a6,.int .u32 a7,.int .u8 a8,.int .i64 a9,.int .u32 a10,.int .u32 a11,bv]::BP b st ps3::old W::Γ) ?_ ?_
   ·refine ZY 4 ?_
    refine Zb 240 ef (fun hg13_2=>?_) (fun hg13_2=>?_)
    ·refine ZY 7 ?_;first | (rw[show decide (0≤node∧node<(N:Int))=decide (node<(N:Int)) from decide_eq_decide.2 (by omega)];exact S.meet ⟨rfl,rfl⟩ ⟨rfl,rfl,rfl,rfl,rfl,trivial⟩ Sub.ent) | (rw[show decide (0≤node∧node<(N:Int))=false from decide_eq_false (by omega)];exact S.meet ⟨rfl,rfl⟩ ⟨rfl,rfl,rfl,rfl,rfl,trivial⟩ Sub.ent)
    ·refine ZY 7 ?_;first | (rw[show decide (0≤node∧node<(N:Int))=decide (node<(N:Int)) from decide_eq_decide.2 (by omega)];exact S.meet ⟨rfl,rfl⟩ ⟨rfl,rfl,rfl,rfl,rfl,trivial⟩ Sub.ent) | (rw[show decide (0≤node∧node<(N:Int))=false from decide_eq_false (by omega)];exact S.meet ⟨rfl,rfl⟩ ⟨rfl,rfl,rfl,rfl,rfl,trivial⟩ Sub.ent)
   ·rintro ρ' Γ' ⟨rfl,rfl⟩;refine ZY 6 ?_
    by_cases hin:(0≤node∧node<(N:Int))
    ·obtain⟨hd1,hd2⟩:=hE.down hin;have hbad:nodeR st node true≠0:=by rw[hd1];decide
     rw[decide_eq_true hin];refine ZY 3 ?_;refine ZT ef ?_;refine ZY 8 ?_;refine Zp (Zcp Ze (Lost_S b st ps3 node (by rw[hE.ord];exact Nat.zero_le _)) ?_);rw[lostR_bad hbad,hd1];refine ZY 3 ?_;refine Zu 252 false ef ((by simp)) ?_;refine ZY 3 ?_;refine Zg ef ef ef (Zcp Ze (HearBad_S b st ps3 node a0 a1 a2 a3 a4 a5 a6 a7 a8 a9 a10 a11 bv hbad) ?_);rw[hd1];refine ZY 4 ?_;refine Zu 260 false ef ((by decide)) ?_;refine ZY 2 ?_;refine Zg ef ef ef (Zcp Ze (Up_S b st ps3 node) ?_);obtain⟨hu1,hJ,hu14⟩:=hE.up1 hin;rw[hu1];obtain⟨st2,hst2⟩:∃x,x=(upR' st node).2:=⟨_,rfl⟩;rw[←hst2]at hJ hu14 ⊢;refine ZY 5 ?_;refine Zu 268 false ef ((by simp)) ?_;refine ZY 4 ?_;refine Zg ef ef ef (Zcp Ze (Up_S b st2 ps3 node) ?_);rw[show upR' st2 node=(14,st2) from by unfold upR';rw[if_pos (by rw[hu14];decide),hu14]];refine ZY 4 ?_;refine ZF ef ?_;refine ZY 6 ?_;refine Zp (Zcp Ze (Tick_S b st2 ps3 now h32 hJ.ws (by rw[hJ.ord];exact Nat.zero_le _) hW) ?_);obtain⟨hk1,hK⟩:=hJ.tick h32;obtain⟨st3,hst3⟩:∃x,x=(tickR st2 now).2:=⟨_,rfl⟩;rw[←hst3]at hK ⊢;have hKo:=hK.ord;have hKd:=hK.dn
     have hk2:(now=0∧(tickR st2 now).1=12)∨(0<now∧(tickR st2 now).1=0):=by
      rw[hk1]
      by_cases h0:now=0
      ·exact .inl ⟨h0,if_pos h0⟩
      ·exact .inr ⟨by omega,if_neg h0⟩
     refine ZY 5 ?_;refine Zu 284 false ef ((by rcases hk2 with ⟨h0,h1⟩ | ⟨h0,h1⟩ <;> rw[h1] <;> simp <;> omega)) ?_;refine ZY 2 ?_;refine Zg ef ef ef (Zcp Ze (Tick_S b st3 ps3 now h32 hK.ws (by omega) hW) ?_);rw[hK.twice];refine ZY 3 ?_;refine Zu 290 false ef ((by simp)) ?_;refine Zy ?_;refine Zg ef ef ef (Zcp Ze (Published_S b st3 ps3 77 1 true (by omega) (by omega)) ?_);rw[pub_qp hK.qp];refine ZY 3 ?_;refine ZF ef ?_;refine ZY 4 ?_;refine Zp (Zcp Ze (Resting_S b st3 ps3) ?_);refine Zy ?_
     refine Zbb 297 ef (fun hg21_2=>?_) (fun hg21_2=>?_)
     ·refine ZY 6 ?_
      try rw[show decide ((5:Int)<(now:Int))=true from decide_eq_true (Classical.byContradiction fun h9=>by rw[hK.rest (by omega)]at hg21_2;cases hg21_2)]
      exact Zf ef Zq (⟨rfl,rfl⟩)
     ·refine ZY 6 ?_
      try rw[show decide ((5:Int)<(now:Int))=true from decide_eq_true (Classical.byContradiction fun h9=>by rw[hK.rest (by omega)]at hg21_2;cases hg21_2)]
      exact Zf ef Zq (⟨rfl,rfl⟩)
    ·have hd1:=hE.out hin true;have hd2:=hE.out hin false;have hbad:nodeR st node true≠0:=by rw[hd1];decide
     rw[decide_eq_false hin];refine ZY 3 ?_;refine ZF ef ?_;refine ZY 6 ?_;refine Zp (Zcp Ze (Lost_S b st ps3 node (by rw[hE.ord];exact Nat.zero_le _)) ?_);rw[lostR_bad hbad,hd1];refine ZY 3 ?_;refine Zu 252 false ef ((by simp)) ?_;refine ZY 3 ?_;refine Zg ef ef ef (Zcp Ze (HearBad_S b st ps3 node a0 a1 a2 a3 a4 a5 a6 a7 a8 a9 a10 a11 bv hbad) ?_);rw[hd1];refine ZY 4 ?_;refine Zu 260 false ef ((by decide)) ?_;refine ZY 2 ?_;refine Zg ef ef ef (Zcp Ze (Up_S b st ps3 node) ?_);rw[show upR' st node=(1,st) from by unfold upR';rw[if_pos (by rw[hd2];decide),hd2]];obtain⟨st2,hst2⟩:∃x,x=st:=⟨_,rfl⟩;have hJ:EJ st2:=by rw[hst2];exact hE.j
     rw[←hst2];refine ZY 5 ?_;refine Zu 268 false ef ((by simp)) ?_;refine ZY 8 ?_;refine ZY 8 ?_;refine Zp (Zcp Ze (Tick_S b st2 ps3 now h32 hJ.ws (by rw[hJ.ord];exact Nat.zero_le _) hW) ?_);obtain⟨hk1,hK⟩:=hJ.tick h32;obtain⟨st3,hst3⟩:∃x,x=(tickR st2 now).2:=⟨_,rfl⟩;rw[←hst3]at hK ⊢;have hKo:=hK.ord;have hKd:=hK.dn
     have hk2:(now=0∧(tickR st2 now).1=12)∨(0<now∧(tickR st2 now).1=0):=by
      rw[hk1]
      by_cases h0:now=0
      ·exact .inl ⟨h0,if_pos h0⟩
      ·exact .inr ⟨by omega,if_neg h0⟩
     refine ZY 5 ?_;refine Zu 284 false ef ((by rcases hk2 with ⟨h0,h1⟩ | ⟨h0,h1⟩ <;> rw[h1] <;> simp <;> omega)) ?_;refine ZY 2 ?_;refine Zg ef ef ef (Zcp Ze (Tick_S b st3 ps3 now h32 hK.ws (by omega) hW) ?_);rw[hK.twice];refine ZY 3 ?_;refine Zu 290 false ef ((by simp)) ?_;refine Zy ?_;refine Zg ef ef ef (Zcp Ze (Published_S b st3 ps3 77 1 true (by omega) (by omega)) ?_);rw[pub_qp hK.qp];refine ZY 3 ?_;refine ZF ef ?_;refine ZY 4 ?_;refine Zp (Zcp Ze (Resting_S b st3 ps3) ?_);refine Zy ?_
     refine Zbb 297 ef (fun hg21_2=>?_) (fun hg21_2=>?_)
     ·refine ZY 6 ?_
      try rw[show decide ((5:Int)<(now:Int))=true from decide_eq_true (Classical.byContradiction fun h9=>by rw[hK.rest (by omega)]at hg21_2;cases hg21_2)]
      exact Zf ef Zq (⟨rfl,rfl⟩)
     ·refine ZY 6 ?_
      try rw[show decide ((5:Int)<(now:Int))=true from decide_eq_true (Classical.byContradiction fun h9=>by rw[hK.rest (by omega)]at hg21_2;cases hg21_2)]
      exact Zf ef Zq (⟨rfl,rfl⟩)
end BN
open Go.ChangeShapes Go.WideShapes Go.ChangeAt
theorem BrainErrs_law {H:Type} (enc:TypeId×Value→H):LawWalkT enc Rows.brainErrsRow.laid 8 Tryz.f8:=by
 intro W base args ds before hval hA _ _ hL;rw[Tryz.params8]at hA hval;obtain⟨v0,vs0,d0,ds0,p0,q0,hargs,rfl,rfl,h0,r0⟩:=trodAll_cons hA;obtain⟨v1,vs1,d1,ds1,p1,q1,rfl,rfl,rfl,h1,r1⟩:=trodAll_cons r0;obtain⟨v2,vs2,d2,ds2,p2,q2,rfl,rfl,rfl,h2,r2⟩:=trodAll_cons r1;obtain⟨v3,vs3,d3,ds3,p3,q3,rfl,rfl,rfl,h3,r3⟩:=trodAll_cons r2;obtain⟨v4,vs4,d4,ds4,p4,q4,rfl,rfl,rfl,h4,r4⟩:=trodAll_cons r3;obtain⟨rfl,rfl,rfl⟩:=trodAll_nil r4;obtain rfl:args=#[v0,v1,v2,v3,v4]:=by cases args;simp_all
 obtain⟨cs0,rfl,hcs0⟩:=arg_struct (s:=.cat 1 (.int .i64) (.cat 1 (.int .i64) (.cat 1 (.int .i64) (.cat 1 (.int .i64) .nil)))) 4 Tryz.underlying25 (by kernel_rfl) (hval 0 25 v0 rfl rfl) h0;obtain⟨_,_,rfl,_,⟨N,rfl,_⟩,_,_,rfl,_,⟨R,rfl,_⟩,_,_,rfl,_,⟨Q,rfl,_⟩,_,_,rfl,_,⟨G,rfl,_⟩,rfl⟩:=hcs0;obtain⟨cs1,rfl,hcs1⟩:=arg_struct (s:=.cat 1 (.int .u32) (.cat 1 (.int .u8) (.cat 1 (.int .i64) (.cat 1 (.int .i64) (.cat 1 (.int .u8) (.cat 1 (.int .i64) .nil)))))) 4 Tryz.underlying35 (by kernel_rfl) (hval 1 35 v1 rfl rfl) h1;obtain⟨_,_,rfl,_,⟨id,rfl,hi⟩,_,_,rfl,_,⟨t,rfl,ht⟩,_,_,rfl,_,⟨k,rfl,_⟩,_,_,rfl,_,⟨w,rfl,_⟩,_,_,rfl,_,⟨s,rfl,hs⟩,_,_,rfl,_,⟨c,rfl,_⟩,rfl⟩:=hcs1;obtain⟨node,rfl,_⟩:=arg_int Tryz.underlying3 (hval 2 3 v2 rfl rfl) h2;obtain⟨cs3,rfl,hcs3⟩:=arg_struct (s:=.cat 1 (.int .u8) (.cat 1 (.int .u8) (.cat 1 (.int .u32) (.cat 1 (.int .u32) (.cat 1 (.int .u32) (.cat 1 (.int .u32) (.cat 1 (.int .u32) (.cat 1 (.int .u32) (.cat 1 (.int .u8) (.cat 1 (.int .i64) (.cat 1 (.int .u32) (.cat 1 (.int .u32) (.cat 1 (.slice 1 (.int .u8)) .nil))))))))))))) 4 Tryz.underlying72 (by kernel_rfl) (hval 3 72 v3 rfl rfl) h3;obtain⟨_,_,rfl,_,⟨a0,rfl,_⟩,_,_,rfl,_,⟨a1,rfl,_⟩,_,_,rfl,_,⟨a2,rfl,_⟩,_,_,rfl,_,⟨a3,rfl,_⟩,_,_,rfl,_,⟨a4,rfl,_⟩,_,_,rfl,_,⟨a5,rfl,_⟩,_,_,rfl,_,⟨a6,rfl,_⟩,_,_,rfl,_,⟨a7,rfl,_⟩,_,_,rfl,_,⟨a8,rfl,_⟩,_,_,rfl,_,⟨a9,rfl,_⟩,_,_,rfl,_,⟨a10,rfl,_⟩,_,_,rfl,_,⟨a11,rfl,_⟩,_,_,rfl,_,⟨bv,rfl,_⟩,rfl⟩:=hcs3;obtain⟨now,rfl,hnow⟩:=arg_int Tryz.underlying31 (hval 4 31 v4 rfl rfl) h4;have hi:=u32_rng hi;have ht:=u8_rng ht;have hs:=u8_rng hs;have hnow:=u32_rng hnow;obtain⟨now,rfl⟩:∃m:Nat,now=m:=⟨now.toNat,by omega⟩
 by_cases hg:1≤N∧N≤16∧1≤R∧R≤8∧1≤Q∧Q≤1000∧1≤G∧G≤1000
 ·exact law_run (BN.ErrsGood_S N R Q G id t k w s c node a0 a1 a2 a3 a4 a5 a6 a7 a8 a9 a10 a11 bv.v now hi (by omega) (by omega) (by omega) hg (tabW_of rfl hL))
 ·exact law_run (BN.ErrsBad_S N R Q G id t k w s c node a0 a1 a2 a3 a4 a5 a6 a7 a8 a9 a10 a11 bv.v now hi (by omega) (by omega) (by omega) hg (tabW_of rfl hL))
set_option maxRecDepth 100000 in
theorem BrainErrs_met (os:Os) (args:Array Value):laidMetH Tryz.prog Rows.brainErrsRow.laid ((World.doorLaid Tryz.prog 14 os).forCall (fun _ _=>0) ⟨#[],args,[]⟩).memory:=
 laidMetH_of_parts3 (fuel:=8) (laidMet_of_run' 8 (by kernel_rfl) (by kernel_rfl)) (by kernel_rfl) (by kernel_rfl)
set_option maxRecDepth 100000 in
theorem BrainErrs_lifted (os:Os) (started:os.Started) (H:Type) (enc:TypeId×Value→H) :
  ReturnsInHanded {} Tryz.checked os 8 .any (fun w args=>(Rows.brainErrsSpec.pre enc Tryz.prog Tryz.f8 [] false w args∧laidMetH Tryz.prog Rows.brainErrsRow.laid w)∧sizedMet enc Tryz.prog Tryz.f8 (OpenSpec.ofChange Rows.brainErrsSpec) false w args) (Rows.brainErrsSpec.post enc Tryz.prog Tryz.f8 false true false false):=
 lift_trueT started Tryz.func8 (by kernel_rfl)
  (ChangeSpec.witness_shaped (enc:=enc) (C:=Tryz.checked) (os:=os) (X:=fun w _=>laidMetH Tryz.prog Rows.brainErrsRow.laid w) false (World.doorLaid Tryz.prog 14 os) #[.agg #[.int .i64 0,.int .i64 0,.int .i64 0,.int .i64 0],.agg #[.int .u32 0,.int .u8 0,.int .i64 0,.int .i64 0,.int .u8 0,.int .i64 0],.int .i64 0,.agg #[.int .u8 0,.int .u8 0,.int .u32 0,.int .u32 0,.int .u32 0,.int .u32 0,.int .u32 0,.int .u32 0,.int .u8 0,.int .i64 0,.int .u32 0,.int .u32 0,.slice none 0 0],.int .u32 0] 8 rfl (World.shaped_of_RefB (by kernel_rfl) (by kernel_rfl)) (by kernel_rfl) (by kernel_rfl) (by kernel_rfl) (BrainErrs_met os _))
  rfl rfl (by kernel_rfl) (fun ds h=>by match ds,h with | [a0,a1,a2,a3,a4],_=>rfl) (BrainErrs_law enc)
theorem BrainErrs_over:Rows.brainErrsRow.holds Tryz.pinned (OpenSpec.ofChange Rows.brainErrsSpec):=
 OpenClaim.holds_of_wide 8 Tryz.f8 rfl rfl rfl rfl rfl rfl rfl ⟨rfl,rfl,rfl,rfl,rfl⟩ rfl rfl rfl rfl rfl (by kernel_rfl) Tryz.func8 (by kernel_rfl)
  (of_decide_eq_true (by kernel_rfl)) (by unfold Func.isWrapper;first | (rw[if_pos (by decide +kernel)];kernel_rfl) | (rw[if_neg (by decide +kernel)];exact⟨rfl,rfl⟩))
  (fun os started H enc _=>BrainErrs_lifted os started H enc)
theorem BrainErrs_holds:Rows.BrainErrsCardSaid:=
 Claim7.holds_tied_plain_at .later [] [.data] true (true,"4872c1f8a3b510e83d0b533b5dde514eb1aba5b287cb337591b3ec3084a339dd") true
  BrainErrs_over (fun _ h=>by cases h) (by kernel_rfl) (fun _ h=>by cases h) brainErrs_row_tie rfl ⟨rfl,rfl⟩ (by kernel_rfl) rfl
  (fun f fn hf hfn=>by
   obtain rfl:f=8:=Option.some.inj ((show Tryz.prog.funcNamed "quadrille/quadrillelaw19.BrainErrs" = some 8 by kernel_rfl).symm.trans hf) |>.symm
   obtain rfl:fn=Tryz.f8:=(Option.some.inj (Tryz.func8.symm.trans hfn)).symm
   exact⟨by kernel_rfl,fun j t ht=>by
    rw[Tryz.params8]at ht;have hm:t∈[25,35,3,72,31]:=by simpa using Array.mem_of_getElem? ht
    have hall:([25,35,3,72,31].all fun u=>!Tryz.prog.wantsStandIn u)=true:=by kernel_rfl
    exact(show Tryz.prog.wantsStandIn t=false by simpa using List.all_eq_true.1 hall t hm)⟩)
  (by kernel_rfl)
#print axioms BrainErrs_holds
end Go.Proofs.YtdackcibfkkniaaGreatDoor
