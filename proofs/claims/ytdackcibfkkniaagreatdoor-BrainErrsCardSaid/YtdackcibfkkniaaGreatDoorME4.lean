/- Texts put together. -/
import Derived.Test.YtdackcibfkkniaaGreatDoorME3
set_option synthInstance.maxSize 9999
set_option synthInstance.maxHeartbeats 400000
set_option maxRecDepth 20000
namespace Go.Proofs.YtdackcibfkkniaaGreatDoor
open Go.RowKit
namespace BN
theorem set_oth (st:Br) {x:Bj} {id:Nat} (h:id≠x.id):getJ (st.set x).js id=getJ st.js id:=by
 show getJ (setJ st.js x) id=_;rw[getJ_set,if_neg h]
theorem rm_oth (js:List Bj) {id k:Nat} (h:id≠k):getJ (rmJ js k) id=getJ js id:=by
 unfold getJ rmJ;induction js with
 | nil=>rfl
 | cons y js ih=>
  by_cases hy:y.id=k
  ·have h1:decide (y.id≠k)=false:=by simp[hy]
   have h2:decide (y.id=id)=false:=decide_eq_false (fun e=>h (e.symm.trans hy));simp only[List.filter_cons,List.find?_cons,h1,h2];exact ih
  ·have h1:decide (y.id≠k)=true:=by simp[hy]
   simp only[List.filter_cons,List.find?_cons,h1,if_true];rw[ih]
theorem gone_oth (st:Br) {x:Bj} {id:Nat} (h:id≠x.id):getJ (goneR st x).js id=getJ st.js id:=by
 unfold goneR
 split
 ·split
  ·exact set_oth {st with m:=(removeR st.m x.id).2} (x:=anew x) h
  ·exact rm_oth st.js h
 ·exact set_oth st h
theorem drop_oth (st:Br) {x:Bj} (a:Bool) {id:Nat} (h:id≠x.id):getJ (dropR st x a).js id=getJ st.js id:=by
 cases hd:x.drops with
 | some d=>rw[drop_some hd];exact gone_oth st (x:=dropX x a d) h
 | none=>rw[drop_none hd];exact gone_oth {st with orders:=st.orders++(upOf st x).map (dropOrd x.id)} (x:=dropX x a (upOf st x)) h
theorem save_oth (st:Br) {x:Bj} {id:Nat} (h:id≠x.id):getJ (saveR st x).js id=getJ st.js id:=by
 by_cases hc:x.work=x.credit∨x.sav.isSome∨x.drops.isSome∨x.state≠2
 ·rw[saveR_no hc];exact set_oth st h
 ·rw[saveR_yes hc];exact set_oth {st with orders:=st.orders++x.at_.map (saveOrd (saveY x))} (x:=saveY x) h
theorem count_oth (st:Br) {x:Bj} {id:Nat} (h:id≠x.id):getJ (countR st x).js id=getJ st.js id:=by
 unfold countR
 split
 ·exact set_oth st h
 ·split
  ·exact set_oth st (x:=ranX x) h
  ·exact save_oth st (x:=cntX x _) h
structure EachOk (f:Br→Bj→Br):Prop where
 ok:∀st x,BrOk st→getJ st.js x.id=some x→BrOk (f st x)
 oth:∀st x id,id≠x.id→getJ (f st x).js id=getJ st.js id
 ord:∀st x,BrOk st→getJ st.js x.id=some x→(f st x).orders.length≤st.orders.length+16
theorem each_snoc (f:Br→Bj→Br) (st:Br) (l:List Nat) (id:Nat):each f st (l++[id])=match getJ (each f st l).js id with
  | none=>each f st l
  | some x=>f (each f st l) x:=by
 unfold each;rw[List.foldl_append];rfl
theorem ids_take {st:Br} {e:Nat} {x:Bj} (hx:st.js[e]?=some x):st.ids.take (e+1)=st.ids.take e++[x.id]:=by
 rw[List.take_add_one,List.getElem?_map,hx];rfl
structure EachInv (f:Br→Bj→Br) (st:Br) (e:Nat):Prop where
 ok:BrOk (each f st (st.ids.take e))
 ord:(each f st (st.ids.take e)).orders.length≤st.orders.length+16*e
 here:∀i x,e≤i→st.js[i]?=some x→getJ (each f st (st.ids.take e)).js x.id=some x
theorem each_step {f:Br→Bj→Br} {st:Br} {e:Nat} (h:EachInv f st e) {x:Bj} (hx:st.js[e]?=some x):each f st (st.ids.take (e+1))=f (each f st (st.ids.take e)) x:=by
 rw[ids_take hx,each_snoc,h.here e x (Nat.le_refl e) hx]
theorem each_inv {f:Br→Bj→Br} (hE:EachOk f) {st:Br} (h:BrOk st):∀e,e≤st.js.length→EachInv f st e:=by
 intro e;induction e with
 | zero=>exact fun _=>⟨h,Nat.le_refl _,fun i x _ hx=>getJ_mem h.srt (List.mem_of_getElem? hx)⟩
 | succ e ih=>
  intro he;have hi:=ih (by omega);obtain⟨x,hx⟩:=getE (show e<st.js.length by omega);have hh:=hi.here e x (Nat.le_refl e) hx;have hs:=each_step hi hx
  refine⟨by rw[hs];exact hE.ok _ x hi.ok hh,?_,fun i y hiy hy=>?_⟩
  ·rw[hs];have:=hE.ord _ x hi.ok hh;have:=hi.ord;omega
  ·rw[hs,hE.oth _ x _ ?_]
   ·exact hi.here i y (by omega) hy
   ·obtain⟨h1,h2⟩:=List.getElem?_eq_some_iff.1 hx;obtain⟨h3,h4⟩:=List.getElem?_eq_some_iff.1 hy;have:=List.pairwise_iff_getElem.1 h.srt e i h1 h3 (by omega);rw[h2,h4]at this;omega
theorem each_all {f:Br→Bj→Br} {st:Br} {e:Nat} (he:e=st.js.length):each f st (st.ids.take e)=each f st st.ids:=by rw[he,show st.js.length=st.ids.length from (List.length_map ..).symm,List.take_length]
theorem each_ok {f:Br→Bj→Br} (hE:EachOk f) {st:Br} (h:BrOk st):BrOk (each f st st.ids):=by
 rw[←each_all rfl];exact(each_inv hE h _ (Nat.le_refl _)).ok
theorem each_ord {f:Br→Bj→Br} (hE:EachOk f) {st:Br} (h:BrOk st):(each f st st.ids).orders.length≤st.orders.length+16*st.js.length:=by
 rw[←each_all rfl];exact(each_inv hE h _ (Nat.le_refl _)).ord
theorem len16 {st:Br} (h:BrOk st) {x:Bj} (hx:getJ st.js x.id=some x):x.at_.length≤16:=Nat.le_trans (h.at_ hx).len h.N16
theorem countE:EachOk countR:=⟨fun _ _ h hx=>countR_ok h (h.at_ hx),fun st _ _ h=>count_oth st h,fun st x h hx=>by
 have h1:=(countR_same st x).1;have h2:=len16 h hx;omega⟩
theorem saveE:EachOk saveR:=⟨fun _ _ h hx=>saveR_ok h (h.at_ hx),fun st _ _ h=>save_oth st h,fun st x h hx=>by
 have h1:=(saveR_same st x).1;have h2:=len16 h hx;omega⟩
theorem save1_S (b:Nat) (st:Br) (ps:Nat→Nat) (hl:st.orders.length≤880000):Spec Tryz.prog 46 [pt b] [BP b st ps] fun Γ _ Θ=>Θ=BP b (each saveR st st.ids) ps::Γ:=by
 refine Spec.bpOk fun hok=>?_;have hfew:=hok.few;refine Zbd Tryz.func46 rfl Tryz.ntmps46 fun w0 Γ=>Zsh ?_;refine ZY 3 ?_;refine Zp (Zc1 Ze (all_S b st ps) ?_);rintro v Θ ⟨jv,rfl,hjv,rfl⟩;refine S.ownLen jv fun hl1 hl2 hl3=>?_;have hmx:maxLen≤9223372036854775807:=by unfold maxLen;omega
 refine ZY 4 ?_;refine Zl (fun q ρ' Γ'=>∃(e:Nat) (t:Br),q=st.js.length-e∧e≤st.js.length∧t=each saveR st (st.ids.take e)∧ρ'=[(0,pt b),(5,jv.v),(6,.int .i64 (jv.n:Int)),(7,.int .i64 (e:Int))]∧Γ'=own jv 86 1 (pts ps st.js)::BP b t ps::Γ) (m:=_) (⟨0,st,rfl,by omega,rfl,rfl,rfl⟩) ?_;rintro q ρ' Γ' ⟨e,t,hq,he,rfl,rfl,rfl⟩;have hI:=each_inv saveE hok e he;have hIo:=hI.ord;refine ZY 5 ?_
 refine Zj ef (fun h1=>?_) (fun h1=>?_)
 ·refine S.ownSome jv (by omega) fun sb so hsa _ _ _=>?_;obtain⟨x,hx⟩:=getE (show e<st.js.length by omega);refine ZY 5 ?_;refine Zv (Zx (e) ef (hsa) ef (by omega)) ?_;refine Zv (Zo (jv) (e) ef (hsa) (by rw[List.getElem?_map,hx];rfl)) ?_;refine ZY 5 ?_;refine Zp (Zc1 Ze (save_S b _ ps x (hI.here e x (Nat.le_refl e) hx) (by omega)) ?_);rintro v Θ rfl;rw[←each_step hI hx];refine ZY 2 ?_;refine Zv (Za ef ef) ?_;refine ZY 2 ?_;exact ZX (q-1) (⟨e+1,_,by omega,by omega,rfl,rfl,rfl⟩) (by omega)
 ·have hen:e=st.js.length:=by omega
  refine Zy ?_;exact Zfn ef Zq (by rw[←each_all hen])
theorem BrOk.sset {st:Br} (h:BrOk st) {s:Option (List Nat)} (hs:∀d,s=some d→d.Nodup) (a:Bool):BrOk {st with stops:=s,stopped:=a}:=⟨h.R,h.N,h.mok,h.srt,fun x hx=>h.job x hx,h.few,h.q1,h.q2,h.g1,h.g2,h.now,h.fin,h.mem,hs⟩
theorem stopHeard_S (b:Nat) (st:Br) (ps:Nat→Nat) (n:Nat) (hl:st.orders.length≤880000):Spec Tryz.prog 54 [pt b,.int .i64 (n:Int)] [BP b st ps] fun Γ _ Θ=>Θ=BP b (stopHeardR st n) ps::Γ:=by
 refine Spec.bpOk fun hok=>?_;have hfew:=hok.few;refine Spec.of_body Tryz.func54 rfl Tryz.ntmps54 rfl ?_;intro w0 Γ;show S _ w0 [(0,pt b),(1,.int .i64 (n:Int))] (BP b st ps::Γ) _;refine S.bpOpen b st ps fun ub jb mb ov iv dv mv sb l hF=>?_;cases hs:st.stops with
 | none=>
  have hg:stopHeardR st n=st:=by rw[stopHeardR,hs]
  have hsb:sb=none:=by have:=hF.sn;rw[hs]at this;cases sb with | none=>rfl | some q=>cases this
  subst hsb;refine ZS ?_;refine ZY 7 ?_;refine Zv (q_eqMN Tryz.underlying81 rfl rfl) ?_;refine Zy ?_;refine ZT ef ?_;refine Zy ?_;refine S.bpClose b st ps ub jb mb ov iv dv mv none l hF ?_;exact Zf ef Zq (by rw[hg])
 | some s=>
  obtain⟨q,hq⟩:∃q,sb=some q:=by have:=hF.sn;rw[hs]at this;cases sb with | none=>cases this | some q=>exact⟨q,rfl⟩
  subst hq;have hnd:=hok.stp s hs;have hml:=setE_len (sDel s n);refine S.conv (optS (some q) st.stops) (Ent.opt1 hs _) ?_;have hok2:BrOk {st with stops:=none,stopped:=false}:=hok.sset (s:=none) (fun d hd=>(by cases hd)) false;refine ZS ?_;refine ZY 7 ?_;refine Zv (q_eqMN Tryz.underlying81 rfl rfl) ?_;refine Zy ?_;refine ZF ef ?_;refine ZY 8 ?_;refine Zp (S.mapDelete Tryz.underlying81 Tryz.underlying3 rfl rfl rfl ?_);rw[setE_del n hnd];refine ZY 8 ?_;refine ZY 3 ?_
  refine Zj ef (fun h2=>?_) (fun h2=>?_)
  ·have hne:sDel s n≠[]:=fun e=>by rw[e]at h2;exact absurd h2 (by decide)
   have hg:stopHeardR st n={st with stops:=some (sDel s n)}:=by rw[stopHeardR,hs];exact if_pos hne
   refine Zy ?_;refine S.conv (mapL q .i64 (setE (sDel s n))) (Ent.opt2 (s:=some (sDel s n)) rfl _) ?_;refine S.sub (bX b {st with stops:=some (sDel s n)} ps ub jb mb ov iv dv mv (some q) l Γ) ?_;refine S.bpClose b {st with stops:=some (sDel s n)} ps ub jb mb ov iv dv mv (some q) l ⟨hok.sset (s:=some (sDel s n)) (fun d hd=>by cases hd;exact sDel_nodup hnd n) st.stopped,hF.perm,hF.on,hF.im,hF.dn,hF.mn,rfl⟩ ?_;exact Zf ef Zq (by rw[hg])
  ·have he0:sDel s n=[]:=List.eq_nil_of_length_eq_zero (by omega);have hg:stopHeardR st n=each countR {st with stops:=none,stopped:=false} st.ids:=by rw[stopHeardR,hs];exact if_neg (fun h=>h he0)
   refine ZY 8 ?_;refine ZY 7 ?_;refine S.ent (Ent.optNil _) ?_;refine S.sub (bX b {st with stops:=none,stopped:=false} ps ub jb mb ov iv dv mv none l Γ) ?_;refine S.bpClose b {st with stops:=none,stopped:=false} ps ub jb mb ov iv dv mv none l ⟨hok2,hF.perm,hF.on,hF.im,hF.dn,hF.mn,rfl⟩ ?_;refine Zp (Zc1 Ze (all_S b {st with stops:=none,stopped:=false} ps) ?_);rintro v Θ ⟨jv,rfl,hjv,rfl⟩;refine S.ownLen jv fun hl1 hl2 hl3=>?_;have hmx:maxLen≤9223372036854775807:=by unfold maxLen;omega
   have hjn:jv.n=st.js.length:=hjv;refine ZY 4 ?_;refine Zl (fun k ρ' Γ'=>∃(e:Nat) (t:Br),k=st.js.length-e∧e≤st.js.length∧t=each countR {st with stops:=none,stopped:=false} (st.ids.take e)∧ρ'=[(0,pt b),(29,jv.v),(30,.int .i64 (jv.n:Int)),(31,.int .i64 (e:Int))]∧Γ'=own jv 86 1 (pts ps st.js)::BP b t ps::Γ) (m:=_) (⟨0,{st with stops:=none,stopped:=false},rfl,by omega,rfl,rfl,rfl⟩) ?_;rintro k ρ' Γ' ⟨e,t,hk,he,rfl,rfl,rfl⟩;have hI:=each_inv countE hok2 e he;have hIo:(each countR {st with stops:=none,stopped:=false} (st.ids.take e)).orders.length≤st.orders.length+16*e:=hI.ord;refine ZY 5 ?_
   refine Zj ef (fun h3=>?_) (fun h3=>?_)
   ·refine S.ownSome jv (by omega) fun sb so hsa _ _ _=>?_;obtain⟨x,hx⟩:=getE (show e<st.js.length by omega);refine ZY 5 ?_;refine Zv (Zx (e) ef (hsa) ef (by omega)) ?_;refine Zv (Zo (jv) (e) ef (hsa) (by rw[List.getElem?_map,hx];rfl)) ?_;refine ZY 5 ?_;refine Zp (Zc1 Ze (count_S b (each countR {st with stops:=none,stopped:=false} (st.ids.take e)) ps x (hI.here e x (Nat.le_refl e) hx) (by omega)) ?_);rintro v Θ rfl;rw[←each_step (st:={st with stops:=none,stopped:=false}) hI hx];refine ZY 2 ?_;refine Zv (Za ef ef) ?_;refine ZY 2 ?_;exact ZX (k-1) (⟨e+1,_,by omega,by omega,rfl,rfl,rfl⟩) (by omega)
   ·have hen:e=st.js.length:=by omega
    refine Zy ?_;exact Zfn ef Zq (by rw[hg,←each_all (st:={st with stops:=none,stopped:=false}) hen])
abbrev delX (x:Bj) (d:List Nat) (n:Nat):Bj:={x with drops:=some (sDel d n)}
theorem JOk.delX {N:Nat} {x:Bj} (h:JOk N x) {d:List Nat} (hd:d.Nodup) (n:Nat):JOk N (delX x d n):=⟨h.id1,h.id2,h.tier,h.k1,h.kn,h.w,h.cr,h.wk,h.rise,h.at_,fun e he=>(by cases he;exact sDel_nodup hd n),h.lod,h.ran,h.ld,h.svl⟩
theorem lostJ_no {n:Nat} {st:Br} {x:Bj} (h:n∉x.at_):lostJ n st x=st:=by rw[lostJ,if_neg h]
theorem lostJ_none {n:Nat} {st:Br} {x:Bj} (h:n∈x.at_) (hd:x.drops=none):lostJ n st x=dropR st x true:=by rw[lostJ,if_pos h,hd]
theorem lostJ_some {n:Nat} {st:Br} {x:Bj} (h:n∈x.at_) {d:List Nat} (hd:x.drops=some d):lostJ n st x=goneR st (delX x d n):=by rw[lostJ,if_pos h,hd]
theorem lostE (n:Nat):EachOk (lostJ n):=by
 refine⟨fun st x h hx=>?_,fun st x id hid=>?_,fun st x h hx=>?_⟩
 ·by_cases hn:n∈x.at_
  ·cases hd:x.drops with
   | none=>rw[lostJ_none hn hd];exact dropR_ok h (h.at_ hx) true
   | some d=>rw[lostJ_some hn hd];exact goneR_ok h ((h.at_ hx).delX ((h.at_ hx).drop d hd) n)
  ·rw[lostJ_no hn];exact h
 ·by_cases hn:n∈x.at_
  ·cases hd:x.drops with
   | none=>rw[lostJ_none hn hd];exact drop_oth st true hid
   | some d=>rw[lostJ_some hn hd];exact gone_oth st (x:=delX x d n) hid
  ·rw[lostJ_no hn]
 ·by_cases hn:n∈x.at_
  ·cases hd:x.drops with
   | none=>
    rw[lostJ_none hn hd];have h1:=(dropR_same st x true).1;have h2:=len16 h hx;omega
   | some d=>
    rw[lostJ_some hn hd,(goneR_same st (delX x d n)).1];omega
  ·rw[lostJ_no hn];omega
abbrev lost0 (st:Br) (n:Nat):Br:={st with up:=sDel st.up n,m:=(upR st.m n false).2,orders:=st.orders.filter fun o=>decide (o.1≠n)}
theorem lost0_ok {st:Br} (h:BrOk st) (n:Nat):BrOk (lost0 st n):=((h.uset (sDel st.up n)).mset (upR_ok2 h.mok n false) (upR_N2 _ _ _).1 (upR_N2 _ _ _).2).oset _
theorem lostR_bad {st:Br} {n:Int} (h:nodeR st n true≠0):lostR st n=(nodeR st n true,st):=by rw[lostR,if_pos h]
theorem lostR_good {st:Br} {n:Nat} (h:¬nodeR st n true≠0):lostR st n=(0,stopHeardR (each (lostJ n) (lost0 st n) st.ids) n):=by rw[lostR,if_neg h];rfl
set_option maxHeartbeats 1000000 in
theorem Lost_S (b:Nat) (st:Br) (ps:Nat→Nat) (n:Int) (hl:st.orders.length≤800000):Spec Tryz.prog 15 [pt b,.int .i64 n] [BP b st ps] fun Γ v Θ=>v=.int .i64 (lostR st n).1∧Θ=BP b (lostR st n).2 ps::Γ:=by
 refine Spec.bpOk fun hok=>?_;have hfew:=hok.few;refine Zbd Tryz.func15 rfl Tryz.ntmps15 fun w0 Γ=>Zsh ?_;refine ZY 2 ?_;refine Zp (S.box (cs:=[_]) rfl rfl rfl ?_);intro b3;refine ZY 7 ?_;refine Zp (Zcp Ze (node_S b st ps n true) ?_);refine ZY 7 ?_
 refine Zj ef (fun h1=>?_) (fun h1=>?_)
 ·have hu:=lostR_bad h1;refine ZY 6 ?_;exact Zf ef Zq (⟨by rw[hu];rfl,by rw[hu]⟩)
 ·have hr:=node_in (Classical.byContradiction h1);obtain⟨k,rfl⟩:∃k:Nat,n=k:=⟨n.toNat,by omega⟩;have hu:=lostR_good h1;have hok2:=lost0_ok hok k;have hfl:(lost0 st k).orders.length≤st.orders.length:=List.length_filter_le _ _;refine S.bpOpen b st ps fun ub jb mb ov iv dv mv sb l hF=>?_;refine S.mapNodup ub fun hnd0=>?_;have hnd:=setE_nodup hnd0;refine ZY 2 ?_;refine Zd ([blk b3 3 #[.int .i64 (k:Int)],blk b 84 (bC st ub jb mb ov iv dv mv sb).toArray]) [] (Zra 0 5) ?_;refine ZY 5 ?_;refine Z1 (i:=5) ef ef ?_;refine(S.mapDelete Tryz.underlying81 Tryz.underlying3 rfl rfl rfl ?_);rw[setE_del k hnd];refine Zk [] ?_;refine ZD ?_;refine Zy ?_;refine Zd ([blk b3 3 #[.int .i64 (k:Int)],blk b 84 (bC st ub jb mb ov iv dv mv sb).toArray]) [] (Zra 0 5) ?_;refine ZY 5 ?_;refine Z1 (i:=5) ef ef ?_;refine  (Zcp Ze (Go.Proofs.YtdackcibfkkniaaGreatDoor.Up_S mb st.m k false) ?_);refine Zk [] ?_;refine ZD ?_;refine ZY 8 ?_;refine Zp (Zc1 Ze (Delete_S b3 k ov st.orders hF.on) ?_);rintro v Θ ⟨ov2,rfl,hov2,rfl⟩;refine ZY 8 ?_;refine S.sub (blk b3 3 #[.int .i64 (k:Int)]::bX b (lost0 st k) ps ub jb mb ov2 iv dv mv sb l Γ) ?_;refine S.bpClose b (lost0 st k) ps ub jb mb ov2 iv dv mv sb l ⟨hok2,hF.perm,hov2,hF.im,hF.dn,hF.mn,hF.sn⟩ ?_;refine Zp (Zc1 Ze (all_S b (lost0 st k) ps) ?_);rintro v Θ ⟨jv,rfl,hjv,rfl⟩;refine S.ownLen jv fun hl1 hl2 hl3=>?_;have hmx:maxLen≤9223372036854775807:=by unfold maxLen;omega
  have hjn:jv.n=st.js.length:=hjv;refine ZY 4 ?_;refine Zl (fun q ρ' Γ'=>∃(e:Nat) (t:Br),q=st.js.length-e∧e≤st.js.length∧t=each (lostJ k) (lost0 st k) (st.ids.take e)∧ρ'=[(0,pt b),(3,pt b3),(35,jv.v),(36,.int .i64 (jv.n:Int)),(37,.int .i64 (e:Int))]∧Γ'=blk b3 3 #[.int .i64 (k:Int)]::own jv 86 1 (pts ps st.js)::BP b t ps::Γ) (m:=_) (⟨0,lost0 st k,rfl,by omega,rfl,rfl,rfl⟩) ?_;rintro q ρ' Γ' ⟨e,t,hq,he,ht,rfl,rfl⟩;have hI:EachInv (lostJ k) (lost0 st k) e:=each_inv (lostE k) hok2 e he;have hIo:=hI.ord;have hto:t.orders.length≤816000:=by rw[ht];exact Nat.le_trans hIo (by omega)
  refine ZY 5 ?_
  refine Zj ef (fun h2=>?_) (fun h2=>?_)
  ·refine S.ownSome jv (by omega) fun sb so hsa _ _ _=>?_;obtain⟨x,hx⟩:=getE (show e<st.js.length by omega);have hgx:getJ t.js x.id=some x:=by rw[ht];exact hI.here e x (Nat.le_refl e) hx
   have hst:each (lostJ k) (lost0 st k) (st.ids.take (e+1))=lostJ k t x:=by rw[ht];exact each_step (st:=lost0 st k) hI hx
   have hok3:BrOk t:=by rw[ht];exact hI.ok
   have hjx:=hok3.at_ hgx;refine S.bjOpen b t ps x hgx fun ub jb mb ov iv dv mv sb l i av lb db rb qb hF hi hset hrm hJ=>?_;refine ZY 5 ?_;refine Zv (Zx (e) ef (hsa) ef (by omega)) ?_;refine Zv (Zo (jv) (e) ef (hsa) (by rw[List.getElem?_map,hx];rfl)) ?_;refine ZY 4 ?_;refine Zd ([blk (ps x.id) 90 (bjC x av lb db rb qb).toArray,blk b3 3 #[.int .i64 (k:Int)]]) [] (Zra 0 5) ?_;refine ZY 5 ?_;refine Z1 (i:=5) ef ef ?_;refine  (Zcp Ze (Contains_S (own av 3 1 (nds x.at_)) av x.at_ k hJ.an RdS.own) ?_);refine Zk [6] ?_;refine Zy ?_;refine ZD ?_
   refine Zi ef (fun h3=>?_) (fun h3=>?_)
   ·have hno:=lostJ_no (st:=t) (show k∉x.at_ by simpa using h3);refine S.bjClose b t ps ub jb mb ov iv dv mv sb l i x av lb db rb qb hi rfl (hset x rfl) (hF.set hjx) hJ ?_;rw[set_self hok3 hgx];refine ZY 2 ?_;refine Zv (Za ef ef) ?_;refine ZY 2 ?_;first | exact ZX (q-1) ⟨e+1,t,by omega,by omega,by rw[hst,hno],rfl,rfl⟩ (by omega) | exact ZX (q-1) ⟨e+1,dropR t x true,by omega,by omega,by rw[hst,hyes],rfl,rfl⟩ (by omega) | exact ZX (q-1) ⟨e+1,goneR t x1,by omega,by omega,by rw[hst,hyes,hx1],rfl,rfl⟩ (by omega)
   ·have hin:k∈x.at_:=by simpa using h3
    refine ZY 7 ?_;refine Zv (q_eqMN Tryz.underlying81 rfl rfl) ?_;refine Zy ?_
    refine Zi ef (fun h4=>?_) (fun h4=>?_)
    ·have hd:x.drops=none:=by have:=hJ.d;rw[Option.isNone_iff_eq_none.1 h4]at this;cases e9:x.drops with | none=>rfl | some d=>rw[e9]at this;cases this
     have hyes:=lostJ_none (st:=t) hin hd;refine S.bjClose b t ps ub jb mb ov iv dv mv sb l i x av lb db rb qb hi rfl (hset x rfl) (hF.set hjx) hJ ?_;rw[set_self hok3 hgx];refine ZY 3 ?_;refine Zp (Zc1 Ze (drop_S b t ps x true hgx (by omega)) ?_);rintro v Θ rfl;refine ZY 2 ?_;refine Zv (Za ef ef) ?_;refine ZY 2 ?_;first | exact ZX (q-1) ⟨e+1,t,by omega,by omega,by rw[hst,hno],rfl,rfl⟩ (by omega) | exact ZX (q-1) ⟨e+1,dropR t x true,by omega,by omega,by rw[hst,hyes],rfl,rfl⟩ (by omega) | exact ZX (q-1) ⟨e+1,goneR t x1,by omega,by omega,by rw[hst,hyes,hx1],rfl,rfl⟩ (by omega)
    ·obtain⟨q2,hq2⟩:∃q,db=some q:=by cases db with | none=>cases h4 | some q=>exact⟨q,rfl⟩
     subst hq2;obtain⟨d,hd⟩:∃d,x.drops=some d:=by have:=hJ.d;cases e9:x.drops with | none=>rw[e9]at this;cases this | some d=>exact⟨d,rfl⟩
     have hyes:=lostJ_some (st:=t) hin hd;have hdn:=hjx.drop d hd;refine S.conv (optS (some q2) x.drops) (Ent.opt1 hd _) ?_;obtain⟨x1,hx1⟩:∃x1:Bj,x1=delX x d k:=⟨_,rfl⟩;have hj1:JOk t.nodes x1:=by rw[hx1];exact hjx.delX hdn k
     have hid:x1.id=x.id:=by rw[hx1]
     refine Zy ?_;refine Zd ([blk (ps x.id) 90 (bjC x av lb (some q2) rb qb).toArray,blk b3 3 #[.int .i64 (k:Int)]]) [] (Zra 0 5) ?_;refine ZY 5 ?_;refine Z1 (i:=5) ef ef ?_;refine(S.mapDelete Tryz.underlying81 Tryz.underlying3 rfl rfl rfl ?_);rw[setE_del k hdn];refine Zk [] ?_;refine ZD ?_;refine ZY 3 ?_;refine S.conv (mapL q2 .i64 (setE (sDel d k))) (Ent.opt2 (show x1.drops=some (sDel d k) by rw[hx1]) _) ?_;refine S.blkAs (ps x.id) (bjC x1 av lb (some q2) rb qb).toArray (by rw[hx1]) ?_;refine S.sub (jX (ps x.id) x1 av lb (some q2) rb qb (bR b t ps ub jb mb ov iv dv mv sb l i (blk b3 3 #[.int .i64 (k:Int)]::own jv 86 1 (pts ps st.js)::Γ))) (e:=by subst hx1;infer_instance) ?_;refine S.bjClose b t ps ub jb mb ov iv dv mv sb l i x1 av lb (some q2) rb qb hi hid (hset x1 hid) (hF.set hj1) ⟨by rw[hx1];exact hJ.an,by rw[hx1];exact hJ.l,by rw[hx1];rfl,by rw[hx1];exact hJ.r,by rw[hx1];exact hJ.s⟩ ?_;refine Zp (Zc1 Ze ((hid ▸ gone_S b (t.set x1) ps x1 (get_set t (by rw[hid];exact hgx)):Spec Tryz.prog 53 [pt b,pt (ps x.id)] [BP b (t.set x1) ps] fun Γ _ Θ=>Θ=BP b (goneR (t.set x1) x1) ps::Γ)) ?_);rintro v Θ rfl;rw[gone_set t (x:=x1) (y:=x1) rfl];refine ZY 2 ?_;refine Zv (Za ef ef) ?_;refine ZY 2 ?_;first | exact ZX (q-1) ⟨e+1,t,by omega,by omega,by rw[hst,hno],rfl,rfl⟩ (by omega) | exact ZX (q-1) ⟨e+1,dropR t x true,by omega,by omega,by rw[hst,hyes],rfl,rfl⟩ (by omega) | exact ZX (q-1) ⟨e+1,goneR t x1,by omega,by omega,by rw[hst,hyes,hx1],rfl,rfl⟩ (by omega)
  ·have hen:e=st.js.length:=by omega
   have htl:t=each (lostJ k) (lost0 st k) st.ids:=by rw[ht,←each_all (st:=lost0 st k) hen]
   refine ZY 5 ?_;refine Zp (Zc1 Ze (stopHeard_S b t ps k (by omega)) ?_);rintro v Θ rfl;rw[htl];refine ZY 6 ?_;exact Zf ef Zq (⟨by rw[hu];rfl,by rw[hu]⟩)
theorem Ent.allsIns (F:Bj→Assn) (x:Bj):∀(js:List Bj) (Γ:List Assn),Ent (F x::alls js F::Γ) (alls (insJ x js) F::Γ)
 | [],Γ=>Ent.allsCons F x [] Γ
 | y::l,Γ=>by
  unfold insJ
  split
  ·exact Ent.allsCons F x (y::l) Γ
  ·exact(((Ent.allsUncons F y l Γ).cons _).trans (Ent.swap _ _ _)).trans (((Ent.allsIns F x l Γ).cons _).trans (Ent.allsCons F y _ Γ))
abbrev psN (ps:Nat→Nat) (id p:Nat):Nat→Nat:=fun i=>if i=id then p else ps i
theorem psN_at (ps:Nat→Nat) (id p:Nat):psN ps id p id=p:=if_pos rfl
theorem insE {ps:Nat→Nat} {p:Nat} {x:Bj} {js:List Bj} (h:∀y∈js,y.id≠x.id) (Γ:List Assn):Ent (JI p x::alls js (jI ps)::Γ) (alls (insJ x js) (jI (psN ps x.id p))::Γ):=by
 have h1:js.map (jI ps)=js.map (jI (psN ps x.id p)):=List.map_congr_left fun y hy=>by
  show JI (ps y.id) y=JI (psN ps x.id p y.id) y;rw[show psN ps x.id p y.id=ps y.id from if_neg (h y hy)]
 have h2:Ent (JI p x::alls js (jI (psN ps x.id p))::Γ) (alls (insJ x js) (jI (psN ps x.id p))::Γ):=by
  have:=Ent.allsIns (jI (psN ps x.id p)) x js Γ;rw[show jI (psN ps x.id p) x=JI p x by show JI (psN ps x.id p x.id) x=_;rw[psN_at]]at this;exact this
 exact((Ent.allsCongr h1 Γ).cons _).trans h2
theorem insP {ps:Nat→Nat} {p:Nat} {x:Bj} {js:List Bj} {l:List (Int×Value)} (hs:JsOk js) (hp:l.Perm (js.map (jE ps))) (h:getJ js x.id=none):(alPut (x.id:Int) (pt p) l).Perm ((insJ x js).map (jE (psN ps x.id p))):=by
 have h0:alGet (x.id:Int) l=none:=by rw[jE_get hs hp,h];rfl
 rw[alPut_new h0]
 have h1:js.map (jE ps)=js.map (jE (psN ps x.id p)):=List.map_congr_left fun y hy=>by
  show jE ps y=_;simp only[jE,psN,if_neg (getJ_none h y hy)]
 have h2:jE (psN ps x.id p) x=((x.id:Int),pt p):=by simp only[jE,psN,if_true]
 refine(List.perm_append_comm).trans ((?_:List.Perm _ _).trans ((insJ_perm x js).map _).symm);show List.Perm (((x.id:Int),pt p)::l) (jE (psN ps x.id p) x::js.map (jE (psN ps x.id p)));rw[h2,←h1];exact hp.cons _
theorem getJ_ins {x:Bj} {js:List Bj} (hs:JsOk js) (h:∀y∈js,y.id≠x.id):getJ (insJ x js) x.id=some x:=getJ_mem (insJ_ok hs h) (mem_insJ.2 (.inl rfl))
abbrev insB (st:Br) (x:Bj):Br:={st with js:=insJ x st.js}
theorem insB_ok {st:Br} (h:BrOk st) {x:Bj} (hx:JOk st.nodes x) (hn:getJ st.js x.id=none) (hl:st.js.length≤999):BrOk (insB st x):=h.jset (insJ_ok h.srt (getJ_none hn)) (fun y hy=>by
 rcases mem_insJ.1 hy with rfl | hy
 ·exact hx
 ·exact h.job y hy) (by rw[(insJ_perm x st.js).length_eq,List.length_cons];omega)
theorem newJ_ok {st:Br} {id tier k w credit ver:Nat} (h32:id≤4294967295) (h:addOk st (newJ id tier k w credit ver)=true):JOk st.nodes (newJ id tier k w credit ver):=by
 unfold addOk at h;simp only[Bool.and_eq_true]at h;obtain⟨⟨⟨⟨⟨⟨h1,h2⟩,h3⟩,_⟩,h5⟩,h6⟩,h7⟩:=h;have g1:id≠0:=of_decide_eq_true h1;exact⟨by show 1≤id;omega,h32,of_decide_eq_true h7,of_decide_eq_true h2,of_decide_eq_true h3,of_decide_eq_true h5,of_decide_eq_true h6,of_decide_eq_true h6,List.Pairwise.nil,fun n hn=>(by cases hn),fun d hd=>(by cases hd),fun d hd=>(by cases hd),fun r hr=>(by cases hr),fun e=>absurd (show (0:Nat)=1 from e) (by decide),fun s hs=>(by cases hs)⟩
theorem Add_S (b:Nat) (st:Br) (ps:Nat→Nat) (id tier k w credit ver s:Nat) (h32:id≤4294967295) (hadd:addOk st (newJ id tier k w credit ver)=true) (hfew:st.js.length≤999) (hl:st.orders.length≤900000) (hd:st.done.length≤900000) :
  Spec Tryz.prog 13 [pt b,.agg #[.int .u32 (id:Int),.int .u8 (tier:Int),.int .i64 (k:Int),.int .i64 (w:Int),.int .u8 (s:Int),.int .i64 (credit:Int)],.int .u32 (ver:Int)] [BP b st ps] fun Γ v Θ=>∃ps',v=.int .i64 (addR st (newJ id tier k w credit ver)).1∧Θ=BP b (addR st (newJ id tier k w credit ver)).2 ps'::Γ:=by
 refine Spec.bpOk fun hok=>?_;obtain⟨x,hx⟩:∃x,x=newJ id tier k w credit ver:=⟨_,rfl⟩;have hjx:JOk st.nodes x:=by rw[hx];exact newJ_ok h32 hadd
 have hxi:x.id=id:=by subst hx;rfl
 have hN:=hok.N16;have hk1:1≤k:=by have:=hjx.k1;rw[hx]at this;exact this
 have hkn:k≤st.nodes:=by have:=hjx.kn;rw[hx]at this;exact this
 have hid1:1≤id:=by have:=hjx.id1;rw[hx]at this;exact this
 have hw1:1≤w:=by
  unfold addOk at hadd;simp only[Bool.and_eq_true]at hadd;exact of_decide_eq_true hadd.1.1.1.2
 have hw2:w≤10000:=by have:=hjx.w;rw[hx]at this;exact this
 have hcr:credit≤w:=by have:=hjx.cr;rw[hx]at this;exact this
 have hti:tier≤3:=by have:=hjx.tier;rw[hx]at this;exact this
 refine Spec.of_body Tryz.func13 rfl Tryz.ntmps13 rfl ?_;intro w0 Γ;show S _ w0 [(0,pt b),(1,.agg #[.int .u32 (id:Int),.int .u8 (tier:Int),.int .i64 (k:Int),.int .i64 (w:Int),.int .u8 (s:Int),.int .i64 (credit:Int)]),(2,.int .u32 (ver:Int))] (BP b st ps::Γ) _;refine S.bpOpen b st ps fun ub jb mb ov iv dv mv sb l hF=>?_;cases hg:getJ st.js id with
 | some y=>
  have hc:addR st (newJ id tier k w credit ver)=(7,st):=by
   unfold addR;rw[if_neg (by rw[hadd];decide),if_pos (by show (getJ st.js id).isSome=true;rw[hg];rfl)]
  refine ZS ?_;refine ZY 2 ?_;refine Zp (S.box (cs:=[_,_,_,_,_,_]) rfl rfl rfl ?_);intro b4;refine ZY 8 ?_;refine ZY 2 ?_;refine ZF ef ?_;refine Zy ?_;refine Zd ([blk b4 35 #[.int .u32 (id:Int),.int .u8 (tier:Int),.int .i64 (k:Int),.int .i64 (w:Int),.int .u8 (s:Int),.int .i64 (credit:Int)],blk b 84 (bC st ub jb mb ov iv dv mv sb).toArray]) [] (Zra 0 4) ?_;refine ZY 4 ?_;refine Zu 15 false ef ((decide_eq_false (by omega))) ?_;refine Zr (Zra 4 5) ?_;refine ZY 5 ?_;refine Zu 20 false ef ((decide_eq_false (by omega))) ?_;refine Zr (Zra 9 10) ?_;refine ZY 8 ?_;refine ZY 2 ?_;refine Zu 30 false ef ((decide_eq_false (by omega))) ?_;refine Zr (Zra 19 5) ?_;refine ZY 5 ?_;refine Zu 35 false ef ((decide_eq_false (by omega))) ?_;refine Zr (Zra 24 5) ?_;refine ZY 5 ?_;refine Zu 40 false ef ((decide_eq_false (by omega))) ?_;refine Zr (Zra 29 5) ?_;refine ZY 5 ?_;refine Zu 45 false ef ((decide_eq_false (by omega))) ?_;refine Zr (Zra 34 7) ?_;refine ZY 7 ?_;refine Zu 52 false ef ((decide_eq_false (by omega))) ?_;refine Zr (Zra 41 5) ?_;refine ZY 5 ?_;refine ZD ?_
  refine Zj ef (fun h2=>?_) (fun h2=>?_)
  ·exact absurd h2 (by omega)
  ·refine Zy ?_;refine Zd0 (Zra 0 9) ?_;refine ZY 6 ?_;refine Zw ef (q_lookup1 (pt (ps y.id)) Tryz.underlying82 Tryz.underlying31 Tryz.zv86.h rfl rfl rfl (by rw[jE_get hok.srt hF.perm,hg];rfl)) ?_;refine ZY 2 ?_;refine ZD ?_;refine ZT ef ?_;refine ZY 5 ?_;refine S.bpClose b st ps ub jb mb ov iv dv mv sb l hF ?_;exact Zf ef Zq (⟨ps,by rw[hc];rfl,by rw[hc]⟩)
 | none=>
  have hgx:getJ st.js x.id=none:=by rw[hxi];exact hg
  have hc:addR st (newJ id tier k w credit ver)=(0,finishR (insB st x) x):=by
   unfold addR;rw[if_neg (by rw[hadd];decide),if_neg (by show ¬(getJ st.js id).isSome=true;rw[hg];simp),hx]
  have hok2:=insB_ok hok hjx hgx hfew;refine ZS ?_;refine ZY 2 ?_;refine Zp (S.box (cs:=[_,_,_,_,_,_]) rfl rfl rfl ?_);intro b4;refine ZY 8 ?_;refine ZY 2 ?_;refine ZF ef ?_;refine Zy ?_;refine Zd ([blk b4 35 #[.int .u32 (id:Int),.int .u8 (tier:Int),.int .i64 (k:Int),.int .i64 (w:Int),.int .u8 (s:Int),.int .i64 (credit:Int)],blk b 84 (bC st ub jb mb ov iv dv mv sb).toArray]) [] (Zra 0 4) ?_;refine ZY 4 ?_;refine Zu 15 false ef ((decide_eq_false (by omega))) ?_;refine Zr (Zra 4 5) ?_;refine ZY 5 ?_;refine Zu 20 false ef ((decide_eq_false (by omega))) ?_;refine Zr (Zra 9 10) ?_;refine ZY 8 ?_;refine ZY 2 ?_;refine Zu 30 false ef ((decide_eq_false (by omega))) ?_;refine Zr (Zra 19 5) ?_;refine ZY 5 ?_;refine Zu 35 false ef ((decide_eq_false (by omega))) ?_;refine Zr (Zra 24 5) ?_;refine ZY 5 ?_;refine Zu 40 false ef ((decide_eq_false (by omega))) ?_;refine Zr (Zra 29 5) ?_;refine ZY 5 ?_;refine Zu 45 false ef ((decide_eq_false (by omega))) ?_;refine Zr (Zra 34 7) ?_;refine ZY 7 ?_;refine Zu 52 false ef ((decide_eq_false (by omega))) ?_;refine Zr (Zra 41 5) ?_;refine ZY 5 ?_;refine ZD ?_
  refine Zj ef (fun h2=>?_) (fun h2=>?_)
  ·exact absurd h2 (by omega)
  ·refine Zy ?_;refine Zd0 (Zra 0 9) ?_;refine ZY 6 ?_;refine Zw ef (q_lookup1 (.pointer none) Tryz.underlying82 Tryz.underlying31 Tryz.zv86.h rfl rfl rfl (by rw[jE_get hok.srt hF.perm,hg];rfl)) ?_;refine ZY 2 ?_;refine ZD ?_;refine ZF ef ?_;refine ZY 8 ?_;refine ZY 4 ?_;refine Zv (q_build (pvs:=[(_,_),(_,_),(_,_)]) [_,_,_,_,_,_,_,_,_,_,_,_,_,_,_,_,_] Tryz.z90.h Tryz.p90.h ⟨⟨rfl,rfl⟩,⟨rfl,rfl⟩,⟨rfl,rfl⟩,trivial⟩ rfl) ?_;refine Zp (S.box (cs:=[_,_,_,_,_,_,_,_,_,_,_,_,_,_,_,_,_]) rfl rfl rfl ?_);intro b72;refine ZY 3 ?_;refine Zd ([blk b4 35 #[.int .u32 (id:Int),.int .u8 (tier:Int),.int .i64 (k:Int),.int .i64 (w:Int),.int .u8 0,.int .i64 (credit:Int)],blk b 84 (bC st ub jb mb ov iv dv mv sb).toArray]) [7] (Zra 0 7) ?_;refine ZY 7 ?_;refine Z1 (i:=7) ef ef ?_;refine(S.mapUpdate Tryz.underlying82 Tryz.underlying31 rfl rfl rfl rfl ?_);refine ZL ([]) [] ?_;refine ZD ?_;refine ZY 4 ?_;have hps:=psN_at ps id b72;have hgi:getJ (insB st x).js x.id=some x:=getJ_ins hok.srt (getJ_none hgx)
   have hspec:Spec Tryz.prog 39 [pt b,pt b72] [BP b (insB st x) (psN ps id b72)] fun Γ _ Θ=>Θ=BP b (finishR (insB st x) x) (psN ps id b72)::Γ:=by
    have:=finish_S b (insB st x) (psN ps id b72) x hgi hl hd;rw[hxi,hps]at this;exact this
   have hF2:BF (insB st x) (psN ps id b72) ov iv dv mv sb (alPut (id:Int) (pt b72) l):=⟨hok2,by rw[←hxi];exact insP hok.srt hF.perm hgx,hF.on,hF.im,hF.dn,hF.mn,hF.sn⟩;refine S.blkAs b72 (bjC x SV.nil none none none none).toArray (by subst hx;rfl) ?_;refine S.ent (show Ent _ (own SV.nil 3 1 (nds (newJ id tier k w credit ver).at_)::_) from Ent.ownNil 3 1) ?_;refine S.ent ((Ent.optNil _).trans ((Ent.optNil _).trans ((optRNil _).trans (savNil x.id _)))) ?_;refine S.sub (jX b72 x SV.nil none none none none (bX b st ps ub jb mb ov iv dv mv sb (alPut (id:Int) (pt b72) l) Γ)) (e:=by subst hx;infer_instance) ?_;refine S.jiClose b72 x SV.nil none none none none (by subst hx;rfl) (by subst hx;rfl) (by subst hx;rfl) (by subst hx;rfl) (by subst hx;rfl) ?_;refine S.sub (JI b72 x::alls st.js (jI ps)::blk b 84 (bC st ub jb mb ov iv dv mv sb).toArray::mapL ub .i64 (setE st.up)::mapL jb .u32 (alPut (id:Int) (pt b72) l)::MI mb st.m::own ov 97 14 (st.orders.flatMap odC)::imgs iv st.images::own dv 31 1 (idsV st.done)::own mv 31 1 (idsV st.members)::optS sb st.stops::Γ) ?_;refine S.ent (insE (ps:=ps) (getJ_none hgx) _) ?_;rw[hxi];refine S.sub (bX b (insB st x) (psN ps id b72) ub jb mb ov iv dv mv sb (alPut (id:Int) (pt b72) l) Γ) ?_;refine S.bpClose b (insB st x) (psN ps id b72) ub jb mb ov iv dv mv sb _ hF2 ?_;refine Zp (Zc1 Ze (hspec) ?_);rintro v Θ rfl;refine ZY 6 ?_;exact Zf ef Zq (⟨psN ps id b72,by rw[hc];rfl,by rw[hc]⟩)
end BN
theorem q_buildA {P:Program} {n:Nat} {ρ:Env} {Γ:List Assn} {ty:TypeId} {pos:String} {af:Array Edge} {gd:Option (Nat×Bool)} {ds:Option Tmp} {t:TypeId} {xs:List (Nat×Operand)} {pvs:List (Nat×Value)} {zs:List Value} {m s:Nat} (vs:List Value) (hz:zeroT P t=some zs) (hp:arrT P t=some (m,s)) (he:EvP ρ xs pvs) (hf:fillL (fun i=>some (i*s,s)) zs pvs=some vs) :
  Qv P n ρ Γ ⟨ds,.build t xs.toArray,ty,pos,af,gd⟩ (.agg vs.toArray):=by
 intro a w ha _
 have hb:P.built t pvs=some vs.toArray:=by
  unfold zeroT at hz;unfold arrT at hp;unfold Program.built;cases hi:P.info? t with
  | none=>simp[hi]at hz
  | some i=>
   cases hz':i.zero with
   | none=>simp[hi,hz']at hz
   | some z=>
    simp only[hi,hz',Option.bind_some,Option.map_some,Option.some.injEq]at hz;cases hu:P.underlying t with
    | none=>simp[hu]at hp
    | some dd=>
     cases dd <;> simp[hu]at hp
     case array k e=>
      obtain⟨ie,h1,rfl,rfl⟩:=hp;simp only[hz',h1];have:=fillL_fill _ pvs zs vs hf;rw[←hz]at this
      simpa using this
 have hr:=run_build (P:=P) w t pvs.toArray vs.toArray hb
 have hm:(xs.toArray.map fun x:Nat×Operand=>(x.1,a.eval x.2))=pvs.toArray:=by
  have:=he.map ha
  simpa using congrArg List.toArray this
 simp only[execOp,hm,Sem.run_bind,hr,Result.andThen_ok,Sem.run_pure]
namespace BN
theorem ranE_put (r:List Rn) (n:Nat) (v:Nat×Nat):alPut (n:Int) (rnV v) (ranE r)=ranE (ranPut r n v):=by
 induction r with
 | nil=>rfl
 | cons y r ih=>
  have h0:ranE (y::r)=((y.1:Int),rnV y.2)::ranE r:=rfl;rw[h0,alPut,ranPut]
  by_cases h:n=y.1
  ·rw[if_pos h,if_pos (by simp[h])];rfl
  ·rw[if_neg h,if_neg (by simp;omega),ih];rfl
theorem mem_ranPut {r:List Rn} {n:Nat} {v:Nat×Nat} {y:Rn} (h:y∈ranPut r n v):y∈r∨y.2=v:=by
 induction r with
 | nil=>
  rw[ranPut,List.mem_singleton]at h;exact .inr (by rw[h])
 | cons x r ih=>
  rw[ranPut]at h
  split at h
  ·rcases List.mem_cons.1 h with h | h
   ·exact .inr (by rw[h])
   ·exact .inl (List.mem_cons_of_mem _ h)
  ·rcases List.mem_cons.1 h with h | h
   ·exact .inl (by rw[h];exact List.mem_cons_self ..)
   ·rcases ih h with h | h
    ·exact .inl (List.mem_cons_of_mem _ h)
    ·exact .inr h
abbrev rnX (y:Bj) (r:List Rn) (n:Nat) (v:Nat×Nat):Bj:={y with ran:=some (ranPut r n v)}
theorem JOk.rnX {N:Nat} {y:Bj} (h:JOk N y) {r:List Rn} (hr:y.ran=some r) (n:Nat) {v:Nat×Nat} (hv:v.1≤4294967295∧v.2≤4294967295):JOk N (rnX y r n v):=⟨h.id1,h.id2,h.tier,h.k1,h.kn,h.w,h.cr,h.wk,h.rise,h.at_,h.drop,h.lod,fun r' hr' z hz=>(by
 cases hr'
 rcases mem_ranPut hz with hz | hz
 ·exact h.ran r hr z hz
 ·rw[hz];exact hv),h.ld,h.svl⟩
def noteR (b:Br) (n:Nat) (x:Nt):Br:=match getJ b.js x.job with
 | none=>b
 | some y=>match y.ran with
  | none=>b
  | some r=>if 0<x.frm∧n∈y.at_ then b.set {y with ran:=some (ranPut r n (x.frm,x.til))} else b
theorem heardR_no {b:Br} {n:Nat} {x:Nt} (h:¬(n∈b.stops.getD []∧b.stopped=true∧x.gen=b.gen)):heardR b n x=b:=by
 rw[heardR,if_neg];intro h2;simp only[Bool.and_eq_true,decide_eq_true_eq]at h2;exact h ⟨h2.1.1,h2.1.2,h2.2⟩
theorem heardR_yes {b:Br} {n:Nat} {x:Nt} (h1:n∈b.stops.getD []) (h2:b.stopped=true) (h3:x.gen=b.gen):heardR b n x=stopHeardR (noteR b n x) n:=by
 rw[heardR,if_pos]
 ·rfl
 ·simp only[Bool.and_eq_true,decide_eq_true_eq];exact⟨⟨h1,h2⟩,h3⟩
theorem noteR_ord (st:Br) (n:Nat) (x:Nt):(noteR st n x).orders=st.orders:=by
 unfold noteR
 split
 ·rfl
 ·split
  ·rfl
  ·split <;> rfl
set_option maxHeartbeats 1000000 in
theorem heard_S (b:Nat) (st:Br) (ps:Nat→Nat) (n:Nat) (z:Nt) (v:SV) (hz:z.frm≤4294967295∧z.til≤4294967295) (hl:st.orders.length≤880000):Spec Tryz.prog 66 [pt b,.int .i64 (n:Int),.agg (ntC z v).toArray] [BP b st ps] fun Γ _ Θ=>Θ=BP b (heardR st n z) ps::Γ:=by
 refine Spec.bpOk fun hok=>?_;refine Spec.of_body Tryz.func66 rfl Tryz.ntmps66 rfl ?_;intro w0 Γ;show S _ w0 [(0,pt b),(1,.int .i64 (n:Int)),(2,.agg (ntC z v).toArray)] (BP b st ps::Γ) _;cases hg0:getJ st.js z.job with
 | none=>
  have hnr:noteR st n z=st:=by rw[noteR,hg0]
  refine S.bpOpen b st ps fun ub jb mb ov iv dv mv sb l hF=>?_;refine ZS ?_;refine ZY 2 ?_;refine Zp (S.box (cs:=[_,_,_,_,_,_,_,_,_,_,_,_,_]) rfl rfl rfl ?_);intro b5;refine ZY 3 ?_;refine Zd ([blk b5 72 (ntC z v).toArray,blk b 84 (bC st ub jb mb ov iv dv mv sb).toArray]) [] (Zra 0 5) ?_;refine ZY 5 ?_;refine Z1 (i:=5) ef ef ?_;refine  (Zcp Ze (hasO_S sb st.stops n) ?_);refine Zk [6,7] ?_;refine ZY 2 ?_
  refine Zbb 14 ef (fun hg1_7=>?_) (fun hg1_7=>?_)
  ·have hg:=heardR_no (b:=st) (n:=n) (x:=z) (fun h=>by rw[decide_eq_true h.1]at hg1_7;cases hg1_7);refine Zr (Zra 8 15) ?_;refine ZY 8 ?_;refine ZY 7 ?_;refine ZD ?_;refine ZY 2 ?_;refine S.bpClose b st ps ub jb mb ov iv dv mv sb l hF ?_;exact Zf ef Zq (by rw[hg])
  ·refine Zr (Zra 8 7) ?_;refine ZY 7 ?_
   refine Zbb 21 ef (fun hg1_14=>?_) (fun hg1_14=>?_)
   ·have hg:=heardR_no (b:=st) (n:=n) (x:=z) (fun h=>by rw[h.2.1]at hg1_14;cases hg1_14);refine Zr (Zra 15 8) ?_;refine ZY 8 ?_;refine ZD ?_;refine ZY 2 ?_;refine S.bpClose b st ps ub jb mb ov iv dv mv sb l hF ?_;exact Zf ef Zq (by rw[hg])
   ·refine Zr (Zra 15 8) ?_;refine ZY 8 ?_;refine ZD ?_
    refine Zj ef (fun h1=>?_) (fun h1=>?_)
    ·have hg:=heardR_no (b:=st) (n:=n) (x:=z) (fun h=>h1 (by rw[h.2.2]));refine Zy ?_;refine S.bpClose b st ps ub jb mb ov iv dv mv sb l hF ?_;exact Zf ef Zq (by rw[hg])
    ·have hg:=heardR_yes (b:=st) (n:=n) (x:=z) (by simpa using hg1_7) (by simpa using hg1_14) (by omega);refine ZY 3 ?_;refine Zd0 (Zra 0 8) ?_;refine ZY 6 ?_;refine Zw ef (q_lookup1 (.pointer none) Tryz.underlying82 Tryz.underlying31 Tryz.zv86.h rfl rfl rfl (by rw[jE_get hok.srt hF.perm,hg0];rfl)) ?_;refine Zy ?_;refine ZD ?_;refine ZY 8 ?_;refine ZY 8 ?_;refine ZY 8 ?_;refine ZY 6 ?_;refine S.bpClose b st ps ub jb mb ov iv dv mv sb l hF ?_;refine Zp (Zc1 Ze (stopHeard_S b st ps n hl) ?_);rintro v Θ rfl;refine Zy ?_;exact Zfn ef Zq (by rw[hg,hnr])
 | some y=>
 obtain⟨_,hyi⟩:=getJ_some hg0;have hgy:getJ st.js y.id=some y:=by rw[hyi];exact hg0
 have hjy:=hok.at_ hgy;refine S.bjOpen b st ps y hgy fun ub jb mb ov iv dv mv sb l i av lb db rb qb hF hi hset hrm hJ=>?_;have hlk:alGet (z.job:Int) l=some (pt (ps y.id)):=by rw[jE_get hok.srt hF.perm,hg0];rfl
 cases hr:y.ran with
 | none=>
  have hnr:noteR st n z=st:=by rw[noteR,hg0];dsimp only;rw[hr]
  have hrb:rb=none:=by have:=hJ.r;rw[hr]at this;cases rb with | none=>rfl | some q=>cases this
  subst hrb;refine ZS ?_;refine ZY 2 ?_;refine Zp (S.box (cs:=[_,_,_,_,_,_,_,_,_,_,_,_,_]) rfl rfl rfl ?_);intro b5;refine ZY 3 ?_;refine Zd ([blk b5 72 (ntC z v).toArray,blk b 84 (bC st ub jb mb ov iv dv mv sb).toArray]) [] (Zra 0 5) ?_;refine ZY 5 ?_;refine Z1 (i:=5) ef ef ?_;refine  (Zcp Ze (hasO_S sb st.stops n) ?_);refine Zk [6,7] ?_;refine ZY 2 ?_
  refine Zbb 14 ef (fun hg1_7=>?_) (fun hg1_7=>?_)
  ·have hg:=heardR_no (b:=st) (n:=n) (x:=z) (fun h=>by rw[decide_eq_true h.1]at hg1_7;cases hg1_7);refine Zr (Zra 8 15) ?_;refine ZY 8 ?_;refine ZY 7 ?_;refine ZD ?_;refine ZY 2 ?_;refine S.bjClose b st ps ub jb mb ov iv dv mv sb l i y av lb db none qb hi rfl (hset y rfl) (hF.set hjy) hJ ?_;rw[set_self hok hgy];exact Zf ef Zq (by rw[hg])
  ·refine Zr (Zra 8 7) ?_;refine ZY 7 ?_
   refine Zbb 21 ef (fun hg1_14=>?_) (fun hg1_14=>?_)
   ·have hg:=heardR_no (b:=st) (n:=n) (x:=z) (fun h=>by rw[h.2.1]at hg1_14;cases hg1_14);refine Zr (Zra 15 8) ?_;refine ZY 8 ?_;refine ZD ?_;refine ZY 2 ?_;refine S.bjClose b st ps ub jb mb ov iv dv mv sb l i y av lb db none qb hi rfl (hset y rfl) (hF.set hjy) hJ ?_;rw[set_self hok hgy];exact Zf ef Zq (by rw[hg])
   ·refine Zr (Zra 15 8) ?_;refine ZY 8 ?_;refine ZD ?_
    refine Zj ef (fun h1=>?_) (fun h1=>?_)
    ·have hg:=heardR_no (b:=st) (n:=n) (x:=z) (fun h=>h1 (by rw[h.2.2]));refine Zy ?_;refine S.bjClose b st ps ub jb mb ov iv dv mv sb l i y av lb db none qb hi rfl (hset y rfl) (hF.set hjy) hJ ?_;rw[set_self hok hgy];exact Zf ef Zq (by rw[hg])
    ·have hg:=heardR_yes (b:=st) (n:=n) (x:=z) (by simpa using hg1_7) (by simpa using hg1_14) (by omega);refine ZY 3 ?_;refine Zd0 (Zra 0 8) ?_;refine ZY 6 ?_;refine Zw ef (q_lookup1 (pt (ps y.id)) Tryz.underlying82 Tryz.underlying31 Tryz.zv86.h rfl rfl rfl (by rw[hlk];rfl)) ?_;refine Zy ?_;refine ZD ?_;refine ZY 8 ?_;refine Zy ?_;refine Zvg ef ef ef (q_neMN Tryz.underlying88 rfl rfl) ?_;refine ZY 8 ?_;refine ZY 8 ?_;refine ZY 4 ?_;refine S.bjClose b st ps ub jb mb ov iv dv mv sb l i y av lb db none qb hi rfl (hset y rfl) (hF.set hjy) hJ ?_;rw[set_self hok hgy];refine Zp (Zc1 Ze (stopHeard_S b st ps n hl) ?_);rintro v Θ rfl;refine Zy ?_;exact Zfn ef Zq (by rw[hg,hnr])
 | some r=>
  obtain⟨q,hq⟩:∃q,rb=some q:=by have:=hJ.r;rw[hr]at this;cases rb with | none=>cases this | some q=>exact⟨q,rfl⟩
  subst hq;have hnr:noteR st n z=if 0<z.frm∧n∈y.at_ then st.set (rnX y r n (z.frm,z.til)) else st:=by rw[noteR,hg0];dsimp only;rw[hr]
  have hno:=noteR_ord st n z;obtain⟨y1,hy1⟩:∃y1:Bj,y1=rnX y r n (z.frm,z.til):=⟨_,rfl⟩;have hj1:JOk st.nodes y1:=by rw[hy1];exact hjy.rnX hr n hz
  have hid:y1.id=y.id:=by rw[hy1]
  have hrr:y1.ran=some (ranPut r n (z.frm,z.til)):=by rw[hy1]
  obtain⟨t,ht⟩:∃t:Br,t=noteR st n z:=⟨_,rfl⟩;have hto:t.orders.length≤880000:=by rw[ht,hno];exact hl
  refine ZS ?_;refine ZY 2 ?_;refine Zp (S.box (cs:=[_,_,_,_,_,_,_,_,_,_,_,_,_]) rfl rfl rfl ?_);intro b5;refine ZY 3 ?_;refine Zd ([blk b5 72 (ntC z v).toArray,blk b 84 (bC st ub jb mb ov iv dv mv sb).toArray]) [] (Zra 0 5) ?_;refine ZY 5 ?_;refine Z1 (i:=5) ef ef ?_;refine  (Zcp Ze (hasO_S sb st.stops n) ?_);refine Zk [6,7] ?_;refine ZY 2 ?_
  refine Zbb 14 ef (fun hg1_7=>?_) (fun hg1_7=>?_)
  ·have hg:=heardR_no (b:=st) (n:=n) (x:=z) (fun h=>by rw[decide_eq_true h.1]at hg1_7;cases hg1_7);refine Zr (Zra 8 15) ?_;refine ZY 8 ?_;refine ZY 7 ?_;refine ZD ?_;refine ZY 2 ?_;refine S.bjClose b st ps ub jb mb ov iv dv mv sb l i y av lb db (some q) qb hi rfl (hset y rfl) (hF.set hjy) hJ ?_;rw[set_self hok hgy];exact Zf ef Zq (by rw[hg])
  ·refine Zr (Zra 8 7) ?_;refine ZY 7 ?_
   refine Zbb 21 ef (fun hg1_14=>?_) (fun hg1_14=>?_)
   ·have hg:=heardR_no (b:=st) (n:=n) (x:=z) (fun h=>by rw[h.2.1]at hg1_14;cases hg1_14);refine Zr (Zra 15 8) ?_;refine ZY 8 ?_;refine ZD ?_;refine ZY 2 ?_;refine S.bjClose b st ps ub jb mb ov iv dv mv sb l i y av lb db (some q) qb hi rfl (hset y rfl) (hF.set hjy) hJ ?_;rw[set_self hok hgy];exact Zf ef Zq (by rw[hg])
   ·refine Zr (Zra 15 8) ?_;refine ZY 8 ?_;refine ZD ?_
    refine Zj ef (fun h1=>?_) (fun h1=>?_)
    ·have hg:=heardR_no (b:=st) (n:=n) (x:=z) (fun h=>h1 (by rw[h.2.2]));refine Zy ?_;refine S.bjClose b st ps ub jb mb ov iv dv mv sb l i y av lb db (some q) qb hi rfl (hset y rfl) (hF.set hjy) hJ ?_;rw[set_self hok hgy];exact Zf ef Zq (by rw[hg])
    ·have hg:=heardR_yes (b:=st) (n:=n) (x:=z) (by simpa using hg1_7) (by simpa using hg1_14) (by omega);refine ZY 3 ?_;refine Zd0 (Zra 0 8) ?_;refine ZY 6 ?_;refine Zw ef (q_lookup1 (pt (ps y.id)) Tryz.underlying82 Tryz.underlying31 Tryz.zv86.h rfl rfl rfl (by rw[hlk];rfl)) ?_;refine Zy ?_;refine ZD ?_;refine ZY 8 ?_;refine Zy ?_;refine Zvg ef ef ef (q_neMN Tryz.underlying88 rfl rfl) ?_;refine ZY 7 ?_
     refine Zb 51 ef (fun hg3_14=>?_) (fun hg3_14=>?_)
     ·refine ZY 5 ?_;refine Zg ef ef ef (Zcp Ze (Contains_S (own av 3 1 (nds y.at_)) av y.at_ n hJ.an RdS.own) ?_);refine ZY 2 ?_
      refine Zj ef (fun h2=>?_) (fun h2=>?_)
      ·have hts:t=st.set y1:=by rw[ht,hnr,if_pos ⟨by omega,h2⟩,hy1]
       refine S.conv (optR (some q) y.ran) (Ent.optR1 hr _) ?_;refine Zd ([blk b5 72 (ntC z v).toArray,blk (ps y.id) 90 (bjC y av lb db (some q) qb).toArray]) [10] (Zra 0 10) ?_;refine ZY 8 ?_;refine Zy ?_;refine Zw ef (q_buildA (pvs:=[(_,_),(_,_)]) [_,_] Tryz.z175.h Tryz.ar175.h ⟨⟨rfl,rfl⟩,⟨rfl,rfl⟩,trivial⟩ rfl) ?_;refine Z1 (i:=10) ef ef ?_;refine(S.mapUpdate Tryz.underlying88 Tryz.underlying3 rfl rfl rfl rfl ?_);rw[ranE_put r n (z.frm,z.til)];refine S.conv (mapL q .i64 (ranE (ranPut r n (z.frm,z.til)))) (Ent.optR2 hrr _) ?_;refine S.blkAs (ps y.id) (bjC y1 av lb db (some q) qb).toArray (by rw[hy1]) ?_;refine S.sub (jX (ps y.id) y1 av lb db (some q) qb (bR b st ps ub jb mb ov iv dv mv sb l i Γ)) (e:=by subst hy1;infer_instance) ?_;refine S.bjClose b st ps ub jb mb ov iv dv mv sb l i y1 av lb db (some q) qb hi hid (hset y1 hid) (hF.set hj1) ⟨by rw[hy1];exact hJ.an,by rw[hy1];exact hJ.l,by rw[hy1];exact hJ.d,by rw[hy1];rfl,by rw[hy1];exact hJ.s⟩ ?_;refine S.conv (BP b (st.set y1) ps) (show Ent _ (BP b t ps::_) by rw[hts];exact Ent.refl _) ?_;refine ZL ([]) [] ?_;refine ZD ?_;refine ZY 3 ?_;refine Zp (Zc1 Ze (stopHeard_S b t ps n hto) ?_);rintro v Θ rfl;rw[ht];refine Zy ?_;exact Zfn ef Zq (by rw[hg])
      ·have hts:t=st:=by rw[ht,hnr,if_neg (fun h=>h2 h.2)]
       refine S.bjClose b st ps ub jb mb ov iv dv mv sb l i y av lb db (some q) qb hi rfl (hset y rfl) (hF.set hjy) hJ ?_;rw[set_self hok hgy];refine S.conv (BP b st ps) (show Ent _ (BP b t ps::_) by rw[hts];exact Ent.refl _) ?_;refine ZY 4 ?_;refine Zp (Zc1 Ze (stopHeard_S b t ps n hto) ?_);rintro v Θ rfl;rw[ht];refine Zy ?_;exact Zfn ef Zq (by rw[hg])
     ·have hts:t=st:=by rw[ht,hnr,if_neg (fun h=>hg3_14 (by omega))]
      refine S.bjClose b st ps ub jb mb ov iv dv mv sb l i y av lb db (some q) qb hi rfl (hset y rfl) (hF.set hjy) hJ ?_;rw[set_self hok hgy];refine S.conv (BP b st ps) (show Ent _ (BP b t ps::_) by rw[hts];exact Ent.refl _) ?_;refine ZY 8 ?_;refine ZY 5 ?_;refine Zp (Zc1 Ze (stopHeard_S b t ps n hto) ?_);rintro v Θ rfl;rw[ht];refine Zy ?_;exact Zfn ef Zq (by rw[hg])
section
variable {n:Nat} {md:Bool} {w0:WM md} {ρ:Env} {Γ Δ:List Assn} {φ:Act→World→Prop}
theorem S.savShut (q hb:Nat) (v:SV) (id:Nat) (s:Sv) [p:Picks [blk q 131 #[.int .u32 (id:Int),.int .u32 (s.ver:Int),.int .i64 (s.credit:Int),v.v,.map (some hb),.bool s.told],mapL hb .i64 (setE s.have_),if s.told then (fun _=>True) else blobs v s.bs] Γ Δ] (k:S n w0 ρ (savB (some q) id (some s)::Δ) φ):S n w0 ρ Γ φ:=
 S.ent (p.ent.trans ((Ent.pack [_,_,_] Δ).trans (Ent.mono1 Δ fun _ s=>⟨hb,v,s⟩))) k
end
theorem Resting_S (b:Nat) (st:Br) (ps:Nat→Nat):Spec Tryz.prog 17 [pt b] [BP b st ps] fun Γ v Θ=>v=.bool st.stops.isNone∧Θ=BP b st ps::Γ:=by
 refine Zbd Tryz.func17 rfl Tryz.ntmps17 fun w0 Γ=>Zsh ?_;refine S.bpOpen b st ps fun ub jb mb ov iv dv mv sb l hF=>?_;have hsn:sb.isNone=st.stops.isNone:=(show ∀(a:Option Nat) (c:Option (List Nat)),a.isSome=c.isSome→a.isNone=c.isNone from fun a c h=>by cases a <;> cases c <;> first | rfl | cases h) _ _ hF.sn;refine ZY 8 ?_;refine ZY 5 ?_;refine Zvg ef ef ef (q_eqMN Tryz.underlying81 rfl rfl) ?_;refine ZY 4 ?_;refine S.bpClose b st ps ub jb mb ov iv dv mv sb l hF ?_;exact Zf ef Zq (⟨by rw[←hsn];rfl,rfl⟩)
theorem Take_S (b:Nat) (st:Br) (ps:Nat→Nat):Spec Tryz.prog 16 [pt b] [BP b st ps] fun Γ v Θ=>∃tv:SV,v=tv.v∧tv.n=st.orders.length∧Θ=own tv 97 14 (st.orders.flatMap odC)::BP b {st with orders:=[]} ps::Γ:=by
 refine Spec.bpOk fun hok=>?_;refine Zbd Tryz.func16 rfl Tryz.ntmps16 fun w0 Γ=>Zsh ?_;refine S.bpOpen b st ps fun ub jb mb ov iv dv mv sb l hF=>?_;refine ZY 8 ?_;refine ZY 2 ?_;refine ZF ef ?_;refine ZY 8 ?_;refine ZY 8 ?_;refine ZY 6 ?_;refine S.ent (show Ent _ (own SV.nil 97 14 (([]:List Od).flatMap odC)::_) from Ent.ownNil 97 14) ?_;refine S.sub (bX b {st with orders:=[]} ps ub jb mb SV.nil iv dv mv sb l (own ov 97 14 (st.orders.flatMap odC)::Γ)) ?_;refine S.bpClose b {st with orders:=[]} ps ub jb mb SV.nil iv dv mv sb l ⟨hok.oset [],hF.perm,rfl,hF.im,hF.dn,hF.mn,hF.sn⟩ ?_;exact Zf ef Zq (⟨ov,rfl,hF.on,rfl⟩)
theorem pub_no {st:Br} {x:Bj} {s:Sv} {ver:Nat} {ok:Bool} (hg:getJ st.js x.id=some x) (hs:x.sav=some s) (h:s.told=false∨s.ver≠ver):publishedR st x.id ver ok=(6,st):=by
 unfold publishedR;rw[hg];show (match x.sav with | none=>_ | some s=>_)=_;rw[hs];exact if_pos h
theorem pub_yes {st:Br} {x:Bj} {s:Sv} {ver:Nat} {ok:Bool} (hg:getJ st.js x.id=some x) (hs:x.sav=some s) (h1:s.told=true) (h2:s.ver=ver):publishedR st x.id ver ok=(0,finishR st {x with credit:=if ok then s.credit else x.credit,sav:=none}):=by
 unfold publishedR;rw[hg];show (match x.sav with | none=>_ | some s=>_)=_;rw[hs];exact if_neg (fun h=>by rcases h with h | h;(rw[h1]at h;cases h);exact h h2)
theorem Published_S (b:Nat) (st:Br) (ps:Nat→Nat) (id ver:Nat) (ok:Bool) (hl:st.orders.length≤900000) (hd:st.done.length≤900000):Spec Tryz.prog 32 [pt b,.int .u32 (id:Int),.int .u32 (ver:Int),.bool ok] [BP b st ps] fun Γ v Θ=>v=.int .i64 (publishedR st id ver ok).1∧Θ=BP b (publishedR st id ver ok).2 ps::Γ:=by
 refine Spec.bpOk fun hok=>?_;refine Spec.of_body Tryz.func32 rfl Tryz.ntmps32 rfl ?_;intro w0 Γ;show S _ w0 [(0,pt b),(1,.int .u32 (id:Int)),(2,.int .u32 (ver:Int)),(3,.bool ok)] (BP b st ps::Γ) _;cases hgj:getJ st.js id with
 | none=>
  have hg:publishedR st id ver ok=(6,st):=by rw[publishedR,hgj]
  refine S.bpOpen b st ps fun ub jb mb ov iv dv mv sb l hF=>?_;refine ZS ?_;refine ZY 8 ?_;refine ZY 7 ?_;refine Zvg ef ef ef (q_lookup1 (.pointer none) Tryz.underlying82 Tryz.underlying31 Tryz.zv86.h rfl rfl rfl (by rw[jE_get hok.srt hF.perm,hgj];rfl)) ?_;refine ZY 3 ?_;refine ZT ef ?_;refine ZY 5 ?_;refine S.bpClose b st ps ub jb mb ov iv dv mv sb l hF ?_;exact Zf ef Zq (⟨by rw[hg];rfl,by rw[hg]⟩)
 | some x=>
 obtain⟨_,hxi⟩:=getJ_some hgj;subst hxi;have hg0:=hgj;have hjx:=hok.at_ hg0;refine S.bjOpen b st ps x hg0 fun ub jb mb ov iv dv mv sb l i av lb db rb qb hF hi hset hrm hJ=>?_;have hlk:alGet (x.id:Int) l=some (pt (ps x.id)):=by rw[jE_get hok.srt hF.perm,hg0];rfl
 cases hs:x.sav with
 | none=>
  have hg:publishedR st x.id ver ok=(6,st):=by rw[publishedR,hg0];dsimp only;rw[hs]
  have hqb:qb=none:=by have:=hJ.s;rw[hs]at this;cases qb with | none=>rfl | some q=>cases this
  subst hqb;refine ZS ?_;refine ZY 8 ?_;refine ZY 7 ?_;refine Zvg ef ef ef (q_lookup1 (pt (ps x.id)) Tryz.underlying82 Tryz.underlying31 Tryz.zv86.h rfl rfl rfl (by rw[hlk];rfl)) ?_;refine ZY 3 ?_;refine ZF ef ?_;refine ZY 8 ?_;refine Zv (q_lookup1 (pt (ps x.id)) Tryz.underlying82 Tryz.underlying31 Tryz.zv86.h rfl rfl rfl (by rw[hlk];rfl)) ?_;refine ZY 8 ?_;refine ZY 8 ?_;refine ZY 8 ?_;refine ZY 8 ?_;refine ZY 7 ?_;refine S.bjClose b st ps ub jb mb ov iv dv mv sb l i x av lb db rb none hi rfl (hset x rfl) (hF.set hjx) hJ ?_;rw[set_self hok hg0];exact Zf ef Zq (⟨by rw[hg];rfl,by rw[hg]⟩)
 | some s=>
  obtain⟨q,hq⟩:∃q,qb=some q:=by have:=hJ.s;rw[hs]at this;cases qb with | none=>cases this | some q=>exact⟨q,rfl⟩
  subst hq;refine S.conv (savB (some q) x.id x.sav) (show Ent _ (savB (some q) x.id (some s)::_) by rw[hs];exact Ent.refl _) ?_;refine S.savOpen q x.id s fun hb sv=>?_;cases ok with
  | true=>
  obtain⟨x1,hx1⟩:∃x1:Bj,x1={x with credit:=s.credit,sav:=none}:=⟨_,rfl⟩;have hj1:JOk st.nodes x1:=by rw[hx1];exact⟨hjx.id1,hjx.id2,hjx.tier,hjx.k1,hjx.kn,hjx.w,(hjx.svl s hs).2,hjx.wk,hjx.rise,hjx.at_,hjx.drop,hjx.lod,hjx.ran,hjx.ld,fun s hs=>(by cases hs)⟩
  have hid:x1.id=x.id:=by rw[hx1]
  have hx2:getJ (st.set x1).js x1.id=some x1:=get_set st (by rw[hid];exact hg0)
  have hspec:Spec Tryz.prog 39 [pt b,pt (ps x.id)] [BP b (st.set x1) ps] fun Γ _ Θ=>Θ=BP b (finishR (st.set x1) x1) ps::Γ:=by
   rw[←hid];exact finish_S b _ ps x1 hx2 hl hd
  refine ZS ?_;refine ZY 8 ?_;refine ZY 7 ?_;refine Zvg ef ef ef (q_lookup1 (pt (ps x.id)) Tryz.underlying82 Tryz.underlying31 Tryz.zv86.h rfl rfl rfl (by rw[hlk];rfl)) ?_;refine ZY 3 ?_;refine ZF ef ?_;refine ZY 8 ?_;refine Zv (q_lookup1 (pt (ps x.id)) Tryz.underlying82 Tryz.underlying31 Tryz.zv86.h rfl rfl rfl (by rw[hlk];rfl)) ?_;refine ZY 8 ?_;refine ZY 8 ?_;refine ZY 5 ?_
  refine Zbb 42 ef (fun hg4_15=>?_) (fun hg4_15=>?_)
  ·have hg:=pub_no (ok:=true) hg0 hs (.inl (show s.told=false by simpa using hg4_15)) (ver:=ver);refine ZY 8 ?_;refine ZY 8 ?_;refine ZY 2 ?_;refine S.savShut q hb sv x.id s ?_;refine S.conv (savB (some q) x.id (some s)) (show Ent _ (savB (some q) x.id x.sav::_) by rw[hs];exact Ent.refl _) ?_;refine S.bjClose b st ps ub jb mb ov iv dv mv sb l i x av lb db rb (some q) hi rfl (hset x rfl) (hF.set hjx) hJ ?_;rw[set_self hok hg0];exact Zf ef Zq (⟨by rw[hg];rfl,by rw[hg]⟩)
  ·refine ZY 8 ?_;refine ZY 4 ?_
   refine Zj ef (fun h2=>?_) (fun h2=>?_)
   ·have hg:=pub_no (ok:=true) hg0 hs (ver:=ver) (.inr (by omega));refine ZY 5 ?_;refine S.savShut q hb sv x.id s ?_;refine S.conv (savB (some q) x.id (some s)) (show Ent _ (savB (some q) x.id x.sav::_) by rw[hs];exact Ent.refl _) ?_;refine S.bjClose b st ps ub jb mb ov iv dv mv sb l i x av lb db rb (some q) hi rfl (hset x rfl) (hF.set hjx) hJ ?_;rw[set_self hok hg0];exact Zf ef Zq (⟨by rw[hg];rfl,by rw[hg]⟩)
   ·have hg:publishedR st x.id ver true=(0,finishR st x1):=by rw[hx1];exact pub_yes (ok:=true) hg0 hs (by simpa using hg4_15) (by omega)
    refine ZY 6 ?_;refine ZT ef ?_;refine ZY 8 ?_;refine ZY 8 ?_;refine ZY 8 ?_;refine ZY 2 ?_;refine S.blkAs (ps x.id) (bjC x1 av lb db rb none).toArray (by rw[hx1];rfl) ?_;refine S.ent (savNil x.id _) ?_;refine S.sub (jX (ps x.id) x1 av lb db rb none (bR b st ps ub jb mb ov iv dv mv sb l i Γ)) (e:=by subst hx1;infer_instance) ?_;refine S.bjClose b st ps ub jb mb ov iv dv mv sb l i x1 av lb db rb none hi hid (hset x1 hid) (hF.set hj1) ⟨by rw[hx1];exact hJ.an,by rw[hx1];exact hJ.l,by rw[hx1];exact hJ.d,by rw[hx1];exact hJ.r,by rw[hx1];rfl⟩ ?_;refine Zp (Zc1 Ze (hspec) ?_);rintro v Θ rfl;rw[finish_set st (x:=x1) (y:=x1) rfl];refine ZY 6 ?_;exact Zf ef Zq (⟨by rw[hg];rfl,by rw[hg]⟩)
  | false=>
  obtain⟨x1,hx1⟩:∃x1:Bj,x1={x with credit:=x.credit,sav:=none}:=⟨_,rfl⟩;have hj1:JOk st.nodes x1:=by rw[hx1];exact⟨hjx.id1,hjx.id2,hjx.tier,hjx.k1,hjx.kn,hjx.w,hjx.cr,hjx.wk,hjx.rise,hjx.at_,hjx.drop,hjx.lod,hjx.ran,hjx.ld,fun s hs=>(by cases hs)⟩
  have hid:x1.id=x.id:=by rw[hx1]
  have hx2:getJ (st.set x1).js x1.id=some x1:=get_set st (by rw[hid];exact hg0)
  have hspec:Spec Tryz.prog 39 [pt b,pt (ps x.id)] [BP b (st.set x1) ps] fun Γ _ Θ=>Θ=BP b (finishR (st.set x1) x1) ps::Γ:=by
   rw[←hid];exact finish_S b _ ps x1 hx2 hl hd
  refine ZS ?_;refine ZY 8 ?_;refine ZY 7 ?_;refine Zvg ef ef ef (q_lookup1 (pt (ps x.id)) Tryz.underlying82 Tryz.underlying31 Tryz.zv86.h rfl rfl rfl (by rw[hlk];rfl)) ?_;refine ZY 3 ?_;refine ZF ef ?_;refine ZY 8 ?_;refine Zv (q_lookup1 (pt (ps x.id)) Tryz.underlying82 Tryz.underlying31 Tryz.zv86.h rfl rfl rfl (by rw[hlk];rfl)) ?_;refine ZY 8 ?_;refine ZY 8 ?_;refine ZY 5 ?_
  refine Zbb 42 ef (fun hg4_15=>?_) (fun hg4_15=>?_)
  ·have hg:=pub_no (ok:=false) hg0 hs (.inl (show s.told=false by simpa using hg4_15)) (ver:=ver);refine ZY 8 ?_;refine ZY 8 ?_;refine ZY 2 ?_;refine S.savShut q hb sv x.id s ?_;refine S.conv (savB (some q) x.id (some s)) (show Ent _ (savB (some q) x.id x.sav::_) by rw[hs];exact Ent.refl _) ?_;refine S.bjClose b st ps ub jb mb ov iv dv mv sb l i x av lb db rb (some q) hi rfl (hset x rfl) (hF.set hjx) hJ ?_;rw[set_self hok hg0];exact Zf ef Zq (⟨by rw[hg];rfl,by rw[hg]⟩)
  ·refine ZY 8 ?_;refine ZY 4 ?_
   refine Zj ef (fun h2=>?_) (fun h2=>?_)
   ·have hg:=pub_no (ok:=false) hg0 hs (ver:=ver) (.inr (by omega));refine ZY 5 ?_;refine S.savShut q hb sv x.id s ?_;refine S.conv (savB (some q) x.id (some s)) (show Ent _ (savB (some q) x.id x.sav::_) by rw[hs];exact Ent.refl _) ?_;refine S.bjClose b st ps ub jb mb ov iv dv mv sb l i x av lb db rb (some q) hi rfl (hset x rfl) (hF.set hjx) hJ ?_;rw[set_self hok hg0];exact Zf ef Zq (⟨by rw[hg];rfl,by rw[hg]⟩)
   ·have hg:publishedR st x.id ver false=(0,finishR st x1):=by rw[hx1];exact pub_yes (ok:=false) hg0 hs (by simpa using hg4_15) (by omega)
    refine ZY 6 ?_;refine ZF ef ?_;refine ZY 8 ?_;refine ZY 4 ?_;refine S.blkAs (ps x.id) (bjC x1 av lb db rb none).toArray (by rw[hx1];rfl) ?_;refine S.ent (savNil x.id _) ?_;refine S.sub (jX (ps x.id) x1 av lb db rb none (bR b st ps ub jb mb ov iv dv mv sb l i Γ)) (e:=by subst hx1;infer_instance) ?_;refine S.bjClose b st ps ub jb mb ov iv dv mv sb l i x1 av lb db rb none hi hid (hset x1 hid) (hF.set hj1) ⟨by rw[hx1];exact hJ.an,by rw[hx1];exact hJ.l,by rw[hx1];exact hJ.d,by rw[hx1];exact hJ.r,by rw[hx1];rfl⟩ ?_;refine Zp (Zc1 Ze (hspec) ?_);rintro v Θ rfl;rw[finish_set st (x:=x1) (y:=x1) rfl];refine ZY 6 ?_;exact Zf ef Zq (⟨by rw[hg];rfl,by rw[hg]⟩)
abbrev stopOrd (st:Br) (n:Nat):Od:=(n,{kind:=6,gen:=st.gen})
theorem BrOk.hset {st:Br} (h:BrOk st) (a:Bool):BrOk {st with stopped:=a}:=⟨h.R,h.N,h.mok,h.srt,fun x hx=>h.job x hx,h.few,h.q1,h.q2,h.g1,h.g2,h.now,h.fin,h.mem,h.stp⟩
theorem stop_S (b:Nat) (st:Br) (ps:Nat→Nat) (hl:st.orders.length≤900000):Spec Tryz.prog 41 [pt b] [BP b st ps] fun Γ _ Θ=>Θ=BP b (stopR st) ps::Γ:=by
 refine Spec.bpOk fun hok=>?_;have hN:=hok.N16;refine Zbd Tryz.func41 rfl Tryz.ntmps41 fun w0 Γ=>Zsh ?_;refine S.bpOpen b st ps fun ub jb mb ov iv dv mv sb l hF=>?_;refine ZY 8 ?_;refine ZY 8 ?_;refine Zy ?_;refine Zl (fun q ρ' Γ'=>∃(i:Nat) (ns:List Nat) (os:List Od) (ov2:SV),q=st.nodes-i∧i≤st.nodes∧ns=(List.range i).filter (fun n=>decide (n∈st.stops.getD []))∧ns.length≤i∧os=st.orders++ns.map (stopOrd st)∧ov2.n=os.length∧ρ'=[(0,pt b),(10,.int .i64 (st.nodes:Int)),(11,.int .i64 (i:Int))]∧Γ'=bX b {st with stopped:=true,orders:=os} ps ub jb mb ov2 iv dv mv sb l Γ) (m:=_) (⟨0,[],st.orders,ov,rfl,by omega,rfl,Nat.le_refl 0,by simp,hF.on,rfl,rfl⟩) ?_;rintro q ρ' Γ' ⟨i,ns,os,ov2,hq,hi,hns,hnl,hos,hov2,rfl,rfl⟩;have hol:os.length≤900016:=by rw[hos,List.length_append,List.length_map];omega
 refine ZY 5 ?_
 refine Zj ef (fun h1=>?_) (fun h1=>?_)
 ·have hil:i<st.nodes:=by omega
  refine ZY 8 ?_;refine ZY 7 ?_;refine Zp (Zcp Ze (hasO_S sb st.stops i) ?_);refine Zy ?_
  refine Zj ef (fun h2=>?_) (fun h2=>?_)
  ·have hns2:ns++[i]=(List.range (i+1)).filter (fun n=>decide (n∈st.stops.getD [])):=by rw[List.range_succ,List.filter_append,←hns];simp[h2]
   have hos2:os++[((i,{kind:=6,gen:=st.gen}):Od)]=st.orders++(ns++[i]).map (stopOrd st):=by rw[hos,List.map_append,List.append_assoc];rfl
   refine ZY 7 ?_;refine Zv (q_build (pvs:=[(_,_),(_,_)]) [_,_,_,_,_,_,_,_,_,_,_,_,_] Tryz.z72.h Tryz.p72.h ⟨⟨rfl,rfl⟩,⟨rfl,rfl⟩,trivial⟩ rfl) ?_;refine Zp (Zc1 Ze (order_S b {st with stopped:=true,orders:=os} ub jb mb ov2 iv dv mv sb i {kind:=6,gen:=st.gen} os hov2 (by omega)) ?_);rintro v Θ ⟨ov3,hov3,rfl⟩;refine ZY 2 ?_;refine Zv (Za ef ef) ?_;refine ZY 2 ?_;first | exact ZX (q-1) ⟨i+1,ns++[i],os++[((i,{kind:=6,gen:=st.gen}):Od)],ov3,by omega,by omega,hns2,by rw[List.length_append,List.length_singleton];omega,hos2,hov3,rfl,rfl⟩ (by omega) | exact ZX (q-1) ⟨i+1,ns,os,ov2,by omega,by omega,hns2,by omega,hos,hov2,rfl,rfl⟩ (by omega)
  ·have hns2:ns=(List.range (i+1)).filter (fun n=>decide (n∈st.stops.getD [])):=by rw[List.range_succ,List.filter_append,←hns];simp[h2]
   refine ZY 2 ?_;refine Zv (Za ef ef) ?_;refine ZY 2 ?_;first | exact ZX (q-1) ⟨i+1,ns++[i],os++[((i,{kind:=6,gen:=st.gen}):Od)],ov3,by omega,by omega,hns2,by rw[List.length_append,List.length_singleton];omega,hos2,hov3,rfl,rfl⟩ (by omega) | exact ZX (q-1) ⟨i+1,ns,os,ov2,by omega,by omega,hns2,by omega,hos,hov2,rfl,rfl⟩ (by omega)
 ·have hg:stopR st={st with stopped:=true,orders:=os}:=by rw[stopR,hos,hns,show i=st.nodes by omega]
  refine Zy ?_;refine S.bpClose b {st with stopped:=true,orders:=os} ps ub jb mb ov2 iv dv mv sb l ⟨(hok.oset os).hset true,hF.perm,hov2,hF.im,hF.dn,hF.mn,hF.sn⟩ ?_;exact Zfn ef Zq (by rw[hg])
theorem leaveE:EachOk leaveJ:=by
 refine⟨fun st x h hx=>?_,fun st x id hid=>?_,fun st x h hx=>?_⟩
 ·unfold leaveJ
  split
  ·exact dropR_ok h (h.at_ hx) true
  ·exact h
 ·unfold leaveJ
  split
  ·exact drop_oth st true hid
  ·rfl
 ·unfold leaveJ
  split
  ·have h1:=(dropR_same st x true).1;have h2:=len16 h hx;omega
  ·omega
theorem leave_yes {st:Br} {x:Bj} (h:x.warned=true∧x.drops=none∧(x.till≤st.now∨(x.work=x.credit∧x.sav.isNone))):leaveJ st x=dropR st x true:=if_pos h
theorem leave_no {st:Br} {x:Bj} (h:¬(x.warned=true∧x.drops=none∧(x.till≤st.now∨(x.work=x.credit∧x.sav.isNone)))):leaveJ st x=st:=if_neg h
theorem isoN {α β:Type} {a:Option α} {c:Option β} (h:a.isSome=c.isSome):a.isNone=c.isNone:=by cases a <;> cases c <;> first | rfl | cases h
set_option maxHeartbeats 1000000 in
theorem leave_S (b:Nat) (st:Br) (ps:Nat→Nat) (hl:st.orders.length≤880000):Spec Tryz.prog 42 [pt b] [BP b st ps] fun Γ _ Θ=>Θ=BP b (each leaveJ st st.ids) ps::Γ:=by
 refine Spec.bpOk fun hok=>?_;have hfew:=hok.few;refine Zbd Tryz.func42 rfl Tryz.ntmps42 fun w0 Γ=>Zsh ?_;refine ZY 3 ?_;refine Zp (Zc1 Ze (all_S b st ps) ?_);rintro v Θ ⟨jv,rfl,hjv,rfl⟩;refine S.ownLen jv fun hl1 hl2 hl3=>?_;have hmx:maxLen≤9223372036854775807:=by unfold maxLen;omega
 refine ZY 4 ?_;refine Zl (fun q ρ' Γ'=>∃(e:Nat) (t:Br),q=st.js.length-e∧e≤st.js.length∧t=each leaveJ st (st.ids.take e)∧ρ'=[(0,pt b),(5,jv.v),(6,.int .i64 (jv.n:Int)),(7,.int .i64 (e:Int))]∧Γ'=own jv 86 1 (pts ps st.js)::BP b t ps::Γ) (m:=_) (⟨0,st,rfl,by omega,rfl,rfl,rfl⟩) ?_;rintro q ρ' Γ' ⟨e,t,hq,he,ht,rfl,rfl⟩;have hI:=each_inv leaveE hok e he;have hIo:=hI.ord;have hto:t.orders.length≤900000:=by rw[ht];exact Nat.le_trans hIo (by omega)
 refine ZY 5 ?_
 refine Zj ef (fun h1=>?_) (fun h1=>?_)
 ·refine S.ownSome jv (by omega) fun sb so hsa _ _ _=>?_;obtain⟨x,hx⟩:=getE (show e<st.js.length by omega);have hgx:getJ t.js x.id=some x:=by rw[ht];exact hI.here e x (Nat.le_refl e) hx
  have hst:each leaveJ st (st.ids.take (e+1))=leaveJ t x:=by rw[ht];exact each_step hI hx
  have hok3:BrOk t:=by rw[ht];exact hI.ok
  have hjx:=hok3.at_ hgx;refine S.bjOpen b t ps x hgx fun ub jb mb ov iv dv mv sb l i av lb db rb qb hF hi hset hrm hJ=>?_;have hdn:db.isNone=x.drops.isNone:=isoN hJ.d;have hqn:(qb.map fun b=>(⟨b,0,none⟩:Addr)).isNone=x.sav.isNone:=isoN (by rw[Option.isSome_map];exact hJ.s);refine ZY 5 ?_;refine Zv (Zx (e) ef (hsa) ef (by omega)) ?_;refine Zv (Zo (jv) (e) ef (hsa) (by rw[List.getElem?_map,hx];rfl)) ?_;refine ZY 3 ?_;refine Zd ([blk (ps x.id) 90 (bjC x av lb db rb qb).toArray,blk b 84 (bC t ub jb mb ov iv dv mv sb).toArray]) [] (Zra 0 5) ?_;refine ZY 5 ?_
  refine Zbb 15 ef (fun hg3_4=>?_) (fun hg3_4=>?_)
  ·refine Zr (Zra 5 7) ?_;refine ZY 4 ?_;refine Zwg ef ef ef ef (q_eqMN Tryz.underlying81 rfl rfl) ?_;refine ZY 2 ?_
   refine Zbb 22 ef (fun hg3_11=>?_) (fun hg3_11=>?_)
   ·have hxd:x.drops=none:=by rw[hdn]at hg3_11;exact Option.isNone_iff_eq_none.1 hg3_11
    refine Zr (Zra 12 10) ?_;refine ZY 8 ?_;refine ZY 2 ?_
    refine Zb 32 ef (fun hg3_21=>?_) (fun hg3_21=>?_)
    ·have hyes:=leave_yes (st:=t) (x:=x) ⟨hg3_4,hxd,.inl (by omega)⟩;refine Zr (Zra 22 19) ?_;refine ZY 8 ?_;refine ZY 8 ?_;refine ZY 3 ?_;refine ZD ?_;refine ZY 4 ?_;refine S.bjClose b t ps ub jb mb ov iv dv mv sb l i x av lb db rb qb hi rfl (hset x rfl) (hF.set hjx) hJ ?_;rw[set_self hok3 hgx];refine Zp (Zc1 Ze (drop_S b t ps x true hgx hto) ?_);rintro v Θ rfl;refine ZY 2 ?_;refine Zv (Za ef ef) ?_;refine ZY 2 ?_;first | exact ZX (q-1) ⟨e+1,dropR t x true,by omega,by omega,by rw[hst,hyes],rfl,rfl⟩ (by omega) | (refine S.bjClose b t ps ub jb mb ov iv dv mv sb l i x av lb db rb qb hi rfl (hset x rfl) (hF.set hjx) hJ ?_;rw[set_self hok3 hgx];exact ZX (q-1) ⟨e+1,t,by omega,by omega,by rw[hst,hno],rfl,rfl⟩ (by omega))
    ·refine Zr (Zra 22 11) ?_;refine ZY 8 ?_;refine ZY 3 ?_
     refine Zb 43 ef (fun hg3_32=>?_) (fun hg3_32=>?_)
     ·refine Zr (Zra 33 8) ?_;refine ZY 8 ?_;refine ZD ?_
      refine Zi ef (fun h2=>?_) (fun h2=>?_)
      ·have hyes:=leave_yes (st:=t) (x:=x) ⟨hg3_4,hxd,.inr ⟨by omega,by rw[←hqn];exact h2⟩⟩;refine ZY 3 ?_;refine S.bjClose b t ps ub jb mb ov iv dv mv sb l i x av lb db rb qb hi rfl (hset x rfl) (hF.set hjx) hJ ?_;rw[set_self hok3 hgx];refine Zp (Zc1 Ze (drop_S b t ps x true hgx hto) ?_);rintro v Θ rfl;refine ZY 2 ?_;refine Zv (Za ef ef) ?_;refine ZY 2 ?_;first | exact ZX (q-1) ⟨e+1,dropR t x true,by omega,by omega,by rw[hst,hyes],rfl,rfl⟩ (by omega) | (refine S.bjClose b t ps ub jb mb ov iv dv mv sb l i x av lb db rb qb hi rfl (hset x rfl) (hF.set hjx) hJ ?_;rw[set_self hok3 hgx];exact ZX (q-1) ⟨e+1,t,by omega,by omega,by rw[hst,hno],rfl,rfl⟩ (by omega))
      ·have hno:=leave_no (st:=t) (x:=x) (fun h=>by rcases h.2.2 with h | h;omega;rw[←hqn]at h;rw[h.2]at h2;cases h2);refine ZY 2 ?_;refine Zv (Za ef ef) ?_;refine ZY 2 ?_;first | exact ZX (q-1) ⟨e+1,dropR t x true,by omega,by omega,by rw[hst,hyes],rfl,rfl⟩ (by omega) | (refine S.bjClose b t ps ub jb mb ov iv dv mv sb l i x av lb db rb qb hi rfl (hset x rfl) (hF.set hjx) hJ ?_;rw[set_self hok3 hgx];exact ZX (q-1) ⟨e+1,t,by omega,by omega,by rw[hst,hno],rfl,rfl⟩ (by omega))
     ·have hno:=leave_no (st:=t) (x:=x) (fun h=>by rcases h.2.2 with h | h;omega;exact hg3_32 (by rw[h.1]));refine Zr (Zra 33 8) ?_;refine ZY 8 ?_;refine ZD ?_;refine ZY 3 ?_;refine Zv (Za ef ef) ?_;refine ZY 2 ?_;first | exact ZX (q-1) ⟨e+1,dropR t x true,by omega,by omega,by rw[hst,hyes],rfl,rfl⟩ (by omega) | (refine S.bjClose b t ps ub jb mb ov iv dv mv sb l i x av lb db rb qb hi rfl (hset x rfl) (hF.set hjx) hJ ?_;rw[set_self hok3 hgx];exact ZX (q-1) ⟨e+1,t,by omega,by omega,by rw[hst,hno],rfl,rfl⟩ (by omega))
   ·have hno:=leave_no (st:=t) (x:=x) (fun h=>by rw[hdn,h.2.1]at hg3_11;cases hg3_11);refine Zr (Zra 12 29) ?_;refine ZY 8 ?_;refine ZY 8 ?_;refine ZY 8 ?_;refine ZY 5 ?_;refine ZD ?_;refine ZY 3 ?_;refine Zv (Za ef ef) ?_;refine ZY 2 ?_;first | exact ZX (q-1) ⟨e+1,dropR t x true,by omega,by omega,by rw[hst,hyes],rfl,rfl⟩ (by omega) | (refine S.bjClose b t ps ub jb mb ov iv dv mv sb l i x av lb db rb qb hi rfl (hset x rfl) (hF.set hjx) hJ ?_;rw[set_self hok3 hgx];exact ZX (q-1) ⟨e+1,t,by omega,by omega,by rw[hst,hno],rfl,rfl⟩ (by omega))
  ·have hno:=leave_no (st:=t) (x:=x) (fun h=>by rw[h.1]at hg3_4;cases hg3_4);refine Zr (Zra 5 36) ?_;refine ZY 8 ?_;refine ZY 8 ?_;refine ZY 8 ?_;refine ZY 8 ?_;refine ZY 4 ?_;refine ZD ?_;refine ZY 3 ?_;refine Zv (Za ef ef) ?_;refine ZY 2 ?_;first | exact ZX (q-1) ⟨e+1,dropR t x true,by omega,by omega,by rw[hst,hyes],rfl,rfl⟩ (by omega) | (refine S.bjClose b t ps ub jb mb ov iv dv mv sb l i x av lb db rb qb hi rfl (hset x rfl) (hF.set hjx) hJ ?_;rw[set_self hok3 hgx];exact ZX (q-1) ⟨e+1,t,by omega,by omega,by rw[hst,hno],rfl,rfl⟩ (by omega))
 ·have hen:e=st.js.length:=by omega
  refine Zy ?_;exact Zfn ef Zq (by rw[←each_all hen,←ht])
theorem Done_S (b:Nat) (st:Br) (ps:Nat→Nat):Spec Tryz.prog 33 [pt b] [BP b st ps] fun Γ v Θ=>∃tv:SV,v=tv.v∧tv.n=st.done.length∧Θ=own tv 31 1 (idsV st.done)::BP b {st with done:=[]} ps::Γ:=by
 refine Spec.bpOk fun hok=>?_;refine Zbd Tryz.func33 rfl Tryz.ntmps33 fun w0 Γ=>Zsh ?_;refine S.bpOpen b st ps fun ub jb mb ov iv dv mv sb l hF=>?_;refine ZY 8 ?_;refine ZY 2 ?_;refine ZF ef ?_;refine ZY 8 ?_;refine ZY 8 ?_;refine ZY 6 ?_;refine S.ent (show Ent _ (own SV.nil 31 1 (idsV ([]:List Nat))::_) from Ent.ownNil 31 1) ?_;refine S.sub (bX b {st with done:=[]} ps ub jb mb ov iv SV.nil mv sb l (own dv 31 1 (idsV st.done)::Γ)) ?_;refine S.bpClose b {st with done:=[]} ps ub jb mb ov iv SV.nil mv sb l ⟨hok.dset [],hF.perm,hF.on,hF.im,rfl,hF.mn,hF.sn⟩ ?_;exact Zf ef Zq (⟨dv,rfl,hF.dn,rfl⟩)
theorem Jobs_S (b:Nat) (st:Br) (ps:Nat→Nat):Spec Tryz.prog 27 [pt b] [BP b st ps] fun Γ v Θ=>∃tv:SV,v=tv.v∧tv.n=st.js.length∧Θ=own tv 31 1 (idsV st.ids)::BP b st ps::Γ:=by
 refine Spec.bpOk fun hok=>?_;have hfew:=hok.few;refine Zbd Tryz.func27 rfl Tryz.ntmps27 fun w0 Γ=>Zsh ?_;refine S.bpOpen b st ps fun ub jb mb ov iv dv mv sb l hF=>?_;have hll:l.length≤65535:=by rw[hF.perm.length_eq,List.length_map];omega
 refine ZY 8 ?_;refine ZY 2 ?_;refine ZF ef ?_;refine ZY 7 ?_;refine Zp (Zc1 Ze (Keys_S jb) ?_);rintro v Θ ⟨c,rfl,rfl⟩;refine Zp (Zc1 Ze (Sorted_S c jb l hll) ?_);rintro v Θ ⟨sv,xs,rfl,hsv,hxs,hxp,rfl⟩
 have hx0:xs=st.js.map fun x=>(x.id:Int):=by
  refine srt_eq (hxs.trans ?_) hxp ?_
  ·have:=hF.perm.map (·.1);rw[List.map_map]at this;exact this
  ·exact List.pairwise_map.2 (hok.srt.imp fun h=>by omega)
 have hxl:xs.length=st.js.length:=by rw[hx0,List.length_map]
 have hcells:xs.map kv=idsV st.ids:=by
  rw[hx0,List.map_map];show _=(st.js.map (fun x=>x.id)).map (fun j:Nat=>Value.int .u32 (j:Int));rw[List.map_map];rfl
 rw[hcells];refine ZY 3 ?_;refine S.bpClose b st ps ub jb mb ov iv dv mv sb l hF ?_;exact Zf ef Zq (⟨sv,rfl,by omega,rfl⟩)
end BN
theorem S.rNone {n:Nat} {md:Bool} {w0:WM md} {ρ:Env} {Γ:List Assn} {φ:Act→World→Prop} {R:Assn} {s:SV} {m sz:Nat} {xs:List Value} (h:RdS R s m sz xs) {Δ:List Assn} [p:Pick R Γ Δ] (k:(s.a=none→m=0)→S n w0 ρ Γ φ):S n w0 ρ Γ φ:=by
 intro a w ha hs hx;refine k (fun hn=>Classical.byContradiction fun h0=>?_) a w ha hs hx;obtain⟨b,off,hb,_⟩:=slAt_some (h.at_ hs) (Nat.pos_of_ne_zero h0);rw[hn]at hb;cases hb
namespace BN
theorem bClone_S (R:Assn) (s:SV) (xs:List Int) (hsn:s.n=xs.length) (hR:RdS R s s.n 1 (bcells xs)) (hxl:xs.length≤1000000):Spec Tryz.prog 105 [s.v] [R] fun Γ v Θ=>∃u:SV,v=u.v∧u.n=xs.length∧Θ=own u 5 1 (bcells xs)::R::Γ:=by
 refine Zbd Tryz.func105 rfl Tryz.ntmps105 fun w0 Γ=>Zsh ?_;refine S.rCap hR fun _ hc1 hc2=>?_;refine S.rNone hR fun hno=>?_;refine ZY 8 ?_;refine ZY 2 ?_
 refine Zi ef (fun h1=>?_) (fun h1=>?_)
 ·obtain rfl:xs=[]:=List.eq_nil_of_length_eq_zero (by have:=hno (Option.isNone_iff_eq_none.1 h1);omega);refine ZY 5 ?_;refine S.ent (show Ent _ (own SV.nil 5 1 (bcells [])::_) from Ent.ownNil 5 1) ?_;exact Zf ef Zq (⟨SV.nil,rfl,rfl,rfl⟩)
 ·refine ZY 3 ?_;refine Zp (S.buildSlice0 Tryz.underlying22 Tryz.inf5.h rfl ?_);intro b5 hb5;refine Zy ?_;refine Zp (S.appendOw (s:=b5) (s.n) (bcells xs) Tryz.underlying22 Tryz.inf5.h rfl rfl rfl (fun w hs=>hR _ w (hs.ent (Pick.ent (P:=R)))) (by first | rfl | exact allOne_bcells _) (⟨by omega,by omega⟩) rfl ?_);intro u hu;rw[List.nil_append];refine ZY 3 ?_;exact Zf ef Zq (⟨u,rfl,by omega,rfl⟩)
theorem idV_one (l:List Nat):allOne (idsV l)=true:=List.all_eq_true.2 fun v hv=>by
 obtain⟨x,_,rfl⟩:=List.mem_map.1 hv;rfl
theorem rank_at {l:List Nat} {n i:Nat} (h:l[i]?=some n) (hno:∀y∈l.take i,y≠n):rankOf l n=some i:=by
 unfold rankOf;obtain⟨hi,he⟩:=List.getElem?_eq_some_iff.1 h;refine List.findIdx?_eq_some_iff_getElem.2 ⟨hi,decide_eq_true he,fun j hj=>?_⟩;have:l[j]∈l.take i:=List.mem_take_iff_getElem.2 ⟨j,by omega,rfl⟩
 simpa using hno _ this
abbrev svT (s:Sv) (rank n:Nat) (blob:List Int):Sv:={s with bs:=s.bs.set rank blob,have_:=sAdd s.have_ n}
theorem savedR_no {st:Br} {x:Bj} {n:Nat} {t:Nt} {blob:List Int} {s:Sv} {rank:Nat} (hs:x.sav=some s) (hr:rankOf x.at_ n=some rank) (h:s.told=true∨t.ver≠s.ver∨t.rank≠rank):savedR st x n t blob=st:=by
 unfold savedR;rw[hs];dsimp only;rw[hr];exact if_pos h
theorem savedR_part {st:Br} {x:Bj} {n:Nat} {t:Nt} {blob:List Int} {s:Sv} {rank:Nat} (hs:x.sav=some s) (hr:rankOf x.at_ n=some rank) (h:¬(s.told=true∨t.ver≠s.ver∨t.rank≠rank)) (hl:¬(sAdd s.have_ n).length=x.at_.length):savedR st x n t blob=st.set {x with sav:=some (svT s rank n blob)}:=by
 unfold savedR;rw[hs];dsimp only;rw[hr];dsimp only;rw[if_neg h,if_neg hl]
theorem savedR_full {st:Br} {x:Bj} {n:Nat} {t:Nt} {blob:List Int} {s:Sv} {rank:Nat} (hs:x.sav=some s) (hr:rankOf x.at_ n=some rank) (h:¬(s.told=true∨t.ver≠s.ver∨t.rank≠rank)) (hl:(sAdd s.have_ n).length=x.at_.length):savedR st x n t blob={st with js:=setJ st.js {x with sav:=some ⟨s.ver,s.credit,sAdd s.have_ n,true,s.bs.set rank blob⟩},images:=st.images++[⟨x.id,s.ver,s.credit,s.bs.set rank blob⟩]}:=by
 unfold savedR;rw[hs];dsimp only;rw[hr];dsimp only;rw[if_neg h,if_pos hl]
section
variable {n:Nat} {md:Bool} {w0:WM md} {ρ:Env} {Γ Δ:List Assn} {φ:Act→World→Prop}
theorem S.blobsOpen (v:SV) (bs:List (List Int)) [q:Pick (blobs v bs) Γ Δ] (k:∀os:List Bb,os.map (·.2)=bs→S n w0 ρ (own v 22 1 (os.map bbV)::alls os bbB::Δ) φ):S n w0 ρ Γ φ:=by
 intro a w ha hs hx;obtain⟨h0,l0,h1,h2,d,l1,l2,⟨os,q1,q2⟩,s⟩:=hs.ent q.ent;exact k os q1 a w ha ⟨h0,l0,(Ent.unpack [_,_] Δ) _ ⟨h1,h2,d,l1,l2,q2,s⟩⟩ hx
theorem Ent.toBlobs (v:SV) (os:List Bb) (Γ:List Assn):Ent (own v 22 1 (os.map bbV)::alls os bbB::Γ) (blobs v (os.map (·.2))::Γ):=
 (Ent.pack [_,_] Γ).trans (Ent.mono1 Γ fun _ s=>⟨os,rfl,s⟩)
theorem S.imgsOpen (v:SV) (l:List Im) [q:Pick (imgs v l) Γ Δ] (k:∀os:List Ig,os.map (·.2)=l→S n w0 ρ (own v 60 4 (os.flatMap igC)::alls os igB::Δ) φ):S n w0 ρ Γ φ:=by
 intro a w ha hs hx;obtain⟨h0,l0,h1,h2,d,l1,l2,⟨os,q1,q2⟩,s⟩:=hs.ent q.ent;exact k os q1 a w ha ⟨h0,l0,(Ent.unpack [_,_] Δ) _ ⟨h1,h2,d,l1,l2,q2,s⟩⟩ hx
theorem Ent.toImgs (v:SV) (os:List Ig) (Γ:List Assn):Ent (own v 60 4 (os.flatMap igC)::alls os igB::Γ) (imgs v (os.map (·.2))::Γ):=
 (Ent.pack [_,_] Γ).trans (Ent.mono1 Γ fun _ s=>⟨os,rfl,s⟩)
end
theorem Ent.allsSet {α:Type} (F:α→Assn) {os:List α} {i:Nat} {x x':α} (hx:os[i]?=some x) (Γ:List Assn):Ent (F x'::alls os F::Γ) (alls (os.set i x') F::Γ):=
 ((Ent.allsAt F hx Γ).cons (F x')).trans (((Ent.drop (F x) _).cons (F x')).trans (Ent.allsBack F hx Γ))
theorem BrOk.iset {st:Br} (h:BrOk st) (l:List Im):BrOk {st with images:=l}:=⟨h.R,h.N,h.mok,h.srt,fun x hx=>h.job x hx,h.few,h.q1,h.q2,h.g1,h.g2,h.now,h.fin,h.mem,h.stp⟩
theorem JOk.sset {N:Nat} {x:Bj} (h:JOk N x) {s:Sv} (h1:s.bs.length=x.at_.length) (h2:s.credit≤x.w):JOk N {x with sav:=some s}:=⟨h.id1,h.id2,h.tier,h.k1,h.kn,h.w,h.cr,h.wk,h.rise,h.at_,h.drop,h.lod,h.ran,h.ld,fun s hs=>(by cases hs;exact⟨h1,h2⟩)⟩
theorem rank_some {l:List Nat} {n:Nat} (h:n∈l):∃i,rankOf l n=some i∧l[i]?=some n:=by
 cases hr:rankOf l n with
 | none=>exact absurd (List.findIdx?_eq_none_iff.1 hr n h) (by simp)
 | some i=>
  obtain⟨hi,h1,_⟩:=List.findIdx?_eq_some_iff_getElem.1 hr;exact⟨i,rfl,by rw[List.getElem?_eq_getElem hi,of_decide_eq_true h1]⟩
theorem saved_S (b:Nat) (st:Br) (ps:Nat→Nat) (x:Bj) (n:Nat) (t:Nt) (R:Assn) (bv:SV) (blob:List Int) (hx:getJ st.js x.id=some x) (hn:n∈x.at_) (hbn:bv.n=blob.length) (hbl:blob.length≤1000000) (hR:RdS R bv bv.n 1 (bcells blob)) (hil:st.images.length≤900000) (hr8:t.rank≤255) :
  Spec Tryz.prog 67 [pt b,pt (ps x.id),.int .i64 (n:Int),.agg (ntC t bv).toArray] [BP b st ps,R] fun Γ _ Θ=>Θ=BP b (savedR st x n t blob) ps::R::Γ:=by
 refine Spec.bpOk fun hok=>?_;have hjx:=hok.at_ hx;have hN:=hok.N16;have hal:=hjx.len;obtain⟨rank,hrank,hrk⟩:=rank_some hn;refine Spec.of_body Tryz.func67 rfl Tryz.ntmps67 rfl ?_;intro w0 Γ;show S _ w0 [(0,pt b),(1,pt (ps x.id)),(2,.int .i64 (n:Int)),(3,.agg (ntC t bv).toArray)] (BP b st ps::R::Γ) _;refine S.bjOpen b st ps x hx fun ub jb mb ov iv dv mv sb l i av lb db rb qb hF hi hset hrm hJ=>?_;cases hs:x.sav with
 | none=>
  have hg:savedR st x n t blob=st:=by rw[savedR,hs]
  have hqb:qb=none:=by have:=hJ.s;rw[hs]at this;cases qb with | none=>rfl | some q=>cases this
  subst hqb;refine ZS ?_;refine ZY 2 ?_;refine Zp (S.box (cs:=[_,_,_,_,_,_,_,_,_,_,_,_,_]) rfl rfl rfl ?_);intro b7;refine ZY 8 ?_;refine ZY 8 ?_;refine Zp (Zc1 Ze (Index_S (own av 3 1 (nds x.at_)) av x.at_ n hJ.an RdS.own) ?_);rintro v Θ ⟨⟨r,rfl,_,_⟩,rfl⟩;refine ZY 4 ?_;refine Zd ([]) [] [0,1,2] ?_;refine ZY 3 ?_;refine Zr (Zra 3 22) ?_;refine ZY 8 ?_;refine ZY 8 ?_;refine ZY 6 ?_;refine ZD ?_;refine ZY 2 ?_;refine S.bjClose b st ps ub jb mb ov iv dv mv sb l i x av lb db rb none hi rfl (hset x rfl) (hF.set hjx) hJ ?_;rw[set_self hok hx];exact Zf ef Zq (by rw[hg])
 | some s=>
  obtain⟨q,hq⟩:∃q,qb=some q:=by have:=hJ.s;rw[hs]at this;cases qb with | none=>cases this | some q=>exact⟨q,rfl⟩
  subst hq;have hsl:=(hjx.svl s hs).1;have htold:∀(y:Sv),s.told=false→({s with bs:=s.bs.set rank blob,have_:=sAdd s.have_ n}:Sv)=⟨s.ver,s.credit,sAdd s.have_ n,false,s.bs.set rank blob⟩:=fun _ h=>by rw[←h]
  refine S.conv (savB (some q) x.id x.sav) (show Ent _ (savB (some q) x.id (some s)::_) by rw[hs];exact Ent.refl _) ?_;refine S.savOpen q x.id s fun hb sv=>?_;refine S.mapNodup hb fun hnd0=>?_;have hnd:=setE_nodup hnd0;have hrl:rank<x.at_.length:=(List.getElem?_eq_some_iff.1 hrk).1;refine ZS ?_;refine ZY 2 ?_;refine Zp (S.box (cs:=[_,_,_,_,_,_,_,_,_,_,_,_,_]) rfl rfl rfl ?_);intro b7;refine ZY 8 ?_;refine ZY 8 ?_;refine Zp (Zc1 Ze (Index_S (own av 3 1 (nds x.at_)) av x.at_ n hJ.an RdS.own) ?_);rintro v Θ ⟨⟨r,rfl,hr1,hr2⟩,rfl⟩
  obtain rfl:r=some rank:=by
   cases r with
   | none=>exact absurd rfl (hr1 rfl n hn)
   | some i9=>
    obtain⟨z,hz1,hz2,hz3⟩:=hr2 i9 rfl;obtain rfl:z=n:=by omega
    have:=rank_at hz1 fun y hy e=>hz3 y hy (by rw[e]);rw[hrank]at this;exact this.symm
  rw[show oI (some rank)=(rank:Int) from rfl];refine ZY 4 ?_;refine Zd ([blk b7 72 (ntC t bv).toArray,blk q 131 #[.int .u32 (x.id:Int),.int .u32 (s.ver:Int),.int .i64 (s.credit:Int),sv.v,.map (some hb),.bool s.told]]) [] [0,1,2] ?_;refine ZY 3 ?_;refine Zr (Zra 3 6) ?_;refine ZY 6 ?_
  refine Zbb 28 ef (fun hg3_8=>?_) (fun hg3_8=>?_)
  ·have hg:=savedR_no (st:=st) (n:=n) (t:=t) (blob:=blob) hs hrank (.inl hg3_8);refine Zr (Zra 9 16) ?_;refine ZY 8 ?_;refine ZY 8 ?_;refine ZD ?_;refine ZY 2 ?_;refine S.savShut q hb sv x.id s ?_;refine S.conv (savB (some q) x.id (some s)) (show Ent _ (savB (some q) x.id x.sav::_) by rw[hs];exact Ent.refl _) ?_;refine S.bjClose b st ps ub jb mb ov iv dv mv sb l i x av lb db rb (some q) hi rfl (hset x rfl) (hF.set hjx) hJ ?_;rw[set_self hok hx];exact Zf ef Zq (by rw[hg])
  ·refine Zr (Zra 9 10) ?_;refine ZY 8 ?_;refine ZY 2 ?_
   refine Zb 38 ef (fun hg3_18=>?_) (fun hg3_18=>?_)
   ·have hg:=savedR_no (st:=st) (n:=n) (t:=t) (blob:=blob) hs hrank (.inr (.inl (by omega)));refine Zr (Zra 19 6) ?_;refine ZY 6 ?_;refine ZD ?_;refine ZY 2 ?_;refine S.savShut q hb sv x.id s ?_;refine S.conv (savB (some q) x.id (some s)) (show Ent _ (savB (some q) x.id x.sav::_) by rw[hs];exact Ent.refl _) ?_;refine S.bjClose b st ps ub jb mb ov iv dv mv sb l i x av lb db rb (some q) hi rfl (hset x rfl) (hF.set hjx) hJ ?_;rw[set_self hok hx];exact Zf ef Zq (by rw[hg])
   ·refine Zr (Zra 19 6) ?_;refine ZY 2 ?_;refine Zwg ef ef ef ef (q_conv Tryz.it3.h (by rw[Tryz.underlying5];rfl) rfl (inI64 (by omega) (by omega))) ?_;refine ZY 3 ?_;refine ZD ?_
    refine Zj ef (fun h1=>?_) (fun h1=>?_)
    ·have hg:=savedR_no (st:=st) (n:=n) (t:=t) (blob:=blob) hs hrank (.inr (.inr (by omega)));refine Zy ?_;refine S.savShut q hb sv x.id s ?_;refine S.conv (savB (some q) x.id (some s)) (show Ent _ (savB (some q) x.id x.sav::_) by rw[hs];exact Ent.refl _) ?_;refine S.bjClose b st ps ub jb mb ov iv dv mv sb l i x av lb db rb (some q) hi rfl (hset x rfl) (hF.set hjx) hJ ?_;rw[set_self hok hx];exact Zf ef Zq (by rw[hg])
    ·have hgo:¬(s.told=true∨t.ver≠s.ver∨t.rank≠rank):=by
      rintro (h | h | h)
      ·rw[hg3_8]at h;cases h
      ·exact hg3_18 (by omega)
      ·exact h1 (by omega)
     refine S.conv (if s.told then (fun _=>True) else blobs sv s.bs) (show Ent _ (blobs sv s.bs::_) by rw[hg3_8];exact Ent.refl _) ?_;refine S.blobsOpen sv s.bs fun os hos=>?_;have hol:os.length=s.bs.length:=by rw[←hos,List.length_map]
     refine S.ownLen sv fun hl1 hl2 hl3=>?_;rw[List.length_map]at hl1;refine S.ownSome sv (by omega) fun vb vo hva _ _ _=>?_;obtain⟨o9,ho9⟩:=getE (show rank<os.length by omega);refine ZY 2 ?_;refine Zd ([blk b7 72 (ntC t bv).toArray,blk q 131 #[.int .u32 (x.id:Int),.int .u32 (s.ver:Int),.int .i64 (s.credit:Int),sv.v,.map (some hb),.bool false]]) [10] (Zra 0 8) ?_;refine ZY 8 ?_;refine Z1 (i:=8) ef ef ?_;refine  (Zc1 Ze (bClone_S R bv blob hbn hR hbl) ?_);rintro v Θ ⟨u,rfl,hu,rfl⟩;refine Zk [9] ?_;refine Zw ef (Zx (rank) ef (hva) ef (by omega)) ?_;refine Z1 (i:=10) ef ef ?_;refine(S.storeOw (sv) (rank) Eo.h rfl rfl rfl hva (by first | rfl | exact Nat.add_assoc _ _ _ | omega) (by rw[List.length_map];omega) ((by rw[List.map_set]:_=(os.set rank ((u,blob):Bb)).map bbV)) ?_);refine ZL ([]) [] ?_;refine ZD ?_;refine ZY 7 ?_;refine Zp (Zc1 Ze (add_S hb s.have_ n) ?_);rintro v Θ rfl;refine S.conv2 (own u 5 1 (bcells blob)) (alls os bbB) (Ent.allsSet bbB (x':=(u,blob)) ho9 _) ?_;obtain⟨os2,hos2⟩:∃os2:List Bb,os2=os.set rank (u,blob):=⟨_,rfl⟩;rw[←hos2];have hbs2:os2.map (·.2)=s.bs.set rank blob:=by rw[hos2,←hos,List.map_set]
     refine S.conv2 (own sv 22 1 (os2.map bbV)) (alls os2 bbB) (Ent.toBlobs sv os2 _) ?_;rw[hbs2];refine ZY 2 ?_;refine Zd0 (Zra 0 11) ?_;refine ZY 8 ?_;refine ZY 3 ?_;refine ZD ?_
     refine Zj ef (fun h2=>?_) (fun h2=>?_)
     ·have hfull:(sAdd s.have_ n).length=x.at_.length:=by have:=setE_len (sAdd s.have_ n);have:=hJ.an;omega
      have hg:=savedR_full (st:=st) (t:=t) (blob:=blob) hs hrank hgo hfull;obtain⟨x1,hx1⟩:∃x1:Bj,x1={x with sav:=some ⟨s.ver,s.credit,sAdd s.have_ n,true,s.bs.set rank blob⟩}:=⟨_,rfl⟩;have hj1:JOk st.nodes x1:=by rw[hx1];exact hjx.sset (by rw[List.length_set];exact hsl) (hjx.svl s hs).2
      have hid:x1.id=x.id:=by rw[hx1]
      obtain⟨im,him⟩:∃im:Im,im=⟨x.id,s.ver,s.credit,s.bs.set rank blob⟩:=⟨_,rfl⟩;refine S.imgsOpen iv st.images fun io hio=>?_;have hiol:io.length=st.images.length:=by rw[←hio,List.length_map]
      have hin:=hF.im;refine ZY 7 ?_;refine Zd ([blk q 131 #[.int .u32 (x.id:Int),.int .u32 (s.ver:Int),.int .i64 (s.credit:Int),sv.v,.map (some hb),.bool true],blk b 84 (bC st ub jb mb ov iv dv mv sb).toArray]) [13] (Zra 0 9) ?_;refine ZY 8 ?_;refine Zy ?_;refine Z1 (i:=9) ef ef ?_;refine(S.buildSlice (pvs:=[(_,_)]) [_,_,_,_] Tryz.underlying51 Tryz.inf60.h rfl rfl ⟨⟨rfl,rfl⟩,trivial⟩ rfl rfl ?_);intro b84;refine Zk [] ?_;refine Z1 (i:=10) ef ef ?_;refine(S.appendOw (s:=iv) (1) (igC ((sv,⟨x.id,s.ver,s.credit,s.bs.set rank blob⟩):Ig)) Tryz.underlying51 Tryz.inf60.h rfl rfl rfl (blk_slAt (b:=b84) rfl (by unfold maxLen;omega)) (by first | rfl | exact allOne_bcells _) (⟨by omega,by omega⟩) rfl ?_);intro iv2 hiv2;refine Zk [11,12] ?_;refine ZY 2 ?_;refine Z1 (i:=13) ef ef ?_;refine(S.store (cs':=[_,_,_,_,_,_,_,_,_,_,_,_,_,_,_,_,_,_]) Eo.h rfl rfl rfl rfl rfl ?_);refine ZL ([]) [] ?_;refine ZD ?_;refine S.conv2 (igB ((sv,⟨x.id,s.ver,s.credit,s.bs.set rank blob⟩):Ig)) (alls io igB) (Ent.allsSnoc igB io ((sv,⟨x.id,s.ver,s.credit,s.bs.set rank blob⟩):Ig) _) ?_;rw[flat_snoc igC io ((sv,⟨x.id,s.ver,s.credit,s.bs.set rank blob⟩):Ig)];refine S.conv2 (own iv2 60 4 ((io++[((sv,⟨x.id,s.ver,s.credit,s.bs.set rank blob⟩):Ig)]).flatMap igC)) (alls (io++[((sv,⟨x.id,s.ver,s.credit,s.bs.set rank blob⟩):Ig)]) igB) (Ent.toImgs iv2 _ _) ?_;rw[List.map_append,hio,List.map_cons,List.map_nil];refine S.savToldClose q hb sv x.id s.ver s.credit (sAdd s.have_ n) (s.bs.set rank blob) ?_;refine S.blkAs (ps x.id) (bjC x1 av lb db rb (some q)).toArray (by rw[hx1]) ?_;refine S.sub (jX (ps x.id) x1 av lb db rb (some q) (bR b {st with images:=st.images++[⟨x.id,s.ver,s.credit,s.bs.set rank blob⟩]} ps ub jb mb ov iv2 dv mv sb l i (R::Γ))) (e:=by subst hx1;infer_instance) ?_;refine S.bjClose b {st with images:=st.images++[⟨x.id,s.ver,s.credit,s.bs.set rank blob⟩]} ps ub jb mb ov iv2 dv mv sb l i x1 av lb db rb (some q) hi hid (hset x1 hid) (BF.set (st:={st with images:=st.images++[⟨x.id,s.ver,s.credit,s.bs.set rank blob⟩]}) ⟨hok.iset _,hF.perm,hF.on,by show iv2.n=(st.images++[_]).length;rw[List.length_append,List.length_singleton];omega,hF.dn,hF.mn,hF.sn⟩ hj1) ⟨by rw[hx1];exact hJ.an,by rw[hx1];exact hJ.l,by rw[hx1];exact hJ.d,by rw[hx1];exact hJ.r,by rw[hx1];rfl⟩ ?_;rw[hx1];exact Zfn ef Zq (by rw[hg])
     ·have hpart:¬(sAdd s.have_ n).length=x.at_.length:=by have:=setE_len (sAdd s.have_ n);have:=hJ.an;omega
      have hg:=savedR_part (st:=st) (t:=t) (blob:=blob) hs hrank hgo hpart;obtain⟨x1,hx1⟩:∃x1:Bj,x1={x with sav:=some (svT s rank n blob)}:=⟨_,rfl⟩;have hj1:JOk st.nodes x1:=by rw[hx1];exact hjx.sset (by rw[List.length_set];exact hsl) (hjx.svl s hs).2
      have hid:x1.id=x.id:=by rw[hx1]
      refine Zy ?_;refine S.savClose q hb sv x.id s.ver s.credit (sAdd s.have_ n) (s.bs.set rank blob) ?_;refine S.blkAs (ps x.id) (bjC x1 av lb db rb (some q)).toArray (by rw[hx1]) ?_;refine S.sub (jX (ps x.id) x1 av lb db rb (some q) (bR b st ps ub jb mb ov iv dv mv sb l i (R::Γ))) (e:=by rw[hx1];show Sub (jX _ {x with sav:=some {s with bs:=s.bs.set rank blob,have_:=sAdd s.have_ n}} _ _ _ _ _ _) _;rw[htold s hg3_8];infer_instance) ?_;refine S.bjClose b st ps ub jb mb ov iv dv mv sb l i x1 av lb db rb (some q) hi hid (hset x1 hid) (hF.set hj1) ⟨by rw[hx1];exact hJ.an,by rw[hx1];exact hJ.l,by rw[hx1];exact hJ.d,by rw[hx1];exact hJ.r,by rw[hx1];rfl⟩ ?_;rw[hx1];exact Zfn ef Zq (by rw[hg])
theorem rs_none {rs:List Ro} {id:Nat} (h:nGet id (rs.map roR)=none):alGet (id:Int) (rs.map roE)=none:=by
 induction rs with
 | nil=>rfl
 | cons o rs ih=>
  simp only[List.map_cons,nGet]at h
  split at h
  ·cases h
  ·rename_i e;simp only[List.map_cons,alGet];rw[if_neg (by omega)];exact ih h
theorem rs_some {rs:List Ro} {id:Nat} {r:Rk} (h:nGet id (rs.map roR)=some r):∃(i:Nat) (p:Nat),rs[i]?=some (id,r,p)∧alGet (id:Int) (rs.map roE)=some (pt p) ∧
  (∀r',nPut id r' (rs.map roR)=(rs.set i (id,r',p)).map roR)∧(∀r',(rs.set i (id,r',p)).map roE=rs.map roE)∧(∀r' p',alPut (id:Int) (pt p') (rs.map roE)=(rs.set i (id,r',p')).map roE)∧(∀r' p',nPut id r' (rs.map roR)=(rs.set i (id,r',p')).map roR) ∧
  alDel (id:Int) (rs.map roE)=(rs.eraseIdx i).map roE∧nDel id (rs.map roR)=(rs.eraseIdx i).map roR:=by
 induction rs with
 | nil=>cases h
 | cons o rs ih=>
  obtain⟨a,q,p⟩:=o;simp only[List.map_cons,nGet]at h
  split at h
  ·rename_i e;have e:a=id:=e;cases h;subst e
   refine⟨0,p,rfl,?_,fun r'=>?_,fun r'=>rfl,fun r' p'=>?_,fun r' p'=>?_,?_,?_⟩
   ·simp only[List.map_cons,alGet,if_true]
   ·simp only[List.map_cons,nPut,if_true,List.set_cons_zero]
   ·simp only[List.map_cons,alPut,if_true,List.set_cons_zero]
   ·simp only[List.map_cons,nPut,if_true,List.set_cons_zero]
   ·simp only[List.map_cons,alDel,if_true,List.eraseIdx_cons_zero]
   ·simp only[List.map_cons,nDel,if_true,List.eraseIdx_cons_zero]
  ·rename_i e;have e:a≠id:=e;have e2:(id:Int)≠(a:Int):=by omega
   obtain⟨i,p2,h1,h2,h3,h4,h5,h6,h7,h8⟩:=ih h
   refine⟨i+1,p2,h1,?_,fun r'=>?_,fun r'=>?_,fun r' p'=>?_,fun r' p'=>?_,?_,?_⟩
   ·simp only[List.map_cons,alGet];rw[if_neg (by omega)];exact h2
   ·simp only[List.map_cons,nPut,List.set_cons_succ];rw[if_neg e,h3]
   ·simp only[List.map_cons,List.set_cons_succ];rw[h4]
   ·simp only[List.map_cons,alPut,List.set_cons_succ];rw[if_neg (by omega),h5]
   ·simp only[List.map_cons,nPut,List.set_cons_succ];rw[if_neg e,h6]
   ·simp only[List.map_cons,alDel,List.eraseIdx_cons_succ];rw[if_neg (by omega),h7]
   ·simp only[List.map_cons,nDel,List.eraseIdx_cons_succ];rw[if_neg e,h8]
theorem rs_new {rs:List Ro} {id:Nat} (h:nGet id (rs.map roR)=none) (r:Rk) (p:Nat):alPut (id:Int) (pt p) (rs.map roE)=(rs++[(id,r,p)]).map roE∧nPut id r (rs.map roR)=(rs++[(id,r,p)]).map roR∧alDel (id:Int) (rs.map roE)=rs.map roE∧nDel id (rs.map roR)=rs.map roR:=by
 induction rs with
 | nil=>exact⟨rfl,rfl,rfl,rfl⟩
 | cons o rs ih=>
  obtain⟨a,q,p2⟩:=o;simp only[List.map_cons,nGet]at h
  split at h
  ·cases h
  ·rename_i e;have e:a≠id:=e;obtain⟨h1,h2,h3,h4⟩:=ih h
   refine⟨?_,?_,?_,?_⟩
   ·simp only[List.map_cons,alPut,List.cons_append];rw[if_neg (by omega),h1]
   ·simp only[List.map_cons,nPut,List.cons_append];rw[if_neg e,h2]
   ·simp only[List.map_cons,alDel];rw[if_neg (by omega),h3]
   ·simp only[List.map_cons,nDel];rw[if_neg e,h4]
theorem runOf_eq {rs:Rs} (hn:amB rs=true) {y:Nat×Rk} (hy:y∈rs) (hr:y.2.run=true):runOf rs=y.1:=by
 have h1:(rs.filter (·.2.run)).length≤1:=of_decide_eq_true hn;have hyf:y∈rs.filter (·.2.run):=List.mem_filter.2 ⟨hy,hr⟩;unfold runOf;cases hf:rs.find? (·.2.run) with
 | none=>exact absurd hr (by simpa using List.find?_eq_none.1 hf y hy)
 | some z=>
  have hz:z∈rs.filter (·.2.run):=List.mem_filter.2 ⟨List.mem_of_find?_eq_some hf,by have h9:=List.find?_some hf;exact h9⟩;cases hl:rs.filter (·.2.run) with
  | nil=>rw[hl]at hyf;cases hyf
  | cons a l=>
   rw[hl]at h1 hyf hz;cases l with
   | nil=>rw[List.mem_singleton.1 hyf,List.mem_singleton.1 hz]
   | cons b l=>simp at h1
theorem runOf_no {rs:Rs} (h:∀y∈rs,y.2.run=false):runOf rs=0:=by
 unfold runOf;rw[List.find?_eq_none.2 fun y hy=>by rw[h y hy];decide]
theorem Ent.roAt {rs:List Ro} {i:Nat} {o:Ro} (h:rs[i]?=some o) (Γ:List Assn):Ent (alls rs roB::Γ) (roB o::alls (rs.take i) roB::alls (rs.drop (i+1)) roB::Γ):=Ent.allsAt roB h Γ
theorem perm_at {rs js:List Ro} {i:Nat} {o:Ro} (h:js[i]?=some o) (hp:∀x∈js,x∈rs):∃k:Nat,rs[k]?=some o:=by
 obtain⟨k,hk,e⟩:=List.getElem_of_mem (hp o (List.mem_of_getElem? h));exact⟨k,by rw[List.getElem?_eq_getElem hk,e]⟩
set_option maxHeartbeats 1000000 in
theorem runX_S {p:Nat} {nd:Nd} {rb:Nat} {iv ov:SV} {rs:List Ro} {os:List Ot} (hN:NF nd iv ov rs os) (ham:amB nd.rk=true):Spec Tryz.prog 59 [pt p] (ndX p nd rb iv ov rs os []) fun Γ v Θ=>v=.int .u32 (runOf nd.rk:Nat)∧Θ=ndX p nd rb iv ov rs os Γ:=by
 refine Zbd Tryz.func59 rfl Tryz.ntmps59 fun w0 Γ=>Zsh ?_;refine ZY 8 ?_;refine ZY 3 ?_;refine Zp (S.range Tryz.underlying104 rfl rfl ?_);intro r9;refine ZY 2 ?_;refine Zl (fun k ρ' Γ'=>∃(left:List (Int×Value)) (cur:Option (Int×Value)) (jl:List Ro),k=left.length∧left=jl.map roE∧(∀x∈jl,x∈rs)∧(∀x∈rs,x∈jl∨x.2.1.run=false)∧ρ'=[(0,pt p),(9,.pointer (some ⟨r9,0,none⟩))] ∧   Γ'=rngM r9 rb .u32 (rs.map roE) left cur::blk p 107 #[.bool nd.up,.map (some rb),iv.v,ov.v,.bool nd.wrong]::alls rs roB::own iv 72 13 (nd.inn.flatMap niC)::own ov 72 13 (os.flatMap otC)::alls os otB::Γ) (m:=_) (⟨rs.map roE,none,rs,rfl,rfl,fun x hx=>hx,fun x hx=>.inl hx,rfl,rfl⟩) ?_;rintro k ρ' Γ' ⟨left,cur,jl,hk,hleft,hsub,hall,rfl,rfl⟩;refine ZY 2 ?_
 refine Zp (S.nextR rfl rfl (fun hl10=>?_) (fun i10 z10 v10 hi10=>?_))
 ·have hro:runOf nd.rk=0:=runOf_no fun y hy=>by
   rw[←hN.rk]at hy;obtain⟨x,hx,e⟩:=List.mem_map.1 hy;subst e
   rcases hall x hx with h | h
   ·rw[hl10]at hleft;rw[List.map_eq_nil_iff.1 hleft.symm]at h;cases h
   ·exact h
  refine ZY 8 ?_;refine ZY 2 ?_;refine S.conv (rngM r9 rb .u32 (rs.map roE) left cur) (Ent.rngM _) ?_;exact Zf ef Zq (⟨by rw[hro];rfl,rfl⟩)
 ·obtain⟨x,hx,hxe⟩:∃x,jl[i10]?=some x∧roE x=(z10,v10):=by
   rw[hleft,List.getElem?_map]at hi10;exact Option.map_eq_some_iff.1 hi10
  simp only[roE,Prod.mk.injEq]at hxe;obtain⟨rfl,rfl⟩:=hxe;obtain⟨q,hq⟩:=perm_at hx hsub
  have hlen:(left.eraseIdx i10).length<k:=by
   rw[hk,List.length_eraseIdx_of_lt (by have:=(List.getElem?_eq_some_iff.1 hi10).1;exact this)];have:=(List.getElem?_eq_some_iff.1 hi10).1;omega
  have hle:(left.eraseIdx i10)=(jl.eraseIdx i10).map roE:=by rw[hleft,map_eraseIdx']
  refine S.conv (alls rs roB) (Ent.roAt hq _) ?_;refine ZY 8 ?_;refine Zv (q_entryR rfl) ?_;refine ZY 8 ?_;refine ZY 4 ?_
  refine Zi ef (fun h2=>?_) (fun h2=>?_)
  ·have hro:runOf nd.rk=x.1:=runOf_eq ham (y:=roR x) (by rw[←hN.rk];exact List.mem_map.2 ⟨x,List.mem_of_getElem? hq,rfl⟩) h2;refine ZY 6 ?_;refine S.conv3 (roB x) (alls (rs.take q) roB) (alls (rs.drop (q+1)) roB) (Ent.allsBack' roB hq _) ?_;refine S.conv (rngM r9 rb .u32 (rs.map roE) (left.eraseIdx i10) (some ((x.1:Int),pt x.2.2))) (Ent.rngM _) ?_;exact Zf ef Zq (⟨by rw[hro];rfl,rfl⟩)
  ·have hall2:∀y∈rs,y∈jl.eraseIdx i10∨y.2.1.run=false:=fun y hy=>by
    rcases hall y hy with h | h
    ·by_cases e:y=x
     ·exact .inr (by rw[e];exact h2)
     ·refine .inl ?_;obtain⟨j,hj,ej⟩:=List.getElem_of_mem h;exact List.mem_eraseIdx_iff_getElem?.2 ⟨j,fun e9=>e (by subst e9;rw[List.getElem?_eq_getElem hj,ej]at hx;exact Option.some.inj hx),by rw[List.getElem?_eq_getElem hj,ej]⟩
    ·exact .inr h
   refine Zy ?_;refine S.conv3 (roB x) (alls (rs.take q) roB) (alls (rs.drop (q+1)) roB) (Ent.allsBack' roB hq _) ?_;exact ZX ((left.eraseIdx i10).length) (⟨left.eraseIdx i10,some ((x.1:Int),pt x.2.2),jl.eraseIdx i10,rfl,hle,fun y hy=>hsub y (List.mem_of_mem_eraseIdx hy),hall2,rfl,rfl⟩) (hlen)
theorem running_S (p:Nat) (nd:Nd) (ham:amB nd.rk=true):Spec Tryz.prog 59 [pt p] [NI p nd] fun Γ v Θ=>v=.int .u32 (runOf nd.rk:Nat)∧Θ=NI p nd::Γ:=by
 intro Γ w hs;obtain⟨h0,l0,h1,h2,d,l1,l2,⟨rb,iv,ov,rs,os,q1,q2⟩,s⟩:=hs;refine(runX_S (rb:=rb) q1 ham Γ w ⟨h0,l0,(Ent.unpack (ndX p nd rb iv ov rs os []) Γ) _ ⟨h1,h2,d,l1,l2,q2,s⟩⟩).mono ?_;rintro e w' ⟨v,Θ,e1,⟨e2,e3⟩,e4,e5⟩;refine⟨v,NI p nd::Γ,e1,⟨e2,rfl⟩,?_,e5⟩;rw[e3]at e4;exact e4.ent ((Ent.pack (ndX p nd rb iv ov rs os []) Γ).trans (Ent.mono1 Γ fun _ s=>⟨rb,iv,ov,rs,os,q1,s⟩))
theorem NF.rset {nd:Nd} {iv ov:SV} {rs:List Ro} {os:List Ot} (h:NF nd iv ov rs os) {rk:Rs} {rs':List Ro} (hr:rs'.map roR=rk):NF {nd with rk:=rk} iv ov rs' os:=⟨hr,h.os,h.i,h.o⟩
theorem ndTick_no {now:Nat} {nd:Nd} (h:¬runOf nd.rk≠0):ndTick now nd=nd:=by rw[ndTick,if_neg h]
theorem ndTick_yes {now:Nat} {nd:Nd} {r:Rk} (h:runOf nd.rk≠0) (hg:nGet (runOf nd.rk) nd.rk=some r):ndTick now nd={nd with rk:=nPut (runOf nd.rk) {r with til:=now,frm:=if r.frm=0 then now else r.frm} nd.rk}:=by rw[ndTick,if_pos h,hg]
theorem runOf_get {rs:Rs} (h:runOf rs≠0):∃r,nGet (runOf rs) rs=some r:=by
 obtain⟨r,h1,_⟩:=runOf_some h;cases hg:nGet (runOf rs) rs with
 | some r=>exact⟨r,rfl⟩
 | none=>exact absurd (List.mem_map.2 ⟨_,h1,rfl⟩) (nGet_none.1 hg)
theorem ntick_S (p:Nat) (nd:Nd) (now:Nat) (ham:amB nd.rk=true):Spec Tryz.prog 96 [pt p,.int .u32 (now:Int)] [NI p nd] fun Γ _ Θ=>Θ=NI p (ndTick now nd)::Γ:=by
 refine Zbd Tryz.func96 rfl Tryz.ntmps96 fun w0 Γ=>Zsh ?_;refine ZY 3 ?_;refine Zp (Zcp Ze (running_S p nd ham) ?_);refine ZY 7 ?_
 refine Zj ef (fun h1=>?_) (fun h1=>?_)
 ·obtain⟨j0,hj0⟩:∃j0,j0=runOf nd.rk:=⟨_,rfl⟩;have hne:runOf nd.rk≠0:=by omega
  obtain⟨r,hr⟩:=runOf_get hne;have hg:=ndTick_yes (now:=now) hne hr;rw[←hj0]at hr hg ⊢;refine S.niOpen p nd fun rb iv ov rs os hN=>?_;obtain⟨i,q,k1,k2,k3,k4,_⟩:=rs_some (rs:=rs) (id:=j0) (r:=r) (by rw[hN.rk];exact hr);refine S.conv (alls rs roB) (Ent.roAt k1 _) ?_;refine ZY 7 ?_;refine Zv (q_lookup1 (pt q) Tryz.underlying104 Tryz.underlying31 Tryz.zv112.h rfl rfl rfl (by rw[k2];rfl)) ?_;refine ZY 8 ?_;refine ZY 8 ?_;refine ZY 2 ?_
  refine Zj ef (fun h2=>?_) (fun h2=>?_)
  ·refine ZY 7 ?_;have h29:(r.frm:Int)=0:=h2;obtain⟨r1,hr1⟩:∃r1:Rk,r1={r with til:=now,frm:=if r.frm=0 then now else r.frm}:=⟨_,rfl⟩;rw[←hr1]at hg;refine S.blkAs q (rkC r1).toArray (by rw[hr1];simp only[rkC];rw[if_pos (by omega)]) ?_;refine S.conv3 (roB ((j0,r1,q):Ro)) (alls (rs.take i) roB) (alls (rs.drop (i+1)) roB) (Ent.allsBack roB (x':=(j0,r1,q)) k1 _) ?_;refine S.conv (mapL rb .u32 (rs.map roE)) (show Ent _ (mapL rb .u32 ((rs.set i (j0,r1,q)).map roE)::_) by rw[k4 r1];exact Ent.refl _) ?_;refine S.niClose p {nd with rk:=nPut j0 r1 nd.rk} rb iv ov (rs.set i (j0,r1,q)) os (hN.rset (by rw[←k3,hN.rk])) ?_;rw[←hg];exact Zfn ef Zq (rfl)
  ·refine Zy ?_;have h29:¬(r.frm:Int)=0:=h2;obtain⟨r1,hr1⟩:∃r1:Rk,r1={r with til:=now,frm:=if r.frm=0 then now else r.frm}:=⟨_,rfl⟩;rw[←hr1]at hg;refine S.blkAs q (rkC r1).toArray (by rw[hr1];simp only[rkC];rw[if_neg (by omega)]) ?_;refine S.conv3 (roB ((j0,r1,q):Ro)) (alls (rs.take i) roB) (alls (rs.drop (i+1)) roB) (Ent.allsBack roB (x':=(j0,r1,q)) k1 _) ?_;refine S.conv (mapL rb .u32 (rs.map roE)) (show Ent _ (mapL rb .u32 ((rs.set i (j0,r1,q)).map roE)::_) by rw[k4 r1];exact Ent.refl _) ?_;refine S.niClose p {nd with rk:=nPut j0 r1 nd.rk} rb iv ov (rs.set i (j0,r1,q)) os (hN.rset (by rw[←k3,hN.rk])) ?_;rw[←hg];exact Zfn ef Zq (rfl)
 ·refine Zy ?_;have hg:=ndTick_no (now:=now) (show ¬runOf nd.rk≠0 by omega);refine S.conv (NI p nd) (show Ent _ (NI p (ndTick now nd)::_) by rw[hg];exact Ent.refl _) ?_;exact Zfn ef Zq (rfl)
theorem Ent.blkOwnB (b:Nat) (e sz m:Nat) (cs:List Value) (hl:cs.length=m*sz) (hm:m≤maxLen) (Γ:List Assn):Ent (blk b e cs.toArray::Γ) (own ⟨some ⟨b,0,none⟩,m,m⟩ e sz cs::Γ):=Ent.mono1 Γ fun h p=>by
 refine⟨hl,.inr ⟨b,0,cs.toArray,rfl,p,Nat.le_refl _,hm,by simp[hl],?_⟩⟩;simp only[List.drop_zero];exact List.take_of_length_le (by omega)
theorem otC_len:∀o,(otC o).length=13:=fun _=>rfl
section
variable {nd:Nd} {x:Nt}
theorem act_load (h:x.kind=3):actR nd x={nd with wrong:=nd.wrong || (nGet x.job nd.rk).isSome,rk:=nPut x.job {place:=x.rank} nd.rk,out:=nd.out++[({kind:=4,job:=x.job},[])]}:=by rw[actR,if_pos h]
theorem act_go0 (h:x.kind=5) (hg:nGet x.job nd.rk=none):actR nd x={nd with wrong:=true}:=by rw[actR,if_neg (by omega),if_pos h,hg]
theorem act_go {r:Rk} (h:x.kind=5) (hg:nGet x.job nd.rk=some r):actR nd x={nd with wrong:=nd.wrong || decide (runOf nd.rk≠0),rk:=nPut x.job {r with run:=true,gen:=x.gen,frm:=0,til:=0} nd.rk}:=by rw[actR,if_neg (by omega),if_pos h,hg]
theorem act_stop0 (h:x.kind=6) (hr:¬runOf nd.rk≠0):actR nd x={nd with out:=nd.out++[({kind:=7,gen:=x.gen},[])]}:=by rw[actR,if_neg (by omega),if_neg (by omega),if_pos h,if_neg hr]
theorem act_stop {r:Rk} (h:x.kind=6) (hr:runOf nd.rk≠0) (hg:nGet (runOf nd.rk) nd.rk=some r):actR nd x={nd with rk:=nPut (runOf nd.rk) {r with run:=false} nd.rk,out:=nd.out++[({kind:=7,gen:=x.gen,job:=runOf nd.rk,frm:=r.frm,til:=r.til},[])]}:=by rw[actR,if_neg (by omega),if_neg (by omega),if_pos h,if_pos hr,hg]
theorem act_save0 (h:x.kind=8) (hg:nGet x.job nd.rk=none):actR nd x={nd with wrong:=true}:=by rw[actR,if_neg (by omega),if_neg (by omega),if_neg (by omega),if_pos h,hg]
theorem act_save {r:Rk} (h:x.kind=8) (hg:nGet x.job nd.rk=some r):actR nd x={nd with wrong:=nd.wrong || r.run,out:=nd.out++[({kind:=9,job:=x.job,ver:=x.ver,rank:=r.place},[(r.place:Int),((x.credit % 256:Nat):Int)])]}:=by rw[actR,if_neg (by omega),if_neg (by omega),if_neg (by omega),if_pos h,hg]
theorem act_drop (h:x.kind=10):actR nd x={nd with rk:=nDel x.job nd.rk,out:=nd.out++[({kind:=11,job:=x.job},[])]}:=by rw[actR,if_neg (by omega),if_neg (by omega),if_neg (by omega),if_neg (by omega),if_pos h]
theorem act_other (h3:x.kind≠3) (h5:x.kind≠5) (h6:x.kind≠6) (h8:x.kind≠8) (h10:x.kind≠10):actR nd x=nd:=by rw[actR,if_neg h3,if_neg h5,if_neg h6,if_neg h8,if_neg h10]
end
theorem wrap8 (n:Nat):IntKind.u8.wrap (n:Int)=((n % 256:Nat):Int):=by
 simp only[IntKind.wrap,IntKind.bits,IntKind.signed,Bool.false_and,Bool.false_eq_true,if_false];show (n:Int) % 256=((n % 256:Nat):Int);omega
theorem Ent.otApp (ov:SV) (os:List Ot) (o:Ot) (Γ:List Assn):Ent (own ov 72 13 (os.flatMap otC++otC o)::alls os otB::otB o::Γ) (own ov 72 13 ((os++[o]).flatMap otC)::alls (os++[o]) otB::Γ):=by
 rw[←flat_snoc otC os o];exact((Ent.swap _ _ _).trans (Ent.allsSnoc otB os o Γ)).cons _
theorem Ent.otNil (ov:SV) (os:List Ot) (x:Nt) (Γ:List Assn):Ent (own ov 72 13 (os.flatMap otC++otC ⟨x,SV.nil,[]⟩)::alls os otB::Γ) (own ov 72 13 ((os++[(⟨x,SV.nil,[]⟩:Ot)]).flatMap otC)::alls (os++[(⟨x,SV.nil,[]⟩:Ot)]) otB::Γ):=
 (((show Ent Γ (otB ⟨x,SV.nil,[]⟩::Γ) from Ent.ownNil 5 1).cons _).cons _).trans (Ent.otApp ov os ⟨x,SV.nil,[]⟩ Γ)
theorem NF.say {nd:Nd} {iv ov ov':SV} {rs rs':List Ro} {os:List Ot} (h:NF nd iv ov rs os) (o:Ot) (ho:ov'.n=ov.n+1) {rk:Rs} (hr:rs'.map roR=rk) (wr:Bool):NF {nd with rk:=rk,out:=nd.out++[otR o],wrong:=wr} iv ov' rs' (os++[o]):=⟨hr,by rw[List.map_append,h.os];rfl,h.i,by show ov'.n=(nd.out++[otR o]).length;rw[List.length_append,List.length_singleton,ho,h.o]⟩
set_option maxHeartbeats 8000000 in
theorem act_S (p:Nat) (nd:Nd) (x:Nt) (ham:amB nd.rk=true) (hol:nd.out.length≤1000000000000):Spec Tryz.prog 97 [pt p,.agg (niC x).toArray] [NI p nd] fun Γ _ Θ=>Θ=NI p (actR nd x)::Γ:=by
 refine Zbd Tryz.func97 rfl Tryz.ntmps97 fun w0 Γ=>Zsh ?_;refine S.niOpen p nd fun rb iv ov rs os hN=>?_;have hon:=hN.o;have hrk:=hN.rk;refine ZY 2 ?_;refine Zp (S.box (cs:=[_,_,_,_,_,_,_,_,_,_,_,_,_]) rfl rfl rfl ?_);intro b3;refine ZY 2 ?_
 rcases hgr:nGet x.job nd.rk with _ | r
 ·have hlk:alGet (x.job:Int) (rs.map roE)=none:=rs_none (by rw[hrk];exact hgr);have hnew:=fun r p=>rs_new (rs:=rs) (id:=x.job) (by rw[hrk];exact hgr) r p;refine Zd0 (Zra 0 8) ?_;refine ZY 6 ?_;refine Zw ef (q_lookup1 (.pointer none) Tryz.underlying104 Tryz.underlying31 Tryz.zv112.h rfl rfl rfl (by rw[hlk];rfl)) ?_;refine Zy ?_;refine ZD ?_;refine ZY 8 ?_;refine ZY 3 ?_
  refine Zj ef (fun h1=>?_) (fun h1=>?_)
  ·have hk:x.kind=3:=by omega
   have hact:=act_load (nd:=nd) hk;rw[hgr]at hact;refine ZY 8 ?_
   refine Zbb 24 ef (fun hg4_5=>?_) (fun hg4_5=>?_)
   ·refine ZY 8 ?_;refine Zd ([blk b3 72 (niC x).toArray,blk p 107 #[.bool nd.up,.map (some rb),iv.v,ov.v,.bool (nd.wrong || (nGet x.job nd.rk).isSome)]]) [10] (Zra 0 9) ?_;refine S.blkAs p #[.bool nd.up,.map (some rb),iv.v,ov.v,.bool (nd.wrong || (nGet x.job nd.rk).isSome)] (by rw[hgr];simp[hg4_5]) ?_;refine ZY 8 ?_;refine Zw ef (q_build (pvs:=[(_,_)]) [_,_,_,_,_] Tryz.z111.h Tryz.p111.h ⟨⟨rfl,rfl⟩,trivial⟩ rfl) ?_;refine Z1 (i:=9) ef ef ?_;refine(S.box (cs:=[_,_,_,_,_]) rfl rfl rfl ?_);intro b39;refine Zk [] ?_;refine Z1 (i:=10) ef ef ?_;refine(S.mapUpdate Tryz.underlying104 Tryz.underlying31 rfl rfl rfl rfl ?_);refine ZL ([]) [] ?_;refine ZD ?_;refine Zd ([blk b3 72 (niC x).toArray,blk p 107 #[.bool nd.up,.map (some rb),iv.v,ov.v,.bool (nd.wrong || (nGet x.job nd.rk).isSome)]]) [12] (Zra 0 8) ?_;refine ZY 7 ?_;refine Zw ef (q_build (pvs:=[(_,_),(_,_)]) [_,_,_,_,_,_,_,_,_,_,_,_,_] Tryz.z72.h Tryz.p72.h ⟨⟨rfl,rfl⟩,⟨rfl,rfl⟩,trivial⟩ rfl) ?_;refine Z1 (i:=8) ef ef ?_;refine(S.buildSlice (pvs:=[(_,_)]) [_,_,_,_,_,_,_,_,_,_,_,_,_] Tryz.underlying105 Tryz.inf72.h rfl rfl ⟨⟨rfl,rfl⟩,trivial⟩ rfl rfl ?_);intro b48;refine Zk [] ?_;refine Z1 (i:=9) ef ef ?_;refine(S.appendOw (s:=ov) (1) (otC ⟨{kind:=4,job:=x.job},SV.nil,[]⟩) Tryz.underlying105 Tryz.inf72.h rfl rfl rfl (blk_slAt (b:=b48) rfl (by unfold maxLen;omega)) (by first | rfl | exact allOne_bcells _) (⟨by omega,by omega⟩) rfl ?_);intro ov2 hov2;refine Zk [10,11] ?_;refine ZY 2 ?_;refine Z1 (i:=12) ef ef ?_;refine(S.store (cs':=[_,_,_,_,_]) Eo.h rfl rfl rfl rfl rfl ?_);refine ZL ([]) [] ?_;refine ZD ?_;refine S.conv2 (own ov2 72 13 (os.flatMap otC++otC ⟨{kind:=4,job:=x.job},SV.nil,[]⟩)) (alls os otB) (Ent.otNil ov2 os {kind:=4,job:=x.job} _) ?_;obtain⟨m1,m2,_⟩:=hnew {place:=x.rank} b39;rw[m1];refine S.conv2 (blk b39 111 (rkC {place:=x.rank}).toArray) (alls rs roB) (Ent.allsSnoc roB rs ((x.job,{place:=x.rank},b39):Ro) _) ?_;refine S.niClose p {nd with rk:=nPut x.job {place:=x.rank} nd.rk,out:=nd.out++[otR ⟨{kind:=4,job:=x.job},SV.nil,[]⟩],wrong:=nd.wrong || (nGet x.job nd.rk).isSome} rb iv ov2 (rs++[(x.job,{place:=x.rank},b39)]) (os++[⟨{kind:=4,job:=x.job},SV.nil,[]⟩]) (hN.say ⟨{kind:=4,job:=x.job},SV.nil,[]⟩ hov2 (by rw[←m2,hrk]) _) ?_;refine S.conv (NI p {nd with rk:=nPut x.job {place:=x.rank} nd.rk,out:=nd.out++[otR ⟨{kind:=4,job:=x.job},SV.nil,[]⟩],wrong:=nd.wrong || (nGet x.job nd.rk).isSome}) (show Ent _ (NI p (actR nd x)::_) by rw[hact,hgr];exact Ent.refl _) ?_;exact Zfn ef Zq (rfl)
   ·refine ZY 8 ?_;refine Zd ([blk b3 72 (niC x).toArray,blk p 107 #[.bool nd.up,.map (some rb),iv.v,ov.v,.bool (nd.wrong || (nGet x.job nd.rk).isSome)]]) [10] (Zra 0 9) ?_;refine S.blkAs p #[.bool nd.up,.map (some rb),iv.v,ov.v,.bool (nd.wrong || (nGet x.job nd.rk).isSome)] (by rw[hgr];simp[hg4_5]) ?_;refine ZY 8 ?_;refine Zw ef (q_build (pvs:=[(_,_)]) [_,_,_,_,_] Tryz.z111.h Tryz.p111.h ⟨⟨rfl,rfl⟩,trivial⟩ rfl) ?_;refine Z1 (i:=9) ef ef ?_;refine(S.box (cs:=[_,_,_,_,_]) rfl rfl rfl ?_);intro b39;refine Zk [] ?_;refine Z1 (i:=10) ef ef ?_;refine(S.mapUpdate Tryz.underlying104 Tryz.underlying31 rfl rfl rfl rfl ?_);refine ZL ([]) [] ?_;refine ZD ?_;refine Zd ([blk b3 72 (niC x).toArray,blk p 107 #[.bool nd.up,.map (some rb),iv.v,ov.v,.bool (nd.wrong || (nGet x.job nd.rk).isSome)]]) [12] (Zra 0 8) ?_;refine ZY 7 ?_;refine Zw ef (q_build (pvs:=[(_,_),(_,_)]) [_,_,_,_,_,_,_,_,_,_,_,_,_] Tryz.z72.h Tryz.p72.h ⟨⟨rfl,rfl⟩,⟨rfl,rfl⟩,trivial⟩ rfl) ?_;refine Z1 (i:=8) ef ef ?_;refine(S.buildSlice (pvs:=[(_,_)]) [_,_,_,_,_,_,_,_,_,_,_,_,_] Tryz.underlying105 Tryz.inf72.h rfl rfl ⟨⟨rfl,rfl⟩,trivial⟩ rfl rfl ?_);intro b48;refine Zk [] ?_;refine Z1 (i:=9) ef ef ?_;refine(S.appendOw (s:=ov) (1) (otC ⟨{kind:=4,job:=x.job},SV.nil,[]⟩) Tryz.underlying105 Tryz.inf72.h rfl rfl rfl (blk_slAt (b:=b48) rfl (by unfold maxLen;omega)) (by first | rfl | exact allOne_bcells _) (⟨by omega,by omega⟩) rfl ?_);intro ov2 hov2;refine Zk [10,11] ?_;refine ZY 2 ?_;refine Z1 (i:=12) ef ef ?_;refine(S.store (cs':=[_,_,_,_,_]) Eo.h rfl rfl rfl rfl rfl ?_);refine ZL ([]) [] ?_;refine ZD ?_;refine S.conv2 (own ov2 72 13 (os.flatMap otC++otC ⟨{kind:=4,job:=x.job},SV.nil,[]⟩)) (alls os otB) (Ent.otNil ov2 os {kind:=4,job:=x.job} _) ?_;obtain⟨m1,m2,_⟩:=hnew {place:=x.rank} b39;rw[m1];refine S.conv2 (blk b39 111 (rkC {place:=x.rank}).toArray) (alls rs roB) (Ent.allsSnoc roB rs ((x.job,{place:=x.rank},b39):Ro) _) ?_;refine S.niClose p {nd with rk:=nPut x.job {place:=x.rank} nd.rk,out:=nd.out++[otR ⟨{kind:=4,job:=x.job},SV.nil,[]⟩],wrong:=nd.wrong || (nGet x.job nd.rk).isSome} rb iv ov2 (rs++[(x.job,{place:=x.rank},b39)]) (os++[⟨{kind:=4,job:=x.job},SV.nil,[]⟩]) (hN.say ⟨{kind:=4,job:=x.job},SV.nil,[]⟩ hov2 (by rw[←m2,hrk]) _) ?_;refine S.conv (NI p {nd with rk:=nPut x.job {place:=x.rank} nd.rk,out:=nd.out++[otR ⟨{kind:=4,job:=x.job},SV.nil,[]⟩],wrong:=nd.wrong || (nGet x.job nd.rk).isSome}) (show Ent _ (NI p (actR nd x)::_) by rw[hact,hgr];exact Ent.refl _) ?_;exact Zfn ef Zq (rfl)
  ·have hk3:x.kind≠3:=by omega
   refine ZY 5 ?_
   refine Zj ef (fun h2=>?_) (fun h2=>?_)
   ·have hact:=act_go0 (nd:=nd) (show x.kind=5 by omega) hgr;refine ZY 8 ?_
    refine Zbb 59 ef (fun hg8_5=>?_) (fun hg8_5=>?_)
    ·refine ZY 8 ?_;refine ZY 8 ?_;refine Zy ?_;refine ZF ef ?_;refine Zy ?_;refine S.blkAs p #[.bool nd.up,.map (some rb),iv.v,ov.v,.bool true] rfl ?_;refine S.niClose p {nd with wrong:=true} rb iv ov rs os ⟨hN.rk,hN.os,hN.i,hN.o⟩ ?_;rw[←hact];exact Zfn ef Zq (rfl)
    ·refine ZY 8 ?_;refine ZY 8 ?_;refine Zy ?_;refine ZF ef ?_;refine Zy ?_;refine S.blkAs p #[.bool nd.up,.map (some rb),iv.v,ov.v,.bool true] rfl ?_;refine S.niClose p {nd with wrong:=true} rb iv ov rs os ⟨hN.rk,hN.os,hN.i,hN.o⟩ ?_;rw[←hact];exact Zfn ef Zq (rfl)
   ·have hk5:x.kind≠5:=by omega
    refine ZY 5 ?_
    refine Zj ef (fun h4=>?_) (fun h4=>?_)
    ·have hk:x.kind=6:=by omega
     refine ZY 4 ?_;refine Zv (q_build (pvs:=[(_,_),(_,_)]) [_,_,_,_,_,_,_,_,_,_,_,_,_] Tryz.z72.h Tryz.p72.h ⟨⟨rfl,rfl⟩,⟨rfl,rfl⟩,trivial⟩ rfl) ?_;refine Zp (S.alloc Tryz.z72.h rfl ?_);intro b5;refine Zp (Zs ef ef (cs':=[_,_,_,_,_,_,_,_,_,_,_,_,_]) ef ?_);refine ZY 5 ?_;refine Zp (Zcp Ze (runX_S (p:=p) (rb:=rb) hN ham) ?_);obtain⟨j0,hj0⟩:∃j0,j0=runOf nd.rk:=⟨_,rfl⟩;rw[←hj0];refine ZY 7 ?_
     refine Zj ef (fun h5=>?_) (fun h5=>?_)
     ·have hne:runOf nd.rk≠0:=by omega
      obtain⟨r2,hr2⟩:=runOf_get hne;have hact:=act_stop (x:=x) hk hne hr2;rw[←hj0]at hr2 hact;obtain⟨i2,q2,c1,c2,c3,c4,_⟩:=rs_some (rs:=rs) (id:=j0) (r:=r2) (by rw[hrk];exact hr2);refine ZY 7 ?_;refine Zv (q_lookup1 (pt q2) Tryz.underlying104 Tryz.underlying31 Tryz.zv112.h rfl rfl rfl (by rw[c2];rfl)) ?_;refine ZY 4 ?_;refine S.conv (alls rs roB) (Ent.roAt c1 _) ?_;refine ZY 5 ?_;refine Zd ([blk q2 111 (rkC {r2 with run:=false}).toArray]) [] (Zra 0 10) ?_;refine ZY 8 ?_;refine ZY 2 ?_;refine Z1 (i:=10) ef ef ?_;refine(S.store (cs':=[_,_,_,_,_,_,_,_,_,_,_,_,_]) Eo.h rfl rfl rfl rfl rfl ?_);refine Zk [11] ?_;refine Zy ?_;refine Z1 (i:=12) ef ef ?_;refine(S.store (cs':=[_,_,_,_,_,_,_,_,_,_,_,_,_]) Eo.h rfl rfl rfl rfl rfl ?_);refine Zk [13] ?_;refine Zy ?_;refine Z1 (i:=14) ef ef ?_;refine(S.store (cs':=[_,_,_,_,_,_,_,_,_,_,_,_,_]) Eo.h rfl rfl rfl rfl rfl ?_);refine Zk [] ?_;refine ZD ?_;refine S.conv3 (roB ((j0,{r2 with run:=false},q2):Ro)) (alls (rs.take i2) roB) (alls (rs.drop (i2+1)) roB) (Ent.allsBack roB (x':=(j0,{r2 with run:=false},q2)) c1 _) ?_;refine S.conv (mapL rb .u32 (rs.map roE)) (show Ent _ (mapL rb .u32 ((rs.set i2 (j0,{r2 with run:=false},q2)).map roE)::_) by rw[c4];exact Ent.refl _) ?_;refine S.blkAs b5 (niC {kind:=7,gen:=x.gen,job:=j0,frm:=r2.frm,til:=r2.til}).toArray rfl ?_;obtain⟨rs9,hrs9⟩:∃rs9,rs9=rs.set i2 (j0,{r2 with run:=false},q2):=⟨_,rfl⟩;obtain⟨x9,hx9⟩:∃x9:Nt,x9={kind:=7,gen:=x.gen,job:=j0,frm:=r2.frm,til:=r2.til}:=⟨_,rfl⟩;obtain⟨rk9,hrk9⟩:∃rk9,rk9=nPut j0 {r2 with run:=false} nd.rk:=⟨_,rfl⟩;have hrr:rs9.map roR=rk9:=by rw[hrs9,hrk9,←c3,hrk]
      rw[←hrk9,←hx9]at hact;rw[←hrs9,←hx9];refine Zd ([blk b5 72 (niC x9).toArray,blk p 107 #[.bool nd.up,.map (some rb),iv.v,ov.v,.bool nd.wrong]]) [10] (Zra 0 6) ?_;refine ZY 6 ?_;refine Z1 (i:=6) ef ef ?_;refine(S.buildSlice (pvs:=[(_,_)]) [_,_,_,_,_,_,_,_,_,_,_,_,_] Tryz.underlying105 Tryz.inf72.h rfl rfl ⟨⟨rfl,rfl⟩,trivial⟩ rfl rfl ?_);intro b122;refine Zk [] ?_;refine Z1 (i:=7) ef ef ?_;refine(S.appendOw (s:=ov) (1) (otC ⟨x9,SV.nil,[]⟩) Tryz.underlying105 Tryz.inf72.h rfl rfl rfl (blk_slAt (b:=b122) rfl (by unfold maxLen;omega)) (by first | rfl | exact allOne_bcells _) (⟨by omega,by omega⟩) rfl ?_);intro ov2 hov2;refine Zk [8,9] ?_;refine ZY 2 ?_;refine Z1 (i:=10) ef ef ?_;refine(S.store (cs':=[_,_,_,_,_]) Eo.h rfl rfl rfl rfl rfl ?_);refine ZL ([]) [] ?_;refine ZD ?_;refine S.conv2 (own ov2 72 13 (os.flatMap otC++otC ⟨x9,SV.nil,[]⟩)) (alls os otB) (Ent.otNil ov2 os x9 _) ?_;refine S.niClose p {nd with rk:=rk9,out:=nd.out++[otR ⟨x9,SV.nil,[]⟩],wrong:=nd.wrong} rb iv ov2 rs9 (os++[⟨x9,SV.nil,[]⟩]) (hN.say ⟨x9,SV.nil,[]⟩ hov2 hrr _) ?_;refine S.conv (NI p {nd with rk:=rk9,out:=nd.out++[otR ⟨x9,SV.nil,[]⟩],wrong:=nd.wrong}) (show Ent _ (NI p (actR nd x)::_) by rw[hact];exact Ent.refl _) ?_;exact Zfn ef Zq (rfl)
     ·refine Zy ?_;have hact:=act_stop0 (nd:=nd) hk (show ¬runOf nd.rk≠0 by omega);refine S.blkAs b5 (niC {kind:=7,gen:=x.gen}).toArray rfl ?_;obtain⟨rs9,hrs9⟩:∃rs9,rs9=rs:=⟨_,rfl⟩;obtain⟨x9,hx9⟩:∃x9:Nt,x9={kind:=7,gen:=x.gen}:=⟨_,rfl⟩;obtain⟨rk9,hrk9⟩:∃rk9,rk9=nd.rk:=⟨_,rfl⟩;have hrr:rs9.map roR=rk9:=by rw[hrs9,hrk9,hrk]
      have hact:actR nd x={nd with rk:=rk9,out:=nd.out++[(x9,[])]}:=by rw[hact,hx9,hrk9]
      rw[←hx9];refine S.conv2 (mapL rb .u32 (rs.map roE)) (alls rs roB) (show Ent _ (mapL rb .u32 (rs9.map roE)::alls rs9 roB::_) by rw[hrs9];exact Ent.refl _) ?_;refine Zd ([blk b5 72 (niC x9).toArray,blk p 107 #[.bool nd.up,.map (some rb),iv.v,ov.v,.bool nd.wrong]]) [10] (Zra 0 6) ?_;refine ZY 6 ?_;refine Z1 (i:=6) ef ef ?_;refine(S.buildSlice (pvs:=[(_,_)]) [_,_,_,_,_,_,_,_,_,_,_,_,_] Tryz.underlying105 Tryz.inf72.h rfl rfl ⟨⟨rfl,rfl⟩,trivial⟩ rfl rfl ?_);intro b122;refine Zk [] ?_;refine Z1 (i:=7) ef ef ?_;refine(S.appendOw (s:=ov) (1) (otC ⟨x9,SV.nil,[]⟩) Tryz.underlying105 Tryz.inf72.h rfl rfl rfl (blk_slAt (b:=b122) rfl (by unfold maxLen;omega)) (by first | rfl | exact allOne_bcells _) (⟨by omega,by omega⟩) rfl ?_);intro ov2 hov2;refine Zk [8,9] ?_;refine ZY 2 ?_;refine Z1 (i:=10) ef ef ?_;refine(S.store (cs':=[_,_,_,_,_]) Eo.h rfl rfl rfl rfl rfl ?_);refine ZL ([]) [] ?_;refine ZD ?_;refine S.conv2 (own ov2 72 13 (os.flatMap otC++otC ⟨x9,SV.nil,[]⟩)) (alls os otB) (Ent.otNil ov2 os x9 _) ?_;refine S.niClose p {nd with rk:=rk9,out:=nd.out++[otR ⟨x9,SV.nil,[]⟩],wrong:=nd.wrong} rb iv ov2 rs9 (os++[⟨x9,SV.nil,[]⟩]) (hN.say ⟨x9,SV.nil,[]⟩ hov2 hrr _) ?_;refine S.conv (NI p {nd with rk:=rk9,out:=nd.out++[otR ⟨x9,SV.nil,[]⟩],wrong:=nd.wrong}) (show Ent _ (NI p (actR nd x)::_) by rw[hact];exact Ent.refl _) ?_;exact Zfn ef Zq (rfl)
    ·have hk6:x.kind≠6:=by omega
     refine ZY 5 ?_
     refine Zj ef (fun h6=>?_) (fun h6=>?_)
     ·have hact:=act_save0 (nd:=nd) (show x.kind=8 by omega) hgr;refine ZY 8 ?_
      refine Zbb 133 ef (fun hg20_5=>?_) (fun hg20_5=>?_)
      ·refine ZY 8 ?_;refine ZY 8 ?_;refine ZY 2 ?_;refine ZF ef ?_;refine Zy ?_;refine S.blkAs p #[.bool nd.up,.map (some rb),iv.v,ov.v,.bool true] rfl ?_;refine S.niClose p {nd with wrong:=true} rb iv ov rs os ⟨hN.rk,hN.os,hN.i,hN.o⟩ ?_;rw[←hact];exact Zfn ef Zq (rfl)
      ·refine ZY 8 ?_;refine ZY 8 ?_;refine ZY 2 ?_;refine ZF ef ?_;refine Zy ?_;refine S.blkAs p #[.bool nd.up,.map (some rb),iv.v,ov.v,.bool true] rfl ?_;refine S.niClose p {nd with wrong:=true} rb iv ov rs os ⟨hN.rk,hN.os,hN.i,hN.o⟩ ?_;rw[←hact];exact Zfn ef Zq (rfl)
     ·have hk8:x.kind≠8:=by omega
      refine ZY 5 ?_
      refine Zj ef (fun h8=>?_) (fun h8=>?_)
      ·have hact:=act_drop (nd:=nd) (show x.kind=10 by omega);refine Zy ?_;refine Zd ([blk b3 72 (niC x).toArray,blk p 107 #[.bool nd.up,.map (some rb),iv.v,ov.v,.bool nd.wrong]]) [6] (Zra 0 6) ?_;refine ZY 6 ?_;refine Z1 (i:=6) ef ef ?_;refine(S.mapDelete Tryz.underlying104 Tryz.underlying31 rfl rfl rfl ?_);refine ZL ([]) [] ?_;refine ZD ?_;refine Zd ([blk b3 72 (niC x).toArray,blk p 107 #[.bool nd.up,.map (some rb),iv.v,ov.v,.bool nd.wrong]]) [12] (Zra 0 8) ?_;refine ZY 7 ?_;refine Zw ef (q_build (pvs:=[(_,_),(_,_)]) [_,_,_,_,_,_,_,_,_,_,_,_,_] Tryz.z72.h Tryz.p72.h ⟨⟨rfl,rfl⟩,⟨rfl,rfl⟩,trivial⟩ rfl) ?_;refine Z1 (i:=8) ef ef ?_;refine(S.buildSlice (pvs:=[(_,_)]) [_,_,_,_,_,_,_,_,_,_,_,_,_] Tryz.underlying105 Tryz.inf72.h rfl rfl ⟨⟨rfl,rfl⟩,trivial⟩ rfl rfl ?_);intro b189;refine Zk [] ?_;refine Z1 (i:=9) ef ef ?_;refine(S.appendOw (s:=ov) (1) (otC ⟨{kind:=11,job:=x.job},SV.nil,[]⟩) Tryz.underlying105 Tryz.inf72.h rfl rfl rfl (blk_slAt (b:=b189) rfl (by unfold maxLen;omega)) (by first | rfl | exact allOne_bcells _) (⟨by omega,by omega⟩) rfl ?_);intro ov2 hov2;refine Zk [10,11] ?_;refine ZY 2 ?_;refine Z1 (i:=12) ef ef ?_;refine(S.store (cs':=[_,_,_,_,_]) Eo.h rfl rfl rfl rfl rfl ?_);refine ZL ([]) [] ?_;refine ZD ?_;refine S.conv2 (own ov2 72 13 (os.flatMap otC++otC ⟨{kind:=11,job:=x.job},SV.nil,[]⟩)) (alls os otB) (Ent.otNil ov2 os {kind:=11,job:=x.job} _) ?_;obtain⟨_,_,m3,m4⟩:=hnew {place:=0} 0;rw[m3];refine S.niClose p {nd with rk:=nDel x.job nd.rk,out:=nd.out++[otR ⟨{kind:=11,job:=x.job},SV.nil,[]⟩],wrong:=nd.wrong} rb iv ov2 rs (os++[⟨{kind:=11,job:=x.job},SV.nil,[]⟩]) (hN.say ⟨{kind:=11,job:=x.job},SV.nil,[]⟩ hov2 (by rw[←hrk,m4]) _) ?_;refine S.conv (NI p {nd with rk:=nDel x.job nd.rk,out:=nd.out++[otR ⟨{kind:=11,job:=x.job},SV.nil,[]⟩],wrong:=nd.wrong}) (show Ent _ (NI p (actR nd x)::_) by rw[hact];exact Ent.refl _) ?_;exact Zfn ef Zq (rfl)
      ·refine Zy ?_;refine S.niClose p nd rb iv ov rs os hN ?_;refine S.conv (NI p nd) (show Ent _ (NI p (actR nd x)::_) by rw[act_other hk3 hk5 hk6 hk8 (by omega)];exact Ent.refl _) ?_;exact Zfn ef Zq (rfl)
 ·obtain⟨i,q,k1,hlk,k3,k4,k5,k6,k7,k8⟩:=rs_some (rs:=rs) (id:=x.job) (r:=r) (by rw[hrk];exact hgr);refine Zd0 (Zra 0 8) ?_;refine ZY 6 ?_;refine Zw ef (q_lookup1 (pt q) Tryz.underlying104 Tryz.underlying31 Tryz.zv112.h rfl rfl rfl (by rw[hlk];rfl)) ?_;refine Zy ?_;refine ZD ?_;refine ZY 8 ?_;refine ZY 3 ?_
  refine Zj ef (fun h1=>?_) (fun h1=>?_)
  ·have hk:x.kind=3:=by omega
   have hact:=act_load (nd:=nd) hk;rw[hgr]at hact;refine ZY 8 ?_
   refine Zbb 24 ef (fun hg4_5=>?_) (fun hg4_5=>?_)
   ·refine ZY 8 ?_;refine Zd ([blk b3 72 (niC x).toArray,blk p 107 #[.bool nd.up,.map (some rb),iv.v,ov.v,.bool (nd.wrong || (nGet x.job nd.rk).isSome)]]) [10] (Zra 0 9) ?_;refine S.blkAs p #[.bool nd.up,.map (some rb),iv.v,ov.v,.bool (nd.wrong || (nGet x.job nd.rk).isSome)] (by rw[hgr];simp[hg4_5]) ?_;refine ZY 8 ?_;refine Zw ef (q_build (pvs:=[(_,_)]) [_,_,_,_,_] Tryz.z111.h Tryz.p111.h ⟨⟨rfl,rfl⟩,trivial⟩ rfl) ?_;refine Z1 (i:=9) ef ef ?_;refine(S.box (cs:=[_,_,_,_,_]) rfl rfl rfl ?_);intro b39;refine Zk [] ?_;refine Z1 (i:=10) ef ef ?_;refine(S.mapUpdate Tryz.underlying104 Tryz.underlying31 rfl rfl rfl rfl ?_);refine ZL ([]) [] ?_;refine ZD ?_;refine Zd ([blk b3 72 (niC x).toArray,blk p 107 #[.bool nd.up,.map (some rb),iv.v,ov.v,.bool (nd.wrong || (nGet x.job nd.rk).isSome)]]) [12] (Zra 0 8) ?_;refine ZY 7 ?_;refine Zw ef (q_build (pvs:=[(_,_),(_,_)]) [_,_,_,_,_,_,_,_,_,_,_,_,_] Tryz.z72.h Tryz.p72.h ⟨⟨rfl,rfl⟩,⟨rfl,rfl⟩,trivial⟩ rfl) ?_;refine Z1 (i:=8) ef ef ?_;refine(S.buildSlice (pvs:=[(_,_)]) [_,_,_,_,_,_,_,_,_,_,_,_,_] Tryz.underlying105 Tryz.inf72.h rfl rfl ⟨⟨rfl,rfl⟩,trivial⟩ rfl rfl ?_);intro b48;refine Zk [] ?_;refine Z1 (i:=9) ef ef ?_;refine(S.appendOw (s:=ov) (1) (otC ⟨{kind:=4,job:=x.job},SV.nil,[]⟩) Tryz.underlying105 Tryz.inf72.h rfl rfl rfl (blk_slAt (b:=b48) rfl (by unfold maxLen;omega)) (by first | rfl | exact allOne_bcells _) (⟨by omega,by omega⟩) rfl ?_);intro ov2 hov2;refine Zk [10,11] ?_;refine ZY 2 ?_;refine Z1 (i:=12) ef ef ?_;refine(S.store (cs':=[_,_,_,_,_]) Eo.h rfl rfl rfl rfl rfl ?_);refine ZL ([]) [] ?_;refine ZD ?_;refine S.conv2 (own ov2 72 13 (os.flatMap otC++otC ⟨{kind:=4,job:=x.job},SV.nil,[]⟩)) (alls os otB) (Ent.otNil ov2 os {kind:=4,job:=x.job} _) ?_;rw[k5 {place:=x.rank} b39];refine S.conv2 (blk b39 111 (rkC {place:=x.rank}).toArray) (alls rs roB) (Ent.allsSet roB (x':=((x.job,{place:=x.rank},b39):Ro)) k1 _) ?_;refine S.niClose p {nd with rk:=nPut x.job {place:=x.rank} nd.rk,out:=nd.out++[otR ⟨{kind:=4,job:=x.job},SV.nil,[]⟩],wrong:=nd.wrong || (nGet x.job nd.rk).isSome} rb iv ov2 (rs.set i (x.job,{place:=x.rank},b39)) (os++[⟨{kind:=4,job:=x.job},SV.nil,[]⟩]) (hN.say ⟨{kind:=4,job:=x.job},SV.nil,[]⟩ hov2 (by rw[←k6,hrk]) _) ?_;refine S.conv (NI p {nd with rk:=nPut x.job {place:=x.rank} nd.rk,out:=nd.out++[otR ⟨{kind:=4,job:=x.job},SV.nil,[]⟩],wrong:=nd.wrong || (nGet x.job nd.rk).isSome}) (show Ent _ (NI p (actR nd x)::_) by rw[hact,hgr];exact Ent.refl _) ?_;exact Zfn ef Zq (rfl)
   ·refine ZY 8 ?_;refine Zd ([blk b3 72 (niC x).toArray,blk p 107 #[.bool nd.up,.map (some rb),iv.v,ov.v,.bool (nd.wrong || (nGet x.job nd.rk).isSome)]]) [10] (Zra 0 9) ?_;refine S.blkAs p #[.bool nd.up,.map (some rb),iv.v,ov.v,.bool (nd.wrong || (nGet x.job nd.rk).isSome)] (by rw[hgr];simp[hg4_5]) ?_;refine ZY 8 ?_;refine Zw ef (q_build (pvs:=[(_,_)]) [_,_,_,_,_] Tryz.z111.h Tryz.p111.h ⟨⟨rfl,rfl⟩,trivial⟩ rfl) ?_;refine Z1 (i:=9) ef ef ?_;refine(S.box (cs:=[_,_,_,_,_]) rfl rfl rfl ?_);intro b39;refine Zk [] ?_;refine Z1 (i:=10) ef ef ?_;refine(S.mapUpdate Tryz.underlying104 Tryz.underlying31 rfl rfl rfl rfl ?_);refine ZL ([]) [] ?_;refine ZD ?_;refine Zd ([blk b3 72 (niC x).toArray,blk p 107 #[.bool nd.up,.map (some rb),iv.v,ov.v,.bool (nd.wrong || (nGet x.job nd.rk).isSome)]]) [12] (Zra 0 8) ?_;refine ZY 7 ?_;refine Zw ef (q_build (pvs:=[(_,_),(_,_)]) [_,_,_,_,_,_,_,_,_,_,_,_,_] Tryz.z72.h Tryz.p72.h ⟨⟨rfl,rfl⟩,⟨rfl,rfl⟩,trivial⟩ rfl) ?_;refine Z1 (i:=8) ef ef ?_;refine(S.buildSlice (pvs:=[(_,_)]) [_,_,_,_,_,_,_,_,_,_,_,_,_] Tryz.underlying105 Tryz.inf72.h rfl rfl ⟨⟨rfl,rfl⟩,trivial⟩ rfl rfl ?_);intro b48;refine Zk [] ?_;refine Z1 (i:=9) ef ef ?_;refine(S.appendOw (s:=ov) (1) (otC ⟨{kind:=4,job:=x.job},SV.nil,[]⟩) Tryz.underlying105 Tryz.inf72.h rfl rfl rfl (blk_slAt (b:=b48) rfl (by unfold maxLen;omega)) (by first | rfl | exact allOne_bcells _) (⟨by omega,by omega⟩) rfl ?_);intro ov2 hov2;refine Zk [10,11] ?_;refine ZY 2 ?_;refine Z1 (i:=12) ef ef ?_;refine(S.store (cs':=[_,_,_,_,_]) Eo.h rfl rfl rfl rfl rfl ?_);refine ZL ([]) [] ?_;refine ZD ?_;refine S.conv2 (own ov2 72 13 (os.flatMap otC++otC ⟨{kind:=4,job:=x.job},SV.nil,[]⟩)) (alls os otB) (Ent.otNil ov2 os {kind:=4,job:=x.job} _) ?_;rw[k5 {place:=x.rank} b39];refine S.conv2 (blk b39 111 (rkC {place:=x.rank}).toArray) (alls rs roB) (Ent.allsSet roB (x':=((x.job,{place:=x.rank},b39):Ro)) k1 _) ?_;refine S.niClose p {nd with rk:=nPut x.job {place:=x.rank} nd.rk,out:=nd.out++[otR ⟨{kind:=4,job:=x.job},SV.nil,[]⟩],wrong:=nd.wrong || (nGet x.job nd.rk).isSome} rb iv ov2 (rs.set i (x.job,{place:=x.rank},b39)) (os++[⟨{kind:=4,job:=x.job},SV.nil,[]⟩]) (hN.say ⟨{kind:=4,job:=x.job},SV.nil,[]⟩ hov2 (by rw[←k6,hrk]) _) ?_;refine S.conv (NI p {nd with rk:=nPut x.job {place:=x.rank} nd.rk,out:=nd.out++[otR ⟨{kind:=4,job:=x.job},SV.nil,[]⟩],wrong:=nd.wrong || (nGet x.job nd.rk).isSome}) (show Ent _ (NI p (actR nd x)::_) by rw[hact,hgr];exact Ent.refl _) ?_;exact Zfn ef Zq (rfl)
  ·have hk3:x.kind≠3:=by omega
   refine ZY 5 ?_
   refine Zj ef (fun h2=>?_) (fun h2=>?_)
   ·have hact:=act_go (nd:=nd) (show x.kind=5 by omega) hgr;refine ZY 8 ?_
    refine Zbb 59 ef (fun hg8_5=>?_) (fun hg8_5=>?_)
    ·refine ZY 8 ?_;refine ZY 6 ?_;refine S.conv (alls rs roB) (Ent.roAt k1 _) ?_;refine ZY 3 ?_;refine ZT ef ?_;refine Zd ([blk b3 72 (niC x).toArray]) [] (Zra 0 8) ?_;refine ZY 8 ?_;refine Z1 (i:=8) ef ef ?_;refine(S.store (cs':=[_,_,_,_,_]) Eo.h rfl rfl rfl rfl rfl ?_);refine Zk [9,10] ?_;refine ZY 2 ?_;refine Z1 (i:=11) ef ef ?_;refine(S.store (cs':=[_,_,_,_,_]) Eo.h rfl rfl rfl rfl rfl ?_);refine Zk [12,13] ?_;refine ZY 2 ?_;refine Z1 (i:=14) ef ef ?_;refine(S.store (cs':=[_,_,_,_,_]) Eo.h rfl rfl rfl rfl rfl ?_);refine Zk [15,16] ?_;refine ZY 2 ?_;refine Z1 (i:=17) ef ef ?_;refine(S.store (cs':=[_,_,_,_,_]) Eo.h rfl rfl rfl rfl rfl ?_);refine Zk [] ?_;refine ZD ?_;refine S.blkAs p #[.bool nd.up,.map (some rb),iv.v,ov.v,.bool (nd.wrong || decide (runOf nd.rk≠0))] (by simp[hg8_5]) ?_;refine S.conv3 (roB ((x.job,{r with run:=true,gen:=x.gen,frm:=0,til:=0},q):Ro)) (alls (rs.take i) roB) (alls (rs.drop (i+1)) roB) (Ent.allsBack roB (x':=(x.job,{r with run:=true,gen:=x.gen,frm:=0,til:=0},q)) k1 _) ?_;refine S.conv (mapL rb .u32 (rs.map roE)) (show Ent _ (mapL rb .u32 ((rs.set i (x.job,{r with run:=true,gen:=x.gen,frm:=0,til:=0},q)).map roE)::_) by rw[k4];exact Ent.refl _) ?_;refine S.niClose p {nd with wrong:=nd.wrong || decide (runOf nd.rk≠0),rk:=nPut x.job {r with run:=true,gen:=x.gen,frm:=0,til:=0} nd.rk} rb iv ov (rs.set i (x.job,{r with run:=true,gen:=x.gen,frm:=0,til:=0},q)) os ⟨by rw[←k3,hrk],hN.os,hN.i,hN.o⟩ ?_;rw[←hact];exact Zfn ef Zq (rfl)
    ·refine ZY 5 ?_;refine Zg ef ef ef (Zcp Ze (runX_S (p:=p) (rb:=rb) hN ham) ?_);refine ZY 8 ?_;refine S.conv (alls rs roB) (Ent.roAt k1 _) ?_;refine ZY 3 ?_;refine ZT ef ?_;refine Zd ([blk b3 72 (niC x).toArray]) [] (Zra 0 8) ?_;refine ZY 8 ?_;refine Z1 (i:=8) ef ef ?_;refine(S.store (cs':=[_,_,_,_,_]) Eo.h rfl rfl rfl rfl rfl ?_);refine Zk [9,10] ?_;refine ZY 2 ?_;refine Z1 (i:=11) ef ef ?_;refine(S.store (cs':=[_,_,_,_,_]) Eo.h rfl rfl rfl rfl rfl ?_);refine Zk [12,13] ?_;refine ZY 2 ?_;refine Z1 (i:=14) ef ef ?_;refine(S.store (cs':=[_,_,_,_,_]) Eo.h rfl rfl rfl rfl rfl ?_);refine Zk [15,16] ?_;refine ZY 2 ?_;refine Z1 (i:=17) ef ef ?_;refine(S.store (cs':=[_,_,_,_,_]) Eo.h rfl rfl rfl rfl rfl ?_);refine Zk [] ?_;refine ZD ?_;refine S.blkAs p #[.bool nd.up,.map (some rb),iv.v,ov.v,.bool (nd.wrong || decide (runOf nd.rk≠0))] (by simp[hg8_5]) ?_;refine S.conv3 (roB ((x.job,{r with run:=true,gen:=x.gen,frm:=0,til:=0},q):Ro)) (alls (rs.take i) roB) (alls (rs.drop (i+1)) roB) (Ent.allsBack roB (x':=(x.job,{r with run:=true,gen:=x.gen,frm:=0,til:=0},q)) k1 _) ?_;refine S.conv (mapL rb .u32 (rs.map roE)) (show Ent _ (mapL rb .u32 ((rs.set i (x.job,{r with run:=true,gen:=x.gen,frm:=0,til:=0},q)).map roE)::_) by rw[k4];exact Ent.refl _) ?_;refine S.niClose p {nd with wrong:=nd.wrong || decide (runOf nd.rk≠0),rk:=nPut x.job {r with run:=true,gen:=x.gen,frm:=0,til:=0} nd.rk} rb iv ov (rs.set i (x.job,{r with run:=true,gen:=x.gen,frm:=0,til:=0},q)) os ⟨by rw[←k3,hrk],hN.os,hN.i,hN.o⟩ ?_;rw[←hact];exact Zfn ef Zq (rfl)
   ·have hk5:x.kind≠5:=by omega
    refine ZY 5 ?_
    refine Zj ef (fun h4=>?_) (fun h4=>?_)
    ·have hk:x.kind=6:=by omega
     refine ZY 4 ?_;refine Zv (q_build (pvs:=[(_,_),(_,_)]) [_,_,_,_,_,_,_,_,_,_,_,_,_] Tryz.z72.h Tryz.p72.h ⟨⟨rfl,rfl⟩,⟨rfl,rfl⟩,trivial⟩ rfl) ?_;refine Zp (S.alloc Tryz.z72.h rfl ?_);intro b5;refine Zp (Zs ef ef (cs':=[_,_,_,_,_,_,_,_,_,_,_,_,_]) ef ?_);refine ZY 5 ?_;refine Zp (Zcp Ze (runX_S (p:=p) (rb:=rb) hN ham) ?_);obtain⟨j0,hj0⟩:∃j0,j0=runOf nd.rk:=⟨_,rfl⟩;rw[←hj0];refine ZY 7 ?_
     refine Zj ef (fun h5=>?_) (fun h5=>?_)
     ·have hne:runOf nd.rk≠0:=by omega
      obtain⟨r2,hr2⟩:=runOf_get hne;have hact:=act_stop (x:=x) hk hne hr2;rw[←hj0]at hr2 hact;obtain⟨i2,q2,c1,c2,c3,c4,_⟩:=rs_some (rs:=rs) (id:=j0) (r:=r2) (by rw[hrk];exact hr2);refine ZY 7 ?_;refine Zv (q_lookup1 (pt q2) Tryz.underlying104 Tryz.underlying31 Tryz.zv112.h rfl rfl rfl (by rw[c2];rfl)) ?_;refine ZY 4 ?_;refine S.conv (alls rs roB) (Ent.roAt c1 _) ?_;refine ZY 5 ?_;refine Zd ([blk q2 111 (rkC {r2 with run:=false}).toArray]) [] (Zra 0 10) ?_;refine ZY 8 ?_;refine ZY 2 ?_;refine Z1 (i:=10) ef ef ?_;refine(S.store (cs':=[_,_,_,_,_,_,_,_,_,_,_,_,_]) Eo.h rfl rfl rfl rfl rfl ?_);refine Zk [11] ?_;refine Zy ?_;refine Z1 (i:=12) ef ef ?_;refine(S.store (cs':=[_,_,_,_,_,_,_,_,_,_,_,_,_]) Eo.h rfl rfl rfl rfl rfl ?_);refine Zk [13] ?_;refine Zy ?_;refine Z1 (i:=14) ef ef ?_;refine(S.store (cs':=[_,_,_,_,_,_,_,_,_,_,_,_,_]) Eo.h rfl rfl rfl rfl rfl ?_);refine Zk [] ?_;refine ZD ?_;refine S.conv3 (roB ((j0,{r2 with run:=false},q2):Ro)) (alls (rs.take i2) roB) (alls (rs.drop (i2+1)) roB) (Ent.allsBack roB (x':=(j0,{r2 with run:=false},q2)) c1 _) ?_;refine S.conv (mapL rb .u32 (rs.map roE)) (show Ent _ (mapL rb .u32 ((rs.set i2 (j0,{r2 with run:=false},q2)).map roE)::_) by rw[c4];exact Ent.refl _) ?_;refine S.blkAs b5 (niC {kind:=7,gen:=x.gen,job:=j0,frm:=r2.frm,til:=r2.til}).toArray rfl ?_;obtain⟨rs9,hrs9⟩:∃rs9,rs9=rs.set i2 (j0,{r2 with run:=false},q2):=⟨_,rfl⟩;obtain⟨x9,hx9⟩:∃x9:Nt,x9={kind:=7,gen:=x.gen,job:=j0,frm:=r2.frm,til:=r2.til}:=⟨_,rfl⟩;obtain⟨rk9,hrk9⟩:∃rk9,rk9=nPut j0 {r2 with run:=false} nd.rk:=⟨_,rfl⟩;have hrr:rs9.map roR=rk9:=by rw[hrs9,hrk9,←c3,hrk]
      rw[←hrk9,←hx9]at hact;rw[←hrs9,←hx9];refine Zd ([blk b5 72 (niC x9).toArray,blk p 107 #[.bool nd.up,.map (some rb),iv.v,ov.v,.bool nd.wrong]]) [10] (Zra 0 6) ?_;refine ZY 6 ?_;refine Z1 (i:=6) ef ef ?_;refine(S.buildSlice (pvs:=[(_,_)]) [_,_,_,_,_,_,_,_,_,_,_,_,_] Tryz.underlying105 Tryz.inf72.h rfl rfl ⟨⟨rfl,rfl⟩,trivial⟩ rfl rfl ?_);intro b122;refine Zk [] ?_;refine Z1 (i:=7) ef ef ?_;refine(S.appendOw (s:=ov) (1) (otC ⟨x9,SV.nil,[]⟩) Tryz.underlying105 Tryz.inf72.h rfl rfl rfl (blk_slAt (b:=b122) rfl (by unfold maxLen;omega)) (by first | rfl | exact allOne_bcells _) (⟨by omega,by omega⟩) rfl ?_);intro ov2 hov2;refine Zk [8,9] ?_;refine ZY 2 ?_;refine Z1 (i:=10) ef ef ?_;refine(S.store (cs':=[_,_,_,_,_]) Eo.h rfl rfl rfl rfl rfl ?_);refine ZL ([]) [] ?_;refine ZD ?_;refine S.conv2 (own ov2 72 13 (os.flatMap otC++otC ⟨x9,SV.nil,[]⟩)) (alls os otB) (Ent.otNil ov2 os x9 _) ?_;refine S.niClose p {nd with rk:=rk9,out:=nd.out++[otR ⟨x9,SV.nil,[]⟩],wrong:=nd.wrong} rb iv ov2 rs9 (os++[⟨x9,SV.nil,[]⟩]) (hN.say ⟨x9,SV.nil,[]⟩ hov2 hrr _) ?_;refine S.conv (NI p {nd with rk:=rk9,out:=nd.out++[otR ⟨x9,SV.nil,[]⟩],wrong:=nd.wrong}) (show Ent _ (NI p (actR nd x)::_) by rw[hact];exact Ent.refl _) ?_;exact Zfn ef Zq (rfl)
     ·refine Zy ?_;have hact:=act_stop0 (nd:=nd) hk (show ¬runOf nd.rk≠0 by omega);refine S.blkAs b5 (niC {kind:=7,gen:=x.gen}).toArray rfl ?_;obtain⟨rs9,hrs9⟩:∃rs9,rs9=rs:=⟨_,rfl⟩;obtain⟨x9,hx9⟩:∃x9:Nt,x9={kind:=7,gen:=x.gen}:=⟨_,rfl⟩;obtain⟨rk9,hrk9⟩:∃rk9,rk9=nd.rk:=⟨_,rfl⟩;have hrr:rs9.map roR=rk9:=by rw[hrs9,hrk9,hrk]
      have hact:actR nd x={nd with rk:=rk9,out:=nd.out++[(x9,[])]}:=by rw[hact,hx9,hrk9]
      rw[←hx9];refine S.conv2 (mapL rb .u32 (rs.map roE)) (alls rs roB) (show Ent _ (mapL rb .u32 (rs9.map roE)::alls rs9 roB::_) by rw[hrs9];exact Ent.refl _) ?_;refine Zd ([blk b5 72 (niC x9).toArray,blk p 107 #[.bool nd.up,.map (some rb),iv.v,ov.v,.bool nd.wrong]]) [10] (Zra 0 6) ?_;refine ZY 6 ?_;refine Z1 (i:=6) ef ef ?_;refine(S.buildSlice (pvs:=[(_,_)]) [_,_,_,_,_,_,_,_,_,_,_,_,_] Tryz.underlying105 Tryz.inf72.h rfl rfl ⟨⟨rfl,rfl⟩,trivial⟩ rfl rfl ?_);intro b122;refine Zk [] ?_;refine Z1 (i:=7) ef ef ?_;refine(S.appendOw (s:=ov) (1) (otC ⟨x9,SV.nil,[]⟩) Tryz.underlying105 Tryz.inf72.h rfl rfl rfl (blk_slAt (b:=b122) rfl (by unfold maxLen;omega)) (by first | rfl | exact allOne_bcells _) (⟨by omega,by omega⟩) rfl ?_);intro ov2 hov2;refine Zk [8,9] ?_;refine ZY 2 ?_;refine Z1 (i:=10) ef ef ?_;refine(S.store (cs':=[_,_,_,_,_]) Eo.h rfl rfl rfl rfl rfl ?_);refine ZL ([]) [] ?_;refine ZD ?_;refine S.conv2 (own ov2 72 13 (os.flatMap otC++otC ⟨x9,SV.nil,[]⟩)) (alls os otB) (Ent.otNil ov2 os x9 _) ?_;refine S.niClose p {nd with rk:=rk9,out:=nd.out++[otR ⟨x9,SV.nil,[]⟩],wrong:=nd.wrong} rb iv ov2 rs9 (os++[⟨x9,SV.nil,[]⟩]) (hN.say ⟨x9,SV.nil,[]⟩ hov2 hrr _) ?_;refine S.conv (NI p {nd with rk:=rk9,out:=nd.out++[otR ⟨x9,SV.nil,[]⟩],wrong:=nd.wrong}) (show Ent _ (NI p (actR nd x)::_) by rw[hact];exact Ent.refl _) ?_;exact Zfn ef Zq (rfl)
    ·have hk6:x.kind≠6:=by omega
     refine ZY 5 ?_
     refine Zj ef (fun h6=>?_) (fun h6=>?_)
     ·have hact:=act_save (nd:=nd) (show x.kind=8 by omega) hgr;refine S.conv (alls rs roB) (Ent.roAt k1 _) ?_;refine ZY 8 ?_
      refine Zbb 133 ef (fun hg20_5=>?_) (fun hg20_5=>?_)
      ·refine ZY 8 ?_;refine ZY 7 ?_;refine S.blkAs p #[.bool nd.up,.map (some rb),iv.v,ov.v,.bool (nd.wrong || r.run)] (by simp[hg20_5]) ?_;refine ZY 3 ?_;refine ZT ef ?_;refine Zd ([blk b3 72 (niC x).toArray,blk q 111 (rkC r).toArray,blk p 107 #[.bool nd.up,.map (some rb),iv.v,ov.v,.bool (nd.wrong || r.run)]]) [26] (Zra 0 20) ?_;refine ZY 8 ?_;refine ZY 8 ?_;refine ZY 3 ?_;refine Zw ef (q_convW Tryz.it5.h (by rw[Tryz.underlying3];rfl) rfl) ?_;refine Z1 (i:=20) ef ef ?_;refine(S.buildSlice (pvs:=[(_,_),(_,_)]) [_,_] Tryz.underlying22 Tryz.inf5.h rfl rfl ⟨⟨rfl,rfl⟩,⟨rfl,rfl⟩,trivial⟩ rfl rfl ?_);intro b167;refine Zk [21] ?_;refine Zw ef (q_build (pvs:=[(_,_),(_,_),(_,_),(_,_),(_,_)]) [_,_,_,_,_,_,_,_,_,_,_,_,_] Tryz.z72.h Tryz.p72.h ⟨⟨rfl,rfl⟩,⟨rfl,rfl⟩,⟨rfl,rfl⟩,⟨rfl,rfl⟩,⟨rfl,rfl⟩,trivial⟩ rfl) ?_;refine Z1 (i:=22) ef ef ?_;refine(S.buildSlice (pvs:=[(_,_)]) [_,_,_,_,_,_,_,_,_,_,_,_,_] Tryz.underlying105 Tryz.inf72.h rfl rfl ⟨⟨rfl,rfl⟩,trivial⟩ rfl rfl ?_);intro b169;refine Zk [] ?_;refine Z1 (i:=23) ef ef ?_;refine(S.appendOw (s:=ov) (1) (otC ⟨{kind:=9,job:=x.job,ver:=x.ver,rank:=r.place},⟨some ⟨b167,0,none⟩,2,2⟩,[(r.place:Int),((x.credit % 256:Nat):Int)]⟩) Tryz.underlying105 Tryz.inf72.h rfl rfl rfl (blk_slAt (b:=b169) rfl (by unfold maxLen;omega)) (by first | rfl | exact allOne_bcells _) (⟨by omega,by omega⟩) rfl ?_);intro ov2 hov2;refine Zk [24,25] ?_;refine ZY 2 ?_;refine Z1 (i:=26) ef ef ?_;refine(S.store (cs':=[_,_,_,_,_]) Eo.h rfl rfl rfl rfl rfl ?_);refine ZL ([]) [] ?_;refine ZD ?_;rw[wrap8];refine S.conv (blk b167 5 #[.int .u8 (r.place:Int),.int .u8 ((x.credit % 256:Nat):Int)]) (Ent.blkOwnB b167 5 1 2 [.int .u8 (r.place:Int),.int .u8 ((x.credit % 256:Nat):Int)] rfl (by unfold maxLen;omega) _) ?_;refine S.conv3 (own ov2 72 13 (os.flatMap otC++otC ⟨{kind:=9,job:=x.job,ver:=x.ver,rank:=r.place},⟨some ⟨b167,0,none⟩,2,2⟩,[(r.place:Int),((x.credit % 256:Nat):Int)]⟩)) (alls os otB) (own ⟨some ⟨b167,0,none⟩,2,2⟩ 5 1 [.int .u8 (r.place:Int),.int .u8 ((x.credit % 256:Nat):Int)]) (Ent.otApp ov2 os ⟨{kind:=9,job:=x.job,ver:=x.ver,rank:=r.place},⟨some ⟨b167,0,none⟩,2,2⟩,[(r.place:Int),((x.credit % 256:Nat):Int)]⟩ _) ?_;refine S.conv3 (roB ((x.job,r,q):Ro)) (alls (rs.take i) roB) (alls (rs.drop (i+1)) roB) (Ent.allsBack' roB k1 _) ?_;refine S.niClose p {nd with rk:=nd.rk,out:=nd.out++[otR ⟨{kind:=9,job:=x.job,ver:=x.ver,rank:=r.place},⟨some ⟨b167,0,none⟩,2,2⟩,[(r.place:Int),((x.credit % 256:Nat):Int)]⟩],wrong:=nd.wrong || r.run} rb iv ov2 rs (os++[⟨{kind:=9,job:=x.job,ver:=x.ver,rank:=r.place},⟨some ⟨b167,0,none⟩,2,2⟩,[(r.place:Int),((x.credit % 256:Nat):Int)]⟩]) (hN.say _ hov2 hrk _) ?_;refine S.conv (NI p {nd with rk:=nd.rk,out:=nd.out++[otR ⟨{kind:=9,job:=x.job,ver:=x.ver,rank:=r.place},⟨some ⟨b167,0,none⟩,2,2⟩,[(r.place:Int),((x.credit % 256:Nat):Int)]⟩],wrong:=nd.wrong || r.run}) (show Ent _ (NI p (actR nd x)::_) by rw[hact];exact Ent.refl _) ?_;exact Zfn ef Zq (rfl)
      ·refine ZY 8 ?_;refine ZY 7 ?_;refine S.blkAs p #[.bool nd.up,.map (some rb),iv.v,ov.v,.bool (nd.wrong || r.run)] (by simp[hg20_5]) ?_;refine ZY 3 ?_;refine ZT ef ?_;refine Zd ([blk b3 72 (niC x).toArray,blk q 111 (rkC r).toArray,blk p 107 #[.bool nd.up,.map (some rb),iv.v,ov.v,.bool (nd.wrong || r.run)]]) [26] (Zra 0 20) ?_;refine ZY 8 ?_;refine ZY 8 ?_;refine ZY 3 ?_;refine Zw ef (q_convW Tryz.it5.h (by rw[Tryz.underlying3];rfl) rfl) ?_;refine Z1 (i:=20) ef ef ?_;refine(S.buildSlice (pvs:=[(_,_),(_,_)]) [_,_] Tryz.underlying22 Tryz.inf5.h rfl rfl ⟨⟨rfl,rfl⟩,⟨rfl,rfl⟩,trivial⟩ rfl rfl ?_);intro b167;refine Zk [21] ?_;refine Zw ef (q_build (pvs:=[(_,_),(_,_),(_,_),(_,_),(_,_)]) [_,_,_,_,_,_,_,_,_,_,_,_,_] Tryz.z72.h Tryz.p72.h ⟨⟨rfl,rfl⟩,⟨rfl,rfl⟩,⟨rfl,rfl⟩,⟨rfl,rfl⟩,⟨rfl,rfl⟩,trivial⟩ rfl) ?_;refine Z1 (i:=22) ef ef ?_;refine(S.buildSlice (pvs:=[(_,_)]) [_,_,_,_,_,_,_,_,_,_,_,_,_] Tryz.underlying105 Tryz.inf72.h rfl rfl ⟨⟨rfl,rfl⟩,trivial⟩ rfl rfl ?_);intro b169;refine Zk [] ?_;refine Z1 (i:=23) ef ef ?_;refine(S.appendOw (s:=ov) (1) (otC ⟨{kind:=9,job:=x.job,ver:=x.ver,rank:=r.place},⟨some ⟨b167,0,none⟩,2,2⟩,[(r.place:Int),((x.credit % 256:Nat):Int)]⟩) Tryz.underlying105 Tryz.inf72.h rfl rfl rfl (blk_slAt (b:=b169) rfl (by unfold maxLen;omega)) (by first | rfl | exact allOne_bcells _) (⟨by omega,by omega⟩) rfl ?_);intro ov2 hov2;refine Zk [24,25] ?_;refine ZY 2 ?_;refine Z1 (i:=26) ef ef ?_;refine(S.store (cs':=[_,_,_,_,_]) Eo.h rfl rfl rfl rfl rfl ?_);refine ZL ([]) [] ?_;refine ZD ?_;rw[wrap8];refine S.conv (blk b167 5 #[.int .u8 (r.place:Int),.int .u8 ((x.credit % 256:Nat):Int)]) (Ent.blkOwnB b167 5 1 2 [.int .u8 (r.place:Int),.int .u8 ((x.credit % 256:Nat):Int)] rfl (by unfold maxLen;omega) _) ?_;refine S.conv3 (own ov2 72 13 (os.flatMap otC++otC ⟨{kind:=9,job:=x.job,ver:=x.ver,rank:=r.place},⟨some ⟨b167,0,none⟩,2,2⟩,[(r.place:Int),((x.credit % 256:Nat):Int)]⟩)) (alls os otB) (own ⟨some ⟨b167,0,none⟩,2,2⟩ 5 1 [.int .u8 (r.place:Int),.int .u8 ((x.credit % 256:Nat):Int)]) (Ent.otApp ov2 os ⟨{kind:=9,job:=x.job,ver:=x.ver,rank:=r.place},⟨some ⟨b167,0,none⟩,2,2⟩,[(r.place:Int),((x.credit % 256:Nat):Int)]⟩ _) ?_;refine S.conv3 (roB ((x.job,r,q):Ro)) (alls (rs.take i) roB) (alls (rs.drop (i+1)) roB) (Ent.allsBack' roB k1 _) ?_;refine S.niClose p {nd with rk:=nd.rk,out:=nd.out++[otR ⟨{kind:=9,job:=x.job,ver:=x.ver,rank:=r.place},⟨some ⟨b167,0,none⟩,2,2⟩,[(r.place:Int),((x.credit % 256:Nat):Int)]⟩],wrong:=nd.wrong || r.run} rb iv ov2 rs (os++[⟨{kind:=9,job:=x.job,ver:=x.ver,rank:=r.place},⟨some ⟨b167,0,none⟩,2,2⟩,[(r.place:Int),((x.credit % 256:Nat):Int)]⟩]) (hN.say _ hov2 hrk _) ?_;refine S.conv (NI p {nd with rk:=nd.rk,out:=nd.out++[otR ⟨{kind:=9,job:=x.job,ver:=x.ver,rank:=r.place},⟨some ⟨b167,0,none⟩,2,2⟩,[(r.place:Int),((x.credit % 256:Nat):Int)]⟩],wrong:=nd.wrong || r.run}) (show Ent _ (NI p (actR nd x)::_) by rw[hact];exact Ent.refl _) ?_;exact Zfn ef Zq (rfl)
     ·have hk8:x.kind≠8:=by omega
      refine ZY 5 ?_
      refine Zj ef (fun h8=>?_) (fun h8=>?_)
      ·have hact:=act_drop (nd:=nd) (show x.kind=10 by omega);refine Zy ?_;refine Zd ([blk b3 72 (niC x).toArray,blk p 107 #[.bool nd.up,.map (some rb),iv.v,ov.v,.bool nd.wrong]]) [6] (Zra 0 6) ?_;refine ZY 6 ?_;refine Z1 (i:=6) ef ef ?_;refine(S.mapDelete Tryz.underlying104 Tryz.underlying31 rfl rfl rfl ?_);refine ZL ([]) [] ?_;refine ZD ?_;refine Zd ([blk b3 72 (niC x).toArray,blk p 107 #[.bool nd.up,.map (some rb),iv.v,ov.v,.bool nd.wrong]]) [12] (Zra 0 8) ?_;refine ZY 7 ?_;refine Zw ef (q_build (pvs:=[(_,_),(_,_)]) [_,_,_,_,_,_,_,_,_,_,_,_,_] Tryz.z72.h Tryz.p72.h ⟨⟨rfl,rfl⟩,⟨rfl,rfl⟩,trivial⟩ rfl) ?_;refine Z1 (i:=8) ef ef ?_;refine(S.buildSlice (pvs:=[(_,_)]) [_,_,_,_,_,_,_,_,_,_,_,_,_] Tryz.underlying105 Tryz.inf72.h rfl rfl ⟨⟨rfl,rfl⟩,trivial⟩ rfl rfl ?_);intro b189;refine Zk [] ?_;refine Z1 (i:=9) ef ef ?_;refine(S.appendOw (s:=ov) (1) (otC ⟨{kind:=11,job:=x.job},SV.nil,[]⟩) Tryz.underlying105 Tryz.inf72.h rfl rfl rfl (blk_slAt (b:=b189) rfl (by unfold maxLen;omega)) (by first | rfl | exact allOne_bcells _) (⟨by omega,by omega⟩) rfl ?_);intro ov2 hov2;refine Zk [10,11] ?_;refine ZY 2 ?_;refine Z1 (i:=12) ef ef ?_;refine(S.store (cs':=[_,_,_,_,_]) Eo.h rfl rfl rfl rfl rfl ?_);refine ZL ([]) [] ?_;refine ZD ?_;refine S.conv2 (own ov2 72 13 (os.flatMap otC++otC ⟨{kind:=11,job:=x.job},SV.nil,[]⟩)) (alls os otB) (Ent.otNil ov2 os {kind:=11,job:=x.job} _) ?_;refine S.conv (alls rs roB) (show Ent _ (alls (rs.eraseIdx i) roB::_) from ((Ent.roAt k1 _).trans ((Ent.drop _ _).trans (Ent.allsAppend roB _ _ _))).trans (by rw[List.eraseIdx_eq_take_drop_succ];exact Ent.refl _)) ?_;rw[k7];refine S.niClose p {nd with rk:=nDel x.job nd.rk,out:=nd.out++[otR ⟨{kind:=11,job:=x.job},SV.nil,[]⟩],wrong:=nd.wrong} rb iv ov2 (rs.eraseIdx i) (os++[⟨{kind:=11,job:=x.job},SV.nil,[]⟩]) (hN.say ⟨{kind:=11,job:=x.job},SV.nil,[]⟩ hov2 (by rw[←hrk,k8]) _) ?_;refine S.conv (NI p {nd with rk:=nDel x.job nd.rk,out:=nd.out++[otR ⟨{kind:=11,job:=x.job},SV.nil,[]⟩],wrong:=nd.wrong}) (show Ent _ (NI p (actR nd x)::_) by rw[hact];exact Ent.refl _) ?_;exact Zfn ef Zq (rfl)
      ·refine Zy ?_;refine S.niClose p nd rb iv ov rs os hN ?_;refine S.conv (NI p nd) (show Ent _ (NI p (actR nd x)::_) by rw[act_other hk3 hk5 hk6 hk8 (by omega)];exact Ent.refl _) ?_;exact Zfn ef Zq (rfl)
def dwnUp (m:Mx):Nat→Mx
 | 0=>m
 | i+1=>(Go.Proofs.YtdackcibfkkniaaGreatDoor.upR (dwnUp m i) i false).2
theorem dwnUp_ok {m:Mx} (h:MxOk m):∀i,i≤m.N→MxOk (dwnUp m i)∧(dwnUp m i).R=m.R∧(dwnUp m i).N=m.N∧(dwnUp m i).js=m.js∧∀q,(dwnUp m i).up.getLsbD q=true→i≤q∧m.up.getLsbD q=true
 | 0,_=>⟨h,rfl,rfl,rfl,fun q hq=>⟨Nat.zero_le _,hq⟩⟩
 | i+1,hi=>by
  obtain⟨h1,h2,h3,h4,h5⟩:=dwnUp_ok h i (by omega);have hn:nodeB (dwnUp m i) (i:Int)=true:=nodeB_iff.2 ⟨by omega,by rw[h3];omega⟩;have hu:dwnUp m (i+1)=(dwnUp m i).setUp i false:=by simp[dwnUp,Go.Proofs.YtdackcibfkkniaaGreatDoor.upR,hn]
  rw[hu];refine⟨h1.setUp (by rw[h3];omega) false,h2,h3,h4,fun q hq=>?_⟩;simp only[Mx.setUp]at hq;rw[if_neg (by decide),BitVec.getLsbD_and,Bool.and_eq_true,BitVec.getLsbD_not,Bool.and_eq_true,BitVec.getLsbD_twoPow]at hq;obtain⟨q1,q2,q3⟩:=hq;obtain⟨q4,q5⟩:=h5 q q1;refine⟨?_,q5⟩;have:i≠q:=fun e=>by subst e;simp at q3;simp at q2;omega
  omega
theorem dwnUp_all {R N:Nat} (h:MxOk (mx0 R N)):dwnUp (mx0 R N) N={mx0 R N with up:=0#16}:=by
 obtain⟨h1,h2,h3,h4,h5⟩:=dwnUp_ok h N (Nat.le_refl _)
 have hup:(dwnUp (mx0 R N) N).up=0#16:=BitVec.eq_of_getLsbD_eq fun q _=>by
  cases hq:(dwnUp (mx0 R N) N).up.getLsbD q with
  | false=>simp
  | true=>
   have:=h1.up q hq;rw[h3]at this;have:=(h5 q hq).1;have:q<N:=by assumption
   omega
 cases hm:dwnUp (mx0 R N) N with
 | mk a b c d=>
  rw[hm]at h2 h3 h4 hup;simp only at h2 h3 h4 hup;rw[h2,h3,h4,hup]
theorem imgs0 (Γ:List Assn):Ent Γ (imgs SV.nil []::Γ):=by
 have h:Ent Γ (own SV.nil 60 4 (([]:List Ig).flatMap igC)::alls ([]:List Ig) igB::Γ):=(Ent.allsNil igB Γ).trans (Ent.ownNil 60 4);exact h.trans ((Ent.pack [_,_] Γ).trans (Ent.mono1 Γ fun _ s=>⟨[],rfl,s⟩))
theorem newR_ok {N R Q G hold:Nat} (h:MxOk (mx0 R N)) (q1:1≤Q) (q2:Q≤1000) (g1:1≤G) (g2:G≤1000):BrOk (newR N R Q G hold):=by
 have hd:=dwnUp_all h;have:=(dwnUp_ok h N (Nat.le_refl _)).1;rw[hd]at this;exact⟨rfl,rfl,this,List.Pairwise.nil,fun x hx=>(by cases hx),Nat.zero_le _,q1,q2,g1,g2,Nat.zero_le _,Nat.zero_le _,Nat.zero_le _,fun d hd=>(by cases hd)⟩
theorem BNew_S (N R Q G hold:Nat) (hR1:1≤R) (hR8:R≤8) (hN1:1≤N) (hN16:N≤16) (hQ1:1≤Q) (hQ2:Q≤1000) (hG1:1≤G) (hG2:G≤1000) :
  Spec Tryz.prog 11 [.agg #[.int .i64 (N:Int),.int .i64 (R:Int),.int .i64 (Q:Int),.int .i64 (G:Int)],.int .u32 (hold:Int)] [] fun Γ v Θ=>∃b ps,v=.tuple #[pt b,.int .i64 0]∧Θ=BP b (newR N R Q G hold) ps::Γ:=by
 have hm0:=mx0_ok hR1 hR8 hN1 hN16;refine Zbd Tryz.func11 rfl Tryz.ntmps11 fun w0 Γ=>Zsh ?_;refine ZY 2 ?_;refine Zp (S.box (cs:=[_,_,_,_]) rfl rfl rfl ?_);intro b2;refine ZY 8 ?_;refine Zy ?_;refine Zp (Zc1 Ze (Go.Proofs.YtdackcibfkkniaaGreatDoor.New_S R N hR1 hR8 hN1 hN16) ?_);rintro v Θ ⟨mb,rfl,rfl⟩;refine ZY 8 ?_;refine ZY 8 ?_;refine Zy ?_;refine Zu 24 false ef ((decide_eq_false (by omega))) ?_;refine ZY 5 ?_;refine Zu 29 false ef ((decide_eq_false (by omega))) ?_;refine ZY 5 ?_;refine Zu 34 false ef ((decide_eq_false (by omega))) ?_;refine ZY 5 ?_
 refine Zj ef (fun h1=>?_) (fun h1=>?_)
 ·exact absurd h1 (by omega)
 ·refine ZY 8 ?_;refine Zy ?_;refine Zl (fun q ρ' Γ'=>∃(i:Nat) (mm:Mx),q=N-i∧i≤N∧mm=dwnUp (mx0 R N) i∧ρ'=[(1,.int .u32 (hold:Int)),(2,pt b2),(6,pt mb),(40,.int .i64 (N:Int)),(41,.int .i64 (i:Int))]∧Γ'=blk b2 25 #[.int .i64 (N:Int),.int .i64 (R:Int),.int .i64 (Q:Int),.int .i64 (G:Int)]::MI mb mm::Γ) (m:=_) (⟨0,mx0 R N,rfl,by omega,rfl,rfl,rfl⟩) ?_;rintro q ρ' Γ' ⟨i,mm,hq,hi,hmm,rfl,rfl⟩;refine ZY 5 ?_
  refine Zj ef (fun h2=>?_) (fun h2=>?_)
  ·refine ZY 8 ?_;refine ZY 3 ?_;refine Zp (Zcp Ze (Go.Proofs.YtdackcibfkkniaaGreatDoor.Up_S mb mm i false) ?_);refine ZY 2 ?_;refine Zv (Za ef ef) ?_;refine ZY 2 ?_;exact ZX (q-1) (⟨i+1,(Go.Proofs.YtdackcibfkkniaaGreatDoor.upR mm i false).2,by omega,by omega,by rw[hmm];rfl,rfl,rfl⟩) (by omega)
  ·obtain rfl:i=N:=by omega
   rw[dwnUp_all hm0]at hmm;refine ZY 5 ?_;refine Zp (S.makeMap .i64 rfl ?_);intro b50;refine Zp (S.makeMap .u32 rfl ?_);intro b51;refine Zy ?_;refine Zv (q_build (pvs:=[(_,_),(_,_),(_,_),(_,_),(_,_),(_,_)]) [_,_,_,_,_,_,_,_,_,_,_,_,_,_,_,_,_,_] Tryz.z84.h Tryz.p84.h ⟨⟨rfl,rfl⟩,⟨rfl,rfl⟩,⟨rfl,rfl⟩,⟨rfl,rfl⟩,⟨rfl,rfl⟩,⟨rfl,rfl⟩,trivial⟩ rfl) ?_;refine Zp (S.box (cs:=[_,_,_,_,_,_,_,_,_,_,_,_,_,_,_,_,_,_]) rfl rfl rfl ?_);intro b54;refine ZY 4 ?_;refine S.conv (mapL b50 .i64 []) (show Ent _ (mapL b50 .i64 (setE [])::_) from Ent.refl _) ?_;refine S.ent (Ent.allsNil (jI fun _=>0) _) ?_;refine S.ent (show Ent _ (own SV.nil 97 14 (([]:List Od).flatMap odC)::_) from Ent.ownNil 97 14) ?_;refine S.ent (show Ent _ (own SV.nil 31 1 (idsV [])::_) from Ent.ownNil 31 1) ?_;refine S.ent (show Ent _ (own SV.nil 31 1 (idsV [])::_) from Ent.ownNil 31 1) ?_;refine S.ent (imgs0 _) ?_;refine S.ent (Ent.optNil _) ?_;refine S.conv (MI mb mm) (show Ent _ (MI mb (newR i R Q G hold).m::_) by rw[hmm];exact Ent.refl _) ?_;refine S.sub (blk b54 84 #[.int .i64 (i:Int),.int .i64 (R:Int),.int .i64 (Q:Int),.int .i64 (G:Int),.int .u32 (hold:Int),.int .u32 0,.map (some b50),.map (some b51),pt mb,.slice none 0 0,.slice none 0 0,.slice none 0 0,.int .u32 0,.int .i64 (-1),.slice none 0 0,.int .u32 0,.map none,.bool false]::mapL b50 .i64 (setE [])::mapL b51 .u32 []::alls [] (jI fun _=>0)::MI mb (newR i R Q G hold).m::own SV.nil 97 14 (([]:List Od).flatMap odC)::imgs SV.nil []::own SV.nil 31 1 (idsV [])::own SV.nil 31 1 (idsV [])::optS none none::Γ) ?_;refine S.ent (show Ent _ (BP b54 (newR i R Q G hold) (fun _=>0)::Γ) from Ent.bp (b:=b54) (st:=newR i R Q G hold) (ps:=fun _=>0) (ub:=b50) (jb:=b51) (mb:=mb) (ov:=SV.nil) (iv:=SV.nil) (dv:=SV.nil) (mv:=SV.nil) (sb:=none) (l:=[]) ⟨newR_ok hm0 hQ1 hQ2 hG1 hG2,List.Perm.refl _,rfl,rfl,rfl,rfl,rfl⟩ Γ) ?_;exact Zf ef Zq (⟨b54,fun _=>0,rfl,rfl⟩)
def imgK (st:Br) (i:Im):Bool:=match getJ st.js i.job with
 | none=>false
 | some x=>match x.sav with
  | none=>false
  | some s=>decide (s.ver=i.ver)
theorem imagesR_eq (st:Br):imagesR st=(st.images.filter (imgK st),{st with images:=[]}):=rfl
theorem imgK_none {st:Br} {i:Im} (h:getJ st.js i.job=none):imgK st i=false:=by rw[imgK,h]
theorem imgK_nil {st:Br} {i:Im} {x:Bj} (h:getJ st.js i.job=some x) (h2:x.sav=none):imgK st i=false:=by rw[imgK,h];dsimp only;rw[h2]
theorem imgK_some {st:Br} {i:Im} {x:Bj} {s:Sv} (h:getJ st.js i.job=some x) (h2:x.sav=some s):imgK st i=decide (s.ver=i.ver):=by rw[imgK,h];dsimp only;rw[h2]
theorem filter_snoc {α:Type} {p:α→Bool} {l:List α} {i:Nat} {x:α} (hx:l[i]?=some x) (b:Bool) (h:p x=b):(l.take (i+1)).filter p=(l.take i).filter p++if b then [x] else []:=by
 rw[List.take_add_one,hx,List.filter_append];cases b <;> simp[h]
abbrev bNI (b:Nat) (st:Br) (ps:Nat→Nat) (ub jb mb:Nat) (ov iv dv mv:SV) (sb:Option Nat) (l:List (Int×Value)) (Γ:List Assn):List Assn:=
 blk b 84 (bC st ub jb mb ov iv dv mv sb).toArray::mapL ub .i64 (setE st.up)::mapL jb .u32 l::alls st.js (jI ps)::MI mb st.m::own ov 97 14 (st.orders.flatMap odC)::own dv 31 1 (idsV st.done)::own mv 31 1 (idsV st.members)::optS sb st.stops::Γ
set_option maxHeartbeats 1000000 in
theorem Images_S (b:Nat) (st:Br) (ps:Nat→Nat) (hil:st.images.length≤900000):Spec Tryz.prog 31 [pt b] [BP b st ps] fun Γ v Θ=>∃u:SV,v=u.v∧u.n=(imagesR st).1.length∧Θ=imgs u (imagesR st).1::BP b (imagesR st).2 ps::Γ:=by
 rw[imagesR_eq];refine Spec.bpOk fun hok=>?_;refine Zbd Tryz.func31 rfl Tryz.ntmps31 fun w0 Γ=>Zsh ?_;refine S.bpOpen b st ps fun ub jb mb ov iv dv mv sb l hF=>?_;refine S.imgsOpen iv st.images fun os hos=>?_;have hol:os.length=st.images.length:=by rw[←hos,List.length_map]
 have hin:iv.n=os.length:=by rw[hol];exact hF.im
 refine S.ownLen iv fun hl1 hl2 hl3=>?_;have hmx:maxLen≤9223372036854775807:=by unfold maxLen;omega
 refine ZY 8 ?_;refine ZY 2 ?_;refine ZF ef ?_;refine ZY 8 ?_;refine S.ent (show Ent _ (own SV.nil 60 4 (([]:List Ig).flatMap igC)::_) from Ent.ownNil 60 4) ?_;refine S.ent (Ent.allsNil igB _) ?_;refine ZY 8 ?_;refine Zl (fun fz ρ' Γ'=>∃(e:Nat) (rs us:List Ig) (u:SV),fz=os.length-e∧e≤os.length∧rs=os.drop e∧us.map (·.2)=(st.images.take e).filter (imgK st)∧us.length≤e∧u.n=us.length∧ρ'=[(0,pt b),(3,u.v),(12,iv.v),(13,.int .i64 (iv.n:Int)),(14,.int .i64 (e:Int))]∧Γ'=own iv 60 4 (os.flatMap igC)::alls rs igB::own u 60 4 (us.flatMap igC)::alls us igB::bNI b st ps ub jb mb ov iv dv mv sb l Γ) (m:=_) (⟨0,os,[],SV.nil,rfl,by omega,rfl,rfl,by simp,rfl,rfl,rfl⟩) ?_;rintro fz ρ' Γ' ⟨e,rs,us,u,hq,he,hrs,hus,hul,hun,rfl,rfl⟩;refine ZY 5 ?_
 refine Zj ef (fun h2=>?_) (fun h2=>?_)
 ·refine S.ownSome iv (by omega) fun ib io hia _ _ _=>?_;obtain⟨o,ho⟩:=getE (show e<os.length by omega)
  have hod:os.drop e=o::os.drop (e+1):=by
   have hkl:=List.getElem?_eq_some_iff.1 ho;rw[List.drop_eq_getElem_cons hkl.1,hkl.2]
  have hoi:st.images[e]?=some o.2:=by rw[←hos,List.getElem?_map,ho];rfl
  rw[hod]at hrs;subst hrs;refine S.conv (alls (o::os.drop (e+1)) igB) (Ent.allsUncons igB o (os.drop (e+1)) _) ?_;refine ZY 5 ?_;refine Zv (Zx (e) ef (hia) ef (by omega)) ?_;refine Zv (q_loadOwS (iv) (e*4) [_,_,_,_] Eo.h rfl hia (by first | rfl | exact Nat.add_assoc _ _ _ | omega) rfl (flat_seg (enc:=igC) (sz:=4) (fun _=>rfl) ho)) ?_;refine Zp (S.alloc Tryz.z60.h rfl ?_);intro b5;refine Zp (Zs ef ef (cs':=[_,_,_,_]) ef ?_);refine ZY 2 ?_
  rcases hgj:getJ st.js o.2.job with _ | x
  ·have hlk:alGet (o.2.job:Int) l=none:=by rw[jE_get hok.srt hF.perm,hgj];rfl
   have hus2:us.map (·.2)=(st.images.take (e+1)).filter (imgK st):=by rw[filter_snoc hoi false (imgK_none hgj),hus];simp
   refine Zd0 (Zra 0 8) ?_;refine ZY 6 ?_;refine Zw ef (q_lookup1 (.pointer none) Tryz.underlying82 Tryz.underlying31 Tryz.zv86.h rfl rfl rfl (by rw[hlk];rfl)) ?_;refine Zy ?_;refine ZD ?_;refine Zy ?_;refine Zd ([blk b5 60 (igC o).toArray]) [] [0,1,2] ?_;refine ZY 3 ?_;refine Zr (Zra 3 19) ?_;refine ZY 8 ?_;refine ZY 8 ?_;refine ZY 3 ?_;refine ZD ?_;refine ZY 3 ?_;refine Zv (Za ef ef) ?_;refine ZY 2 ?_;first | exact ZX (fz-1) ⟨e+1,os.drop (e+1),us++[o],u2,by omega,by omega,rfl,hus2,by rw[List.length_append,List.length_singleton];omega,by rw[List.length_append,List.length_singleton];omega,rfl,rfl⟩ (by omega) | exact ZX (fz-1) ⟨e+1,os.drop (e+1),us,u,by omega,by omega,rfl,hus2,by omega,hun,rfl,rfl⟩ (by omega)
  ·obtain⟨hxm,hxi⟩:=getJ_some hgj;have hlk:alGet (o.2.job:Int) l=some (pt (ps x.id)):=by rw[jE_get hok.srt hF.perm,hgj];rfl
   obtain⟨i,hi,_,_⟩:=getJ_at hok.srt hgj;refine Zd0 (Zra 0 8) ?_;refine ZY 6 ?_;refine Zw ef (q_lookup1 (pt (ps x.id)) Tryz.underlying82 Tryz.underlying31 Tryz.zv86.h rfl rfl rfl (by rw[hlk];rfl)) ?_;refine Zy ?_;refine ZD ?_;refine Zy ?_;refine S.conv (alls st.js (jI ps)) (Ent.allsAt (jI ps) hi _) ?_;refine S.jiOpen (ps x.id) x fun av lb db rb qb ha hlb hdb hrb hqb=>?_
   rcases hs:x.sav with _ | s
   ·have hk:=imgK_nil hgj hs;have hus2:us.map (·.2)=(st.images.take (e+1)).filter (imgK st):=by rw[filter_snoc hoi false hk,hus];simp
    obtain rfl:qb=none:=by rw[hs]at hqb;cases qb with | none=>rfl | some q=>cases hqb
    refine Zd ([blk b5 60 (igC o).toArray,blk (ps x.id) 90 (bjC x av lb db rb none).toArray]) [] [0,1,2] ?_;refine ZY 3 ?_;refine Zr (Zra 3 7) ?_;refine ZY 7 ?_;refine Zr (Zra 10 12) ?_;refine ZY 8 ?_;refine ZY 4 ?_;refine ZD ?_;refine ZY 3 ?_;refine S.conv (savB none x.id none) (show Ent _ (savB none x.id x.sav::_) by rw[hs];exact Ent.refl _) ?_;refine S.jiClose (ps x.id) x av lb db rb none ha hlb hdb hrb (by rw[hs];rfl) ?_;refine S.conv3 (JI (ps x.id) x) (alls (st.js.take i) (jI ps)) (alls (st.js.drop (i+1)) (jI ps)) (Ent.allsBack' (jI ps) hi _) ?_;refine Zv (Za ef ef) ?_;refine ZY 2 ?_;first | exact ZX (fz-1) ⟨e+1,os.drop (e+1),us++[o],u2,by omega,by omega,rfl,hus2,by rw[List.length_append,List.length_singleton];omega,by rw[List.length_append,List.length_singleton];omega,rfl,rfl⟩ (by omega) | exact ZX (fz-1) ⟨e+1,os.drop (e+1),us,u,by omega,by omega,rfl,hus2,by omega,hun,rfl,rfl⟩ (by omega)
   ·have hk:=imgK_some hgj hs;obtain⟨q,rfl⟩:∃q,qb=some q:=by rw[hs]at hqb;cases qb with | none=>cases hqb | some q=>exact⟨q,rfl⟩
    refine S.savOpen q x.id s fun hb sv=>?_;refine Zd ([blk b5 60 (igC o).toArray,blk (ps x.id) 90 (bjC x av lb db rb (some q)).toArray,blk q 131 #[.int .u32 (x.id:Int),.int .u32 (s.ver:Int),.int .i64 (s.credit:Int),sv.v,.map (some hb),.bool s.told]]) [] [0,1,2] ?_;refine ZY 3 ?_;refine Zr (Zra 3 7) ?_;refine ZY 7 ?_;refine Zr (Zra 10 12) ?_;refine ZY 8 ?_;refine ZY 4 ?_;refine ZD ?_
    refine Zj ef (fun h3=>?_) (fun h3=>?_)
    ·have hus2:(us++[o]).map (·.2)=(st.images.take (e+1)).filter (imgK st):=by rw[filter_snoc hoi true (by rw[hk];exact decide_eq_true (by omega)),List.map_append,hus];rfl
     refine ZY 3 ?_;refine Zp (S.buildSlice (pvs:=[(_,_)]) [_,_,_,_] Tryz.underlying51 Tryz.inf60.h rfl rfl ⟨⟨rfl,rfl⟩,trivial⟩ rfl rfl ?_);intro b49;refine Zp (S.appendOw (s:=u) (1) (igC o) Tryz.underlying51 Tryz.inf60.h rfl rfl rfl (blk_slAt (b:=b49) rfl (by unfold maxLen;omega)) (by first | rfl | exact allOne_bcells _) (⟨by omega,by omega⟩) rfl ?_);intro u2 hu2;rw[flat_snoc igC us o];refine S.conv2 (igB o) (alls us igB) (Ent.allsSnoc igB us o _) ?_;refine ZY 3 ?_;refine S.savShut q hb sv x.id s ?_;refine S.conv (savB (some q) x.id (some s)) (show Ent _ (savB (some q) x.id x.sav::_) by rw[hs];exact Ent.refl _) ?_;refine S.jiClose (ps x.id) x av lb db rb (some q) ha hlb hdb hrb (by rw[hs];rfl) ?_;refine S.conv3 (JI (ps x.id) x) (alls (st.js.take i) (jI ps)) (alls (st.js.drop (i+1)) (jI ps)) (Ent.allsBack' (jI ps) hi _) ?_;refine Zv (Za ef ef) ?_;refine ZY 2 ?_;first | exact ZX (fz-1) ⟨e+1,os.drop (e+1),us++[o],u2,by omega,by omega,rfl,hus2,by rw[List.length_append,List.length_singleton];omega,by rw[List.length_append,List.length_singleton];omega,rfl,rfl⟩ (by omega) | exact ZX (fz-1) ⟨e+1,os.drop (e+1),us,u,by omega,by omega,rfl,hus2,by omega,hun,rfl,rfl⟩ (by omega)
    ·have hus2:us.map (·.2)=(st.images.take (e+1)).filter (imgK st):=by rw[filter_snoc hoi false (by rw[hk];exact decide_eq_false (by omega)),hus];simp
     refine ZY 2 ?_;refine S.savShut q hb sv x.id s ?_;refine S.conv (savB (some q) x.id (some s)) (show Ent _ (savB (some q) x.id x.sav::_) by rw[hs];exact Ent.refl _) ?_;refine S.jiClose (ps x.id) x av lb db rb (some q) ha hlb hdb hrb (by rw[hs];rfl) ?_;refine S.conv3 (JI (ps x.id) x) (alls (st.js.take i) (jI ps)) (alls (st.js.drop (i+1)) (jI ps)) (Ent.allsBack' (jI ps) hi _) ?_;refine Zv (Za ef ef) ?_;refine ZY 2 ?_;first | exact ZX (fz-1) ⟨e+1,os.drop (e+1),us++[o],u2,by omega,by omega,rfl,hus2,by rw[List.length_append,List.length_singleton];omega,by rw[List.length_append,List.length_singleton];omega,rfl,rfl⟩ (by omega) | exact ZX (fz-1) ⟨e+1,os.drop (e+1),us,u,by omega,by omega,rfl,hus2,by omega,hun,rfl,rfl⟩ (by omega)
 ·have hen:e=os.length:=by omega
  rw[show st.images.take e=st.images by rw[hen,hol,List.take_length]]at hus;refine ZY 8 ?_;refine ZY 6 ?_;refine S.conv2 (own u 60 4 (us.flatMap igC)) (alls us igB) (Ent.toImgs u us _) ?_;refine S.ent (imgs0 _) ?_;refine S.sub (bX b {st with images:=[]} ps ub jb mb ov SV.nil dv mv sb l (imgs u (us.map (fun x:Ig=>x.2))::Γ)) ?_;refine S.bpClose b {st with images:=[]} ps ub jb mb ov SV.nil dv mv sb l ⟨hok.iset [],hF.perm,hF.on,rfl,hF.dn,hF.mn,hF.sn⟩ ?_;exact Zf ef Zq (⟨u,rfl,by rw[←hus,List.length_map];exact hun,by rw[←hus]⟩)
theorem hearR_bad {st:Br} {n:Int} {t:Nt} {blob:List Int} (h:nodeR st n true≠0):hearR st n t blob=(nodeR st n true,st):=by rw[hearR,if_pos h]
theorem hearR_stop {st:Br} {n:Nat} {t:Nt} {blob:List Int} (h:¬nodeR st n true≠0) (h7:t.kind=7):hearR st n t blob=(0,heardR st n t):=by rw[hearR,if_neg h,if_pos h7];rfl
theorem hearR_none {st:Br} {n:Nat} {t:Nt} {blob:List Int} (h:¬nodeR st n true≠0) (h7:t.kind≠7) (hg:getJ st.js t.job=none):hearR st n t blob=(0,st):=by rw[hearR,if_neg h,if_neg h7,hg]
theorem hearR_away {st:Br} {n:Nat} {t:Nt} {blob:List Int} (h:¬nodeR st n true≠0) (h7:t.kind≠7) {x:Bj} (hg:getJ st.js t.job=some x) (hn:n∉x.at_):hearR st n t blob=(0,st):=by
 rw[hearR,if_neg h,if_neg h7,hg];exact if_neg hn
theorem hearR_at {st:Br} {n:Nat} {t:Nt} {blob:List Int} (h:¬nodeR st n true≠0) (h7:t.kind≠7) {x:Bj} (hg:getJ st.js t.job=some x) (hn:n∈x.at_):hearR st n t blob=(0,hearJ st x n t blob):=by
 rw[hearR,if_neg h,if_neg h7,hg];exact if_pos hn
abbrev lodX (x:Bj) (d:List Nat) (n:Nat):Bj:={x with loaded:=some (sAdd d n),state:=if (sAdd d n).length=x.at_.length then 2 else 1}
theorem JOk.lodX {N:Nat} {x:Bj} (h:JOk N x) {d:List Nat} {n:Nat} (hd:(sAdd d n).Nodup):JOk N (lodX x d n):=⟨h.id1,h.id2,h.tier,h.k1,h.kn,h.w,h.cr,h.wk,h.rise,h.at_,h.drop,fun e he=>(by cases he;exact hd),h.ran,fun _=>rfl,h.svl⟩
theorem sAdd_nodup {s:List Nat} (h:s.Nodup) (x:Nat):(sAdd s x).Nodup:=by
 unfold sAdd
 split
 ·exact h
 ·rename_i hx;rw[List.nodup_append];exact⟨h,by simp,fun a ha b hb e=>hx (by rw[List.mem_singleton]at hb;rw[←hb,←e];exact ha)⟩
section
variable {st:Br} {x:Bj} {n:Nat} {t:Nt} {blob:List Int}
theorem hearJ_ld {d:List Nat} (h4:t.kind=4) (hs:x.state=1) (hd:x.loaded=some d):hearJ st x n t blob=st.set (lodX x d n):=by
 unfold hearJ;rw[if_pos h4,if_pos hs,hd];rfl
theorem hearJ_ld0 (h4:t.kind=4) (hs:x.state≠1):hearJ st x n t blob=st:=by
 unfold hearJ;rw[if_pos h4,if_neg hs]
theorem hearJ_sv (h9:t.kind=9):hearJ st x n t blob=savedR st x n t blob:=by
 unfold hearJ;rw[if_neg (by omega),if_pos h9]
theorem hearJ_dr {d:List Nat} (h:t.kind=11) (hd:x.drops=some d):hearJ st x n t blob=goneR st (delX x d n):=by
 unfold hearJ;rw[if_neg (by omega),if_neg (by omega),if_pos h,hd]
theorem hearJ_dr0 (h:t.kind=11) (hd:x.drops=none):hearJ st x n t blob=st:=by
 unfold hearJ;rw[if_neg (by omega),if_neg (by omega),if_pos h,hd]
theorem hearJ_no (h4:t.kind≠4) (h9:t.kind≠9) (h:t.kind≠11):hearJ st x n t blob=st:=by
 unfold hearJ;rw[if_neg h4,if_neg h9,if_neg h]
end
set_option maxHeartbeats 1000000 in
theorem Hear_S (b:Nat) (st:Br) (ps:Nat→Nat) (n:Int) (t:Nt) (R:Assn) (bv:SV) (blob:List Int) (hbn:bv.n=blob.length) (hbl:blob.length≤1000000) (hR:RdS R bv bv.n 1 (bcells blob)) (hz:t.frm≤4294967295∧t.til≤4294967295) (hr8:t.rank≤255) (hl:st.orders.length≤880000) (hil:st.images.length≤900000) :
  Spec Tryz.prog 30 [pt b,.int .i64 n,.agg (ntC t bv).toArray] [BP b st ps,R] fun Γ v Θ=>v=.int .i64 (hearR st n t blob).1∧Θ=BP b (hearR st n t blob).2 ps::R::Γ:=by
 refine Spec.bpOk fun hok=>?_;refine Zbd Tryz.func30 rfl Tryz.ntmps30 fun w0 Γ=>Zsh ?_;refine ZY 2 ?_;refine Zp (S.box (cs:=[_,_,_,_,_,_,_,_,_,_,_,_,_]) rfl rfl rfl ?_);intro b5;refine ZY 7 ?_;refine Zp (Zcp Ze (node_S b st ps n true) ?_);refine ZY 7 ?_
 refine Zj ef (fun h1=>?_) (fun h1=>?_)
 ·have hu:=hearR_bad (t:=t) (blob:=blob) h1;refine ZY 6 ?_;exact Zf ef Zq (⟨by rw[hu];rfl,by rw[hu]⟩)
 ·have hr:=node_in (Classical.byContradiction h1);obtain⟨k,rfl⟩:∃k:Nat,n=k:=⟨n.toNat,by omega⟩;refine ZY 8 ?_
  refine Zj ef (fun h2=>?_) (fun h2=>?_)
  ·have hu:=hearR_stop (t:=t) (blob:=blob) h1 (by omega);refine ZY 5 ?_;refine Zp (Zc1 Ze (heard_S b st ps k t bv hz hl) ?_);rintro v Θ rfl;refine ZY 6 ?_;exact Zf ef Zq (⟨by rw[hu];rfl,by rw[hu]⟩)
  ·have h7:t.kind≠7:=fun e=>h2 (by rw[e];rfl);refine ZY 2 ?_
   rcases hgj:getJ st.js t.job with _ | x
   ·have hu:=hearR_none (blob:=blob) h1 h7 hgj;refine S.bpOpen b st ps fun ub jb mb ov iv dv mv sb l hF=>?_;have hlk:alGet (t.job:Int) l=none:=by rw[jE_get hok.srt hF.perm,hgj];rfl
    refine Zd0 (Zra 0 8) ?_;refine ZY 6 ?_;refine Zw ef (q_lookup1 (.pointer none) Tryz.underlying82 Tryz.underlying31 Tryz.zv86.h rfl rfl rfl (by rw[hlk];rfl)) ?_;refine Zy ?_;refine ZD ?_;refine ZY 8 ?_;refine ZY 8 ?_;refine ZY 5 ?_;refine S.bpClose b st ps ub jb mb ov iv dv mv sb l hF ?_;exact Zf ef Zq (⟨by rw[hu];rfl,by rw[hu]⟩)
   ·obtain⟨_,hxi⟩:=getJ_some hgj;have hx:getJ st.js x.id=some x:=by rw[hxi];exact hgj
    have hjx:=hok.at_ hx;have hN:=hok.N16;have hal:=hjx.len;refine S.bjOpen b st ps x hx fun ub jb mb ov iv dv mv sb l i av lb db rb qb hF hi hset hrm hJ=>?_;have hlk:alGet (t.job:Int) l=some (pt (ps x.id)):=by rw[jE_get hok.srt hF.perm,hgj];rfl
    refine Zd0 (Zra 0 8) ?_;refine ZY 6 ?_;refine Zw ef (q_lookup1 (pt (ps x.id)) Tryz.underlying82 Tryz.underlying31 Tryz.zv86.h rfl rfl rfl (by rw[hlk];rfl)) ?_;refine Zy ?_;refine ZD ?_;refine ZY 8 ?_;refine ZY 3 ?_;refine Zg ef ef ef (Zcp Ze (Contains_S (own av 3 1 (nds x.at_)) av x.at_ k hJ.an RdS.own) ?_);refine ZY 3 ?_
    refine Zi ef (fun h3=>?_) (fun h3=>?_)
    ·have hu:=hearR_away (blob:=blob) h1 h7 hgj (show k∉x.at_ by simpa using h3);refine ZY 5 ?_;refine S.bjClose b st ps ub jb mb ov iv dv mv sb l i x av lb db rb qb hi rfl (hset x rfl) (hF.set hjx) hJ ?_;rw[set_self hok hx];exact Zf ef Zq (⟨by rw[hu];rfl,by rw[hu]⟩)
    ·have hin:k∈x.at_:=by simpa using h3
     have hu:=hearR_at (blob:=blob) h1 h7 hgj hin;refine ZY 8 ?_;refine ZY 5 ?_
     refine Zj ef (fun h4=>?_) (fun h4=>?_)
     ·have h4n:t.kind=4:=by omega
      refine ZY 8 ?_;refine Zy ?_
      refine Zj ef (fun h5=>?_) (fun h5=>?_)
      ·have h1s:x.state=1:=by omega
       obtain⟨d,hd⟩:∃d,x.loaded=some d:=Option.isSome_iff_exists.1 (hjx.ld h1s);obtain⟨q,rfl⟩:∃q,lb=some q:=by have:=hJ.l;rw[hd]at this;cases lb with | none=>cases this | some q=>exact⟨q,rfl⟩
       refine S.conv (optS (some q) x.loaded) (Ent.opt1 hd _) ?_;have hc:=hearJ_ld (st:=st) (n:=k) (blob:=blob) h4n h1s hd;have hdn:=hjx.lod d hd;obtain⟨x1,hx1⟩:∃x1:Bj,x1=lodX x d k:=⟨_,rfl⟩;have hj1:JOk st.nodes x1:=by rw[hx1];exact hjx.lodX (sAdd_nodup hdn k)
       have hid:x1.id=x.id:=by rw[hx1]
       refine ZY 7 ?_;refine Zp (Zc1 Ze (add_S q d k) ?_);rintro v Θ rfl;refine ZY 2 ?_;refine Zd0 (Zra 0 11) ?_;refine ZY 8 ?_;refine ZY 3 ?_;refine ZD ?_
       refine Zj ef (fun h6=>?_) (fun h6=>?_)
       ·refine ZY 7 ?_;have hlen:(sAdd d k).length=x.at_.length:=by have:=setE_len (sAdd d k);have:=hJ.an;omega
        refine S.blkAs (ps x.id) (bjC x1 av (some q) db rb qb).toArray (by rw[hx1];simp only[lodX,if_pos hlen];rfl) ?_;refine S.conv (mapL q .i64 (setE (sAdd d k))) (Ent.opt2 (show x1.loaded=some (sAdd d k) by rw[hx1]) _) ?_;refine S.sub (jX (ps x.id) x1 av (some q) db rb qb (bR b st ps ub jb mb ov iv dv mv sb l i (R::Γ))) (e:=by subst hx1;infer_instance) ?_;refine S.bjClose b st ps ub jb mb ov iv dv mv sb l i x1 av (some q) db rb qb hi hid (hset x1 hid) (hF.set hj1) ⟨by rw[hx1];exact hJ.an,by rw[hx1];rfl,by rw[hx1];exact hJ.d,by rw[hx1];exact hJ.r,by rw[hx1];exact hJ.s⟩ ?_;rw[hx1,←hc];refine ZY 5 ?_;exact Zf ef Zq (⟨by rw[hu];rfl,by rw[hu]⟩)
       ·refine Zy ?_;have hlen:¬(sAdd d k).length=x.at_.length:=by have:=setE_len (sAdd d k);have:=hJ.an;omega
        refine S.blkAs (ps x.id) (bjC x1 av (some q) db rb qb).toArray (by rw[hx1];simp only[if_neg hlen,bjC];rw[h1s]) ?_;refine S.conv (mapL q .i64 (setE (sAdd d k))) (Ent.opt2 (show x1.loaded=some (sAdd d k) by rw[hx1]) _) ?_;refine S.sub (jX (ps x.id) x1 av (some q) db rb qb (bR b st ps ub jb mb ov iv dv mv sb l i (R::Γ))) (e:=by subst hx1;infer_instance) ?_;refine S.bjClose b st ps ub jb mb ov iv dv mv sb l i x1 av (some q) db rb qb hi hid (hset x1 hid) (hF.set hj1) ⟨by rw[hx1];exact hJ.an,by rw[hx1];rfl,by rw[hx1];exact hJ.d,by rw[hx1];exact hJ.r,by rw[hx1];exact hJ.s⟩ ?_;rw[hx1,←hc];refine ZY 5 ?_;exact Zf ef Zq (⟨by rw[hu];rfl,by rw[hu]⟩)
      ·refine Zy ?_;have hc:=hearJ_ld0 (st:=st) (n:=k) (blob:=blob) h4n (show x.state≠1 by omega);refine S.bjClose b st ps ub jb mb ov iv dv mv sb l i x av lb db rb qb hi rfl (hset x rfl) (hF.set hjx) hJ ?_;rw[set_self hok hx];refine S.conv (BP b st ps) (show Ent _ (BP b (hearJ st x k t blob) ps::_) by rw[hc];exact Ent.refl _) ?_;refine ZY 5 ?_;exact Zf ef Zq (⟨by rw[hu];rfl,by rw[hu]⟩)
     ·have h4n:t.kind≠4:=by omega
      refine ZY 5 ?_
      refine Zj ef (fun h7=>?_) (fun h7=>?_)
      ·have hc:=hearJ_sv (st:=st) (x:=x) (n:=k) (blob:=blob) (show t.kind=9 by omega);refine S.bjClose b st ps ub jb mb ov iv dv mv sb l i x av lb db rb qb hi rfl (hset x rfl) (hF.set hjx) hJ ?_;rw[set_self hok hx];refine ZY 5 ?_;refine Zp (Zc1 Ze (saved_S b st ps x k t R bv blob hx hin hbn hbl hR hil hr8) ?_);rintro v Θ rfl;refine Zy ?_;rw[←hc];refine ZY 5 ?_;exact Zf ef Zq (⟨by rw[hu];rfl,by rw[hu]⟩)
      ·refine ZY 5 ?_
       refine Zj ef (fun h8=>?_) (fun h8=>?_)
       ·have h11:t.kind=11:=by omega
        refine ZY 6 ?_;refine Zv (q_neMN Tryz.underlying81 rfl rfl) ?_;refine Zy ?_
        refine Zi ef (fun h9=>?_) (fun h9=>?_)
        ·obtain⟨q,rfl⟩:∃q,db=some q:=by cases db with | none=>cases h9 | some q=>exact⟨q,rfl⟩
         obtain⟨d,hd⟩:∃d,x.drops=some d:=by have:=hJ.d;cases e9:x.drops with | none=>rw[e9]at this;cases this | some d=>exact⟨d,rfl⟩
         have hc:=hearJ_dr (st:=st) (n:=k) (blob:=blob) h11 hd;have hdn:=hjx.drop d hd;refine S.conv (optS (some q) x.drops) (Ent.opt1 hd _) ?_;obtain⟨x1,hx1⟩:∃x1:Bj,x1=delX x d k:=⟨_,rfl⟩;have hj1:JOk st.nodes x1:=by rw[hx1];exact hjx.delX hdn k
         have hid:x1.id=x.id:=by rw[hx1]
         refine ZY 7 ?_;refine Zp (S.mapDelete Tryz.underlying81 Tryz.underlying3 rfl rfl rfl ?_);rw[setE_del k hdn];refine ZY 4 ?_;refine S.conv (mapL q .i64 (setE (sDel d k))) (Ent.opt2 (show x1.drops=some (sDel d k) by rw[hx1]) _) ?_;refine S.blkAs (ps x.id) (bjC x1 av lb (some q) rb qb).toArray (by rw[hx1]) ?_;refine S.sub (blk b5 72 (ntC t bv).toArray::jX (ps x.id) x1 av lb (some q) rb qb (bR b st ps ub jb mb ov iv dv mv sb l i (R::Γ))) (e:=by subst hx1;infer_instance) ?_;refine S.bjClose b st ps ub jb mb ov iv dv mv sb l i x1 av lb (some q) rb qb hi hid (hset x1 hid) (hF.set hj1) ⟨by rw[hx1];exact hJ.an,by rw[hx1];exact hJ.l,by rw[hx1];rfl,by rw[hx1];exact hJ.r,by rw[hx1];exact hJ.s⟩ ?_;refine Zp (Zc1 Ze ((hid ▸ gone_S b (st.set x1) ps x1 (get_set st (by rw[hid];exact hx)):Spec Tryz.prog 53 [pt b,pt (ps x.id)] [BP b (st.set x1) ps] fun Γ _ Θ=>Θ=BP b (goneR (st.set x1) x1) ps::Γ)) ?_);rintro v Θ rfl;rw[gone_set st (x:=x1) (y:=x1) rfl];refine Zy ?_;rw[hx1,←hc];refine ZY 5 ?_;exact Zf ef Zq (⟨by rw[hu];rfl,by rw[hu]⟩)
        ·refine Zy ?_;have hd:x.drops=none:=by have:=hJ.d;cases e9:x.drops with | none=>rfl | some d=>rw[e9]at this;rw[this]at h9;cases h9
         have hc:=hearJ_dr0 (st:=st) (n:=k) (blob:=blob) h11 hd;refine S.bjClose b st ps ub jb mb ov iv dv mv sb l i x av lb db rb qb hi rfl (hset x rfl) (hF.set hjx) hJ ?_;rw[set_self hok hx];refine S.conv (BP b st ps) (show Ent _ (BP b (hearJ st x k t blob) ps::_) by rw[hc];exact Ent.refl _) ?_;refine ZY 5 ?_;exact Zf ef Zq (⟨by rw[hu];rfl,by rw[hu]⟩)
       ·refine Zy ?_;have hc:=hearJ_no (st:=st) (x:=x) (n:=k) (blob:=blob) h4n (show t.kind≠9 by omega) (show t.kind≠11 by omega);refine S.bjClose b st ps ub jb mb ov iv dv mv sb l i x av lb db rb qb hi rfl (hset x rfl) (hF.set hjx) hJ ?_;rw[set_self hok hx];refine S.conv (BP b st ps) (show Ent _ (BP b (hearJ st x k t blob) ps::_) by rw[hc];exact Ent.refl _) ?_;refine ZY 5 ?_;exact Zf ef Zq (⟨by rw[hu];rfl,by rw[hu]⟩)
section
variable {n:Nat} {md:Bool} {w0:WM md} {ρ:Env} {Γ Δ:List Assn} {φ:Act→World→Prop}
theorem S.lstOpen (v:SV) (k:Nat) [q:Pick (lstM v k) Γ Δ] (f:∀l:List Nat,l.length≤k→v.n=l.length→S n w0 ρ (own v 31 1 (idsV l)::Δ) φ):S n w0 ρ Γ φ:=by
 intro a w ha hs hx;obtain⟨h0,l0,h1,h2,d,l1,l2,⟨l,q1,q2,q3⟩,s⟩:=hs.ent q.ent;exact f l q1 q2 a w ha ⟨h0,l0,h1,h2,d,l1,l2,q3,s⟩ hx
theorem Ent.lst (v:SV) {l:List Nat} {k:Nat} (h:l.length≤k) (hv:v.n=l.length) (Γ:List Assn):Ent (own v 31 1 (idsV l)::Γ) (lstM v k::Γ):=Ent.mono1 Γ fun _ s=>⟨l,h,hv,s⟩
theorem Ent.lstLe (v:SV) {k k':Nat} (h:k≤k') (Γ:List Assn):Ent (lstM v k::Γ) (lstM v k'::Γ):=Ent.mono1 Γ fun _ ⟨l,a,b,c⟩=>⟨l,Nat.le_trans a h,b,c⟩
theorem S.warOpen (b:Nat) [q:Pick (warM b) Γ Δ] (f:∀l:List (Int×Value),S n w0 ρ (mapL b .u32 l::Δ) φ):S n w0 ρ Γ φ:=by
 intro a w ha hs hx;obtain⟨h0,l0,h1,h2,d,l1,l2,⟨l,q1⟩,s⟩:=hs.ent q.ent;exact f l a w ha ⟨h0,l0,h1,h2,d,l1,l2,q1,s⟩ hx
theorem Ent.war (b:Nat) (l:List (Int×Value)) (Γ:List Assn):Ent (mapL b .u32 l::Γ) (warM b::Γ):=Ent.mono1 Γ fun _ s=>⟨l,s⟩
end
theorem setT_get (l:List Nat) (x:Nat):alGet (x:Int) (setT l)=if x∈l then some (.bool true) else none:=by
 induction l with
 | nil=>rfl
 | cons y l ih=>
  simp only[List.map_cons,alGet]
  by_cases h:x=y
  ·rw[if_pos (by omega),if_pos (by rw[h];exact List.mem_cons_self ..)]
  ·rw[if_neg (by omega)];refine ih.trans ?_
   by_cases h2:x∈l
   ·rw[if_pos h2,if_pos (List.mem_cons_of_mem _ h2)]
   ·rw[if_neg h2,if_neg (fun h3=>by rcases List.mem_cons.1 h3 with h3 | h3;exact h h3;exact h2 h3)]
theorem setT_put (l:List Nat) (x:Nat):alPut (x:Int) (.bool true) (setT l)=setT (sAdd l x):=by
 have key:∀l:List Nat,alPut (x:Int) (.bool true) (setT l)=if x∈l then setT l else setT (l++[x]):=by
  intro l;induction l with
  | nil=>rfl
  | cons y l ih=>
   simp only[List.map_cons,alPut]
   by_cases h:x=y
   ·rw[if_pos (by omega),if_pos (by rw[h];exact List.mem_cons_self ..),h]
   ·rw[if_neg (by omega),ih]
    by_cases h2:x∈l
    ·rw[if_pos h2,if_pos (List.mem_cons_of_mem _ h2)]
    ·rw[if_neg h2,if_neg (fun h3=>by rcases List.mem_cons.1 h3 with h3 | h3;exact h h3;exact h2 h3)];rfl
 rw[key,sAdd];split <;> rfl
theorem setWrong_set {l:List Nd} {x:Nd} (h:l[0]?=some x):setWrong l=l.set 0 {x with wrong:=true}:=by
 cases l with
 | nil=>cases h
 | cons y l=>cases h;rfl
theorem ordR_out {l:List Nd} {o:Od} (h:l[o.1]?=none):ordR l o=setWrong l:=by rw[ordR,h]
theorem ordR_down {l:List Nd} {o:Od} {x:Nd} (h:l[o.1]?=some x) (hu:x.up=false):ordR l o=setWrong l:=by rw[ordR,h];dsimp only;rw[hu];rfl
theorem ordR_up {l:List Nd} {o:Od} {x:Nd} (h:l[o.1]?=some x) (hu:x.up=true):ordR l o=l.set o.1 {x with inn:=x.inn++[o.2]}:=by rw[ordR,h];dsimp only;rw[hu];rfl
theorem ordsR_snoc (l:List Nd) (os:List Od) (o:Od):ordsR l (os++[o])=ordR (ordsR l os) o:=by rw[ordsR,List.foldl_append];rfl
theorem setWrong_len (l:List Nd):(setWrong l).length=l.length:=by cases l <;> rfl
theorem ordR_len (l:List Nd) (o:Od):(ordR l o).length=l.length:=by
 unfold ordR
 split
 ·exact setWrong_len l
 ·split
  ·exact List.length_set ..
  ·exact setWrong_len l
theorem ordsR_len (l:List Nd) (os:List Od):(ordsR l os).length=l.length:=by
 induction os generalizing l with
 | nil=>rfl
 | cons o os ih=>exact(ih (ordR l o)).trans (ordR_len l o)
def qLe (l:List Nd) (k:Nat):Prop:=∀n∈l,n.inn.length≤k∧n.out.length≤k
theorem qLe.mono {l:List Nd} {k k':Nat} (h:qLe l k) (hk:k≤k'):qLe l k':=fun n hn=>⟨Nat.le_trans (h n hn).1 hk,Nat.le_trans (h n hn).2 hk⟩
theorem qLe.set {l:List Nd} {k:Nat} (h:qLe l k) {i:Nat} {x:Nd} (hx:x.inn.length≤k∧x.out.length≤k):qLe (l.set i x) k:=fun n hn=>by
 rcases List.mem_or_eq_of_mem_set hn with h1 | h1
 ·exact h n h1
 ·rw[h1];exact hx
theorem qLe.wrong {l:List Nd} {k:Nat} (h:qLe l k):qLe (setWrong l) k:=by
 cases l with
 | nil=>exact h
 | cons x l=>
   intro n hn
   rcases List.mem_cons.1 hn with rfl | hn
   ·exact h x (List.mem_cons_self ..)
   ·exact h n (List.mem_cons_of_mem _ hn)
theorem qLe.ord {l:List Nd} {k:Nat} (h:qLe l k) (o:Od):qLe (ordR l o) (k+1):=by
 unfold ordR
 split
 ·exact(h.mono (by omega)).wrong
 ·rename_i x hx;have h1:=h x (List.mem_of_getElem? hx)
  split
  ·refine(h.mono (by omega)).set ⟨?_,by show x.out.length≤_;omega⟩;show (x.inn++[o.2]).length≤_;rw[List.length_append,List.length_singleton];omega
  ·exact(h.mono (by omega)).wrong
theorem qLe.ords {l:List Nd} {k:Nat} (h:qLe l k) (os:List Od):qLe (ordsR l os) (k+os.length):=by
 induction os generalizing l k with
 | nil=>exact h
 | cons o os ih=>
  have:=ih (h.ord o);rw[List.length_cons];exact this.mono (by omega)
theorem ns_at {ns:List No} {l:List Nd} (h:ns.map (·.2)=l) {i:Nat} {x:Nd} (hx:l[i]?=some x):∃q,ns[i]?=some (q,x):=by
 rw[←h,List.getElem?_map]at hx;obtain⟨o,ho,e⟩:=Option.map_eq_some_iff.1 hx;exact⟨o.1,by rw[ho,←e]⟩
theorem ns_set {ns:List No} {i q:Nat} {x:Nd} (h:ns[i]?=some (q,x)) (y:Nd):(ns.set i (q,y)).map noV=ns.map noV∧(ns.set i (q,y)).map (·.2)=(ns.map (·.2)).set i y:=by
 refine⟨?_,by rw[List.map_set]⟩;refine List.ext_getElem? fun k=>?_;rw[List.getElem?_map,List.getElem?_map,List.getElem?_set]
 split
 ·rename_i e;subst e;rw[h,if_pos (List.getElem?_eq_some_iff.1 h).1];rfl
 ·rfl
theorem igC_oneL (l:List Ig):allOne (l.flatMap igC)=true:=List.all_eq_true.2 fun u hu=>by
 obtain⟨x,_,h⟩:=List.mem_flatMap.1 hu;simp only[igC,List.mem_cons,List.not_mem_nil,or_false]at h;rcases h with rfl | rfl | rfl | rfl <;> rfl
theorem doneR_snoc (p:List Nd×List Nat) (l:List Nat) (id:Nat):(l++[id]).foldl doneR p=doneR (l.foldl doneR p) id:=by rw[List.foldl_append];rfl
theorem doneR_len (p:List Nd×List Nat) (id:Nat):(doneR p id).1.length=p.1.length:=by
 unfold doneR;dsimp only
 split
 ·exact setWrong_len _
 ·rfl
theorem donesR_len (l:List Nat):∀(p:List Nd×List Nat),(l.foldl doneR p).1.length=p.1.length:=by
 induction l with
 | nil=>exact fun _=>rfl
 | cons id l ih=>exact fun p=>(ih _).trans (doneR_len p id)
theorem imgs_sub (st:Br):(imagesR st).1.length≤st.images.length:=List.length_filter_le _ _
structure TkOk (s:Sm):Prop where
 len:s.nd.length=s.cn
 n1:1≤s.cn
 q:qLe s.nd s.fu
 im:s.images.length≤s.fu
 fu:s.fu≤100000000000
 o:s.b.orders.length≤900000
 i:s.b.images.length≤900000
 d:s.b.done.length≤900000
set_option maxHeartbeats 8000000 in
theorem take_S (p:Nat) (s:Sm) (hk:TkOk s):Spec Tryz.prog 56 [pt p] [SP p s] fun Γ _ Θ=>Θ=SP p (takeR s)::Γ:=by
 have hfu:=hk.fu;have hko:=hk.o;have hki:=hk.i;have hkd:=hk.d;have hn1:=hk.n1;have hkim:=hk.im;refine Zbd Tryz.func56 rfl Tryz.ntmps56 fun w0 Γ=>Zsh ?_;refine S.spOpen p s fun b ps nv ns rb jb gb db wb iv dv wv hF=>?_;have hnn:=hF.nn;have hlen:=hk.len;refine S.ownLen nv fun hv1 hv2 hv3=>?_;rw[List.length_map]at hv1;refine ZY 7 ?_;refine Zp (Zc1 Ze (Take_S b s.b ps) ?_);rintro v Θ ⟨tv,rfl,htn,rfl⟩;refine S.ownLen tv fun ht1 ht2 ht3=>?_;have hmx:maxLen≤9223372036854775807:=by unfold maxLen;omega
 refine ZY 4 ?_;refine Zl (fun fz ρ' Γ'=>∃(e:Nat) (nds:List Nd) (ns:List No) (dv wv:SV),fz=s.b.orders.length-e∧e≤s.b.orders.length∧nds=ordsR s.nd (s.b.orders.take e)∧ns.map (·.2)=nds∧nv.n=nds.length∧ρ'=[(0,pt p),(10,tv.v),(11,.int .i64 (tv.n:Int)),(12,.int .i64 (e:Int))] ∧   Γ'=own tv 97 14 (s.b.orders.flatMap odC)::blk p 55 (smC s b nv rb jb gb db wb iv dv wv).toArray::BP b {s.b with orders:=[]} ps::own nv 103 1 (ns.map noV)::alls ns noB::ranM rb s.ran::mapL jb .u32 (s.jobs.map joE)::mapL gb .u32 (setT s.gone)::mapL db .u32 (setT s.done)::imgs iv s.images::warM wb::lstM dv (s.fu+e)::lstM wv (s.fu+e)::Γ) (m:=_) (⟨0,s.nd,ns,dv,wv,rfl,by omega,rfl,hF.nd,hF.nn,rfl,rfl⟩) ?_;rintro fz ρ' Γ' ⟨e,nds,ns,dv,wv,hfz,he,hnds,hns,hnvn,rfl,rfl⟩;have hndl:nds.length=s.cn:=by rw[hnds,ordsR_len,hlen]
 have hq:qLe nds (s.fu+900000):=by rw[hnds];exact(hk.q.ords (s.b.orders.take e)).mono (by rw[List.length_take];omega)
 refine ZY 5 ?_
 refine Zj ef (fun h1=>?_) (fun h1=>?_)
 ·refine S.ownSome tv (by omega) fun tb tof hta _ _ _=>?_;obtain⟨o,ho⟩:=getE (show e<s.b.orders.length by omega);have hst:ordsR s.nd (s.b.orders.take (e+1))=ordR nds o:=by rw[List.take_add_one,ho,hnds];exact ordsR_snoc _ _ _
  refine S.ownSome nv (by omega) fun nb nof hna _ _ _=>?_;obtain⟨x0,hx0⟩:=getE (show 0<nds.length by omega);obtain⟨q0,hq0⟩:=ns_at hns hx0;have hsw:setWrong nds=nds.set 0 {x0 with wrong:=true}:=setWrong_set hx0;obtain⟨m1,m2⟩:=ns_set hq0 {x0 with wrong:=true};rw[hns]at m2;refine ZY 5 ?_;refine Zv (Zx (e) ef (hta) ef (by omega)) ?_;refine Zv (q_loadOwS (tv) (e*14) [_,_,_,_,_,_,_,_,_,_,_,_,_,_] Eo.h rfl hta (by first | rfl | exact Nat.add_assoc _ _ _ | omega) rfl (flat_seg (enc:=odC) (sz:=14) (fun _=>rfl) ho)) ?_;refine Zp (S.alloc Tryz.z97.h rfl ?_);intro b3;refine Zp (Zs ef ef (cs':=[_,_,_,_,_,_,_,_,_,_,_,_,_,_]) ef ?_);refine ZY 3 ?_
  rcases hxo:nds[o.1]? with _ | x
  ·have hor:=ordR_out hxo;have hge:nds.length≤o.1:=List.getElem?_eq_none_iff.1 hxo;refine Zd ([blk b3 97 (odC o).toArray,blk p 55 (smC s b nv rb jb gb db wb iv dv wv).toArray]) [] (Zra 0 4) ?_;refine ZY 4 ?_;refine Zu 19 false ef ((decide_eq_false (by omega))) ?_;refine Zr (Zra 4 10) ?_;refine ZY 8 ?_;refine ZY 2 ?_;refine Zu 29 true ef ((decide_eq_true (by omega))) ?_;refine Zr (Zra 14 13) ?_;refine ZY 8 ?_;refine ZY 5 ?_;refine ZD ?_;refine ZY 7 ?_;refine Zv (Zx (0) ef (hna) ef (by omega)) ?_;refine Zv (Zo (nv) (0) ef (hna) (by rw[List.getElem?_map,hq0];rfl)) ?_;refine S.conv (alls ns noB) (Ent.allsAt noB hq0 _) ?_;refine S.niOpen q0 x0 fun nrb niv nov rs os hN=>?_;refine ZY 6 ?_;refine S.niClose q0 {x0 with wrong:=true} nrb niv nov rs os ⟨hN.rk,hN.os,hN.i,hN.o⟩ ?_;refine S.conv3 (noB ((q0,{x0 with wrong:=true}):No)) (alls (ns.take 0) noB) (alls (ns.drop (0+1)) noB) (Ent.allsBack noB (x':=((q0,{x0 with wrong:=true}):No)) hq0 _) ?_;rw[←m1];refine S.conv (lstM wv (s.fu+e)) (Ent.lstLe wv (k':=s.fu+(e+1)) (by omega) _) ?_;refine S.conv (lstM dv (s.fu+e)) (Ent.lstLe dv (k':=s.fu+(e+1)) (by omega) _) ?_;refine Zv (Za ef ef) ?_;refine ZY 2 ?_;first | exact ZX (fz-1) ⟨e+1,nds.set o.1 {x with inn:=x.inn++[o.2]},ns.set o.1 (q,{x with inn:=x.inn++[o.2]}),dz,wv2,by omega,by omega,by rw[hst,hor],c2,by rw[List.length_set];exact hnvn,rfl,rfl⟩ (by omega) | exact ZX (fz-1) ⟨e+1,nds.set o.1 {x with inn:=x.inn++[o.2]},ns.set o.1 (q,{x with inn:=x.inn++[o.2]}),dz,wv,by omega,by omega,by rw[hst,hor],c2,by rw[List.length_set];exact hnvn,rfl,rfl⟩ (by omega) | exact ZX (fz-1) ⟨e+1,nds.set 0 {x0 with wrong:=true},ns.set 0 (q0,{x0 with wrong:=true}),dv,wv,by omega,by omega,by rw[hst,hor,hsw],m2,by rw[List.length_set];exact hnvn,rfl,rfl⟩ (by omega)
  ·have hlt:o.1<nds.length:=(List.getElem?_eq_some_iff.1 hxo).1;obtain⟨q,hqo⟩:=ns_at hns hxo;obtain⟨hxi,hxu⟩:=hq x (List.mem_of_getElem? hxo);refine S.conv (alls ns noB) (Ent.allsAt noB hqo _) ?_;refine S.niOpen q x fun nrb niv nov rs os hN=>?_;have hNi:=hN.i;refine Zd ([blk b3 97 (odC o).toArray,blk p 55 (smC s b nv rb jb gb db wb iv dv wv).toArray,own nv 103 1 (ns.map noV),blk q 107 #[.bool x.up,.map (some nrb),niv.v,nov.v,.bool x.wrong]]) [] (Zra 0 4) ?_;refine ZY 4 ?_;refine Zu 19 false ef ((decide_eq_false (by omega))) ?_;refine Zr (Zra 4 10) ?_;refine ZY 8 ?_;refine ZY 2 ?_;refine Zu 29 false ef ((decide_eq_false (by omega))) ?_;refine Zr (Zra 14 13) ?_;refine ZY 6 ?_;refine Zwg ef ef ef ef (Zx (o.1) ef (hna) ef (by omega)) ?_;refine Zwg ef ef ef ef (Zo (nv) (o.1) ef (hna) (by rw[List.getElem?_map,hqo];rfl)) ?_;refine ZY 5 ?_;refine ZD ?_
   refine Zi ef (fun h2=>?_) (fun h2=>?_)
   ·have hor:=ordR_down hxo (by simpa using h2);refine S.niClose q x nrb niv nov rs os hN ?_;refine S.conv3 (noB ((q,x):No)) (alls (ns.take o.1) noB) (alls (ns.drop (o.1+1)) noB) (Ent.allsBack' noB hqo _) ?_;refine ZY 6 ?_;refine Zv (Zx (0) ef (hna) ef (by omega)) ?_;refine Zv (Zo (nv) (0) ef (hna) (by rw[List.getElem?_map,hq0];rfl)) ?_;refine S.conv (alls ns noB) (Ent.allsAt noB hq0 _) ?_;refine S.niOpen q0 x0 fun nrb niv nov rs os hN=>?_;refine ZY 6 ?_;first | (refine S.niClose q0 {x0 with wrong:=true} nrb niv nov rs os ⟨hN.rk,hN.os,hN.i,hN.o⟩ ?_;refine S.conv3 (noB ((q0,{x0 with wrong:=true}):No)) (alls (ns.take 0) noB) (alls (ns.drop (0+1)) noB) (Ent.allsBack noB (x':=((q0,{x0 with wrong:=true}):No)) hq0 _) ?_;rw[←m1]) | skip
    first | refine S.conv (lstM wv (s.fu+e)) (Ent.lstLe wv (k':=s.fu+(e+1)) (by omega) _) ?_ | skip
    first | refine S.conv (lstM dv (s.fu+e)) (Ent.lstLe dv (k':=s.fu+(e+1)) (by omega) _) ?_ | skip
    refine Zv (Za ef ef) ?_;refine ZY 2 ?_;first | exact ZX (fz-1) ⟨e+1,nds.set o.1 {x with inn:=x.inn++[o.2]},ns.set o.1 (q,{x with inn:=x.inn++[o.2]}),dz,wv2,by omega,by omega,by rw[hst,hor],c2,by rw[List.length_set];exact hnvn,rfl,rfl⟩ (by omega) | exact ZX (fz-1) ⟨e+1,nds.set o.1 {x with inn:=x.inn++[o.2]},ns.set o.1 (q,{x with inn:=x.inn++[o.2]}),dz,wv,by omega,by omega,by rw[hst,hor],c2,by rw[List.length_set];exact hnvn,rfl,rfl⟩ (by omega) | exact ZX (fz-1) ⟨e+1,nds.set 0 {x0 with wrong:=true},ns.set 0 (q0,{x0 with wrong:=true}),dv,wv,by omega,by omega,by rw[hst,hor,hsw],m2,by rw[List.length_set];exact hnvn,rfl,rfl⟩ (by omega)
   ·have hor:=ordR_up hxo (by simpa using h2);obtain⟨c1,c2⟩:=ns_set hqo {x with inn:=x.inn++[o.2]};rw[hns]at c2;refine ZY 2 ?_;refine Zd ([blk b3 97 (odC o).toArray,blk p 55 (smC s b nv rb jb gb db wb iv dv wv).toArray,own nv 103 1 (ns.map noV),blk q 107 #[.bool x.up,.map (some nrb),niv.v,nov.v,.bool x.wrong]]) [25] (Zra 0 21) ?_;refine ZY 6 ?_;refine Zw ef (Zx (o.1) ef (hna) ef (by omega)) ?_;refine Zw ef (Zo (nv) (o.1) ef (hna) (by rw[List.getElem?_map,hqo];rfl)) ?_;refine ZY 6 ?_;refine Zw ef (Zx (o.1) ef (hna) ef (by omega)) ?_;refine Zw ef (Zo (nv) (o.1) ef (hna) (by rw[List.getElem?_map,hqo];rfl)) ?_;refine ZY 5 ?_;refine Z1 (i:=21) ef ef ?_;refine(S.buildSlice (pvs:=[(_,_)]) [_,_,_,_,_,_,_,_,_,_,_,_,_] Tryz.underlying105 Tryz.inf72.h rfl rfl ⟨⟨rfl,rfl⟩,trivial⟩ rfl rfl ?_);intro b72;refine Zk [] ?_;refine Z1 (i:=22) ef ef ?_;refine(S.appendOw (s:=niv) (1) (niC o.2) Tryz.underlying105 Tryz.inf72.h rfl rfl rfl (blk_slAt (b:=b72) rfl (by unfold maxLen;omega)) (by first | rfl | exact allOne_bcells _) (⟨by omega,by omega⟩) rfl ?_);intro niv2 hniv2;refine Zk [23,24] ?_;refine ZY 2 ?_;refine Z1 (i:=25) ef ef ?_;refine(S.store (cs':=[_,_,_,_,_]) Eo.h rfl rfl rfl rfl rfl ?_);refine ZL ([]) [] ?_;refine ZD ?_;refine ZY 3 ?_;rw[flat_snoc niC x.inn o.2];refine S.niClose q {x with inn:=x.inn++[o.2]} nrb niv2 nov rs os ⟨hN.rk,hN.os,by show niv2.n=(x.inn++[o.2]).length;rw[List.length_append,List.length_singleton];omega,hN.o⟩ ?_;refine S.conv3 (noB ((q,{x with inn:=x.inn++[o.2]}):No)) (alls (ns.take o.1) noB) (alls (ns.drop (o.1+1)) noB) (Ent.allsBack noB (x':=((q,{x with inn:=x.inn++[o.2]}):No)) hqo _) ?_;rw[←c1];refine ZY 5 ?_
    refine Zj ef (fun h3=>?_) (fun h3=>?_)
    ·refine S.lstOpen dv (s.fu+e) fun dl hdl hdn=>?_;refine Zd ([blk b3 97 (odC o).toArray,blk p 55 (smC s b nv rb jb gb db wb iv dv wv).toArray]) [12] (Zra 0 8) ?_;refine ZY 8 ?_;refine Z1 (i:=8) ef ef ?_;refine(S.buildSlice (pvs:=[(_,_)]) [_] Tryz.underlying53 Tryz.inf31.h rfl rfl ⟨⟨rfl,rfl⟩,trivial⟩ rfl rfl ?_);intro b88;refine Zk [] ?_;refine Z1 (i:=9) ef ef ?_;refine(S.appendOw (s:=dv) (1) (idsV [o.2.job]) Tryz.underlying53 Tryz.inf31.h rfl rfl rfl (blk_slAt (b:=b88) rfl (by unfold maxLen;omega)) (by first | rfl | exact allOne_bcells _) (⟨by omega,by omega⟩) rfl ?_);intro dz hdz;refine Zk [10,11] ?_;refine ZY 2 ?_;refine Z1 (i:=12) ef ef ?_;refine(S.store (cs':=[_,_,_,_,_,_,_,_,_,_,_,_,_,_,_,_]) Eo.h rfl rfl rfl rfl rfl ?_);refine ZL ([]) [] ?_;refine ZD ?_;rw[show idsV dl++idsV [o.2.job]=idsV (dl++[o.2.job]) from List.map_append.symm];refine S.conv (own dz 31 1 (idsV (dl++[o.2.job]))) (Ent.lst dz (k:=s.fu+(e+1)) (by rw[List.length_append,List.length_singleton];omega) (by rw[List.length_append,List.length_singleton];omega) _) ?_;refine ZY 7 ?_
     refine Zj ef (fun h4=>?_) (fun h4=>?_)
     ·refine S.warOpen wb fun wl=>?_;refine Zy ?_;refine Zd ([blk b3 97 (odC o).toArray,blk p 55 (smC s b nv rb jb gb db wb iv dz wv).toArray]) [10] (Zra 0 10) ?_;refine ZY 8 ?_;refine ZY 2 ?_;refine Z1 (i:=10) ef ef ?_;refine(S.mapUpdate Tryz.underlying52 Tryz.underlying31 rfl rfl rfl rfl ?_);refine ZL ([]) [] ?_;refine ZD ?_;refine Zd ([blk b3 97 (odC o).toArray,blk p 55 (smC s b nv rb jb gb db wb iv dz wv).toArray]) [12] (Zra 0 8) ?_;refine S.conv (mapL wb .u32 (alPut (o.2.job:Int) (.int .u32 (o.2.tick:Int)) wl)) (Ent.war wb _ _) ?_;refine S.lstOpen wv (s.fu+e) fun dl hdl hdn=>?_;refine ZY 8 ?_;refine Z1 (i:=8) ef ef ?_;refine(S.buildSlice (pvs:=[(_,_)]) [_] Tryz.underlying53 Tryz.inf31.h rfl rfl ⟨⟨rfl,rfl⟩,trivial⟩ rfl rfl ?_);intro b114;refine Zk [] ?_;refine Z1 (i:=9) ef ef ?_;refine(S.appendOw (s:=wv) (1) (idsV [o.2.job]) Tryz.underlying53 Tryz.inf31.h rfl rfl rfl (blk_slAt (b:=b114) rfl (by unfold maxLen;omega)) (by first | rfl | exact allOne_bcells _) (⟨by omega,by omega⟩) rfl ?_);intro wv2 hwv2;refine Zk [10,11] ?_;refine ZY 2 ?_;refine Z1 (i:=12) ef ef ?_;refine(S.store (cs':=[_,_,_,_,_,_,_,_,_,_,_,_,_,_,_,_]) Eo.h rfl rfl rfl rfl rfl ?_);refine ZL ([]) [] ?_;refine ZD ?_;rw[show idsV dl++idsV [o.2.job]=idsV (dl++[o.2.job]) from List.map_append.symm];refine S.conv (own wv2 31 1 (idsV (dl++[o.2.job]))) (Ent.lst wv2 (k:=s.fu+(e+1)) (by rw[List.length_append,List.length_singleton];omega) (by rw[List.length_append,List.length_singleton];omega) _) ?_;refine Zy ?_;first | (refine S.niClose q0 {x0 with wrong:=true} nrb niv nov rs os ⟨hN.rk,hN.os,hN.i,hN.o⟩ ?_;refine S.conv3 (noB ((q0,{x0 with wrong:=true}):No)) (alls (ns.take 0) noB) (alls (ns.drop (0+1)) noB) (Ent.allsBack noB (x':=((q0,{x0 with wrong:=true}):No)) hq0 _) ?_;rw[←m1]) | skip
      first | refine S.conv (lstM wv (s.fu+e)) (Ent.lstLe wv (k':=s.fu+(e+1)) (by omega) _) ?_ | skip
      first | refine S.conv (lstM dv (s.fu+e)) (Ent.lstLe dv (k':=s.fu+(e+1)) (by omega) _) ?_ | skip
      refine Zv (Za ef ef) ?_;refine ZY 2 ?_;first | exact ZX (fz-1) ⟨e+1,nds.set o.1 {x with inn:=x.inn++[o.2]},ns.set o.1 (q,{x with inn:=x.inn++[o.2]}),dz,wv2,by omega,by omega,by rw[hst,hor],c2,by rw[List.length_set];exact hnvn,rfl,rfl⟩ (by omega) | exact ZX (fz-1) ⟨e+1,nds.set o.1 {x with inn:=x.inn++[o.2]},ns.set o.1 (q,{x with inn:=x.inn++[o.2]}),dz,wv,by omega,by omega,by rw[hst,hor],c2,by rw[List.length_set];exact hnvn,rfl,rfl⟩ (by omega) | exact ZX (fz-1) ⟨e+1,nds.set 0 {x0 with wrong:=true},ns.set 0 (q0,{x0 with wrong:=true}),dv,wv,by omega,by omega,by rw[hst,hor,hsw],m2,by rw[List.length_set];exact hnvn,rfl,rfl⟩ (by omega)
     ·refine ZY 2 ?_;first | (refine S.niClose q0 {x0 with wrong:=true} nrb niv nov rs os ⟨hN.rk,hN.os,hN.i,hN.o⟩ ?_;refine S.conv3 (noB ((q0,{x0 with wrong:=true}):No)) (alls (ns.take 0) noB) (alls (ns.drop (0+1)) noB) (Ent.allsBack noB (x':=((q0,{x0 with wrong:=true}):No)) hq0 _) ?_;rw[←m1]) | skip
      first | refine S.conv (lstM wv (s.fu+e)) (Ent.lstLe wv (k':=s.fu+(e+1)) (by omega) _) ?_ | skip
      first | refine S.conv (lstM dv (s.fu+e)) (Ent.lstLe dv (k':=s.fu+(e+1)) (by omega) _) ?_ | skip
      refine Zv (Za ef ef) ?_;refine ZY 2 ?_;first | exact ZX (fz-1) ⟨e+1,nds.set o.1 {x with inn:=x.inn++[o.2]},ns.set o.1 (q,{x with inn:=x.inn++[o.2]}),dz,wv2,by omega,by omega,by rw[hst,hor],c2,by rw[List.length_set];exact hnvn,rfl,rfl⟩ (by omega) | exact ZX (fz-1) ⟨e+1,nds.set o.1 {x with inn:=x.inn++[o.2]},ns.set o.1 (q,{x with inn:=x.inn++[o.2]}),dz,wv,by omega,by omega,by rw[hst,hor],c2,by rw[List.length_set];exact hnvn,rfl,rfl⟩ (by omega) | exact ZX (fz-1) ⟨e+1,nds.set 0 {x0 with wrong:=true},ns.set 0 (q0,{x0 with wrong:=true}),dv,wv,by omega,by omega,by rw[hst,hor,hsw],m2,by rw[List.length_set];exact hnvn,rfl,rfl⟩ (by omega)
    ·refine Zy ?_;refine S.conv (lstM dv (s.fu+e)) (Ent.lstLe dv (k':=s.fu+(e+1)) (by omega) _) ?_;obtain⟨dz,hdz⟩:∃dz,dz=dv:=⟨_,rfl⟩;rw[←hdz];refine ZY 7 ?_
     refine Zj ef (fun h4=>?_) (fun h4=>?_)
     ·refine S.warOpen wb fun wl=>?_;refine Zy ?_;refine Zd ([blk b3 97 (odC o).toArray,blk p 55 (smC s b nv rb jb gb db wb iv dz wv).toArray]) [10] (Zra 0 10) ?_;refine ZY 8 ?_;refine ZY 2 ?_;refine Z1 (i:=10) ef ef ?_;refine(S.mapUpdate Tryz.underlying52 Tryz.underlying31 rfl rfl rfl rfl ?_);refine ZL ([]) [] ?_;refine ZD ?_;refine Zd ([blk b3 97 (odC o).toArray,blk p 55 (smC s b nv rb jb gb db wb iv dz wv).toArray]) [12] (Zra 0 8) ?_;refine S.conv (mapL wb .u32 (alPut (o.2.job:Int) (.int .u32 (o.2.tick:Int)) wl)) (Ent.war wb _ _) ?_;refine S.lstOpen wv (s.fu+e) fun dl hdl hdn=>?_;refine ZY 8 ?_;refine Z1 (i:=8) ef ef ?_;refine(S.buildSlice (pvs:=[(_,_)]) [_] Tryz.underlying53 Tryz.inf31.h rfl rfl ⟨⟨rfl,rfl⟩,trivial⟩ rfl rfl ?_);intro b114;refine Zk [] ?_;refine Z1 (i:=9) ef ef ?_;refine(S.appendOw (s:=wv) (1) (idsV [o.2.job]) Tryz.underlying53 Tryz.inf31.h rfl rfl rfl (blk_slAt (b:=b114) rfl (by unfold maxLen;omega)) (by first | rfl | exact allOne_bcells _) (⟨by omega,by omega⟩) rfl ?_);intro wv2 hwv2;refine Zk [10,11] ?_;refine ZY 2 ?_;refine Z1 (i:=12) ef ef ?_;refine(S.store (cs':=[_,_,_,_,_,_,_,_,_,_,_,_,_,_,_,_]) Eo.h rfl rfl rfl rfl rfl ?_);refine ZL ([]) [] ?_;refine ZD ?_;rw[show idsV dl++idsV [o.2.job]=idsV (dl++[o.2.job]) from List.map_append.symm];refine S.conv (own wv2 31 1 (idsV (dl++[o.2.job]))) (Ent.lst wv2 (k:=s.fu+(e+1)) (by rw[List.length_append,List.length_singleton];omega) (by rw[List.length_append,List.length_singleton];omega) _) ?_;refine Zy ?_;first | (refine S.niClose q0 {x0 with wrong:=true} nrb niv nov rs os ⟨hN.rk,hN.os,hN.i,hN.o⟩ ?_;refine S.conv3 (noB ((q0,{x0 with wrong:=true}):No)) (alls (ns.take 0) noB) (alls (ns.drop (0+1)) noB) (Ent.allsBack noB (x':=((q0,{x0 with wrong:=true}):No)) hq0 _) ?_;rw[←m1]) | skip
      first | refine S.conv (lstM wv (s.fu+e)) (Ent.lstLe wv (k':=s.fu+(e+1)) (by omega) _) ?_ | skip
      first | refine S.conv (lstM dv (s.fu+e)) (Ent.lstLe dv (k':=s.fu+(e+1)) (by omega) _) ?_ | skip
      refine Zv (Za ef ef) ?_;refine ZY 2 ?_;first | exact ZX (fz-1) ⟨e+1,nds.set o.1 {x with inn:=x.inn++[o.2]},ns.set o.1 (q,{x with inn:=x.inn++[o.2]}),dz,wv2,by omega,by omega,by rw[hst,hor],c2,by rw[List.length_set];exact hnvn,rfl,rfl⟩ (by omega) | exact ZX (fz-1) ⟨e+1,nds.set o.1 {x with inn:=x.inn++[o.2]},ns.set o.1 (q,{x with inn:=x.inn++[o.2]}),dz,wv,by omega,by omega,by rw[hst,hor],c2,by rw[List.length_set];exact hnvn,rfl,rfl⟩ (by omega) | exact ZX (fz-1) ⟨e+1,nds.set 0 {x0 with wrong:=true},ns.set 0 (q0,{x0 with wrong:=true}),dv,wv,by omega,by omega,by rw[hst,hor,hsw],m2,by rw[List.length_set];exact hnvn,rfl,rfl⟩ (by omega)
     ·refine ZY 2 ?_;first | (refine S.niClose q0 {x0 with wrong:=true} nrb niv nov rs os ⟨hN.rk,hN.os,hN.i,hN.o⟩ ?_;refine S.conv3 (noB ((q0,{x0 with wrong:=true}):No)) (alls (ns.take 0) noB) (alls (ns.drop (0+1)) noB) (Ent.allsBack noB (x':=((q0,{x0 with wrong:=true}):No)) hq0 _) ?_;rw[←m1]) | skip
      first | refine S.conv (lstM wv (s.fu+e)) (Ent.lstLe wv (k':=s.fu+(e+1)) (by omega) _) ?_ | skip
      first | refine S.conv (lstM dv (s.fu+e)) (Ent.lstLe dv (k':=s.fu+(e+1)) (by omega) _) ?_ | skip
      refine Zv (Za ef ef) ?_;refine ZY 2 ?_;first | exact ZX (fz-1) ⟨e+1,nds.set o.1 {x with inn:=x.inn++[o.2]},ns.set o.1 (q,{x with inn:=x.inn++[o.2]}),dz,wv2,by omega,by omega,by rw[hst,hor],c2,by rw[List.length_set];exact hnvn,rfl,rfl⟩ (by omega) | exact ZX (fz-1) ⟨e+1,nds.set o.1 {x with inn:=x.inn++[o.2]},ns.set o.1 (q,{x with inn:=x.inn++[o.2]}),dz,wv,by omega,by omega,by rw[hst,hor],c2,by rw[List.length_set];exact hnvn,rfl,rfl⟩ (by omega) | exact ZX (fz-1) ⟨e+1,nds.set 0 {x0 with wrong:=true},ns.set 0 (q0,{x0 with wrong:=true}),dv,wv,by omega,by omega,by rw[hst,hor,hsw],m2,by rw[List.length_set];exact hnvn,rfl,rfl⟩ (by omega)
 ·rw[show s.b.orders.take e=s.b.orders by rw[show e=s.b.orders.length by omega,List.take_length]]at hnds;have hee:e=s.b.orders.length:=by omega
  subst hee;have hig:(imagesR {s.b with orders:=[]}).1=(imagesR s.b).1:=rfl;have his:=imgs_sub s.b;refine S.imgsOpen iv s.images fun io hio=>?_;have hiol:io.length=s.images.length:=by rw[←hio,List.length_map]
  have him:=hF.im;refine ZY 2 ?_;refine Zd ([blk p 55 (smC s b nv rb jb gb db wb iv dv wv).toArray]) [13] (Zra 0 9) ?_;refine ZY 8 ?_;refine Zy ?_;refine Z1 (i:=9) ef ef ?_;refine  (Zc1 Ze (Images_S b {s.b with orders:=[]} ps hki) ?_);rintro v Θ ⟨u,rfl,hun,rfl⟩;rw[hig]at hun ⊢;refine S.imgsOpen u (imagesR s.b).1 fun us hus=>?_;refine Zk [] ?_;refine Z1 (i:=10) ef ef ?_;refine(S.appendOw (s:=iv) (u.n) (us.flatMap igC) Tryz.underlying51 Tryz.inf60.h rfl rfl rfl (fun w hs=>HasOw.slAt inferInstance hs) (igC_oneL us) (⟨by omega,by omega⟩) rfl ?_);intro iv2 hiv2;rw[show io.flatMap igC++us.flatMap igC=(io++us).flatMap igC from List.flatMap_append.symm];refine Zk [11,12] ?_;refine ZY 2 ?_;refine Z1 (i:=13) ef ef ?_;refine(S.store (cs':=[_,_,_,_,_,_,_,_,_,_,_,_,_,_,_,_]) Eo.h rfl rfl rfl rfl rfl ?_);refine ZL ([]) [] ?_;refine ZD ?_;refine ZY 2 ?_;refine S.conv2 (alls io igB) (alls us igB) (Ent.allsAppend igB io us _) ?_;refine S.conv2 (own iv2 60 4 ((io++us).flatMap igC)) (alls (io++us) igB) (Ent.toImgs iv2 (io++us) _) ?_;rw[List.map_append,hio,hus];refine ZY 4 ?_;refine Zp (Zc1 Ze (Done_S b (imagesR {s.b with orders:=[]}).2 ps) ?_);rintro v Θ ⟨tv2,rfl,ht2n,rfl⟩;rw[show (imagesR {s.b with orders:=[]}).2.done=s.b.done from rfl]at ht2n ⊢;rw[show ({ (imagesR {s.b with orders:=[]}).2 with done:=[]}:Br)={s.b with orders:=[],images:=[],done:=[]} from rfl];refine S.ownLen tv2 fun ht4 ht5 ht6=>?_;refine ZY 4 ?_;refine Zl (fun fz ρ' Γ'=>∃(e:Nat) (nds2:List Nd) (dl:List Nat) (ns:List No),fz=s.b.done.length-e∧e≤s.b.done.length∧(nds2,dl)=(s.b.done.take e).foldl doneR (nds,s.done)∧ns.map (·.2)=nds2∧nv.n=nds2.length∧ρ'=[(0,pt p),(136,tv2.v),(137,.int .i64 (tv2.n:Int)),(138,.int .i64 (e:Int))] ∧   Γ'=own tv2 31 1 (idsV s.b.done)::blk p 55 (smC s b nv rb jb gb db wb iv2 dv wv).toArray::BP b {s.b with orders:=[],images:=[],done:=[]} ps::own nv 103 1 (ns.map noV)::alls ns noB::ranM rb s.ran::mapL jb .u32 (s.jobs.map joE)::mapL gb .u32 (setT s.gone)::mapL db .u32 (setT dl)::imgs iv2 (s.images++(imagesR s.b).1)::warM wb::lstM dv (s.fu+s.b.orders.length)::lstM wv (s.fu+s.b.orders.length)::Γ) (m:=_) (⟨0,nds,s.done,ns,rfl,by omega,rfl,hns,hnvn,rfl,rfl⟩) ?_;rintro fz ρ' Γ' ⟨e,nds2,dl,ns,hfz,he,hnds2,hns,hnvn,rfl,rfl⟩
  have hndl2:nds2.length=s.cn:=by
   have:=donesR_len (s.b.done.take e) (nds,s.done);rw[←hnds2]at this;exact this.trans hndl
  refine ZY 5 ?_
  refine Zj ef (fun h5=>?_) (fun h5=>?_)
  ·refine S.ownSome tv2 (by omega) fun tb tof hta _ _ _=>?_;obtain⟨id,hid⟩:=getE (show e<s.b.done.length by omega);refine S.ownSome nv (by omega) fun nb nof hna _ _ _=>?_;obtain⟨x0,hx0⟩:=getE (show 0<nds2.length by omega);obtain⟨q0,hq0⟩:=ns_at hns hx0;have hsw:setWrong nds2=nds2.set 0 {x0 with wrong:=true}:=setWrong_set hx0;obtain⟨m1,m2⟩:=ns_set hq0 {x0 with wrong:=true};rw[hns]at m2;have hst:(s.b.done.take (e+1)).foldl doneR (nds,s.done)=doneR (nds2,dl) id:=by rw[List.take_add_one,hid,hnds2];exact doneR_snoc _ _ _
   refine ZY 5 ?_;refine Zv (Zx (e) ef (hta) ef (by omega)) ?_;refine Zv (Zo (tv2) (e) ef (hta) (idsV_get hid)) ?_;refine ZY 8 ?_;refine ZY 2 ?_;refine Zv (q_lookup1 (.bool (decide (id∈dl))) Tryz.underlying50 Tryz.underlying31 Tryz.zv4.h rfl rfl rfl (by rw[setT_get];by_cases hm:id∈dl;(rw[if_pos hm,decide_eq_true hm];rfl);(rw[if_neg hm,decide_eq_false hm];rfl))) ?_;refine Zy ?_
   refine Zj ef (fun h6=>?_) (fun h6=>?_)
   ·have hdo:doneR (nds2,dl) id=(nds2.set 0 {x0 with wrong:=true},sAdd dl id):=by rw[doneR];dsimp only;rw[if_pos h6,hsw]
    refine ZY 5 ?_;refine Zv (Zx (0) ef (hna) ef (by omega)) ?_;refine Zv (Zo (nv) (0) ef (hna) (by rw[List.getElem?_map,hq0];rfl)) ?_;refine S.conv (alls ns noB) (Ent.allsAt noB hq0 _) ?_;refine S.niOpen q0 x0 fun nrb niv nov rs os hN=>?_;refine ZY 4 ?_;refine S.niClose q0 {x0 with wrong:=true} nrb niv nov rs os ⟨hN.rk,hN.os,hN.i,hN.o⟩ ?_;refine S.conv3 (noB ((q0,{x0 with wrong:=true}):No)) (alls (ns.take 0) noB) (alls (ns.drop (0+1)) noB) (Ent.allsBack noB (x':=((q0,{x0 with wrong:=true}):No)) hq0 _) ?_;rw[←m1];refine ZY 6 ?_;refine Zp (S.mapUpdate Tryz.underlying50 Tryz.underlying31 rfl rfl rfl rfl ?_);rw[setT_put];refine ZY 2 ?_;refine Zv (Za ef ef) ?_;refine ZY 2 ?_;first | exact ZX (fz-1) ⟨e+1,nds2.set 0 {x0 with wrong:=true},sAdd dl id,ns.set 0 (q0,{x0 with wrong:=true}),by omega,by omega,by rw[hst,hdo],m2,by rw[List.length_set];exact hnvn,rfl,rfl⟩ (by omega) | exact ZX (fz-1) ⟨e+1,nds2,sAdd dl id,ns,by omega,by omega,by rw[hst,hdo],hns,hnvn,rfl,rfl⟩ (by omega)
   ·have hdo:doneR (nds2,dl) id=(nds2,sAdd dl id):=by rw[doneR];dsimp only;rw[if_neg h6]
    refine ZY 7 ?_;refine Zp (S.mapUpdate Tryz.underlying50 Tryz.underlying31 rfl rfl rfl rfl ?_);rw[setT_put];refine ZY 2 ?_;refine Zv (Za ef ef) ?_;refine ZY 2 ?_;first | exact ZX (fz-1) ⟨e+1,nds2.set 0 {x0 with wrong:=true},sAdd dl id,ns.set 0 (q0,{x0 with wrong:=true}),by omega,by omega,by rw[hst,hdo],m2,by rw[List.length_set];exact hnvn,rfl,rfl⟩ (by omega) | exact ZX (fz-1) ⟨e+1,nds2,sAdd dl id,ns,by omega,by omega,by rw[hst,hdo],hns,hnvn,rfl,rfl⟩ (by omega)
  ·rw[show s.b.done.take e=s.b.done by rw[show e=s.b.done.length by omega,List.take_length]]at hnds2;obtain⟨s2,hs2⟩:∃s2:Sm,s2={s with b:={s.b with orders:=[],images:=[],done:=[]},nd:=nds2,done:=dl,images:=s.images++(imagesR s.b).1,fu:=s.fu+s.b.orders.length+s.b.images.length+s.b.done.length}:=⟨_,rfl⟩
   have hT:takeR s=s2:=by
    have e1:takeR s={s with b:={s.b with orders:=[],images:=[],done:=[]},nd:=(s.b.done.foldl doneR (ordsR s.nd s.b.orders,s.done)).1,done:=(s.b.done.foldl doneR (ordsR s.nd s.b.orders,s.done)).2,images:=s.images++(imagesR s.b).1,fu:=s.fu+s.b.orders.length+s.b.images.length+s.b.done.length}:=rfl;rw[e1,←hnds,←hnds2,hs2]
   refine Zy ?_;refine S.conv (lstM dv (s.fu+s.b.orders.length)) (Ent.lstLe dv (k':=s2.fu) (by rw[hs2];show _≤s.fu+s.b.orders.length+s.b.images.length+s.b.done.length;omega) _) ?_;refine S.conv (lstM wv (s.fu+s.b.orders.length)) (Ent.lstLe wv (k':=s2.fu) (by rw[hs2];show _≤s.fu+s.b.orders.length+s.b.images.length+s.b.done.length;omega) _) ?_;refine S.sub (smX p s2 b ps nv ns rb jb gb db wb iv2 dv wv Γ) (e:=by subst hs2;infer_instance) ?_;refine S.spClose p s2 b ps nv ns rb jb gb db wb iv2 dv wv ⟨by rw[hs2];exact hns,by rw[hs2];exact hnvn,by rw[hs2];show iv2.n=(s.images++(imagesR s.b).1).length;rw[List.length_append];omega⟩ ?_;exact Zfn ef Zq (by rw[hT])
theorem mul64_S (x y:Nat) (hx:x*y<18446744073709551616) (h1:x<18446744073709551616) (h2:y<18446744073709551616):Spec Tryz.prog 144 [.int .u64 (x:Int),.int .u64 (y:Int)] [] fun Γ v Θ=>v=.tuple #[.int .u64 0,.int .u64 ((x*y:Nat):Int)]∧Θ=Γ:=by
 intro Γ w hs;refine(Go.Proofs.Any.bits_Mul64 Tryz.lays264 x y h1 h2 w).mono ?_;rintro e w' ⟨rfl,rfl⟩;refine⟨_,Γ,rfl,⟨?_,rfl⟩,hs,Ext.refl _⟩;rw[Nat.div_eq_of_lt hx,Nat.mod_eq_of_lt hx];rfl
theorem mul_S (a b:Nat) (ha:a≤1000000) (hb:b≤1000):Spec Tryz.prog 111 [.int .i64 (a:Int),.int .i64 (b:Int)] [] fun Γ v Θ=>v=.int .i64 (a*b:Nat)∧Θ=Γ:=by
 have hab:a*b≤1000000000:=Nat.mul_le_mul ha hb;refine Zbd Tryz.func111 rfl Tryz.ntmps111 fun w0 Γ=>Zsh ?_;obtain⟨m,hm⟩:∃m,m=a*b:=⟨_,rfl⟩;have h64:=mul64_S a b (by omega) (by omega) (by omega);rw[←hm]at h64 hab ⊢;refine ZY 7 ?_;refine Zp (Zcp Ze (in_S a (by omega)) ?_);refine Zv (q_conv Tryz.it225.h (by rw[Tryz.underlying3];rfl) rfl (inU64 (by omega) (by omega))) ?_;refine Zy ?_;refine Zp (Zcp Ze (in_S b (by omega)) ?_);refine Zv (q_conv Tryz.it225.h (by rw[Tryz.underlying3];rfl) rfl (inU64 (by omega) (by omega))) ?_;refine Zp (Zcp Ze (h64) ?_);refine ZY 8 ?_;refine ZY 8 ?_
 refine Zj ef (fun h1=>?_) (fun h1=>?_)
 ·exact absurd h1 (by omega)
 ·refine ZY 4 ?_;refine Zv (q_conv Tryz.it3.h (by rw[Tryz.underlying225];rfl) rfl (inI64 (by omega) (by omega))) ?_;refine ZY 3 ?_;exact Zf ef Zq (⟨rfl,rfl⟩)
theorem length_S (b:Nat) (st:Br) (ps:Nat→Nat) (x:Bj) (hx:getJ st.js x.id=some x):Spec Tryz.prog 76 [pt b,pt (ps x.id)] [BP b st ps] fun Γ v Θ=>v=.int .i64 (lenR st x:Nat)∧Θ=BP b st ps::Γ:=by
 refine Spec.bpOk fun hok=>?_;have hjx:=hok.at_ hx;have hR8:st.rows≤8:=by have:=hok.mok.R8;rw[hok.R]at this;exact this
 have hcr:=hjx.cr;have hw:=hjx.w;refine Zbd Tryz.func76 rfl Tryz.ntmps76 fun w0 Γ=>Zsh ?_;refine S.bjOpen b st ps x hx fun ub jb mb ov iv dv mv sb l i av lb db rb qb hF hi hset hrm hJ=>?_;refine ZY 5 ?_;refine Zd ([blk (ps x.id) 90 (bjC x av lb db rb qb).toArray,blk b 84 (bC st ub jb mb ov iv dv mv sb).toArray]) [] [0,1,2,3,4,5,6,7,8,9,11,12,13,14,15] ?_;refine ZY 8 ?_;refine ZY 7 ?_;refine Z1 (i:=10) ef ef ?_;refine  (Zcp Ze (left_S x.w x.credit (by omega) hcr) ?_);refine Zk [] ?_;refine Z1 (i:=16) ef ef ?_;refine  (Zcp Ze (mul_S (x.w-x.credit) st.rows (by omega) (by omega)) ?_);refine Zk [17] ?_;refine Zy ?_;refine ZD ?_;refine Zy ?_;refine S.bjClose b st ps ub jb mb ov iv dv mv sb l i x av lb db rb qb hi rfl (hset x rfl) (hF.set hjx) hJ ?_;rw[set_self hok hx];exact Zf ef Zq (⟨rfl,rfl⟩)
theorem fsnoc {α:Type} {p:α→Bool} {l:List α} {i:Nat} {x:α} (hx:l[i]?=some x) (b:Bool) (h:p x=b):(l.take (i+1)).filter p=(l.take i).filter p++if b then [x] else []:=by
 rw[List.take_add_one,hx,List.filter_append];cases b <;> simp[h]
def rdyB (st:Br) (id:Nat):Bool:=match getJ st.js id with
 | none=>false
 | some x=>decide (x.state=2)&&x.drops.isNone&&decide (x.work<x.w)
theorem readyR_eq (st:Br) (l:List Nat):readyR st l=l.filter (rdyB st):=rfl
theorem rdy_none {st:Br} {id:Nat} (h:getJ st.js id=none):rdyB st id=false:=by rw[rdyB,h]
theorem rdy_some {st:Br} {id:Nat} {x:Bj} (h:getJ st.js id=some x):rdyB st id=(decide (x.state=2)&&x.drops.isNone&&decide (x.work<x.w)):=by rw[rdyB,h]
theorem isNone_of {α β:Type} {a:Option α} {b:Option β} (h:a.isSome=b.isSome):a.isNone=b.isNone:=by cases a <;> cases b <;> first | rfl | cases h
set_option maxHeartbeats 1000000 in
theorem ready_S (b:Nat) (st:Br) (ps:Nat→Nat) (s:SV) (xs:List Nat) (hsn:s.n=xs.length) (hxl:xs.length≤1000000):Spec Tryz.prog 89 [pt b,s.v] [BP b st ps,own s 31 1 (idsV xs)] fun Γ v Θ=>∃u:SV,v=u.v∧u.n=(readyR st xs).length∧Θ=own u 31 1 (idsV (readyR st xs))::BP b st ps::own s 31 1 (idsV xs)::Γ:=by
 rw[readyR_eq];refine Spec.bpOk fun hok=>?_;refine Zbd Tryz.func89 rfl Tryz.ntmps89 fun w0 Γ=>Zsh ?_;refine S.ownLen s fun hl1 hl2 hl3=>?_;have hmx:maxLen≤9223372036854775807:=by unfold maxLen;omega
 refine ZY 8 ?_;refine ZY 3 ?_;refine S.ent (show Ent _ (own SV.nil 31 1 (idsV [])::_) from Ent.ownNil 31 1) ?_;refine ZY 5 ?_;refine Zl (fun q ρ' Γ'=>∃(e:Nat) (us:List Nat) (u:SV),q=xs.length-e∧e≤xs.length∧us=(xs.take e).filter (rdyB st)∧us.length≤e∧u.n=us.length∧ρ'=[(0,pt b),(5,u.v),(9,s.v),(10,.int .i64 (s.n:Int)),(11,.int .i64 (e:Int))]∧Γ'=own u 31 1 (idsV us)::BP b st ps::own s 31 1 (idsV xs)::Γ) (m:=_) (⟨0,[],SV.nil,rfl,by omega,rfl,by simp,rfl,rfl,rfl⟩) ?_;rintro q ρ' Γ' ⟨e,us,u,hq,he,hus,hul,hun,rfl,rfl⟩;refine ZY 5 ?_
 refine Zj ef (fun h1=>?_) (fun h1=>?_)
 ·refine S.ownSome s (by omega) fun ib io hia _ _ _=>?_;obtain⟨id,hid⟩:=getE (show e<xs.length by omega);refine ZY 5 ?_;refine Zv (Zx (e) ef (hia) ef (by omega)) ?_;refine Zv (Zo (s) (e) ef (hia) (idsV_get hid)) ?_;refine ZY 3 ?_
  rcases hgj:getJ st.js id with _ | x
  ·have hus2:us=(xs.take (e+1)).filter (rdyB st):=by rw[fsnoc hid false (rdy_none hgj),hus];simp
   refine S.bpOpen b st ps fun ub jb mb ov iv dv mv sb l hF=>?_;have hlk:alGet (id:Int) l=none:=by rw[jE_get hok.srt hF.perm,hgj];rfl
   refine ZY 6 ?_;refine Zv (q_lookup1 (.pointer none) Tryz.underlying82 Tryz.underlying31 Tryz.zv86.h rfl rfl rfl (by rw[hlk];rfl)) ?_;refine ZY 3 ?_;refine Zd ([]) [] [0,1,2] ?_;refine ZY 3 ?_;refine Zr (Zra 3 26) ?_;refine ZY 8 ?_;refine ZY 8 ?_;refine ZY 8 ?_;refine ZY 2 ?_;refine ZD ?_;refine ZY 3 ?_;refine S.bpClose b st ps ub jb mb ov iv dv mv sb l hF ?_;refine Zv (Za ef ef) ?_;refine ZY 2 ?_;first | exact ZX (q-1) ⟨e+1,us++[_],u2,by omega,by omega,hus2,by rw[List.length_append,List.length_singleton];omega,by rw[List.length_append,List.length_singleton];omega,rfl,rfl⟩ (by omega) | exact ZX (q-1) ⟨e+1,us,u,by omega,by omega,hus2,by omega,hun,rfl,rfl⟩ (by omega)
  ·obtain⟨_,hxi⟩:=getJ_some hgj;subst hxi;have hjx:=hok.at_ hgj;have hrdy:=rdy_some hgj;refine S.bjOpen b st ps x hgj fun ub jb mb ov iv dv mv sb l i av lb db rb qb hF hi hset hrm hJ=>?_;have hlk:alGet (x.id:Int) l=some (pt (ps x.id)):=by rw[jE_get hok.srt hF.perm,hgj];rfl
   have hdn:=isNone_of hJ.d;refine ZY 6 ?_;refine Zv (q_lookup1 (pt (ps x.id)) Tryz.underlying82 Tryz.underlying31 Tryz.zv86.h rfl rfl rfl (by rw[hlk];rfl)) ?_;refine ZY 3 ?_;refine Zd ([blk (ps x.id) 90 (bjC x av lb db rb qb).toArray]) [] [0,1,2] ?_;refine ZY 3 ?_;refine Zr (Zra 3 8) ?_;refine ZY 8 ?_
   refine Zb 31 ef (fun hg6_10=>?_) (fun hg6_10=>?_)
   ·refine Zr (Zra 11 7) ?_;refine ZY 4 ?_;refine Zwg ef ef ef ef (q_eqMN Tryz.underlying81 rfl rfl) ?_;refine ZY 2 ?_
    refine Zbb 38 ef (fun hg6_17=>?_) (fun hg6_17=>?_)
    ·refine Zr (Zra 18 11) ?_;refine ZY 8 ?_;refine ZY 3 ?_;refine ZD ?_
     refine Zj ef (fun h2=>?_) (fun h2=>?_)
     ·have hus2:us++[x.id]=(xs.take (e+1)).filter (rdyB st):=by rw[fsnoc hid true (by rw[hrdy,←hdn,hg6_17,decide_eq_true (show x.state=2 by omega),decide_eq_true (show x.work<x.w by omega)];rfl),hus];rfl
      refine ZY 3 ?_;refine Zp (S.buildSlice (pvs:=[(_,_)]) [_] Tryz.underlying53 Tryz.inf31.h rfl rfl ⟨⟨rfl,rfl⟩,trivial⟩ rfl rfl ?_);intro b52;refine Zp (S.appendOw (s:=u) (1) (idsV [x.id]) Tryz.underlying53 Tryz.inf31.h rfl rfl rfl (blk_slAt (b:=b52) rfl (by unfold maxLen;omega)) (by first | rfl | exact allOne_bcells _) (⟨by omega,by omega⟩) rfl ?_);intro u2 hu2;rw[show idsV us++idsV [x.id]=idsV (us++[x.id]) from List.map_append.symm];refine ZY 3 ?_;refine S.bjClose b st ps ub jb mb ov iv dv mv sb l i x av lb db rb qb hi rfl (hset x rfl) (hF.set hjx) hJ ?_;rw[set_self hok hgj];refine Zv (Za ef ef) ?_;refine ZY 2 ?_;first | exact ZX (q-1) ⟨e+1,us++[_],u2,by omega,by omega,hus2,by rw[List.length_append,List.length_singleton];omega,by rw[List.length_append,List.length_singleton];omega,rfl,rfl⟩ (by omega) | exact ZX (q-1) ⟨e+1,us,u,by omega,by omega,hus2,by omega,hun,rfl,rfl⟩ (by omega)
     ·have hus2:us=(xs.take (e+1)).filter (rdyB st):=by first | exact hus2 | (rw[fsnoc hid false (by rw[hrdy,decide_eq_false (show ¬x.work<x.w by omega),Bool.and_false]),hus];simp)
      refine ZY 2 ?_;refine S.bjClose b st ps ub jb mb ov iv dv mv sb l i x av lb db rb qb hi rfl (hset x rfl) (hF.set hjx) hJ ?_;rw[set_self hok hgj];refine Zv (Za ef ef) ?_;refine ZY 2 ?_;first | exact ZX (q-1) ⟨e+1,us++[_],u2,by omega,by omega,hus2,by rw[List.length_append,List.length_singleton];omega,by rw[List.length_append,List.length_singleton];omega,rfl,rfl⟩ (by omega) | exact ZX (q-1) ⟨e+1,us,u,by omega,by omega,hus2,by omega,hun,rfl,rfl⟩ (by omega)
    ·have hus2:us=(xs.take (e+1)).filter (rdyB st):=by rw[fsnoc hid false (by rw[hrdy,←hdn,hg6_17,Bool.and_false];rfl),hus];simp
     refine Zr (Zra 18 11) ?_;refine ZY 8 ?_;refine ZY 3 ?_;refine ZD ?_;refine ZY 3 ?_;refine S.bjClose b st ps ub jb mb ov iv dv mv sb l i x av lb db rb qb hi rfl (hset x rfl) (hF.set hjx) hJ ?_;rw[set_self hok hgj];refine Zv (Za ef ef) ?_;refine ZY 2 ?_;first | exact ZX (q-1) ⟨e+1,us++[_],u2,by omega,by omega,hus2,by rw[List.length_append,List.length_singleton];omega,by rw[List.length_append,List.length_singleton];omega,rfl,rfl⟩ (by omega) | exact ZX (q-1) ⟨e+1,us,u,by omega,by omega,hus2,by omega,hun,rfl,rfl⟩ (by omega)
   ·have hus2:us=(xs.take (e+1)).filter (rdyB st):=by rw[fsnoc hid false (by rw[hrdy,decide_eq_false (show ¬x.state=2 by omega)];rfl),hus];simp
    refine Zr (Zra 11 18) ?_;refine ZY 8 ?_;refine ZY 8 ?_;refine ZY 2 ?_;refine ZD ?_;refine ZY 3 ?_;refine S.bjClose b st ps ub jb mb ov iv dv mv sb l i x av lb db rb qb hi rfl (hset x rfl) (hF.set hjx) hJ ?_;rw[set_self hok hgj];refine Zv (Za ef ef) ?_;refine ZY 2 ?_;first | exact ZX (q-1) ⟨e+1,us++[_],u2,by omega,by omega,hus2,by rw[List.length_append,List.length_singleton];omega,by rw[List.length_append,List.length_singleton];omega,rfl,rfl⟩ (by omega) | exact ZX (q-1) ⟨e+1,us,u,by omega,by omega,hus2,by omega,hun,rfl,rfl⟩ (by omega)
 ·rw[show xs.take e=xs by rw[show e=xs.length by omega,List.take_length]]at hus;refine ZY 7 ?_;exact Zf ef Zq (⟨u,rfl,by rw[←hus];exact hun,by rw[←hus]⟩)
def liveB (st:Br) (id:Nat):Bool:=match getJ st.js id with
 | none=>false
 | some x=>x.drops.isNone
theorem idleB_eq (st:Br):idleB st=!st.members.any (liveB st):=rfl
abbrev jP (b:Nat) (st:Br) (ps:Nat→Nat) (ub jb mb:Nat) (ov iv dv mv:SV) (sb:Option Nat) (l:List (Int×Value)) (t1:Nat) (Γ:List Assn):List Assn:=
 blk t1 27 #[pt b]::blk b 84 (bC st ub jb mb ov iv dv mv sb).toArray::mapL jb .u32 l::alls st.js (jI ps)::Γ
section
variable {b:Nat} {st:Br} {ps:Nat→Nat} {ub jb mb:Nat} {ov iv dv mv:SV} {sb:Option Nat} {l:List (Int×Value)}
theorem idle1_S (hF:BF st ps ov iv dv mv sb l) (t1:Nat) (id:Nat):Spec Tryz.prog 72 [.int .u32 (id:Int),pt t1] (jP b st ps ub jb mb ov iv dv mv sb l t1 []) fun Γ v Θ=>v=.bool (liveB st id)∧Θ=jP b st ps ub jb mb ov iv dv mv sb l t1 Γ:=by
 have hok:=hF.ok;refine Zbd Tryz.func72 rfl Tryz.ntmps72 fun w0 Γ=>Zsh ?_;refine ZY 5 ?_
 rcases hgj:getJ st.js id with _ | x
 ·have hlv:liveB st id=false:=by rw[liveB,hgj]
  have hlk:alGet (id:Int) l=none:=by rw[jE_get hok.srt hF.perm,hgj];rfl
  refine ZY 6 ?_;refine Zv (q_lookup1 (.pointer none) Tryz.underlying82 Tryz.underlying31 Tryz.zv86.h rfl rfl rfl (by rw[hlk];rfl)) ?_;refine ZY 8 ?_;refine ZY 8 ?_;exact Zf ef Zq (⟨by rw[hlv];rfl,rfl⟩)
 ·obtain⟨_,hxi⟩:=getJ_some hgj;subst hxi;have hlv:liveB st x.id=x.drops.isNone:=by rw[liveB,hgj]
  have hlk:alGet (x.id:Int) l=some (pt (ps x.id)):=by rw[jE_get hok.srt hF.perm,hgj];rfl
  obtain⟨i,hi,_,_⟩:=getJ_at hok.srt hgj;refine S.conv (alls st.js (jI ps)) (Ent.allsAt (jI ps) hi _) ?_;refine S.jiOpen (ps x.id) x fun av lb db rb qb ha hlb hdb hrb hqb=>?_;have hdn:=isNone_of hdb;refine ZY 6 ?_;refine Zv (q_lookup1 (pt (ps x.id)) Tryz.underlying82 Tryz.underlying31 Tryz.zv86.h rfl rfl rfl (by rw[hlk];rfl)) ?_;refine ZY 7 ?_;refine Zvg ef ef ef (q_lookup1 (pt (ps x.id)) Tryz.underlying82 Tryz.underlying31 Tryz.zv86.h rfl rfl rfl (by rw[hlk];rfl)) ?_;refine ZY 3 ?_;refine Zvg ef ef ef (q_eqMN Tryz.underlying81 rfl rfl) ?_;refine ZY 4 ?_;refine S.jiClose (ps x.id) x av lb db rb qb ha hlb hdb hrb hqb ?_;refine S.conv3 (JI (ps x.id) x) (alls (st.js.take i) (jI ps)) (alls (st.js.drop (i+1)) (jI ps)) (Ent.allsBack' (jI ps) hi _) ?_;exact Zf ef Zq (⟨by rw[hlv,←hdn];rfl,rfl⟩)
theorem idx32_S (hF:BF st ps ov iv dv mv sb l) (t1:Nat) (s:SV) (xs:List Nat) (hsn:s.n=xs.length):Spec Tryz.prog 107 [s.v,.func (.func 72) #[] #[pt t1]] (own s 31 1 (idsV xs)::jP b st ps ub jb mb ov iv dv mv sb l t1 []) fun Γ v Θ=>
  (∃z:Int,v=.int .i64 z∧(0≤z↔xs.any (liveB st)=true))∧Θ=own s 31 1 (idsV xs)::jP b st ps ub jb mb ov iv dv mv sb l t1 Γ:=by
 refine Zbd Tryz.func107 rfl Tryz.ntmps107 fun w0 Γ=>Zsh ?_;refine S.ownLen s fun hl1 hl2 hl3=>?_;have hmx:maxLen≤9223372036854775807:=by unfold maxLen;omega
 refine ZY 8 ?_;refine ZY 4 ?_;refine Zl (fun q ρ' Γ'=>∃e:Nat,q=xs.length-e∧e≤xs.length∧(xs.take e).any (liveB st)=false∧ρ'=[(0,s.v),(1,.func (.func 72) #[] #[pt t1]),(7,.int .i64 (s.n:Int)),(8,.int .i64 (e:Int))]∧Γ'=own s 31 1 (idsV xs)::jP b st ps ub jb mb ov iv dv mv sb l t1 Γ) (m:=_) (⟨0,rfl,by omega,rfl,rfl,rfl⟩) ?_;rintro q ρ' Γ' ⟨e,hq,he,hno,rfl,rfl⟩;refine ZY 5 ?_
 refine Zj ef (fun h1=>?_) (fun h1=>?_)
 ·refine S.ownSome s (by omega) fun ib io hia _ _ _=>?_;obtain⟨id,hid⟩:=getE (show e<xs.length by omega);have htk:xs.take (e+1)=xs.take e++[id]:=by rw[List.take_add_one,hid];rfl
  refine ZY 8 ?_;refine ZY 5 ?_;refine Zv (Zx (e) ef (hia) ef (by omega)) ?_;refine Zv (Zo (s) (e) ef (hia) (idsV_get hid)) ?_;refine Zp (S.callC (fs:=[]) (cs:=[pt t1]) (vs:=[_]) Eo.h rfl ⟨rfl,trivial⟩ (idle1_S (b:=b) (ub:=ub) (jb:=jb) (mb:=mb) hF t1 id) rfl ?_);rintro v Θ ⟨rfl,rfl⟩;refine Zy ?_
  refine Zi ef (fun h2=>?_) (fun h2=>?_)
  ·refine ZY 6 ?_;exact Zf ef Zq (⟨⟨(e:Int),rfl,fun _=>List.any_eq_true.2 ⟨id,List.mem_of_getElem? hid,h2⟩,fun _=>by omega⟩,rfl⟩)
  ·have hno2:(xs.take (e+1)).any (liveB st)=false:=by rw[htk,List.any_append,hno];simp[h2]
   refine ZY 2 ?_;refine Zv (Za ef ef) ?_;refine ZY 2 ?_;exact ZX (q-1) (⟨e+1,by omega,by omega,hno2,rfl,rfl⟩) (by omega)
 ·rw[show e=xs.length by omega,List.take_length]at hno;refine ZY 6 ?_;exact Zf ef Zq (⟨⟨-1,rfl,fun h=>absurd h (by decide),fun h=>by rw[hno]at h;cases h⟩,rfl⟩)
theorem cont32_S (hF:BF st ps ov iv dv mv sb l) (t1:Nat) (s:SV) (xs:List Nat) (hsn:s.n=xs.length):Spec Tryz.prog 71 [s.v,.func (.func 72) #[] #[pt t1]] (own s 31 1 (idsV xs)::jP b st ps ub jb mb ov iv dv mv sb l t1 []) fun Γ v Θ=>
  v=.bool (xs.any (liveB st))∧Θ=own s 31 1 (idsV xs)::jP b st ps ub jb mb ov iv dv mv sb l t1 Γ:=by
 refine Zbd Tryz.func71 rfl Tryz.ntmps71 fun w0 Γ=>Zsh ?_;refine ZY 8 ?_;refine Zp (Zc1 Ze (idx32_S (b:=b) (ub:=ub) (jb:=jb) (mb:=mb) hF t1 s xs hsn) ?_);rintro v Θ ⟨⟨z,rfl,hz⟩,rfl⟩;refine ZY 4 ?_;exact Zf ef Zq (⟨by show Value.bool (decide (0≤z))=_;congr 1;rw[Bool.eq_iff_iff,decide_eq_true_iff];exact hz,rfl⟩)
end
theorem idle_S (b:Nat) (st:Br) (ps:Nat→Nat):Spec Tryz.prog 40 [pt b] [BP b st ps] fun Γ v Θ=>v=.bool (idleB st)∧Θ=BP b st ps::Γ:=by
 refine Zbd Tryz.func40 rfl Tryz.ntmps40 fun w0 Γ=>Zsh ?_;refine S.bpOpen b st ps fun ub jb mb ov iv dv mv sb l hF=>?_;refine ZY 2 ?_;refine Zp (S.box (cs:=[_]) rfl rfl rfl ?_);intro b1;refine ZY 8 ?_;refine Zy ?_;refine Zp (Zcp Ze (cont32_S (b:=b) (ub:=ub) (jb:=jb) (mb:=mb) hF b1 mv st.members hF.mn) ?_);refine ZY 4 ?_;refine S.bpClose b st ps ub jb mb ov iv dv mv sb l hF ?_;exact Zf ef Zq (⟨by rw[idleB_eq];rfl,rfl⟩)
theorem pre1_S (b:Nat) (st:Br) (ps:Nat→Nat) (x:Bj) (hx:getJ st.js x.id=some x):Spec Tryz.prog 81 [pt (ps x.id)] [BP b st ps] fun Γ v Θ=>v=.bool (x.warned || x.drops.isSome)∧Θ=BP b st ps::Γ:=by
 refine Spec.bpOk fun hok=>?_;have hjx:=hok.at_ hx;refine Zbd Tryz.func81 rfl Tryz.ntmps81 fun w0 Γ=>Zsh ?_;refine S.bjOpen b st ps x hx fun ub jb mb ov iv dv mv sb l i av lb db rb qb hF hi hset hrm hJ=>?_;have hJd:=hJ.d;refine ZY 8 ?_;refine ZY 3 ?_
 refine Zbb 7 ef (fun hg1_4=>?_) (fun hg1_4=>?_)
 ·refine ZY 8 ?_;refine Zy ?_;refine S.bjClose b st ps ub jb mb ov iv dv mv sb l i x av lb db rb qb hi rfl (hset x rfl) (hF.set hjx) hJ ?_;rw[set_self hok hx];exact Zf ef Zq (⟨by simp[hg1_4,←hJd,resV],rfl⟩)
 ·refine ZY 4 ?_;refine Zvg ef ef ef (q_neMN Tryz.underlying81 rfl rfl) ?_;refine ZY 4 ?_;refine S.bjClose b st ps ub jb mb ov iv dv mv sb l i x av lb db rb qb hi rfl (hset x rfl) (hF.set hjx) hJ ?_;rw[set_self hok hx];exact Zf ef Zq (⟨by simp[hg1_4,←hJd,resV],rfl⟩)
abbrev lvB (x:Bj):Bool:=x.warned || x.drops.isSome
theorem idxJ_S (b:Nat) (st:Br) (ps:Nat→Nat) (s:SV) (hsn:s.n=st.js.length):Spec Tryz.prog 118 [s.v,.func (.func 81) #[] #[]] [own s 86 1 (pts ps st.js),BP b st ps] fun Γ v Θ=>
  (∃z:Int,v=.int .i64 z∧(0≤z↔st.js.any lvB=true))∧Θ=own s 86 1 (pts ps st.js)::BP b st ps::Γ:=by
 refine Zbd Tryz.func118 rfl Tryz.ntmps118 fun w0 Γ=>Zsh ?_;refine S.ownLen s fun hl1 hl2 hl3=>?_;have hmx:maxLen≤9223372036854775807:=by unfold maxLen;omega
 refine S.bpOk b st ps fun hok=>?_;refine ZY 8 ?_;refine ZY 4 ?_;refine Zl (fun q ρ' Γ'=>∃e:Nat,q=st.js.length-e∧e≤st.js.length∧(st.js.take e).any lvB=false∧ρ'=[(0,s.v),(1,.func (.func 81) #[] #[]),(7,.int .i64 (s.n:Int)),(8,.int .i64 (e:Int))]∧Γ'=own s 86 1 (pts ps st.js)::BP b st ps::Γ) (m:=_) (⟨0,rfl,by omega,rfl,rfl,rfl⟩) ?_;rintro q ρ' Γ' ⟨e,hq,he,hno,rfl,rfl⟩;refine ZY 5 ?_
 refine Zj ef (fun h1=>?_) (fun h1=>?_)
 ·refine S.ownSome s (by omega) fun ib io hia _ _ _=>?_;obtain⟨x,hx⟩:=getE (show e<st.js.length by omega);have htk:st.js.take (e+1)=st.js.take e++[x]:=by rw[List.take_add_one,hx];rfl
  refine ZY 8 ?_;refine ZY 5 ?_;refine Zv (Zx (e) ef (hia) ef (by omega)) ?_;refine Zv (Zo (s) (e) ef (hia) (by rw[List.getElem?_map,hx];rfl)) ?_;refine Zp (S.callC (fs:=[]) (cs:=[]) (vs:=[_]) Eo.h rfl ⟨rfl,trivial⟩ (pre1_S b st ps x (getJ_mem hok.srt (List.mem_of_getElem? hx))) rfl ?_);rintro v Θ ⟨rfl,rfl⟩;refine Zy ?_
  refine Zi ef (fun h2=>?_) (fun h2=>?_)
  ·refine ZY 6 ?_;exact Zf ef Zq (⟨⟨(e:Int),rfl,fun _=>List.any_eq_true.2 ⟨x,List.mem_of_getElem? hx,h2⟩,fun _=>by omega⟩,rfl⟩)
  ·have hno2:(st.js.take (e+1)).any lvB=false:=by rw[htk,List.any_append,hno];simp only[List.any_cons,List.any_nil,Bool.or_false,Bool.false_or];exact h2
   refine ZY 2 ?_;refine Zv (Za ef ef) ?_;refine ZY 2 ?_;exact ZX (q-1) (⟨e+1,by omega,by omega,hno2,rfl,rfl⟩) (by omega)
 ·rw[show e=st.js.length by omega,List.take_length]at hno;refine ZY 6 ?_;exact Zf ef Zq (⟨⟨-1,rfl,fun h=>absurd h (by decide),fun h=>by rw[hno]at h;cases h⟩,rfl⟩)
theorem contJ_S (b:Nat) (st:Br) (ps:Nat→Nat) (s:SV) (hsn:s.n=st.js.length):Spec Tryz.prog 80 [s.v,.func (.func 81) #[] #[]] [own s 86 1 (pts ps st.js),BP b st ps] fun Γ v Θ=>
  v=.bool (st.js.any lvB)∧Θ=own s 86 1 (pts ps st.js)::BP b st ps::Γ:=by
 refine Zbd Tryz.func80 rfl Tryz.ntmps80 fun w0 Γ=>Zsh ?_;refine ZY 8 ?_;refine Zp (Zc1 Ze (idxJ_S b st ps s hsn) ?_);rintro v Θ ⟨⟨z,rfl,hz⟩,rfl⟩;refine ZY 4 ?_;exact Zf ef Zq (⟨by show Value.bool (decide (0≤z))=_;congr 1;rw[Bool.eq_iff_iff,decide_eq_true_iff];exact hz,rfl⟩)
abbrev itOf (x:Bj):PR.It:=⟨x.id,x.tier,0⟩
abbrev quB (x:Bj):Bool:=decide (x.state=0)&&x.drops.isNone
def wUp (l:List Bj):PR.HSt:=l.foldl (fun h x=>(PR.pushR (itOf x) h).2) (some [])
theorem waitQ_eq (st:Br):waitQ st=PR.stL (wUp (st.js.filter quB)):=rfl
theorem wUp_snoc (l:List Bj) (x:Bj):wUp (l++[x])=(PR.pushR (itOf x) (wUp l)).2:=by rw[wUp,List.foldl_append];rfl
theorem wUp_mem (l:List Bj) (hl:JsOk l):∃q,wUp l=some q∧q.Perm (l.map itOf):=by
 have key:∀(l m:List Bj) (q:List PR.It),JsOk (m++l)→q.Perm (m.map itOf)→∃q',l.foldl (fun h x=>(PR.pushR (itOf x) h).2) (some q)=some q'∧q'.Perm ((m++l).map itOf):=by
  intro l;induction l with
  | nil=>exact fun m q _ hq=>⟨q,rfl,by rw[List.append_nil];exact hq⟩
  | cons x l ih=>
   intro m q hs hq
   have hnot:PR.hasL (x.id:Int) q=false:=by
    unfold PR.hasL;rw[List.any_eq_false];intro y hy;obtain⟨z,hz,e⟩:=List.mem_map.1 (hq.mem_iff.1 hy);have:=(List.pairwise_append.1 hs).2.2 z hz x (List.mem_cons_self ..);subst e;simp only[decide_eq_true_eq];omega
   have hpush:(PR.pushR (itOf x) (some q)).2=some (PR.ins (itOf x) q):=by simp only[PR.pushR,hnot];rfl
   have h2:(PR.ins (itOf x) q).Perm ((m++[x]).map itOf):=by
    refine(PR.ins_perm _ _).trans ?_;rw[List.map_append];exact(hq.cons _).trans (List.perm_append_singleton _ _).symm
   have:=ih (m++[x]) _ (by rw[List.append_assoc];exact hs) h2;rw[List.append_assoc]at this;rw[List.foldl_cons,hpush];exact this
 exact key l [] [] hl (List.Perm.refl _)
theorem waitQ_perm {st:Br} (h:JsOk st.js):(waitQ st).Perm ((st.js.filter quB).map itOf):=by
 obtain⟨q,h1,h2⟩:=wUp_mem (st.js.filter quB) (h.filter _);rw[waitQ_eq,h1];exact h2
theorem mem_waitR {st:Br} (h:JsOk st.js) {id:Nat} (hi:id∈waitR st):∃x,getJ st.js id=some x∧quB x=true:=by
 obtain⟨y,hy,e⟩:=List.mem_map.1 hi;obtain⟨x,hx,e2⟩:=List.mem_map.1 ((waitQ_perm h).mem_iff.1 hy);obtain⟨h1,h2⟩:=List.mem_filter.1 hx;subst e2;simp only[Int.toNat_natCast]at e;subst e;exact⟨x,getJ_mem h h1,h2⟩
theorem waitR_len {st:Br} (h:JsOk st.js):(waitR st).length≤st.js.length:=by
 rw[waitR,List.length_map,(waitQ_perm h).length_eq,List.length_map];exact List.length_filter_le _ _
theorem waitR_nodup {st:Br} (h:JsOk st.js):(waitR st).Nodup:=by
 have h1:(waitR st).Perm ((st.js.filter quB).map (·.id)):=by
  have:=(waitQ_perm h).map fun x:PR.It=>x.id.toNat;rw[List.map_map]at this;exact this
 refine h1.nodup_iff.2 (List.pairwise_map.2 ((h.filter _).imp fun h=>?_));omega
abbrev wps (ps:Nat→Nat) (l:List Nat):List Value:=l.map fun id=>pt (ps id)
theorem lenR_wUp {l:List Bj} (h:JsOk l):PR.lenR (wUp l)=l.length:=by
 obtain⟨q,h1,h2⟩:=wUp_mem l h;rw[h1];show q.length=_;rw[h2.length_eq,List.length_map]
set_option maxHeartbeats 1000000 in
theorem waiting_S (b:Nat) (st:Br) (ps:Nat→Nat):Spec Tryz.prog 75 [pt b] [BP b st ps] fun Γ v Θ=>∃u:SV,v=u.v∧u.n=(waitR st).length∧Θ=own u 86 1 (wps ps (waitR st))::BP b st ps::Γ:=by
 refine Spec.bpOk fun hok=>?_;have hfew:=hok.few;refine Zbd Tryz.func75 rfl Tryz.ntmps75 fun w0 Γ=>Zsh ?_;refine ZY 6 ?_;refine Zp (Zc1 Ze (PR.HNew_S) ?_);rintro v Θ ⟨pa,rfl,rfl⟩;refine ZY 6 ?_;refine Zp (Zc1 Ze (all_S b st ps) ?_);rintro v Θ ⟨jv,rfl,hjv,rfl⟩;refine S.ownLen jv fun hl1 hl2 hl3=>?_;have hmx:maxLen≤9223372036854775807:=by unfold maxLen;omega
 refine ZY 4 ?_;refine Zl (fun fz ρ' Γ'=>∃(e:Nat) (h:PR.HSt),fz=st.js.length-e∧e≤st.js.length∧h=wUp ((st.js.take e).filter quB)∧ρ'=[(0,pt b),(3,.pointer pa),(11,jv.v),(12,.int .i64 (jv.n:Int)),(13,.int .i64 (e:Int))]∧Γ'=own jv 86 1 (pts ps st.js)::PR.HI pa h::BP b st ps::Γ) (m:=_) (⟨0,some [],rfl,by omega,rfl,rfl,rfl⟩) ?_;rintro fz ρ' Γ' ⟨e,h,hfz,he,hh,rfl,rfl⟩;refine ZY 5 ?_
 refine Zj ef (fun h1=>?_) (fun h1=>?_)
 ·refine S.ownSome jv (by omega) fun sb so hsa _ _ _=>?_;obtain⟨x,hx⟩:=getE (show e<st.js.length by omega);have hgx:getJ st.js x.id=some x:=getJ_mem hok.srt (List.mem_of_getElem? hx);have hjx:=hok.at_ hgx;have hsn:=fun v (hv:quB x=v)=>fsnoc (p:=quB) hx v hv;refine S.bjOpen b st ps x hgx fun ub jb mb ov iv dv mv sb l i av lb db rb qb hF hi hset hrm hJ=>?_;have hdn:=isNone_of hJ.d;refine ZY 5 ?_;refine Zv (Zx (e) ef (hsa) ef (by omega)) ?_;refine Zv (Zo (jv) (e) ef (hsa) (by rw[List.getElem?_map,hx];rfl)) ?_;refine ZY 8 ?_;refine ZY 3 ?_
  refine Zb 23 ef (fun hg5_6=>?_) (fun hg5_6=>?_)
  ·refine ZY 4 ?_;refine Zvg ef ef ef (q_eqMN Tryz.underlying81 rfl rfl) ?_;refine ZY 2 ?_
   refine Zi ef (fun h2=>?_) (fun h2=>?_)
   ·have hh2:(PR.pushR (itOf x) h).2=wUp ((st.js.take (e+1)).filter quB):=by rw[hsn true (by rw[quB,decide_eq_true (show x.state=0 by omega),←hdn,h2];rfl)];simp only[if_true];rw[wUp_snoc,hh]
    have hlh:PR.lenR h≤999:=by
     rw[hh,lenR_wUp ((hok.srt.sublist (List.take_sublist _ _)).filter _)];have:=List.length_filter_le quB (st.js.take e);rw[List.length_take]at this;omega
    refine Zd ([blk (ps x.id) 90 (bjC x av lb db rb qb).toArray]) [] (Zra 0 12) ?_;refine ZY 8 ?_;refine ZY 3 ?_;refine Zw ef (q_build (pvs:=[(_,_),(_,_)]) [_,_,_] Tryz.z183.h Tryz.p183.h ⟨⟨rfl,rfl⟩,⟨rfl,rfl⟩,trivial⟩ rfl) ?_;refine Z1 (i:=12) ef ef ?_;refine  (Zcp Ze (PR.HPush_S pa h (itOf x) hlh) ?_);refine Zk [] ?_;refine ZD ?_;refine Zy ?_;refine S.bjClose b st ps ub jb mb ov iv dv mv sb l i x av lb db rb qb hi rfl (hset x rfl) (hF.set hjx) hJ ?_;rw[set_self hok hgx];refine Zv (Za ef ef) ?_;refine ZY 2 ?_;first | exact ZX (fz-1) ⟨e+1,_,by omega,by omega,hh2,rfl,rfl⟩ (by omega) | exact ZX (fz-1) ⟨e+1,(PR.pushR (itOf x) h).2,by omega,by omega,hh2,rfl,rfl⟩ (by omega) | exact ZX (fz-1) ⟨e+1,h,by omega,by omega,hh2,rfl,rfl⟩ (by omega)
   ·have hh2:h=wUp ((st.js.take (e+1)).filter quB):=by first | exact hh2 | (rw[hsn false (by rw[quB,←hdn,h2,Bool.and_false])];simpa using hh)
    refine ZY 2 ?_;refine S.bjClose b st ps ub jb mb ov iv dv mv sb l i x av lb db rb qb hi rfl (hset x rfl) (hF.set hjx) hJ ?_;rw[set_self hok hgx];refine Zv (Za ef ef) ?_;refine ZY 2 ?_;first | exact ZX (fz-1) ⟨e+1,_,by omega,by omega,hh2,rfl,rfl⟩ (by omega) | exact ZX (fz-1) ⟨e+1,(PR.pushR (itOf x) h).2,by omega,by omega,hh2,rfl,rfl⟩ (by omega) | exact ZX (fz-1) ⟨e+1,h,by omega,by omega,hh2,rfl,rfl⟩ (by omega)
  ·have hh2:h=wUp ((st.js.take (e+1)).filter quB):=by rw[hsn false (by rw[quB,decide_eq_false (show ¬x.state=0 by omega)];rfl)];simpa using hh
   refine ZY 8 ?_;refine ZY 2 ?_;refine S.bjClose b st ps ub jb mb ov iv dv mv sb l i x av lb db rb qb hi rfl (hset x rfl) (hF.set hjx) hJ ?_;rw[set_self hok hgx];refine Zv (Za ef ef) ?_;refine ZY 2 ?_;first | exact ZX (fz-1) ⟨e+1,_,by omega,by omega,hh2,rfl,rfl⟩ (by omega) | exact ZX (fz-1) ⟨e+1,(PR.pushR (itOf x) h).2,by omega,by omega,hh2,rfl,rfl⟩ (by omega) | exact ZX (fz-1) ⟨e+1,h,by omega,by omega,hh2,rfl,rfl⟩ (by omega)
 ·rw[show st.js.take e=st.js by rw[show e=st.js.length by omega,List.take_length]]at hh;have hq:waitQ st=PR.stL h:=by rw[hh];rfl
  have hqp:=waitQ_perm hok.srt;have hql:=waitR_len hok.srt;have hwl:(waitR st).length=(waitQ st).length:=List.length_map ..;refine ZY 3 ?_;refine S.ent (show Ent _ (own SV.nil 86 1 (wps ps [])::_) from Ent.ownNil 86 1) ?_;refine ZY 6 ?_;refine Zp (Zc1 Ze (PR.List_S pa h (by rw[hh,lenR_wUp (hok.srt.filter _)];exact Nat.le_trans (List.length_filter_le _ _) hfew)) ?_);rintro v Θ ⟨u,rfl,rfl⟩;rw[←hq];refine S.ownLen u fun hu1 hu2 hu3=>?_;rw[flat_length PR.itC_len]at hu1;refine ZY 4 ?_;refine Zl (fun fz ρ' Γ'=>∃(e:Nat) (us:List Nat) (o:SV),fz=(waitQ st).length-e∧e≤(waitQ st).length∧us=(waitR st).take e∧o.n=e∧ρ'=[(0,pt b),(6,o.v),(45,u.v),(46,.int .i64 (u.n:Int)),(47,.int .i64 (e:Int))]∧Γ'=own o 86 1 (wps ps us)::own u 183 3 ((waitQ st).flatMap PR.itC)::BP b st ps::Γ) (m:=_) (⟨0,[],SV.nil,rfl,by omega,rfl,rfl,rfl,rfl⟩) ?_;rintro fz ρ' Γ' ⟨e,us,o,hfz,he,hus,hon,rfl,rfl⟩;refine ZY 5 ?_
  refine Zj ef (fun h3=>?_) (fun h3=>?_)
  ·refine S.ownSome u (by omega) fun sb so hsa _ _ _=>?_;obtain⟨y,hy⟩:=getE (show e<(waitQ st).length by omega);obtain⟨x,hx,hxe⟩:=List.mem_map.1 (hqp.mem_iff.1 (List.mem_of_getElem? hy));subst hxe;have hwr:(waitR st)[e]?=some x.id:=by rw[waitR,List.getElem?_map,hy];rfl
   have hgx:getJ st.js x.id=some x:=getJ_mem hok.srt (List.mem_filter.1 hx).1;refine S.bpOpen b st ps fun ub jb mb ov iv dv mv sb l hF=>?_;have hlk:alGet (x.id:Int) l=some (pt (ps x.id)):=by rw[jE_get hok.srt hF.perm,hgx];rfl
   refine ZY 5 ?_;refine Zv (Zx (e) ef (hsa) ef (by omega)) ?_;refine Zv (q_loadOwS (u) (e*3) [_,_,_] Eo.h rfl hsa (by first | rfl | exact Nat.add_assoc _ _ _ | omega) rfl (flat_seg (enc:=PR.itC) (sz:=3) (fun _=>rfl) hy)) ?_;refine Zp (S.alloc Tryz.z183.h rfl ?_);intro b8;refine Zp (Zs ef ef (cs':=[_,_,_]) ef ?_);refine Zy ?_;refine Zd ([blk b8 183 (PR.itC (itOf x)).toArray,blk b 84 (bC st ub jb mb ov iv dv mv sb).toArray,mapL jb .u32 l]) [9] (Zra 0 8) ?_;refine ZY 7 ?_;refine Zw ef (q_lookup1 (pt (ps x.id)) Tryz.underlying82 Tryz.underlying31 Tryz.zv86.h rfl rfl rfl (by rw[hlk];rfl)) ?_;refine Z1 (i:=8) ef ef ?_;refine(S.buildSlice (pvs:=[(_,_)]) [_] Tryz.underlying99 Tryz.inf86.h rfl rfl ⟨⟨rfl,rfl⟩,trivial⟩ rfl rfl ?_);intro b59;refine Zk [] ?_;refine Z1 (i:=9) ef ef ?_;refine(S.appendOw (s:=o) (1) (wps ps [x.id]) Tryz.underlying99 Tryz.inf86.h rfl rfl rfl (blk_slAt (b:=b59) rfl (by unfold maxLen;omega)) (by first | rfl | exact allOne_bcells _) (⟨by omega,by omega⟩) rfl ?_);intro o2 ho2;refine ZL ([]) [10] ?_;refine Zy ?_;refine ZD ?_;refine Zy ?_;rw[show wps ps us++wps ps [x.id]=wps ps (us++[x.id]) from List.map_append.symm];refine S.bpClose b st ps ub jb mb ov iv dv mv sb l hF ?_;refine Zv (Za ef ef) ?_;refine ZY 2 ?_;exact ZX (fz-1) (⟨e+1,us++[x.id],o2,by omega,by omega,by rw[List.take_add_one,hwr,hus];rfl,by omega,rfl,rfl⟩) (by omega)
  ·rw[show (waitR st).take e=waitR st by rw[show e=(waitR st).length by omega,List.take_length]]at hus;refine ZY 7 ?_;subst hus;exact Zf ef Zq (⟨o,rfl,by omega,rfl⟩)
section
variable {P:Program} {n:Nat} {ρ:Env} {Γ Δ:List Assn} {ty:TypeId} {pos:String} {af:Array Edge} {gd:Option (Nat×Bool)} {ds:Option Tmp}
theorem q_loadBj (b:Nat) (st:Br) (ps:Nat→Nat) {x:Bj} (hx:getJ st.js x.id=some x) [p:Pick (BP b st ps) Γ Δ] {t o:Nat} {y:Operand} {v:Value} (ht:atomT P t=true) (hy:ev ρ y=some (.pointer (some ⟨ps x.id,o,none⟩))) (hv:∀av lb db rb sb,lg (bjC x av lb db rb sb) o=some v) :
  Qv P n ρ Γ ⟨ds,.load t y,ty,pos,af,gd⟩ v:=fun a w ha hs=>
 (S.bjOpen (n:=n) (w0:=(⟨w⟩:WM false)) (φ:=fun a w=>(execOp a.eval ⟨ds,.load t y,ty,pos,af,gd⟩).run P w=.ok (.value v) w) b st ps x hx fun ub jb mb ov iv dv mv sb l i av lb db rb qb _ _ _ _ _=>
  fun a w ha hs _=>q_load ht hy (by simpa using hv av lb db rb qb) a w ha hs) a w ha hs (Ext.refl _)
end
abbrev lodY (x:Bj) (ns:List Nat):Bj:={x with at_:=ns,loaded:=some [],state:=1}
theorem JOk.lodY {N:Nat} {x:Bj} (h:JOk N x) {ns:List Nat} (h1:ns.Pairwise (· < ·)) (h2:∀i∈ns,i<N) (hs:x.sav=none):JOk N (lodY x ns):=⟨h.id1,h.id2,h.tier,h.k1,h.kn,h.w,h.cr,h.wk,h1,h2,h.drop,fun d hd=>(by cases hd;exact List.nodup_nil),h.ran,fun _=>rfl,fun s h9=>by
 have h9:x.sav=some s:=h9;rw[hs]at h9;cases h9⟩
theorem putR_NR (m:Mx) (j:Nat) (z:Int) (l:List Int):(putR m j z l).2.N=m.N∧(putR m j z l).2.R=m.R∧(putR m j z l).2.up=m.up:=by
 unfold putR
 split
 ·exact⟨rfl,rfl,rfl⟩
 split
 ·exact⟨rfl,rfl,rfl⟩
 split <;> exact⟨rfl,rfl,rfl⟩
theorem putR_zero {m:Mx} {j:Nat} {z:Int} {l:List Int} (h:(putR m j z l).1=0):okUp m l l.length=true∧0<l.length∧look m.js j=none∧(putR m j z l).2=m.add ⟨j,z.toNat,ofL (nats l)⟩:=by
 unfold putR at h ⊢
 split at h
 ·cases h
 rename_i h1;have h1:(putOk m j z l&&okUp m l l.length)=true:=by simpa using h1
 split at h
 ·cases h
 rename_i h2
 split at h
 ·cases h
 rename_i h3;rw[if_neg (by rw[h1];decide),if_neg h2,if_neg h3];rw[Bool.and_eq_true,putOk,Bool.and_eq_true,Bool.and_eq_true,decide_eq_true_eq,decide_eq_true_eq]at h1;exact⟨h1.2,by omega,by cases hl:look m.js j with | none=>rfl | some x=>rw[hl]at h2;simp at h2,rfl⟩
theorem BrOk.mset2 {st:Br} (h:BrOk st) {m:Mx} (hm:MxOk m) (h1:m.N=st.m.N) (h2:m.R=st.m.R):BrOk {st with m:=m}:=⟨h2.trans h.R,h1.trans h.N,hm,h.srt,fun x hx=>h.job x hx,h.few,h.q1,h.q2,h.g1,h.g2,h.now,h.fin,h.mem,h.stp⟩
theorem loadR_no {st:Br} {x:Bj} {s:PL.St} (h:(putR st.m x.id s.row s.nodes).1≠0):loadR st x s={st with m:=(putR st.m x.id s.row s.nodes).2}:=by rw[loadR,if_pos h]
theorem loadR_yes {st:Br} {x:Bj} {s:PL.St} (h:¬(putR st.m x.id s.row s.nodes).1≠0):loadR st x s=Br.set {st with m:=(putR st.m x.id s.row s.nodes).2,orders:=st.orders++loadOrd x (nats s.nodes)} (lodY x (nats s.nodes)):=by rw[loadR,if_neg h]
theorem loadR_ok {st:Br} (h:BrOk st) {x:Bj} {s:PL.St} (hx:JOk st.nodes x) (hs:x.sav=none):BrOk (loadR st x s):=by
 have hm:=putR_ok h.mok hx.id2 s.row s.nodes;obtain⟨n1,n2,_⟩:=putR_NR st.m x.id s.row s.nodes
 by_cases hp:(putR st.m x.id s.row s.nodes).1≠0
 ·rw[loadR_no hp];exact h.mset2 hm n1 n2
 ·rw[loadR_yes hp];obtain⟨q1,q2,q3,q4⟩:=putR_zero (Classical.byContradiction hp);obtain⟨r1,r2⟩:=okUp_rise q1;exact((h.mset2 hm n1 n2).oset _).set (x:=BN.lodY x (nats s.nodes)) (hx.lodY r1 (fun i hi=>by rw[←h.N];exact r2 i hi) hs)
theorem load_oth (st:Br) {x:Bj} (s:PL.St) {id:Nat} (h:id≠x.id):getJ (loadR st x s).js id=getJ st.js id:=by
 by_cases hp:(putR st.m x.id s.row s.nodes).1≠0
 ·rw[loadR_no hp]
 ·rw[loadR_yes hp];exact set_oth {st with m:=(putR st.m x.id s.row s.nodes).2,orders:=st.orders++loadOrd x (nats s.nodes)} (x:=lodY x (nats s.nodes)) h
theorem loadOrd_len (x:Bj) (ns:List Nat):(loadOrd x ns).length=ns.length:=by simp[loadOrd]
theorem riseN_len {l:List Nat} (h:l.Pairwise (· < ·)) {N:Nat} (h2:∀i∈l,i<N):l.length≤N:=nodup_lt (h.imp fun h e=>by omega) h2
theorem load_ord {st:Br} (h:BrOk st) (x:Bj) (s:PL.St):(loadR st x s).orders.length≤st.orders.length+16:=by
 by_cases hp:(putR st.m x.id s.row s.nodes).1≠0
 ·rw[loadR_no hp];exact Nat.le_add_right ..
 ·rw[loadR_yes hp];obtain⟨q1,q2,q3,q4⟩:=putR_zero (Classical.byContradiction hp);obtain⟨r1,r2⟩:=okUp_rise q1;have:=riseN_len r1 r2;have:=h.mok.N16;show (st.orders++loadOrd x (nats s.nodes)).length≤_;rw[List.length_append,loadOrd_len];omega
theorem nats_ints {m:Mx} {l:List Int} (h:okUp m l l.length=true):ints l=nds (nats l):=by
 show l.map (Value.int .i64)=(l.map Int.toNat).map nv;rw[List.map_map];refine List.map_congr_left fun z hz=>?_;obtain⟨i,hi,e⟩:=List.getElem_of_mem hz;have h1:=nodeB_iff.1 (okUp_at h (i:=i) hi).1;simp only[List.getD,List.getElem?_eq_getElem hi,Option.getD_some,e]at h1;show Value.int .i64 z=Value.int .i64 ((z.toNat:Nat):Int)
 congr 1
 omega
theorem loadOrd_take (x:Bj) {ns:List Nat} {e y:Nat} (h:ns[e]?=some y):loadOrd x (ns.take (e+1))=loadOrd x (ns.take e)++[(y,{kind:=3,job:=x.id,ver:=x.ver,rank:=e,credit:=x.credit})]:=by
 have hl:e<ns.length:=(List.getElem?_eq_some_iff.1 h).1;rw[List.take_add_one,h];unfold loadOrd;rw[List.mapIdx_append,List.length_take,Nat.min_eq_left (by omega)];simp
set_option maxHeartbeats 1000000 in
theorem load_S (b:Nat) (st:Br) (ps:Nat→Nat) (x:Bj) (s:PL.St) (sv:SV) (R:Assn) (hx:getJ st.js x.id=some x) (hs:x.sav=none) (hsn:sv.n=s.nodes.length) (hsl:s.nodes.length≤1000) (hR:RdS R sv sv.n 1 (ints s.nodes)) (hl:st.orders.length≤900000) :
  Spec Tryz.prog 79 [pt b,pt (ps x.id),.agg (PL.stC sv s).toArray] [BP b st ps,R] fun Γ _ Θ=>Θ=BP b (loadR st x s) ps::R::Γ:=by
 refine Spec.bpOk fun hok=>?_;have hjx:=hok.at_ hx;have hN:=hok.N16;have hmok:=putR_ok hok.mok hjx.id2 s.row s.nodes;obtain⟨n1,n2,_⟩:=putR_NR st.m x.id s.row s.nodes;have hokM:=hok.mset2 hmok n1 n2;refine Zbd Tryz.func79 rfl Tryz.ntmps79 fun w0 Γ=>Zsh ?_;refine S.bjOpen b st ps x hx fun ub jb mb ov iv dv mv sb l i av lb db rb qb hF hi hset hrm hJ=>?_;refine ZY 2 ?_;refine Zp (S.box (cs:=[_,_,_,_]) rfl rfl rfl ?_);intro b5;refine ZY 3 ?_;refine Zd ([blk (ps x.id) 90 (bjC x av lb db rb qb).toArray,blk b 84 (bC st ub jb mb ov iv dv mv sb).toArray,blk b5 146 (PL.stC sv s).toArray]) [] (Zra 0 13) ?_;refine ZY 8 ?_;refine ZY 5 ?_;refine Z1 (i:=13) ef ef ?_;refine  (Zcp Ze (Go.Proofs.YtdackcibfkkniaaGreatDoor.Put_S mb st.m x.id s.row R sv s.nodes hsn hR hjx.id2) ?_);refine Zk [14] ?_;refine Zy ?_;refine ZD ?_
 refine Zj ef (fun h1=>?_) (fun h1=>?_)
 ·have hg:=loadR_no (st:=st) (x:=x) (s:=s) h1;refine Zy ?_;refine S.sub (jX (ps x.id) x av lb db rb qb (bR b {st with m:=(putR st.m x.id s.row s.nodes).2} ps ub jb mb ov iv dv mv sb l i (R::Γ))) ?_;refine S.bjClose b {st with m:=(putR st.m x.id s.row s.nodes).2} ps ub jb mb ov iv dv mv sb l i x av lb db rb qb hi rfl (hset x rfl) (BF.set (st:={st with m:=(putR st.m x.id s.row s.nodes).2}) ⟨hokM,hF.perm,hF.on,hF.im,hF.dn,hF.mn,hF.sn⟩ hjx) hJ ?_;rw[set_self (st:={st with m:=(putR st.m x.id s.row s.nodes).2}) hokM hx];exact Zf ef Zq (by rw[hg])
 ·have hg:=loadR_yes (st:=st) (x:=x) (s:=s) h1;obtain⟨q1,q2,q3,q4⟩:=putR_zero (Classical.byContradiction h1);obtain⟨r1,r2⟩:=okUp_rise q1;have hni:=nats_ints q1;have hnl:(nats s.nodes).length=s.nodes.length:=List.length_map ..;have hrl:=riseN_len r1 r2;have hM16:=hok.mok.N16;obtain⟨x1,hx1⟩:∃x1:Bj,x1=lodY x (nats s.nodes):=⟨_,rfl⟩;have hj1:JOk st.nodes x1:=by rw[hx1];exact hjx.lodY r1 (fun i hi=>by rw[←hok.N];exact r2 i hi) hs
  have hid:x1.id=x.id:=by rw[hx1]
  refine ZY 8 ?_;refine Zp (Zc1 Ze (PL.Clone_S R sv s.nodes hsl (by rw[←hsn];exact hR)) ?_);rintro v Θ ⟨u,rfl,rfl⟩;rw[hni];refine S.ownLen u fun hu1 hu2 hu3=>?_;rw[List.length_map]at hu1;refine Zp (S.makeMap .i64 rfl ?_);intro b29;refine ZY 8 ?_;refine ZY 5 ?_;refine S.blkAs (ps x.id) (bjC x1 u (some b29) db rb qb).toArray (by rw[hx1];rfl) ?_;refine ZY 8 ?_;refine Zl (fun fz ρ' Γ'=>∃(e:Nat) (os:List Od) (ov2:SV),fz=(nats s.nodes).length-e∧e≤(nats s.nodes).length∧os=st.orders++loadOrd x ((nats s.nodes).take e)∧ov2.n=os.length∧os.length=st.orders.length+e∧ρ'=[(0,pt b),(1,pt (ps x.id)),(40,u.v),(41,.int .i64 (u.n:Int)),(42,.int .i64 (e:Int))] ∧   Γ'=blk (ps x.id) 90 (bjC x1 u (some b29) db rb qb).toArray::mapL b29 .i64 []::own u 3 1 (nds (nats s.nodes))::R::optS db x.drops::optR rb x.ran::savB qb x.id x.sav::blk b 84 (bC st ub jb mb ov2 iv dv mv sb).toArray::mapL ub .i64 (setE st.up)::mapL jb .u32 l::jT ps st.js i::jD ps st.js i::MI mb (putR st.m x.id s.row s.nodes).2::own ov2 97 14 (os.flatMap odC)::imgs iv st.images::own dv 31 1 (idsV st.done)::own mv 31 1 (idsV st.members)::optS sb st.stops::Γ) (m:=_) (⟨0,st.orders,ov,rfl,by omega,by simp[loadOrd],hF.on,rfl,rfl,rfl⟩) ?_;rintro fz ρ' Γ' ⟨e,os,ov2,hfz,he,hos,hov2,hol,rfl,rfl⟩;refine ZY 5 ?_
  refine Zj ef (fun h2=>?_) (fun h2=>?_)
  ·refine S.ownSome u (by omega) fun ab ao haa _ _ _=>?_;obtain⟨y,hy⟩:=getE (show e<(nats s.nodes).length by omega);have hos2:os++[((y,{kind:=3,job:=x.id,ver:=x.ver,rank:=e,credit:=x.credit}):Od)]=st.orders++loadOrd x ((nats s.nodes).take (e+1)):=by rw[hos,loadOrd_take x hy,List.append_assoc]
   have e1:x1.id=x.id∧x1.ver=x.ver∧x1.credit=x.credit:=by rw[hx1];exact⟨rfl,rfl,rfl⟩
   refine ZY 6 ?_;refine Zv (Zx (e) ef (haa) ef (by omega)) ?_;refine Zv (Zo (u) (e) ef (haa) (by rw[List.getElem?_map,hy];rfl)) ?_;refine ZY 3 ?_;refine Zd ([blk (ps x.id) 90 (bjC x1 u (some b29) db rb qb).toArray]) [] (Zra 0 19) ?_;refine ZY 8 ?_;refine ZY 4 ?_;refine Zw ef (q_conv Tryz.it5.h (by rw[Tryz.underlying3];rfl) rfl (inU8 (by omega) (by omega))) ?_;refine ZY 5 ?_;refine Zw ef (q_build (pvs:=[(_,_),(_,_),(_,_),(_,_),(_,_)]) [_,_,_,_,_,_,_,_,_,_,_,_,_] Tryz.z72.h Tryz.p72.h ⟨⟨rfl,rfl⟩,⟨rfl,rfl⟩,⟨rfl,rfl⟩,⟨rfl,rfl⟩,⟨rfl,rfl⟩,trivial⟩ rfl) ?_;refine Z1 (i:=19) ef ef ?_;rw[e1.1,e1.2.1,e1.2.2];refine  (Zc1 Ze (order_S b st ub jb mb ov2 iv dv mv sb y {kind:=3,job:=x.id,ver:=x.ver,rank:=e,credit:=x.credit} os hov2 (by omega)) ?_);rintro v Θ ⟨ov3,hov3,rfl⟩;refine Zk [] ?_;refine ZD ?_;refine Zy ?_;refine Zv (Za ef ef) ?_;refine ZY 2 ?_;exact ZX (fz-1) (⟨e+1,os++[((y,{kind:=3,job:=x.id,ver:=x.ver,rank:=e,credit:=x.credit}):Od)],ov3,by omega,by omega,hos2,hov3,by rw[List.length_append,List.length_singleton];omega,rfl,rfl⟩) (by omega)
  ·rw[show (nats s.nodes).take e=nats s.nodes by rw[show e=(nats s.nodes).length by omega,List.take_length]]at hos;refine Zy ?_;refine S.conv (mapL b29 .i64 []) (show Ent _ (optS (some b29) (some [])::_) from Ent.opt2 (s:=some []) rfl _) ?_;refine S.sub (jX (ps x.id) x1 u (some b29) db rb qb (bR b {st with m:=(putR st.m x.id s.row s.nodes).2,orders:=os} ps ub jb mb ov2 iv dv mv sb l i (R::Γ))) (e:=by subst hx1;infer_instance) ?_;refine S.bjClose b {st with m:=(putR st.m x.id s.row s.nodes).2,orders:=os} ps ub jb mb ov2 iv dv mv sb l i x1 u (some b29) db rb qb hi hid (hset x1 hid) (BF.set (st:={st with m:=(putR st.m x.id s.row s.nodes).2,orders:=os}) ⟨hokM.oset os,hF.perm,hov2,hF.im,hF.dn,hF.mn,hF.sn⟩ hj1) ⟨by rw[hx1];show u.n=(nats s.nodes).length;omega,by rw[hx1];rfl,by rw[hx1];exact hJ.d,by rw[hx1];exact hJ.r,by rw[hx1];exact hJ.s⟩ ?_;exact Zfn ef Zq (by rw[hg,←hos,←hx1])
theorem S.ownAs {n:Nat} {md:Bool} {w0:WM md} {ρ:Env} {Γ:List Assn} {φ:Act→World→Prop} (s:SV) {e:TypeId} {sz:Nat} {xs:List Value} (xs':List Value) {Δ:List Assn} [h:HasOw Γ s e sz xs Δ] (hx:xs=xs') (k:S n w0 ρ (own s e sz xs'::Δ) φ):S n w0 ρ Γ φ:=S.ent h.ent (by subst hx;exact k)
theorem profC_down {st:Br} {r n:Nat} (h:isUpB st.m n=false):profC st r n=1099511627776:=by simp only[profC];rw[if_neg (by rw[h];simp)]
theorem profC_none {st:Br} {r n:Nat} (h:isUpB st.m n=true) (hg:getJ st.js (atR st.m r n)=none):profC st r n=0:=by simp only[profC];rw[if_pos h,hg]
theorem profC_some {st:Br} {r n:Nat} {x:Bj} (h:isUpB st.m n=true) (hg:getJ st.js (atR st.m r n)=some x):profC st r n=max 1 ((lenR st x:Nat):Int):=by simp only[profC];rw[if_pos h,hg]
abbrev proR (st:Br) (r:Nat):List Int:=(List.range st.nodes).map fun n:Nat=>profC st r n
abbrev proN (st:Br) (r n:Nat):List Int:=(List.range n).map fun n:Nat=>profC st r n
theorem profR_eq (st:Br):profR st=(List.range st.rows).map (proR st):=rfl
def ProOk (st:Br) (r n:Nat) (rs:List PL.RW):Prop:=rs.length=st.rows∧∀(i:Nat) (w:PL.RW),rs[i]?=some w→w.d=if i<r then proR st i else if i=r then proN st r n else []
theorem ProOk.all {st:Br} {rs:List PL.RW} (h:ProOk st st.rows 0 rs):PL.dat rs=profR st:=by
 refine List.ext_getElem? fun i=>?_;rw[profR_eq,List.getElem?_map,List.getElem?_map]
 by_cases hi:i<st.rows
 ·rw[List.getElem?_range hi];obtain⟨w,hw⟩:=getE (show i<rs.length by rw[h.1];exact hi);rw[hw,Option.map_some,Option.map_some,h.2 i w hw,if_pos hi]
 ·rw[List.getElem?_eq_none (by rw[h.1];omega),List.getElem?_eq_none (by rw[List.length_range];omega)];rfl
theorem ProOk.row {st:Br} {r:Nat} {rs:List PL.RW} (h:ProOk st r st.nodes rs):ProOk st (r+1) 0 rs:=⟨h.1,fun i w hw=>by
 rw[h.2 i w hw]
 by_cases h1:i<r
 ·rw[if_pos h1,if_pos (by omega)]
 ·rw[if_neg h1]
  by_cases h2:i=r
  ·subst h2;rw[if_pos rfl,if_pos (by omega)]
  ·rw[if_neg h2,if_neg (by omega)]
   by_cases h3:i=r+1
   ·rw[if_pos h3];rfl
   ·rw[if_neg h3]⟩
theorem ProOk.cell {st:Br} {r n:Nat} {rs:List PL.RW} (h:ProOk st r n rs) {w:PL.RW} (hr:rs[r]?=some w) (v:SV):ProOk st r (n+1) (rs.set r ⟨v,w.d++[profC st r n]⟩):=⟨by rw[List.length_set];exact h.1,fun i u hu=>by
 rw[List.getElem?_set]at hu
 by_cases e:r=i
 ·subst e;rw[if_pos rfl,if_pos (List.getElem?_eq_some_iff.1 hr).1,Option.some.injEq]at hu;rw[←hu,if_neg (Nat.lt_irrefl _),if_pos rfl];show w.d++[profC st r n]=_;rw[h.2 r w hr,if_neg (Nat.lt_irrefl _),if_pos rfl,proN,proN,List.range_succ,List.map_append];rfl
 ·rw[if_neg e]at hu;rw[h.2 i u hu]
  by_cases h1:i<r
  ·rw[if_pos h1,if_pos h1]
  ·rw[if_neg h1,if_neg h1,if_neg (by omega),if_neg (by omega)]⟩
theorem zeroRow_rw (m:Nat):zeroRow [.slice none 0 0] m=(List.replicate m (⟨SV.nil,[]⟩:PL.RW)).flatMap PL.rwC:=by
 induction m with
 | zero=>rfl
 | succ m ih=>rw[List.replicate_succ,List.flatMap_cons,←ih];rfl
theorem allsNilR (m:Nat) (Γ:List Assn):Ent Γ (alls (List.replicate m (⟨SV.nil,[]⟩:PL.RW)) PL.rwB::Γ):=by
 induction m with
 | zero=>exact Ent.allsNil _ _
 | succ m ih=>
  rw[List.replicate_succ];exact(ih.trans (show Ent _ (PL.rwB (⟨SV.nil,[]⟩:PL.RW)::_) from Ent.ownNil 3 1)).trans (Ent.allsCons PL.rwB _ _ _)
theorem rw_set (rs:List PL.RW) (i:Nat) (w:PL.RW):(rs.flatMap PL.rwC).set (i*1) w.v.v=(rs.set i w).flatMap PL.rwC:=by
 have e:∀l:List PL.RW,l.flatMap PL.rwC=l.map fun r=>r.v.v:=fun l=>by
  induction l with
  | nil=>rfl
  | cons x l ih=>rw[List.flatMap_cons,ih];rfl
 rw[e,e,List.map_set,Nat.mul_one]
theorem rw_get {rs:List PL.RW} {i:Nat} {w:PL.RW} (h:rs[i]?=some w):(rs.flatMap PL.rwC)[i]?=some w.v.v:=by
 have e:∀l:List PL.RW,l.flatMap PL.rwC=l.map fun r=>r.v.v:=fun l=>by
  induction l with
  | nil=>rfl
  | cons x l ih=>rw[List.flatMap_cons,ih];rfl
 rw[e,List.getElem?_map,h];rfl
set_option maxHeartbeats 2000000 in
theorem profile_S (b:Nat) (st:Br) (ps:Nat→Nat):Spec Tryz.prog 78 [pt b] [BP b st ps] fun Γ v Θ=>∃(s:SV) (rs:List PL.RW),v=s.v∧PL.dat rs=profR st∧Θ=PL.prof s rs::BP b st ps::Γ:=by
 refine Spec.bpOk fun hok=>?_;have hN:=hok.N16;have hR8:st.rows≤8:=by have:=hok.mok.R8;rw[hok.R]at this;exact this
 refine Zbd Tryz.func78 rfl Tryz.ntmps78 fun w0 Γ=>Zsh ?_;refine S.bpOpen b st ps fun ub jb mb ov iv dv mv sb l hF=>?_;refine ZY 8 ?_;refine ZY 3 ?_;refine Zp (S.makeSlice (st.rows) (st.rows) Tryz.underlying143 Tryz.inf66.h rfl rfl rfl rfl rfl (by omega) (by omega) rfl ?_);intro o ho;refine ZY 5 ?_;refine S.bpClose b st ps ub jb mb ov iv dv mv sb l hF ?_;rw[zeroRow_rw];refine S.ent (allsNilR st.rows _) ?_;refine ZY 5 ?_;refine Zl (fun fz ρ' Γ'=>∃(r:Nat) (rs:List PL.RW),fz=st.rows-r∧r≤st.rows∧ProOk st r 0 rs∧ρ'=[(0,pt b),(3,o.v),(15,.int .i64 (o.n:Int)),(16,.int .i64 (r:Int))]∧Γ'=own o 66 1 (rs.flatMap PL.rwC)::alls rs PL.rwB::BP b st ps::Γ) (m:=_) (⟨0,List.replicate st.rows ⟨SV.nil,[]⟩,rfl,by omega,⟨List.length_replicate ..,fun i w hw=>by obtain⟨_,e⟩:=List.getElem?_eq_some_iff.1 hw;rw[List.getElem_replicate]at e;rw[←e];split;(rename_i h;exact absurd h (Nat.not_lt_zero _));split <;> rfl⟩,rfl,rfl⟩) ?_;rintro fz ρ' Γ' ⟨r,rs,hfz,hr,hpro,rfl,rfl⟩;refine ZY 5 ?_
 refine Zj ef (fun h1=>?_) (fun h1=>?_)
 ·refine S.bpOpen b st ps fun ub jb mb ov iv dv mv sb l hF=>?_;refine ZY 8 ?_;refine ZY 7 ?_;refine S.bpClose b st ps ub jb mb ov iv dv mv sb l hF ?_;refine ZY 3 ?_;refine Zl (fun fy ρ' Γ'=>∃(n:Nat) (rs:List PL.RW),fy=st.nodes-n∧n≤st.nodes∧ProOk st r n rs∧ρ'=[(0,pt b),(3,o.v),(4,.int .i64 (r:Int)),(15,.int .i64 (o.n:Int)),(16,.int .i64 (r:Int)),(23,.int .i64 (st.nodes:Int)),(24,.int .i64 (n:Int))]∧Γ'=own o 66 1 (rs.flatMap PL.rwC)::alls rs PL.rwB::BP b st ps::Γ) (m:=_) (⟨0,rs,rfl,by omega,hpro,rfl,rfl⟩) ?_;rintro fy ρ' Γ' ⟨n,rs,hfy,hn,hpro,rfl,rfl⟩;refine ZY 5 ?_
  refine Zj ef (fun h2=>?_) (fun h2=>?_)
  ·refine S.ownSome o (by omega) fun ib io hia _ _ _=>?_;obtain⟨w,hw⟩:=getE (show r<rs.length by rw[hpro.1];omega);have hcell:=hpro.cell hw;refine S.bpOpen b st ps fun ub jb mb ov iv dv mv sb l hF=>?_;refine ZY 8 ?_;refine ZY 6 ?_
   rcases hgj:getJ st.js (atR st.m r n) with _ | x
   ·have hlk:alGet ((atR st.m r n:Nat):Int) l=none:=by rw[jE_get hok.srt hF.perm,hgj];rfl
    refine Zd ([blk b 84 (bC st ub jb mb ov iv dv mv sb).toArray,mapL jb .u32 l]) [] (Zra 0 10) ?_;refine ZY 8 ?_;refine ZY 2 ?_;refine Z1 (i:=10) ef ef ?_;refine  (Zcp Ze (Go.Proofs.YtdackcibfkkniaaGreatDoor.At_S mb st.m r n) ?_);refine Zk [11,12] ?_;refine Zw ef (q_lookup1 (.pointer none) Tryz.underlying82 Tryz.underlying31 Tryz.zv86.h rfl rfl rfl (by rw[hlk];rfl)) ?_;refine Zy ?_;refine ZD ?_;refine ZY 5 ?_;refine ZF ef ?_;refine ZY 8 ?_;refine Zy ?_;refine Zp (Zcp Ze (Go.Proofs.YtdackcibfkkniaaGreatDoor.IsUp_S mb st.m n) ?_);refine ZY 2 ?_
    refine Zi ef (fun h4=>?_) (fun h4=>?_)
    ·have hpc:profC st r n=1099511627776:=profC_down (by simpa using h4);refine ZY 3 ?_;refine S.conv (alls rs PL.rwB) (Ent.allsAt PL.rwB hw _) ?_;refine S.ownLen w.v fun hw1 hw2 hw3=>?_;rw[List.length_map,hpro.2 r w hw,if_neg (Nat.lt_irrefl _),if_pos rfl,List.length_map,List.length_range]at hw1;refine ZY 5 ?_;refine Zv (Zx (r) ef (hia) ef (by omega)) ?_;refine Zv (Zo (o) (r) ef (hia) (rw_get hw)) ?_;refine Zy ?_;refine Zp (S.buildSlice (pvs:=[(_,_)]) [_] Tryz.underlying66 Tryz.inf3.h rfl rfl ⟨⟨rfl,rfl⟩,trivial⟩ rfl rfl ?_);intro b59;refine Zp (S.appendOw (s:=w.v) (1) (_) Tryz.underlying66 Tryz.inf3.h rfl rfl rfl (blk_slAt (b:=b59) rfl (by unfold maxLen;omega)) (by first | rfl | exact allOne_bcells _) (⟨by omega,by omega⟩) rfl ?_);intro v2 hv2;refine S.ownAs v2 (ints (w.d++[profC st r n])) (by rw[hpc];exact(List.map_append (f:=Value.int .i64) (l₁:=w.d) (l₂:=[_])).symm) ?_;refine Zv (Zx (r) ef (hia) ef (by omega)) ?_;refine Zp (S.storeOw (o) (r*1) Eo.h rfl rfl rfl hia (by first | rfl | exact Nat.add_assoc _ _ _ | omega) (by rw[flat_length PL.rwC_len,hpro.1];omega) (rw_set rs r ⟨v2,w.d++[profC st r n]⟩) ?_);refine ZY 2 ?_;refine S.conv3 (own v2 3 1 (ints (w.d++[profC st r n]))) (alls (rs.take r) PL.rwB) (alls (rs.drop (r+1)) PL.rwB) (Ent.allsBack PL.rwB (x':=⟨v2,w.d++[profC st r n]⟩) hw _) ?_;refine S.bpClose b st ps ub jb mb ov iv dv mv sb l hF ?_;refine Zv (Za ef ef) ?_;refine ZY 2 ?_;exact ZX (fy-1) (⟨n+1,rs.set r ⟨v2,w.d++[profC st r n]⟩,by omega,by omega,hcell v2,rfl,rfl⟩) (by omega)
    ·have hpc:profC st r n=0:=profC_none (by simpa using h4) hgj;refine Zy ?_;refine S.conv (alls rs PL.rwB) (Ent.allsAt PL.rwB hw _) ?_;refine S.ownLen w.v fun hw1 hw2 hw3=>?_;rw[List.length_map,hpro.2 r w hw,if_neg (Nat.lt_irrefl _),if_pos rfl,List.length_map,List.length_range]at hw1;refine ZY 5 ?_;refine Zv (Zx (r) ef (hia) ef (by omega)) ?_;refine Zv (Zo (o) (r) ef (hia) (rw_get hw)) ?_;refine Zy ?_;refine Zp (S.buildSlice (pvs:=[(_,_)]) [_] Tryz.underlying66 Tryz.inf3.h rfl rfl ⟨⟨rfl,rfl⟩,trivial⟩ rfl rfl ?_);intro b59;refine Zp (S.appendOw (s:=w.v) (1) (_) Tryz.underlying66 Tryz.inf3.h rfl rfl rfl (blk_slAt (b:=b59) rfl (by unfold maxLen;omega)) (by first | rfl | exact allOne_bcells _) (⟨by omega,by omega⟩) rfl ?_);intro v2 hv2;refine S.ownAs v2 (ints (w.d++[profC st r n])) (by rw[hpc];exact(List.map_append (f:=Value.int .i64) (l₁:=w.d) (l₂:=[_])).symm) ?_;refine Zv (Zx (r) ef (hia) ef (by omega)) ?_;refine Zp (S.storeOw (o) (r*1) Eo.h rfl rfl rfl hia (by first | rfl | exact Nat.add_assoc _ _ _ | omega) (by rw[flat_length PL.rwC_len,hpro.1];omega) (rw_set rs r ⟨v2,w.d++[profC st r n]⟩) ?_);refine ZY 2 ?_;refine S.conv3 (own v2 3 1 (ints (w.d++[profC st r n]))) (alls (rs.take r) PL.rwB) (alls (rs.drop (r+1)) PL.rwB) (Ent.allsBack PL.rwB (x':=⟨v2,w.d++[profC st r n]⟩) hw _) ?_;refine S.bpClose b st ps ub jb mb ov iv dv mv sb l hF ?_;refine Zv (Za ef ef) ?_;refine ZY 2 ?_;exact ZX (fy-1) (⟨n+1,rs.set r ⟨v2,w.d++[profC st r n]⟩,by omega,by omega,hcell v2,rfl,rfl⟩) (by omega)
   ·obtain⟨_,hxi⟩:=getJ_some hgj;have hx:getJ st.js x.id=some x:=by rw[hxi];exact hgj
    have hlk:alGet ((atR st.m r n:Nat):Int) l=some (pt (ps x.id)):=by rw[jE_get hok.srt hF.perm,hgj];rfl
    have hlen:lenR st x≤80000:=by
     have h1:=(hok.at_ hx).w;exact Nat.mul_le_mul (show x.w-x.credit≤10000 by omega) hR8
    refine Zd ([blk b 84 (bC st ub jb mb ov iv dv mv sb).toArray,mapL jb .u32 l]) [] (Zra 0 10) ?_;refine ZY 8 ?_;refine ZY 2 ?_;refine Z1 (i:=10) ef ef ?_;refine  (Zcp Ze (Go.Proofs.YtdackcibfkkniaaGreatDoor.At_S mb st.m r n) ?_);refine Zk [11,12] ?_;refine Zw ef (q_lookup1 (pt (ps x.id)) Tryz.underlying82 Tryz.underlying31 Tryz.zv86.h rfl rfl rfl (by rw[hlk];rfl)) ?_;refine Zy ?_;refine ZD ?_;refine ZY 5 ?_;refine ZT ef ?_;refine ZY 3 ?_;refine S.bpClose b st ps ub jb mb ov iv dv mv sb l hF ?_;refine Zp (Zcp Ze (length_S b st ps x hx) ?_);obtain⟨ln,hln⟩:∃ln,ln=lenR st x:=⟨_,rfl⟩;rw[←hln]at hlen ⊢;obtain⟨fr,hfr⟩:∃fr:Int,fr=max 1 ((ln:Nat):Int):=⟨_,rfl⟩;refine Zv (q_max (fr) rfl rfl (by omega)) ?_;refine ZY 5 ?_;refine S.bpOpen b st ps fun ub2 jb2 mb2 ov2 iv2 dv2 mv2 sb2 l2 hF2=>?_;refine ZY 5 ?_;refine Zp (Zcp Ze (Go.Proofs.YtdackcibfkkniaaGreatDoor.IsUp_S mb2 st.m n) ?_);refine ZY 2 ?_
    refine Zi ef (fun h4=>?_) (fun h4=>?_)
    ·have hpc:profC st r n=1099511627776:=profC_down (by simpa using h4);refine ZY 3 ?_;refine S.conv (alls rs PL.rwB) (Ent.allsAt PL.rwB hw _) ?_;refine S.ownLen w.v fun hw1 hw2 hw3=>?_;rw[List.length_map,hpro.2 r w hw,if_neg (Nat.lt_irrefl _),if_pos rfl,List.length_map,List.length_range]at hw1;refine ZY 5 ?_;refine Zv (Zx (r) ef (hia) ef (by omega)) ?_;refine Zv (Zo (o) (r) ef (hia) (rw_get hw)) ?_;refine Zy ?_;refine Zp (S.buildSlice (pvs:=[(_,_)]) [_] Tryz.underlying66 Tryz.inf3.h rfl rfl ⟨⟨rfl,rfl⟩,trivial⟩ rfl rfl ?_);intro b59;refine Zp (S.appendOw (s:=w.v) (1) (_) Tryz.underlying66 Tryz.inf3.h rfl rfl rfl (blk_slAt (b:=b59) rfl (by unfold maxLen;omega)) (by first | rfl | exact allOne_bcells _) (⟨by omega,by omega⟩) rfl ?_);intro v2 hv2;refine S.ownAs v2 (ints (w.d++[profC st r n])) (by rw[hpc];exact(List.map_append (f:=Value.int .i64) (l₁:=w.d) (l₂:=[_])).symm) ?_;refine Zv (Zx (r) ef (hia) ef (by omega)) ?_;refine Zp (S.storeOw (o) (r*1) Eo.h rfl rfl rfl hia (by first | rfl | exact Nat.add_assoc _ _ _ | omega) (by rw[flat_length PL.rwC_len,hpro.1];omega) (rw_set rs r ⟨v2,w.d++[profC st r n]⟩) ?_);refine ZY 2 ?_;refine S.conv3 (own v2 3 1 (ints (w.d++[profC st r n]))) (alls (rs.take r) PL.rwB) (alls (rs.drop (r+1)) PL.rwB) (Ent.allsBack PL.rwB (x':=⟨v2,w.d++[profC st r n]⟩) hw _) ?_;refine S.bpClose b st ps ub2 jb2 mb2 ov2 iv2 dv2 mv2 sb2 l2 hF2 ?_;refine Zv (Za ef ef) ?_;refine ZY 2 ?_;exact ZX (fy-1) (⟨n+1,rs.set r ⟨v2,w.d++[profC st r n]⟩,by omega,by omega,hcell v2,rfl,rfl⟩) (by omega)
    ·have hpc:profC st r n=fr:=by rw[hfr,hln];exact profC_some (by simpa using h4) hgj
     refine Zy ?_;refine S.conv (alls rs PL.rwB) (Ent.allsAt PL.rwB hw _) ?_;refine S.ownLen w.v fun hw1 hw2 hw3=>?_;rw[List.length_map,hpro.2 r w hw,if_neg (Nat.lt_irrefl _),if_pos rfl,List.length_map,List.length_range]at hw1;refine ZY 5 ?_;refine Zv (Zx (r) ef (hia) ef (by omega)) ?_;refine Zv (Zo (o) (r) ef (hia) (rw_get hw)) ?_;refine Zy ?_;refine Zp (S.buildSlice (pvs:=[(_,_)]) [_] Tryz.underlying66 Tryz.inf3.h rfl rfl ⟨⟨rfl,rfl⟩,trivial⟩ rfl rfl ?_);intro b59;refine Zp (S.appendOw (s:=w.v) (1) (_) Tryz.underlying66 Tryz.inf3.h rfl rfl rfl (blk_slAt (b:=b59) rfl (by unfold maxLen;omega)) (by first | rfl | exact allOne_bcells _) (⟨by omega,by omega⟩) rfl ?_);intro v2 hv2;refine S.ownAs v2 (ints (w.d++[profC st r n])) (by rw[hpc];exact(List.map_append (f:=Value.int .i64) (l₁:=w.d) (l₂:=[_])).symm) ?_;refine Zv (Zx (r) ef (hia) ef (by omega)) ?_;refine Zp (S.storeOw (o) (r*1) Eo.h rfl rfl rfl hia (by first | rfl | exact Nat.add_assoc _ _ _ | omega) (by rw[flat_length PL.rwC_len,hpro.1];omega) (rw_set rs r ⟨v2,w.d++[profC st r n]⟩) ?_);refine ZY 2 ?_;refine S.conv3 (own v2 3 1 (ints (w.d++[profC st r n]))) (alls (rs.take r) PL.rwB) (alls (rs.drop (r+1)) PL.rwB) (Ent.allsBack PL.rwB (x':=⟨v2,w.d++[profC st r n]⟩) hw _) ?_;refine S.bpClose b st ps ub2 jb2 mb2 ov2 iv2 dv2 mv2 sb2 l2 hF2 ?_;refine Zv (Za ef ef) ?_;refine ZY 2 ?_;exact ZX (fy-1) (⟨n+1,rs.set r ⟨v2,w.d++[profC st r n]⟩,by omega,by omega,hcell v2,rfl,rfl⟩) (by omega)
  ·rw[show n=st.nodes by omega]at hpro;refine ZY 2 ?_;refine Zv (Za ef ef) ?_;refine ZY 2 ?_;exact ZX (fz-1) (⟨r+1,rs,by omega,by omega,hpro.row,rfl,rfl⟩) (by omega)
 ·rw[show r=st.rows by omega]at hpro;refine ZY 7 ?_;refine S.conv2 (own o 66 1 (rs.flatMap PL.rwC)) (alls rs PL.rwB) (PL.Ent.prof o rs _) ?_;exact Zf ef Zq (⟨o,rs,rfl,hpro.all,rfl⟩)
def akO (st:Br) (id:Nat):PL.Ak:=match getJ st.js id with
 | none=>⟨0,0⟩
 | some x=>⟨x.k,lenR st x⟩
theorem asksR_eq (st:Br):asksR st=(waitR st).map (akO st):=rfl
theorem akO_some {st:Br} {id:Nat} {x:Bj} (h:getJ st.js id=some x):akO st id=⟨x.k,(lenR st x:Nat)⟩:=by rw[akO,h]
def plStep (b:Br) (p:Nat×PL.St):Br:=if p.2.ok=true∧p.2.at_=0 then match getJ b.js p.1 with | none=>b | some x=>loadR b x p.2 else b
theorem placeUp_eq:∀(l:List (Nat×PL.St)) (b:Br),placeUp b l=l.foldl plStep b
 | [],_=>rfl
 | (id,s)::l,b=>by rw[placeUp,placeUp_eq l];rfl
theorem placeUp_snoc (b:Br) (l:List (Nat×PL.St)) (p:Nat×PL.St):placeUp b (l++[p])=plStep (placeUp b l) p:=by rw[placeUp_eq,placeUp_eq,List.foldl_append];rfl
theorem plStep_no {b:Br} {p:Nat×PL.St} (h:¬(p.2.ok=true∧p.2.at_=0)):plStep b p=b:=if_neg h
theorem plStep_yes {b:Br} {p:Nat×PL.St} {x:Bj} (h:p.2.ok=true∧p.2.at_=0) (hg:getJ b.js p.1=some x):plStep b p=loadR b x p.2:=by rw[plStep,if_pos h,hg]
def WSav (st:Br):Prop:=∀x∈st.js,x.state=0→x.sav=none
structure PlInv (st:Br) (zs:List (Nat×PL.St)) (e:Nat) (t:Br):Prop where
 ok:BrOk t
 ord:t.orders.length≤st.orders.length+16*e
 here:∀i p,e≤i→zs[i]?=some p→getJ t.js p.1=getJ st.js p.1
theorem PlInv.step {st:Br} {zs:List (Nat×PL.St)} (hz:(zs.map (·.1)).Nodup) (hw:∀p∈zs,∀x,getJ st.js p.1=some x→x.sav=none) {e:Nat} {t:Br} (h:PlInv st zs e t) {p:Nat×PL.St} (hp:zs[e]?=some p):PlInv st zs (e+1) (plStep t p):=by
 by_cases hy:p.2.ok=true∧p.2.at_=0
 ·cases hg:getJ t.js p.1 with
  | none=>
   have:plStep t p=t:=by rw[plStep,if_pos hy,hg]
   rw[this];exact⟨h.ok,by have:=h.ord;omega,fun i q hi hq=>h.here i q (by omega) hq⟩
  | some x=>
   rw[plStep_yes hy hg];have hxi:=(getJ_some hg).2;have hgx:getJ t.js x.id=some x:=by rw[hxi];exact hg
   have hs:x.sav=none:=hw p (List.mem_of_getElem? hp) x (by rw[←h.here e p (Nat.le_refl _) hp];exact hg);refine⟨loadR_ok h.ok (h.ok.at_ hgx) hs,by have:=h.ord;have:=load_ord h.ok x p.2;omega,fun i q hi hq=>?_⟩
   rw[load_oth t p.2 ?_]
   ·exact h.here i q (by omega) hq
   ·rw[hxi];intro e9;obtain⟨a1,a2⟩:=List.getElem?_eq_some_iff.1 hp;obtain⟨b1,b2⟩:=List.getElem?_eq_some_iff.1 hq;have:=List.pairwise_iff_getElem.1 (List.nodup_iff_pairwise_ne.1 hz) e i (by simpa using a1) (by simpa using b1) (by omega);simp only[List.getElem_map,a2,b2]at this;exact this e9.symm
 ·rw[plStep_no hy];exact⟨h.ok,by have:=h.ord;omega,fun i q hi hq=>h.here i q (by omega) hq⟩
abbrev zsR (st:Br):List (Nat×PL.St):=(waitR st).zip (PL.planR (profR st) (asksR st))
theorem zsR_fst {st:Br}:(zsR st).map (·.1)=waitR st:=by
 rw[List.map_fst_zip];rw[PL.planR_length,asksR_eq,List.length_map];exact Nat.le_refl _
theorem place_inv {st:Br} (h:BrOk st) (hw:WSav st):∀e,e≤(zsR st).length→PlInv st (zsR st) e (placeUp st ((zsR st).take e)):=by
 intro e;induction e with
 | zero=>exact fun _=>⟨h,Nat.le_refl _,fun _ _ _ _=>rfl⟩
 | succ e ih=>
  intro he;obtain⟨p,hp⟩:=getE (show e<(zsR st).length by omega);have htk:(zsR st).take (e+1)=(zsR st).take e++[p]:=by rw[List.take_add_one,hp];rfl
  rw[htk,placeUp_snoc];refine(ih (by omega)).step (by rw[zsR_fst];exact waitR_nodup h.srt) (fun q hq x hx=>?_) hp;have hq1:q.1∈waitR st:=by rw[←zsR_fst];exact List.mem_map.2 ⟨q,hq,rfl⟩
  obtain⟨y,hy1,hy2⟩:=mem_waitR h.srt hq1;rw[hx]at hy1;cases hy1;simp only[quB,Bool.and_eq_true,decide_eq_true_eq]at hy2;exact hw x (getJ_some hx).1 hy2.1
theorem placeAll_eq (st:Br):placeAll st=placeUp st (zsR st):=rfl
theorem placeAll_ok {st:Br} (h:BrOk st) (hw:WSav st):BrOk (placeAll st)∧(placeAll st).orders.length≤st.orders.length+16*st.js.length:=by
 have:=place_inv h hw _ (Nat.le_refl _);rw[List.take_length]at this;refine⟨this.ok,Nat.le_trans this.ord ?_⟩;have h1:=waitR_len h.srt;have h2:(zsR st).length≤(waitR st).length:=by rw[List.length_zip];exact Nat.min_le_left _ _
 omega
theorem chosen_len (row:List Int) (k:Nat):(PL.chosen row k).length≤row.length:=by
 unfold PL.chosen;rw[(PL.srtI_perm _).length_eq,List.length_map,List.length_take,PL.srt_length];exact Nat.min_le_right _ _
theorem first_len {D:List (List Int)} {n:Nat} (h:∀r∈D,r.length≤n) (k:Int):(PL.firstR D k).nodes.length≤n:=by
 unfold PL.firstR
 split
 ·exact Nat.zero_le _
 split
 ·exact Nat.zero_le _
 ·rename_i v i _;refine Nat.le_trans (chosen_len _ _) ?_;cases hd:D[i]? with
  | none=>exact Nat.zero_le _
  | some r=>exact h r (List.mem_of_getElem? hd)
theorem plan_len {n:Nat}:∀(l:List PL.Ak) {D:List (List Int)},(∀r∈D,r.length≤n)→∀s∈PL.planR D l,s.nodes.length≤n
 | [],_,_,s,hs=>by cases hs
 | a::l,D,h,s,hs=>by
  rcases List.mem_cons.1 hs with rfl | hs
  ·exact first_len h _
  ·refine plan_len l (fun r hr=>?_) s hs;have hm:r.length∈(PL.resR D (PL.firstR D a.k) a.len).map List.length:=List.mem_map.2 ⟨r,hr,rfl⟩;rw[PL.resR_lens]at hm;obtain⟨q,hq,e⟩:=List.mem_map.1 hm;rw[←e];exact h q hq
theorem prof_rows (st:Br):∀r∈profR st,r.length≤st.nodes:=fun r hr=>by
 obtain⟨i,_,rfl⟩:=List.mem_map.1 (by rw[profR_eq]at hr;exact hr);rw[List.length_map,List.length_range];exact Nat.le_refl _
theorem prof_sml {st:Br} (hN:st.nodes≤16) (hR:st.rows≤8):PL.Sml (profR st):=⟨by rw[profR_eq,List.length_map,List.length_range];omega,fun r hr=>by have:=prof_rows st r hr;omega⟩
set_option maxHeartbeats 2000000 in
theorem place_S (b:Nat) (st:Br) (ps:Nat→Nat) (hw:WSav st) (hl:st.orders.length≤800000):Spec Tryz.prog 43 [pt b] [BP b st ps] fun Γ _ Θ=>Θ=BP b (placeAll st) ps::Γ:=by
 refine Spec.bpOk fun hok=>?_;have hN:=hok.N16;have hfew:=hok.few;have hR8:st.rows≤8:=by have:=hok.mok.R8;rw[hok.R]at this;exact this
 have hwl:=waitR_len hok.srt;refine Zbd Tryz.func43 rfl Tryz.ntmps43 fun w0 Γ=>Zsh ?_;refine ZY 3 ?_;refine Zp (Zc1 Ze (waiting_S b st ps) ?_);rintro v Θ ⟨wv,rfl,hwn,rfl⟩;refine S.ownLen wv fun hw1 hw2 hw3=>?_;have hmx:maxLen≤9223372036854775807:=by unfold maxLen;omega
 refine ZY 8 ?_;refine Zy ?_;refine S.ent (show Ent _ (own SV.nil 139 2 (([]:List PL.Ak).flatMap PL.akC)::_) from Ent.ownNil 139 2) ?_;refine ZY 5 ?_;refine Zl (fun fz ρ' Γ'=>∃(e:Nat) (al:List PL.Ak) (av:SV),fz=(waitR st).length-e∧e≤(waitR st).length∧al=(asksR st).take e∧av.n=e∧ρ'=[(0,pt b),(2,wv.v),(3,av.v),(10,wv.v),(11,.int .i64 (wv.n:Int)),(12,.int .i64 (e:Int))]∧Γ'=own wv 86 1 (wps ps (waitR st))::own av 139 2 (al.flatMap PL.akC)::BP b st ps::Γ) (m:=_) (⟨0,[],SV.nil,rfl,by omega,rfl,rfl,rfl,rfl⟩) ?_;rintro fz ρ' Γ' ⟨e,al,av,hfz,he,hal,han,rfl,rfl⟩;refine ZY 5 ?_
 refine Zj ef (fun h1=>?_) (fun h1=>?_)
 ·refine S.ownSome wv (by omega) fun sb so hsa _ _ _=>?_;obtain⟨id,hid⟩:=getE (show e<(waitR st).length by omega);obtain⟨x,hgx,hxq⟩:=mem_waitR hok.srt (List.mem_of_getElem? hid);obtain⟨_,hxi⟩:=getJ_some hgx;subst hxi;have hjx:=hok.at_ hgx;have hak:(asksR st)[e]?=some ⟨x.k,(lenR st x:Nat)⟩:=by rw[asksR_eq,List.getElem?_map,hid];exact congrArg some (akO_some hgx)
  obtain⟨ln,hln⟩:∃ln,ln=lenR st x:=⟨_,rfl⟩;have hlen:=length_S b st ps x hgx;rw[←hln]at hlen hak;refine ZY 5 ?_;refine Zv (Zx (e) ef (hsa) ef (by omega)) ?_;refine Zv (Zo (wv) (e) ef (hsa) (by rw[List.getElem?_map,hid];rfl)) ?_;refine ZY 2 ?_;refine Zd ([BP b st ps]) [11] (Zra 0 8) ?_;refine ZY 5 ?_;refine Zw ef (q_loadBj b st ps hgx Eo.h rfl (fun _ _ _ _ _=>rfl)) ?_;refine ZY 2 ?_;refine Z1 (i:=8) ef ef ?_;refine  (Zcp Ze (hlen) ?_);refine Zk [9] ?_;refine Zw ef (q_build (pvs:=[(_,_),(_,_)]) [_,_] Tryz.z139.h Tryz.p139.h ⟨⟨rfl,rfl⟩,⟨rfl,rfl⟩,trivial⟩ rfl) ?_;refine Z1 (i:=10) ef ef ?_;refine(S.buildSlice (pvs:=[(_,_)]) [_,_] Tryz.underlying136 Tryz.inf139.h rfl rfl ⟨⟨rfl,rfl⟩,trivial⟩ rfl rfl ?_);intro b26;refine Zk [] ?_;refine Z1 (i:=11) ef ef ?_;refine(S.appendOw (s:=av) (1) (PL.akC ⟨x.k,(ln:Nat)⟩) Tryz.underlying136 Tryz.inf139.h rfl rfl rfl (blk_slAt (b:=b26) rfl (by unfold maxLen;omega)) (by first | rfl | exact allOne_bcells _) (⟨by omega,by omega⟩) rfl ?_);intro av2 hav2;refine ZL ([]) [12] ?_;refine Zy ?_;refine ZD ?_;refine Zy ?_;rw[flat_snoc PL.akC al (⟨x.k,(ln:Nat)⟩:PL.Ak)];refine Zv (Za ef ef) ?_;refine ZY 2 ?_;exact ZX (fz-1) (⟨e+1,al++[⟨x.k,(ln:Nat)⟩],av2,by omega,by omega,by rw[List.take_add_one,hak,hal];rfl,by omega,rfl,rfl⟩) (by omega)
 ·have hasl:(asksR st).length=(waitR st).length:=by rw[asksR_eq,List.length_map]
  rw[show (asksR st).take e=asksR st by rw[show e=(asksR st).length by omega,List.take_length]]at hal;subst hal;refine ZY 4 ?_;refine Zp (Zc1 Ze (profile_S b st ps) ?_);rintro v Θ ⟨pv,rs,rfl,hrs,rfl⟩;refine Zy ?_;refine Zp (Zc1 Ze (PL.Plan_S (PL.prof pv rs) (own av 139 2 ((asksR st).flatMap PL.akC)) pv rs av (asksR st) (by rw[hrs];exact prof_sml hN hR8) (by omega) (PL.RdP.prof pv rs) (by rw[hasl,←show av.n=(waitR st).length by omega];exact RdS.own)) ?_);rintro v Θ ⟨u,os,rfl,hos,rfl⟩;rw[hrs]at hos;have hpl:=PL.planR_length (asksR st) (profR st);have hol:os.length=(waitR st).length:=by rw[←hasl,←hpl,←hos,List.length_map]
  refine S.ownLen u fun hu1 hu2 hu3=>?_;rw[flat_length PL.srC_len,hol]at hu1;have hzl:(zsR st).length=(waitR st).length:=by rw[List.length_zip,hpl,hasl,Nat.min_self]
  refine ZY 4 ?_;refine Zl (fun fz ρ' Γ'=>∃(e:Nat) (t:Br),fz=(waitR st).length-e∧e≤(waitR st).length∧t=placeUp st ((zsR st).take e)∧ρ'=[(0,pt b),(2,wv.v),(32,u.v),(33,.int .i64 (u.n:Int)),(34,.int .i64 (e:Int))]∧Γ'=own u 146 4 (os.flatMap PL.srC)::alls os PL.srB::own wv 86 1 (wps ps (waitR st))::BP b t ps::Γ) (m:=_) (⟨0,st,rfl,by omega,rfl,rfl,rfl⟩) ?_;rintro fz ρ' Γ' ⟨e,t,hfz,he,ht,rfl,rfl⟩;have hI:PlInv st (zsR st) e t:=by rw[ht];exact place_inv hok hw e (by omega)
  refine ZY 5 ?_
  refine Zj ef (fun h2=>?_) (fun h2=>?_)
  ·refine S.ownSome u (by omega) fun sb so hsa _ _ _=>?_;refine S.ownSome wv (by omega) fun wb wo hwa _ _ _=>?_;obtain⟨r,hr⟩:=getE (show e<os.length by omega);obtain⟨id,hid⟩:=getE (show e<(waitR st).length by omega);have hpr:(PL.planR (profR st) (asksR st))[e]?=some r.x:=by rw[←hos,List.getElem?_map,hr];rfl
   have hz:(zsR st)[e]?=some (id,r.x):=by rw[List.getElem?_zip_eq_some];exact⟨hid,hpr⟩
   obtain⟨x,hgx,hxq⟩:=mem_waitR hok.srt (List.mem_of_getElem? hid);obtain⟨_,hxi⟩:=getJ_some hgx;subst hxi;have hgt:getJ t.js x.id=some x:=by rw[hI.here e (x.id,r.x) (Nat.le_refl _) hz];exact hgx
   have hxs:x.sav=none:=by
    simp only[quB,Bool.and_eq_true,decide_eq_true_eq]at hxq;exact hw x (getJ_some hgx).1 hxq.1
   have hstep:placeUp st ((zsR st).take (e+1))=plStep t (x.id,r.x):=by rw[List.take_add_one,hz,ht];exact placeUp_snoc _ _ _
   have hnl:r.x.nodes.length≤16:=Nat.le_trans (plan_len (asksR st) (prof_rows st) r.x (by rw[←hos];exact List.mem_map.2 ⟨r,List.mem_of_getElem? hr,rfl⟩)) hN;have hto:=hI.ord;refine S.conv (alls os PL.srB) (Ent.allsAt PL.srB hr _) ?_;refine S.ownLen r.v fun hr1 hr2 hr3=>?_;rw[List.length_map,Nat.mul_one]at hr1;refine S.conv3 (PL.srB r) (alls (os.take e) PL.srB) (alls (os.drop (e+1)) PL.srB) (Ent.allsBack' PL.srB hr _) ?_;refine ZY 6 ?_;refine Zv (Zx (e) ef (hsa) ef (by omega)) ?_;refine Zv (q_loadOwS (u) (e*4) [_,_,_,_] Eo.h rfl hsa (by first | rfl | exact Nat.add_assoc _ _ _ | omega) rfl (flat_seg (enc:=PL.srC) (sz:=4) (fun _=>rfl) hr)) ?_;refine Zp (S.alloc Tryz.z146.h rfl ?_);intro b7;refine Zy ?_;refine Zp (Zs ef ef (cs':=[_,_,_,_]) ef ?_);refine ZY 6 ?_
   refine Zbb 41 ef (fun hg10_2=>?_) (fun hg10_2=>?_)
   ·refine ZY 5 ?_
    refine Zj ef (fun h3=>?_) (fun h3=>?_)
    ·have hst3:plStep t (x.id,r.x)=loadR t x r.x:=plStep_yes ⟨hg10_2,h3⟩ hgt;refine Zd ([blk b7 146 (PL.srC r).toArray,own wv 86 1 (wps ps (waitR st))]) [] (Zra 0 6) ?_;refine ZY 3 ?_;refine Zw ef (Zx (e) ef (hwa) ef (by omega)) ?_;refine Zw ef (Zo (wv) (e) ef (hwa) (by rw[List.getElem?_map,hid];rfl)) ?_;refine Zy ?_;refine Z1 (i:=6) ef ef ?_;refine  (Zc1 Ze (load_S b t ps x r.x r.v (alls os PL.srB) hgt hxs hr1.symm (by omega) (RdS.alls hr RdS.own) (by omega)) ?_);rintro v Θ rfl;refine Zk [] ?_;refine ZD ?_;refine Zy ?_;refine Zv (Za ef ef) ?_;refine ZY 2 ?_;first | exact ZX (fz-1) ⟨e+1,t,by omega,by omega,by rw[hstep,hst2],rfl,rfl⟩ (by omega) | exact ZX (fz-1) ⟨e+1,loadR t x r.x,by omega,by omega,by rw[hstep,hst3],rfl,rfl⟩ (by omega)
    ·have hst2:plStep t (x.id,r.x)=t:=by first | exact hst2 | exact plStep_no (fun h=>h3 h.2)
     refine ZY 2 ?_;refine Zv (Za ef ef) ?_;refine ZY 2 ?_;first | exact ZX (fz-1) ⟨e+1,t,by omega,by omega,by rw[hstep,hst2],rfl,rfl⟩ (by omega) | exact ZX (fz-1) ⟨e+1,loadR t x r.x,by omega,by omega,by rw[hstep,hst3],rfl,rfl⟩ (by omega)
   ·have hst2:plStep t (x.id,r.x)=t:=plStep_no (by rw[hg10_2];simp);refine ZY 8 ?_;refine Zv (Za ef ef) ?_;refine ZY 2 ?_;first | exact ZX (fz-1) ⟨e+1,t,by omega,by omega,by rw[hstep,hst2],rfl,rfl⟩ (by omega) | exact ZX (fz-1) ⟨e+1,loadR t x r.x,by omega,by omega,by rw[hstep,hst3],rfl,rfl⟩ (by omega)
  ·rw[show (zsR st).take e=zsR st by rw[show e=(zsR st).length by omega,List.take_length]]at ht;refine Zy ?_;exact Zfn ef Zq (by rw[placeAll_eq,←ht])
end BN
end Go.Proofs.YtdackcibfkkniaaGreatDoor
