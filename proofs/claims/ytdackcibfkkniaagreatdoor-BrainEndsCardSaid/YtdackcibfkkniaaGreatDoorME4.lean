/- Texts put together. -/
import Derived.Test.YtdackcibfkkniaaGreatDoorME3
set_option synthInstance.maxSize 9999
set_option synthInstance.maxHeartbeats 400000
set_option maxRecDepth 100000
namespace Go.Proofs.YtdackcibfkkniaaGreatDoor
open Go.RowKit
namespace BN
theorem Ent.Qyv(b:Nat)(e d m:Nat)(a:List Value)(f:a.length=m*d)(g:m≤maxLen)(c:List Assn):Ent (blk b e a.toArray::c) (own ⟨some ⟨b,0,none⟩,m,m⟩ e d a::c):=Ent.Kg c fun h p=>by
 refine⟨f,.inr ⟨b,0,a.toArray,rfl,p,Q1 _,g,by simp[f],?_⟩⟩;simp only[Q9c];exact Dh Qb
theorem Zbs:∀o,(otC o).length=13:=fun _=>rfl
section
variable {nd:Nd}{x:Nt}
theorem Qr3(h:x.kind=3):Z9 nd x={nd with Qj:=nd.Qj || (Yt x.Qu nd.rk).isSome,rk:=Wl x.Qu {place:=x.Yl} nd.rk,out:=nd.out++[({kind:=4,Qu:=x.Qu},[])]}:=by rw[Z9,Qh h]
theorem Zei(h:x.kind=5)(a:Yt x.Qu nd.rk=none):Z9 nd x={nd with Qj:=true}:=by rw[Z9,Qe Qb,Qh h,a]
theorem Q8s{r:Rk}(h:x.kind=5)(a:Yt x.Qu nd.rk=some r):Z9 nd x={nd with Qj:=nd.Qj || decide (Ya nd.rk≠0),rk:=Wl x.Qu {r with run:=true,gen:=x.gen,Kc:=0,Jz:=0} nd.rk}:=by rw[Z9,Qe Qb,Qh h,a]
theorem Qln(h:x.kind=6)(a:¬Ya nd.rk≠0):Z9 nd x={nd with out:=nd.out++[({kind:=7,gen:=x.gen},[])]}:=by rw[Z9,Qe Qb,Qe Qb,Qh h,Qe a]
theorem Qr2{r:Rk}(h:x.kind=6)(a:Ya nd.rk≠0)(b:Yt (Ya nd.rk) nd.rk=some r):Z9 nd x={nd with rk:=Wl (Ya nd.rk) {r with run:=false} nd.rk,out:=nd.out++[({kind:=7,gen:=x.gen,Qu:=Ya nd.rk,Kc:=r.Kc,Jz:=r.Jz},[])]}:=by rw[Z9,Qe Qb,Qe Qb,Qh h,Qh a,b]
theorem Q10(h:x.kind=8)(a:Yt x.Qu nd.rk=none):Z9 nd x={nd with Qj:=true}:=by rw[Z9,Qe Qb,Qe Qb,Qe Qb,Qh h,a]
theorem Q8r{r:Rk}(h:x.kind=8)(a:Yt x.Qu nd.rk=some r):Z9 nd x={nd with Qj:=nd.Qj || r.run,out:=nd.out++[({kind:=9,Qu:=x.Qu,ver:=x.ver,Yl:=r.place},[(r.place:Int),((x.Qg % 256:Nat):Int)])]}:=by rw[Z9,Qe Qb,Qe Qb,Qe Qb,Qh h,a]
theorem Qr4(h:x.kind=10):Z9 nd x={nd with rk:=Fe x.Qu nd.rk,out:=nd.out++[({kind:=11,Qu:=x.Qu},[])]}:=by rw[Z9,Qe Qb,Qe Qb,Qe Qb,Qe Qb,Qh h]
theorem Qlp(e:x.kind≠3)(d:x.kind≠5)(c:x.kind≠6)(b:x.kind≠8)(a:x.kind≠10):Z9 nd x=nd:=by rw[Z9,Qe e,Qe d,Qe c,Qe b,Qe a]
end
theorem Zeu(n:Nat):IntKind.u8.wrap (n:Int)=((n % 256:Nat):Int):=by
 simp only[IntKind.wrap,IntKind.bits,IntKind.signed,Qou,Qot,Td];show (n:Int) % 256=((n % 256:Nat):Int);omega
theorem Ent.Q4s(ov:SV)(os:List Ot)(o:Ot)(a:List Assn):Ent (own ov 72 13 (os.flatMap otC++otC o)::alls os otB::otB o::a) (own ov 72 13 ((os++[o]).flatMap otC)::alls (os++[o]) otB::a):=by
 rw[←Wv otC os o];exact((Ent.swap _ _ _).trans (Ent.Ew otB os o a)).cons _
theorem Ent.Ru(ov:SV)(os:List Ot)(x:Nt)(a:List Assn):Ent (own ov 72 13 (os.flatMap otC++otC ⟨x,SV.nil,[]⟩)::alls os otB::a) (own ov 72 13 ((os++[(⟨x,SV.nil,[]⟩:Ot)]).flatMap otC)::alls (os++[(⟨x,SV.nil,[]⟩:Ot)]) otB::a):=
 (((show Ent a (otB ⟨x,SV.nil,[]⟩::a) from Ent.Xb 5 1).cons _).cons _).trans (Ent.Q4s ov os ⟨x,SV.nil,[]⟩ a)
theorem NF.say{nd:Nd}{c ov a:SV}{rs b:List Ro}{os:List Ot}(h:NF nd c ov rs os)(o:Ot)(e:a.n=ov.n+1){rk:Rs}(d:b.map roR=rk)(wr:Bool):NF {nd with rk:=rk,out:=nd.out++[otR o],Qj:=wr} c a b (os++[o]):=⟨d,by rw[Vc,h.os];rfl,h.i,by show a.n=(nd.out++[otR o]).length;rw[Yd,Y0,e,h.o]⟩
set_option maxHeartbeats 8000000 in
theorem Znq(p:Nat)(nd:Nd)(x:Nt)(N:amB nd.rk=true)(a1:nd.out.length≤1000000000000):Spec Tryz.prog 97 [pt p,.agg (niC x).toArray] [NI p nd] fun Γ _ Θ=>Θ=NI p (Z9 nd x)::Γ:=by
 refine Zbd Tryz.func97 rfl Tryz.ntmps97 fun w0 Γ=>Zsh ?_;refine S.E7 p nd fun rb f ov rs os j=>?_;have a0:=j.o;have k:=j.rk;refine ZY 2 (Zp (S.box (cs:=[_,_,_,_,_,_,_,_,_,_,_,_,_]) rfl rfl rfl ?_));intro B;refine ZY 2 ?_
 rcases m:Yt x.Qu nd.rk with _|r
 ·have Fv:Yh (x.Qu:Int) (rs.map roE)=none:=Za1 (by rw[k];exact m);have O:=fun r p=>Zg2 (rs:=rs) (id:=x.Qu) (by rw[k];exact m) r p;refine Zd0 (Zra 0 8) (ZY 6 ?_);refine Zw ef (Qx (.pointer none) Tryz.underlying104 Tryz.underlying31 Tryz.Qdr.h rfl rfl rfl (by rw[Fv];rfl)) (Zy ?_);refine ZD (ZY 8 (ZY 3 ?_))
  refine Zj ef (fun X=>?_) (fun X=>?_)
  ·have H:x.kind=3:=Qb
   have a:=Qr3 (nd:=nd) H;rw[m]at a;refine ZY 8 ?_
   refine Zbb 24 ef (fun n=>?_) (fun n=>?_)
   ·refine ZY 8 ?_;refine Zd ([blk B 72 (niC x).toArray,blk p 107 #[.bool nd.up,.map (some rb),f.v,ov.v,.bool (nd.Qj || (Yt x.Qu nd.rk).isSome)]]) [10] (Zra 0 9) ?_;refine S.X7 p #[.bool nd.up,.map (some rb),f.v,ov.v,.bool (nd.Qj || (Yt x.Qu nd.rk).isSome)] (by rw[m];simp[n]) (ZY 8 ?_);refine Zw ef (Ye (pvs:=[(_,_)]) [_,_,_,_,_] Tryz.Q9s.h Tryz.Zbr.h ⟨⟨rfl,rfl⟩,trivial⟩ rfl) ?_;refine Z1 (i:=9) ef ef ?_;refine(S.box (cs:=[_,_,_,_,_]) rfl rfl rfl ?_);intro l;refine Zk [] ?_;refine Z1 (i:=10) ef ef ?_;refine(S.mapUpdate Tryz.underlying104 Tryz.underlying31 rfl rfl rfl rfl ?_);refine ZL ([]) [] ?_;refine ZD ?_;refine Zd ([blk B 72 (niC x).toArray,blk p 107 #[.bool nd.up,.map (some rb),f.v,ov.v,.bool (nd.Qj || (Yt x.Qu nd.rk).isSome)]]) [12] (Zra 0 8) (ZY 7 ?_);refine Zw ef (Ye (pvs:=[(_,_),(_,_)]) [_,_,_,_,_,_,_,_,_,_,_,_,_] Tryz.z72.h Tryz.p72.h ⟨⟨rfl,rfl⟩,⟨rfl,rfl⟩,trivial⟩ rfl) ?_;refine Z1 (i:=8) ef ef ?_;refine(S.buildSlice (pvs:=[(_,_)]) [_,_,_,_,_,_,_,_,_,_,_,_,_] Tryz.underlying105 Tryz.Jp.h rfl rfl ⟨⟨rfl,rfl⟩,trivial⟩ rfl rfl ?_);intro D;refine Zk [] ?_;refine Z1 (i:=9) ef ef ?_;refine(S.Z6 (s:=ov) (1) (otC ⟨{kind:=4,Qu:=x.Qu},SV.nil,[]⟩) Tryz.underlying105 Tryz.Jp.h rfl rfl rfl (Yb (b:=D) rfl (by unfold maxLen;omega)) (by first|rfl|exact Qw _) (⟨Qb,Qb⟩) rfl ?_);intro c w;refine Zk [10,11] (ZY 2 ?_);refine Z1 (i:=12) ef ef ?_;refine(S.store (cs':=[_,_,_,_,_]) Eo.h rfl rfl rfl rfl rfl ?_);refine ZL ([]) [] ?_;refine ZD ?_;refine S.U2 (own c 72 13 (os.flatMap otC++otC ⟨{kind:=4,Qu:=x.Qu},SV.nil,[]⟩)) (alls os otB) (Ent.Ru c os {kind:=4,Qu:=x.Qu} _) ?_;obtain⟨m1,m2,_⟩:=O {place:=x.Yl} l;rw[m1];refine S.U2 (blk l 111 (rkC {place:=x.Yl}).toArray) (alls rs roB) (Ent.Ew roB rs ((x.Qu,{place:=x.Yl},l):Ro) _) ?_;refine S.Yw p {nd with rk:=Wl x.Qu {place:=x.Yl} nd.rk,out:=nd.out++[otR ⟨{kind:=4,Qu:=x.Qu},SV.nil,[]⟩],Qj:=nd.Qj || (Yt x.Qu nd.rk).isSome} rb f c (rs++[(x.Qu,{place:=x.Yl},l)]) (os++[⟨{kind:=4,Qu:=x.Qu},SV.nil,[]⟩]) (j.say ⟨{kind:=4,Qu:=x.Qu},SV.nil,[]⟩ w (by rw[←m2,k]) _) ?_;refine S.conv (NI p {nd with rk:=Wl x.Qu {place:=x.Yl} nd.rk,out:=nd.out++[otR ⟨{kind:=4,Qu:=x.Qu},SV.nil,[]⟩],Qj:=nd.Qj || (Yt x.Qu nd.rk).isSome}) (show Ent _ (NI p (Z9 nd x)::_) by rw[a,m];exact Ent.refl _) ?_;exact Zfn ef Zq (rfl)
   ·refine ZY 8 ?_;refine Zd ([blk B 72 (niC x).toArray,blk p 107 #[.bool nd.up,.map (some rb),f.v,ov.v,.bool (nd.Qj || (Yt x.Qu nd.rk).isSome)]]) [10] (Zra 0 9) ?_;refine S.X7 p #[.bool nd.up,.map (some rb),f.v,ov.v,.bool (nd.Qj || (Yt x.Qu nd.rk).isSome)] (by rw[m];simp[n]) (ZY 8 ?_);refine Zw ef (Ye (pvs:=[(_,_)]) [_,_,_,_,_] Tryz.Q9s.h Tryz.Zbr.h ⟨⟨rfl,rfl⟩,trivial⟩ rfl) ?_;refine Z1 (i:=9) ef ef ?_;refine(S.box (cs:=[_,_,_,_,_]) rfl rfl rfl ?_);intro l;refine Zk [] ?_;refine Z1 (i:=10) ef ef ?_;refine(S.mapUpdate Tryz.underlying104 Tryz.underlying31 rfl rfl rfl rfl ?_);refine ZL ([]) [] ?_;refine ZD ?_;refine Zd ([blk B 72 (niC x).toArray,blk p 107 #[.bool nd.up,.map (some rb),f.v,ov.v,.bool (nd.Qj || (Yt x.Qu nd.rk).isSome)]]) [12] (Zra 0 8) (ZY 7 ?_);refine Zw ef (Ye (pvs:=[(_,_),(_,_)]) [_,_,_,_,_,_,_,_,_,_,_,_,_] Tryz.z72.h Tryz.p72.h ⟨⟨rfl,rfl⟩,⟨rfl,rfl⟩,trivial⟩ rfl) ?_;refine Z1 (i:=8) ef ef ?_;refine(S.buildSlice (pvs:=[(_,_)]) [_,_,_,_,_,_,_,_,_,_,_,_,_] Tryz.underlying105 Tryz.Jp.h rfl rfl ⟨⟨rfl,rfl⟩,trivial⟩ rfl rfl ?_);intro D;refine Zk [] ?_;refine Z1 (i:=9) ef ef ?_;refine(S.Z6 (s:=ov) (1) (otC ⟨{kind:=4,Qu:=x.Qu},SV.nil,[]⟩) Tryz.underlying105 Tryz.Jp.h rfl rfl rfl (Yb (b:=D) rfl (by unfold maxLen;omega)) (by first|rfl|exact Qw _) (⟨Qb,Qb⟩) rfl ?_);intro c w;refine Zk [10,11] (ZY 2 ?_);refine Z1 (i:=12) ef ef ?_;refine(S.store (cs':=[_,_,_,_,_]) Eo.h rfl rfl rfl rfl rfl ?_);refine ZL ([]) [] ?_;refine ZD ?_;refine S.U2 (own c 72 13 (os.flatMap otC++otC ⟨{kind:=4,Qu:=x.Qu},SV.nil,[]⟩)) (alls os otB) (Ent.Ru c os {kind:=4,Qu:=x.Qu} _) ?_;obtain⟨m1,m2,_⟩:=O {place:=x.Yl} l;rw[m1];refine S.U2 (blk l 111 (rkC {place:=x.Yl}).toArray) (alls rs roB) (Ent.Ew roB rs ((x.Qu,{place:=x.Yl},l):Ro) _) ?_;refine S.Yw p {nd with rk:=Wl x.Qu {place:=x.Yl} nd.rk,out:=nd.out++[otR ⟨{kind:=4,Qu:=x.Qu},SV.nil,[]⟩],Qj:=nd.Qj || (Yt x.Qu nd.rk).isSome} rb f c (rs++[(x.Qu,{place:=x.Yl},l)]) (os++[⟨{kind:=4,Qu:=x.Qu},SV.nil,[]⟩]) (j.say ⟨{kind:=4,Qu:=x.Qu},SV.nil,[]⟩ w (by rw[←m2,k]) _) ?_;refine S.conv (NI p {nd with rk:=Wl x.Qu {place:=x.Yl} nd.rk,out:=nd.out++[otR ⟨{kind:=4,Qu:=x.Qu},SV.nil,[]⟩],Qj:=nd.Qj || (Yt x.Qu nd.rk).isSome}) (show Ent _ (NI p (Z9 nd x)::_) by rw[a,m];exact Ent.refl _) ?_;exact Zfn ef Zq (rfl)
  ·have M:x.kind≠3:=Qb
   refine ZY 5 ?_
   refine Zj ef (fun W=>?_) (fun W=>?_)
   ·have a:=Zei (nd:=nd) (show x.kind=5 by omega) m;refine ZY 8 ?_
    refine Zbb 59 ef (fun u=>?_) (fun u=>?_)
    ·refine ZY 8 (ZY 8 (Zy (ZF ef (Zy (S.X7 p #[.bool nd.up,.map (some rb),f.v,ov.v,.bool true] rfl ?_)))));refine S.Yw p {nd with Qj:=true} rb f ov rs os ⟨j.rk,j.os,j.i,j.o⟩ ?_;rw[←a];exact Zfn ef Zq (rfl)
    ·refine ZY 8 (ZY 8 (Zy (ZF ef (Zy (S.X7 p #[.bool nd.up,.map (some rb),f.v,ov.v,.bool true] rfl ?_)))));refine S.Yw p {nd with Qj:=true} rb f ov rs os ⟨j.rk,j.os,j.i,j.o⟩ ?_;rw[←a];exact Zfn ef Zq (rfl)
   ·have L:x.kind≠5:=Qb
    refine ZY 5 ?_
    refine Zj ef (fun V=>?_) (fun V=>?_)
    ·have H:x.kind=6:=Qb
     refine ZY 4 ?_;refine Zv (Ye (pvs:=[(_,_),(_,_)]) [_,_,_,_,_,_,_,_,_,_,_,_,_] Tryz.z72.h Tryz.p72.h ⟨⟨rfl,rfl⟩,⟨rfl,rfl⟩,trivial⟩ rfl) (Zp (S.alloc Tryz.z72.h rfl ?_));intro I;refine Zp (Zs ef ef (cs':=[_,_,_,_,_,_,_,_,_,_,_,_,_]) ef (ZY 5 (Zp (Zcp Ze (Qmo (p:=p) (rb:=rb) j N) ?_))));obtain⟨A,E⟩:∃A,A=Ya nd.rk:=⟨_,rfl⟩;rw[←E];refine ZY 7 ?_
     refine Zj ef (fun U=>?_) (fun U=>?_)
     ·have Q:Ya nd.rk≠0:=Qb
      obtain⟨r2,P⟩:=Ps Q;have a:=Qr2 (x:=x) H Q P;rw[←E]at P a;obtain⟨i2,q2,c1,c2,Z,Y,_⟩:=Tw (rs:=rs) (id:=A) (r:=r2) (by rw[k];exact P);refine ZY 7 ?_;refine Zv (Qx (pt q2) Tryz.underlying104 Tryz.underlying31 Tryz.Qdr.h rfl rfl rfl (by rw[c2];rfl)) (ZY 4 (S.conv (alls rs roB) (Ent.Qmq c1 _) (ZY 5 ?_)));refine Zd ([blk q2 111 (rkC {r2 with run:=false}).toArray]) [] (Zra 0 10) (ZY 8 (ZY 2 ?_));refine Z1 (i:=10) ef ef ?_;refine(S.store (cs':=[_,_,_,_,_,_,_,_,_,_,_,_,_]) Eo.h rfl rfl rfl rfl rfl ?_);refine Zk [11] (Zy ?_);refine Z1 (i:=12) ef ef ?_;refine(S.store (cs':=[_,_,_,_,_,_,_,_,_,_,_,_,_]) Eo.h rfl rfl rfl rfl rfl ?_);refine Zk [13] (Zy ?_);refine Z1 (i:=14) ef ef ?_;refine(S.store (cs':=[_,_,_,_,_,_,_,_,_,_,_,_,_]) Eo.h rfl rfl rfl rfl rfl ?_);refine Zk [] ?_;refine ZD (S.X0 (roB ((A,{r2 with run:=false},q2):Ro)) (alls (rs.take i2) roB) (alls (rs.drop (i2+1)) roB) (Ent.Xo roB (x':=(A,{r2 with run:=false},q2)) c1 _) ?_);refine S.conv (Qz rb .u32 (rs.map roE)) (show Ent _ (Qz rb .u32 ((rs.set i2 (A,{r2 with run:=false},q2)).map roE)::_) by rw[Y];exact Ent.refl _) (S.X7 I (niC {kind:=7,gen:=x.gen,Qu:=A,Kc:=r2.Kc,Jz:=r2.Jz}).toArray rfl ?_);obtain⟨g,z⟩:∃g,g=rs.set i2 (A,{r2 with run:=false},q2):=⟨_,rfl⟩;obtain⟨h,t⟩:∃h:Nt,h={kind:=7,gen:=x.gen,Qu:=A,Kc:=r2.Kc,Jz:=r2.Jz}:=⟨_,rfl⟩;obtain⟨e,y⟩:∃e,e=Wl A {r2 with run:=false} nd.rk:=⟨_,rfl⟩;have C:g.map roR=e:=by rw[z,y,←Z,k]
      rw[←y,←t]at a;rw[←z,←t];refine Zd ([blk I 72 (niC h).toArray,blk p 107 #[.bool nd.up,.map (some rb),f.v,ov.v,.bool nd.Qj]]) [10] (Zra 0 6) (ZY 6 ?_);refine Z1 (i:=6) ef ef ?_;refine(S.buildSlice (pvs:=[(_,_)]) [_,_,_,_,_,_,_,_,_,_,_,_,_] Tryz.underlying105 Tryz.Jp.h rfl rfl ⟨⟨rfl,rfl⟩,trivial⟩ rfl rfl ?_);intro v;refine Zk [] ?_;refine Z1 (i:=7) ef ef ?_;refine(S.Z6 (s:=ov) (1) (otC ⟨h,SV.nil,[]⟩) Tryz.underlying105 Tryz.Jp.h rfl rfl rfl (Yb (b:=v) rfl (by unfold maxLen;omega)) (by first|rfl|exact Qw _) (⟨Qb,Qb⟩) rfl ?_);intro c w;refine Zk [8,9] (ZY 2 ?_);refine Z1 (i:=10) ef ef ?_;refine(S.store (cs':=[_,_,_,_,_]) Eo.h rfl rfl rfl rfl rfl ?_);refine ZL ([]) [] ?_;refine ZD ?_;refine S.U2 (own c 72 13 (os.flatMap otC++otC ⟨h,SV.nil,[]⟩)) (alls os otB) (Ent.Ru c os h _) ?_;refine S.Yw p {nd with rk:=e,out:=nd.out++[otR ⟨h,SV.nil,[]⟩],Qj:=nd.Qj} rb f c g (os++[⟨h,SV.nil,[]⟩]) (j.say ⟨h,SV.nil,[]⟩ w C _) ?_;refine S.conv (NI p {nd with rk:=e,out:=nd.out++[otR ⟨h,SV.nil,[]⟩],Qj:=nd.Qj}) (show Ent _ (NI p (Z9 nd x)::_) by rw[a];exact Ent.refl _) ?_;exact Zfn ef Zq (rfl)
     ·refine Zy ?_;have a:=Qln (nd:=nd) H (show ¬Ya nd.rk≠0 by omega);refine S.X7 I (niC {kind:=7,gen:=x.gen}).toArray rfl ?_;obtain⟨g,z⟩:∃g,g=rs:=⟨_,rfl⟩;obtain⟨h,t⟩:∃h:Nt,h={kind:=7,gen:=x.gen}:=⟨_,rfl⟩;obtain⟨e,y⟩:∃e,e=nd.rk:=⟨_,rfl⟩;have C:g.map roR=e:=by rw[z,y,k]
      have a:Z9 nd x={nd with rk:=e,out:=nd.out++[(h,[])]}:=by rw[a,t,y]
      rw[←t];refine S.U2 (Qz rb .u32 (rs.map roE)) (alls rs roB) (show Ent _ (Qz rb .u32 (g.map roE)::alls g roB::_) by rw[z];exact Ent.refl _) ?_;refine Zd ([blk I 72 (niC h).toArray,blk p 107 #[.bool nd.up,.map (some rb),f.v,ov.v,.bool nd.Qj]]) [10] (Zra 0 6) (ZY 6 ?_);refine Z1 (i:=6) ef ef ?_;refine(S.buildSlice (pvs:=[(_,_)]) [_,_,_,_,_,_,_,_,_,_,_,_,_] Tryz.underlying105 Tryz.Jp.h rfl rfl ⟨⟨rfl,rfl⟩,trivial⟩ rfl rfl ?_);intro v;refine Zk [] ?_;refine Z1 (i:=7) ef ef ?_;refine(S.Z6 (s:=ov) (1) (otC ⟨h,SV.nil,[]⟩) Tryz.underlying105 Tryz.Jp.h rfl rfl rfl (Yb (b:=v) rfl (by unfold maxLen;omega)) (by first|rfl|exact Qw _) (⟨Qb,Qb⟩) rfl ?_);intro c w;refine Zk [8,9] (ZY 2 ?_);refine Z1 (i:=10) ef ef ?_;refine(S.store (cs':=[_,_,_,_,_]) Eo.h rfl rfl rfl rfl rfl ?_);refine ZL ([]) [] ?_;refine ZD ?_;refine S.U2 (own c 72 13 (os.flatMap otC++otC ⟨h,SV.nil,[]⟩)) (alls os otB) (Ent.Ru c os h _) ?_;refine S.Yw p {nd with rk:=e,out:=nd.out++[otR ⟨h,SV.nil,[]⟩],Qj:=nd.Qj} rb f c g (os++[⟨h,SV.nil,[]⟩]) (j.say ⟨h,SV.nil,[]⟩ w C _) ?_;refine S.conv (NI p {nd with rk:=e,out:=nd.out++[otR ⟨h,SV.nil,[]⟩],Qj:=nd.Qj}) (show Ent _ (NI p (Z9 nd x)::_) by rw[a];exact Ent.refl _) ?_;exact Zfn ef Zq (rfl)
    ·have K:x.kind≠6:=Qb
     refine ZY 5 ?_
     refine Zj ef (fun T=>?_) (fun T=>?_)
     ·have a:=Q10 (nd:=nd) (show x.kind=8 by omega) m;refine ZY 8 ?_
      refine Zbb 133 ef (fun o=>?_) (fun o=>?_)
      ·refine ZY 8 (ZY 8 (ZY 2 (ZF ef (Zy (S.X7 p #[.bool nd.up,.map (some rb),f.v,ov.v,.bool true] rfl ?_)))));refine S.Yw p {nd with Qj:=true} rb f ov rs os ⟨j.rk,j.os,j.i,j.o⟩ ?_;rw[←a];exact Zfn ef Zq (rfl)
      ·refine ZY 8 (ZY 8 (ZY 2 (ZF ef (Zy (S.X7 p #[.bool nd.up,.map (some rb),f.v,ov.v,.bool true] rfl ?_)))));refine S.Yw p {nd with Qj:=true} rb f ov rs os ⟨j.rk,j.os,j.i,j.o⟩ ?_;rw[←a];exact Zfn ef Zq (rfl)
     ·have J:x.kind≠8:=Qb
      refine ZY 5 ?_
      refine Zj ef (fun R=>?_) (fun R=>?_)
      ·have a:=Qr4 (nd:=nd) (show x.kind=10 by omega);refine Zy ?_;refine Zd ([blk B 72 (niC x).toArray,blk p 107 #[.bool nd.up,.map (some rb),f.v,ov.v,.bool nd.Qj]]) [6] (Zra 0 6) (ZY 6 ?_);refine Z1 (i:=6) ef ef ?_;refine(S.Gz Tryz.underlying104 Tryz.underlying31 rfl rfl rfl ?_);refine ZL ([]) [] ?_;refine ZD ?_;refine Zd ([blk B 72 (niC x).toArray,blk p 107 #[.bool nd.up,.map (some rb),f.v,ov.v,.bool nd.Qj]]) [12] (Zra 0 8) (ZY 7 ?_);refine Zw ef (Ye (pvs:=[(_,_),(_,_)]) [_,_,_,_,_,_,_,_,_,_,_,_,_] Tryz.z72.h Tryz.p72.h ⟨⟨rfl,rfl⟩,⟨rfl,rfl⟩,trivial⟩ rfl) ?_;refine Z1 (i:=8) ef ef ?_;refine(S.buildSlice (pvs:=[(_,_)]) [_,_,_,_,_,_,_,_,_,_,_,_,_] Tryz.underlying105 Tryz.Jp.h rfl rfl ⟨⟨rfl,rfl⟩,trivial⟩ rfl rfl ?_);intro F;refine Zk [] ?_;refine Z1 (i:=9) ef ef ?_;refine(S.Z6 (s:=ov) (1) (otC ⟨{kind:=11,Qu:=x.Qu},SV.nil,[]⟩) Tryz.underlying105 Tryz.Jp.h rfl rfl rfl (Yb (b:=F) rfl (by unfold maxLen;omega)) (by first|rfl|exact Qw _) (⟨Qb,Qb⟩) rfl ?_);intro c w;refine Zk [10,11] (ZY 2 ?_);refine Z1 (i:=12) ef ef ?_;refine(S.store (cs':=[_,_,_,_,_]) Eo.h rfl rfl rfl rfl rfl ?_);refine ZL ([]) [] ?_;refine ZD ?_;refine S.U2 (own c 72 13 (os.flatMap otC++otC ⟨{kind:=11,Qu:=x.Qu},SV.nil,[]⟩)) (alls os otB) (Ent.Ru c os {kind:=11,Qu:=x.Qu} _) ?_;obtain⟨_,_,m3,m4⟩:=O {place:=0} 0;rw[m3];refine S.Yw p {nd with rk:=Fe x.Qu nd.rk,out:=nd.out++[otR ⟨{kind:=11,Qu:=x.Qu},SV.nil,[]⟩],Qj:=nd.Qj} rb f c rs (os++[⟨{kind:=11,Qu:=x.Qu},SV.nil,[]⟩]) (j.say ⟨{kind:=11,Qu:=x.Qu},SV.nil,[]⟩ w (by rw[←k,m4]) _) ?_;refine S.conv (NI p {nd with rk:=Fe x.Qu nd.rk,out:=nd.out++[otR ⟨{kind:=11,Qu:=x.Qu},SV.nil,[]⟩],Qj:=nd.Qj}) (show Ent _ (NI p (Z9 nd x)::_) by rw[a];exact Ent.refl _) ?_;exact Zfn ef Zq (rfl)
      ·refine Zy (S.Yw p nd rb f ov rs os j ?_);refine S.conv (NI p nd) (show Ent _ (NI p (Z9 nd x)::_) by rw[Qlp M L K J Qb];exact Ent.refl _) ?_;exact Zfn ef Zq (rfl)
 ·obtain⟨i,q,k1,Fv,k3,k4,k5,k6,k7,k8⟩:=Tw (rs:=rs) (id:=x.Qu) (r:=r) (by rw[k];exact m);refine Zd0 (Zra 0 8) (ZY 6 ?_);refine Zw ef (Qx (pt q) Tryz.underlying104 Tryz.underlying31 Tryz.Qdr.h rfl rfl rfl (by rw[Fv];rfl)) (Zy ?_);refine ZD (ZY 8 (ZY 3 ?_))
  refine Zj ef (fun X=>?_) (fun X=>?_)
  ·have H:x.kind=3:=Qb
   have a:=Qr3 (nd:=nd) H;rw[m]at a;refine ZY 8 ?_
   refine Zbb 24 ef (fun n=>?_) (fun n=>?_)
   ·refine ZY 8 ?_;refine Zd ([blk B 72 (niC x).toArray,blk p 107 #[.bool nd.up,.map (some rb),f.v,ov.v,.bool (nd.Qj || (Yt x.Qu nd.rk).isSome)]]) [10] (Zra 0 9) ?_;refine S.X7 p #[.bool nd.up,.map (some rb),f.v,ov.v,.bool (nd.Qj || (Yt x.Qu nd.rk).isSome)] (by rw[m];simp[n]) (ZY 8 ?_);refine Zw ef (Ye (pvs:=[(_,_)]) [_,_,_,_,_] Tryz.Q9s.h Tryz.Zbr.h ⟨⟨rfl,rfl⟩,trivial⟩ rfl) ?_;refine Z1 (i:=9) ef ef ?_;refine(S.box (cs:=[_,_,_,_,_]) rfl rfl rfl ?_);intro l;refine Zk [] ?_;refine Z1 (i:=10) ef ef ?_;refine(S.mapUpdate Tryz.underlying104 Tryz.underlying31 rfl rfl rfl rfl ?_);refine ZL ([]) [] ?_;refine ZD ?_;refine Zd ([blk B 72 (niC x).toArray,blk p 107 #[.bool nd.up,.map (some rb),f.v,ov.v,.bool (nd.Qj || (Yt x.Qu nd.rk).isSome)]]) [12] (Zra 0 8) (ZY 7 ?_);refine Zw ef (Ye (pvs:=[(_,_),(_,_)]) [_,_,_,_,_,_,_,_,_,_,_,_,_] Tryz.z72.h Tryz.p72.h ⟨⟨rfl,rfl⟩,⟨rfl,rfl⟩,trivial⟩ rfl) ?_;refine Z1 (i:=8) ef ef ?_;refine(S.buildSlice (pvs:=[(_,_)]) [_,_,_,_,_,_,_,_,_,_,_,_,_] Tryz.underlying105 Tryz.Jp.h rfl rfl ⟨⟨rfl,rfl⟩,trivial⟩ rfl rfl ?_);intro D;refine Zk [] ?_;refine Z1 (i:=9) ef ef ?_;refine(S.Z6 (s:=ov) (1) (otC ⟨{kind:=4,Qu:=x.Qu},SV.nil,[]⟩) Tryz.underlying105 Tryz.Jp.h rfl rfl rfl (Yb (b:=D) rfl (by unfold maxLen;omega)) (by first|rfl|exact Qw _) (⟨Qb,Qb⟩) rfl ?_);intro c w;refine Zk [10,11] (ZY 2 ?_);refine Z1 (i:=12) ef ef ?_;refine(S.store (cs':=[_,_,_,_,_]) Eo.h rfl rfl rfl rfl rfl ?_);refine ZL ([]) [] ?_;refine ZD ?_;refine S.U2 (own c 72 13 (os.flatMap otC++otC ⟨{kind:=4,Qu:=x.Qu},SV.nil,[]⟩)) (alls os otB) (Ent.Ru c os {kind:=4,Qu:=x.Qu} _) ?_;rw[k5 {place:=x.Yl} l];refine S.U2 (blk l 111 (rkC {place:=x.Yl}).toArray) (alls rs roB) (Ent.Qoa roB (x':=((x.Qu,{place:=x.Yl},l):Ro)) k1 _) ?_;refine S.Yw p {nd with rk:=Wl x.Qu {place:=x.Yl} nd.rk,out:=nd.out++[otR ⟨{kind:=4,Qu:=x.Qu},SV.nil,[]⟩],Qj:=nd.Qj || (Yt x.Qu nd.rk).isSome} rb f c (rs.set i (x.Qu,{place:=x.Yl},l)) (os++[⟨{kind:=4,Qu:=x.Qu},SV.nil,[]⟩]) (j.say ⟨{kind:=4,Qu:=x.Qu},SV.nil,[]⟩ w (by rw[←k6,k]) _) ?_;refine S.conv (NI p {nd with rk:=Wl x.Qu {place:=x.Yl} nd.rk,out:=nd.out++[otR ⟨{kind:=4,Qu:=x.Qu},SV.nil,[]⟩],Qj:=nd.Qj || (Yt x.Qu nd.rk).isSome}) (show Ent _ (NI p (Z9 nd x)::_) by rw[a,m];exact Ent.refl _) ?_;exact Zfn ef Zq (rfl)
   ·refine ZY 8 ?_;refine Zd ([blk B 72 (niC x).toArray,blk p 107 #[.bool nd.up,.map (some rb),f.v,ov.v,.bool (nd.Qj || (Yt x.Qu nd.rk).isSome)]]) [10] (Zra 0 9) ?_;refine S.X7 p #[.bool nd.up,.map (some rb),f.v,ov.v,.bool (nd.Qj || (Yt x.Qu nd.rk).isSome)] (by rw[m];simp[n]) (ZY 8 ?_);refine Zw ef (Ye (pvs:=[(_,_)]) [_,_,_,_,_] Tryz.Q9s.h Tryz.Zbr.h ⟨⟨rfl,rfl⟩,trivial⟩ rfl) ?_;refine Z1 (i:=9) ef ef ?_;refine(S.box (cs:=[_,_,_,_,_]) rfl rfl rfl ?_);intro l;refine Zk [] ?_;refine Z1 (i:=10) ef ef ?_;refine(S.mapUpdate Tryz.underlying104 Tryz.underlying31 rfl rfl rfl rfl ?_);refine ZL ([]) [] ?_;refine ZD ?_;refine Zd ([blk B 72 (niC x).toArray,blk p 107 #[.bool nd.up,.map (some rb),f.v,ov.v,.bool (nd.Qj || (Yt x.Qu nd.rk).isSome)]]) [12] (Zra 0 8) (ZY 7 ?_);refine Zw ef (Ye (pvs:=[(_,_),(_,_)]) [_,_,_,_,_,_,_,_,_,_,_,_,_] Tryz.z72.h Tryz.p72.h ⟨⟨rfl,rfl⟩,⟨rfl,rfl⟩,trivial⟩ rfl) ?_;refine Z1 (i:=8) ef ef ?_;refine(S.buildSlice (pvs:=[(_,_)]) [_,_,_,_,_,_,_,_,_,_,_,_,_] Tryz.underlying105 Tryz.Jp.h rfl rfl ⟨⟨rfl,rfl⟩,trivial⟩ rfl rfl ?_);intro D;refine Zk [] ?_;refine Z1 (i:=9) ef ef ?_;refine(S.Z6 (s:=ov) (1) (otC ⟨{kind:=4,Qu:=x.Qu},SV.nil,[]⟩) Tryz.underlying105 Tryz.Jp.h rfl rfl rfl (Yb (b:=D) rfl (by unfold maxLen;omega)) (by first|rfl|exact Qw _) (⟨Qb,Qb⟩) rfl ?_);intro c w;refine Zk [10,11] (ZY 2 ?_);refine Z1 (i:=12) ef ef ?_;refine(S.store (cs':=[_,_,_,_,_]) Eo.h rfl rfl rfl rfl rfl ?_);refine ZL ([]) [] ?_;refine ZD ?_;refine S.U2 (own c 72 13 (os.flatMap otC++otC ⟨{kind:=4,Qu:=x.Qu},SV.nil,[]⟩)) (alls os otB) (Ent.Ru c os {kind:=4,Qu:=x.Qu} _) ?_;rw[k5 {place:=x.Yl} l];refine S.U2 (blk l 111 (rkC {place:=x.Yl}).toArray) (alls rs roB) (Ent.Qoa roB (x':=((x.Qu,{place:=x.Yl},l):Ro)) k1 _) ?_;refine S.Yw p {nd with rk:=Wl x.Qu {place:=x.Yl} nd.rk,out:=nd.out++[otR ⟨{kind:=4,Qu:=x.Qu},SV.nil,[]⟩],Qj:=nd.Qj || (Yt x.Qu nd.rk).isSome} rb f c (rs.set i (x.Qu,{place:=x.Yl},l)) (os++[⟨{kind:=4,Qu:=x.Qu},SV.nil,[]⟩]) (j.say ⟨{kind:=4,Qu:=x.Qu},SV.nil,[]⟩ w (by rw[←k6,k]) _) ?_;refine S.conv (NI p {nd with rk:=Wl x.Qu {place:=x.Yl} nd.rk,out:=nd.out++[otR ⟨{kind:=4,Qu:=x.Qu},SV.nil,[]⟩],Qj:=nd.Qj || (Yt x.Qu nd.rk).isSome}) (show Ent _ (NI p (Z9 nd x)::_) by rw[a,m];exact Ent.refl _) ?_;exact Zfn ef Zq (rfl)
  ·have M:x.kind≠3:=Qb
   refine ZY 5 ?_
   refine Zj ef (fun W=>?_) (fun W=>?_)
   ·have a:=Q8s (nd:=nd) (show x.kind=5 by omega) m;refine ZY 8 ?_
    refine Zbb 59 ef (fun u=>?_) (fun u=>?_)
    ·refine ZY 8 (ZY 6 (S.conv (alls rs roB) (Ent.Qmq k1 _) (ZY 3 (ZT ef ?_))));refine Zd ([blk B 72 (niC x).toArray]) [] (Zra 0 8) (ZY 8 ?_);refine Z1 (i:=8) ef ef ?_;refine(S.store (cs':=[_,_,_,_,_]) Eo.h rfl rfl rfl rfl rfl ?_);refine Zk [9,10] (ZY 2 ?_);refine Z1 (i:=11) ef ef ?_;refine(S.store (cs':=[_,_,_,_,_]) Eo.h rfl rfl rfl rfl rfl ?_);refine Zk [12,13] (ZY 2 ?_);refine Z1 (i:=14) ef ef ?_;refine(S.store (cs':=[_,_,_,_,_]) Eo.h rfl rfl rfl rfl rfl ?_);refine Zk [15,16] (ZY 2 ?_);refine Z1 (i:=17) ef ef ?_;refine(S.store (cs':=[_,_,_,_,_]) Eo.h rfl rfl rfl rfl rfl ?_);refine Zk [] ?_;refine ZD (S.X7 p #[.bool nd.up,.map (some rb),f.v,ov.v,.bool (nd.Qj || decide (Ya nd.rk≠0))] (by simp[u]) (S.X0 (roB ((x.Qu,{r with run:=true,gen:=x.gen,Kc:=0,Jz:=0},q):Ro)) (alls (rs.take i) roB) (alls (rs.drop (i+1)) roB) (Ent.Xo roB (x':=(x.Qu,{r with run:=true,gen:=x.gen,Kc:=0,Jz:=0},q)) k1 _) ?_));refine S.conv (Qz rb .u32 (rs.map roE)) (show Ent _ (Qz rb .u32 ((rs.set i (x.Qu,{r with run:=true,gen:=x.gen,Kc:=0,Jz:=0},q)).map roE)::_) by rw[k4];exact Ent.refl _) ?_;refine S.Yw p {nd with Qj:=nd.Qj || decide (Ya nd.rk≠0),rk:=Wl x.Qu {r with run:=true,gen:=x.gen,Kc:=0,Jz:=0} nd.rk} rb f ov (rs.set i (x.Qu,{r with run:=true,gen:=x.gen,Kc:=0,Jz:=0},q)) os ⟨by rw[←k3,k],j.os,j.i,j.o⟩ ?_;rw[←a];exact Zfn ef Zq (rfl)
    ·refine ZY 5 (Zg ef ef ef (Zcp Ze (Qmo (p:=p) (rb:=rb) j N) (ZY 8 (S.conv (alls rs roB) (Ent.Qmq k1 _) (ZY 3 (ZT ef ?_))))));refine Zd ([blk B 72 (niC x).toArray]) [] (Zra 0 8) (ZY 8 ?_);refine Z1 (i:=8) ef ef ?_;refine(S.store (cs':=[_,_,_,_,_]) Eo.h rfl rfl rfl rfl rfl ?_);refine Zk [9,10] (ZY 2 ?_);refine Z1 (i:=11) ef ef ?_;refine(S.store (cs':=[_,_,_,_,_]) Eo.h rfl rfl rfl rfl rfl ?_);refine Zk [12,13] (ZY 2 ?_);refine Z1 (i:=14) ef ef ?_;refine(S.store (cs':=[_,_,_,_,_]) Eo.h rfl rfl rfl rfl rfl ?_);refine Zk [15,16] (ZY 2 ?_);refine Z1 (i:=17) ef ef ?_;refine(S.store (cs':=[_,_,_,_,_]) Eo.h rfl rfl rfl rfl rfl ?_);refine Zk [] ?_;refine ZD (S.X7 p #[.bool nd.up,.map (some rb),f.v,ov.v,.bool (nd.Qj || decide (Ya nd.rk≠0))] (by simp[u]) (S.X0 (roB ((x.Qu,{r with run:=true,gen:=x.gen,Kc:=0,Jz:=0},q):Ro)) (alls (rs.take i) roB) (alls (rs.drop (i+1)) roB) (Ent.Xo roB (x':=(x.Qu,{r with run:=true,gen:=x.gen,Kc:=0,Jz:=0},q)) k1 _) ?_));refine S.conv (Qz rb .u32 (rs.map roE)) (show Ent _ (Qz rb .u32 ((rs.set i (x.Qu,{r with run:=true,gen:=x.gen,Kc:=0,Jz:=0},q)).map roE)::_) by rw[k4];exact Ent.refl _) ?_;refine S.Yw p {nd with Qj:=nd.Qj || decide (Ya nd.rk≠0),rk:=Wl x.Qu {r with run:=true,gen:=x.gen,Kc:=0,Jz:=0} nd.rk} rb f ov (rs.set i (x.Qu,{r with run:=true,gen:=x.gen,Kc:=0,Jz:=0},q)) os ⟨by rw[←k3,k],j.os,j.i,j.o⟩ ?_;rw[←a];exact Zfn ef Zq (rfl)
   ·have L:x.kind≠5:=Qb
    refine ZY 5 ?_
    refine Zj ef (fun V=>?_) (fun V=>?_)
    ·have H:x.kind=6:=Qb
     refine ZY 4 ?_;refine Zv (Ye (pvs:=[(_,_),(_,_)]) [_,_,_,_,_,_,_,_,_,_,_,_,_] Tryz.z72.h Tryz.p72.h ⟨⟨rfl,rfl⟩,⟨rfl,rfl⟩,trivial⟩ rfl) (Zp (S.alloc Tryz.z72.h rfl ?_));intro I;refine Zp (Zs ef ef (cs':=[_,_,_,_,_,_,_,_,_,_,_,_,_]) ef (ZY 5 (Zp (Zcp Ze (Qmo (p:=p) (rb:=rb) j N) ?_))));obtain⟨A,E⟩:∃A,A=Ya nd.rk:=⟨_,rfl⟩;rw[←E];refine ZY 7 ?_
     refine Zj ef (fun U=>?_) (fun U=>?_)
     ·have Q:Ya nd.rk≠0:=Qb
      obtain⟨r2,P⟩:=Ps Q;have a:=Qr2 (x:=x) H Q P;rw[←E]at P a;obtain⟨i2,q2,c1,c2,Z,Y,_⟩:=Tw (rs:=rs) (id:=A) (r:=r2) (by rw[k];exact P);refine ZY 7 ?_;refine Zv (Qx (pt q2) Tryz.underlying104 Tryz.underlying31 Tryz.Qdr.h rfl rfl rfl (by rw[c2];rfl)) (ZY 4 (S.conv (alls rs roB) (Ent.Qmq c1 _) (ZY 5 ?_)));refine Zd ([blk q2 111 (rkC {r2 with run:=false}).toArray]) [] (Zra 0 10) (ZY 8 (ZY 2 ?_));refine Z1 (i:=10) ef ef ?_;refine(S.store (cs':=[_,_,_,_,_,_,_,_,_,_,_,_,_]) Eo.h rfl rfl rfl rfl rfl ?_);refine Zk [11] (Zy ?_);refine Z1 (i:=12) ef ef ?_;refine(S.store (cs':=[_,_,_,_,_,_,_,_,_,_,_,_,_]) Eo.h rfl rfl rfl rfl rfl ?_);refine Zk [13] (Zy ?_);refine Z1 (i:=14) ef ef ?_;refine(S.store (cs':=[_,_,_,_,_,_,_,_,_,_,_,_,_]) Eo.h rfl rfl rfl rfl rfl ?_);refine Zk [] ?_;refine ZD (S.X0 (roB ((A,{r2 with run:=false},q2):Ro)) (alls (rs.take i2) roB) (alls (rs.drop (i2+1)) roB) (Ent.Xo roB (x':=(A,{r2 with run:=false},q2)) c1 _) ?_);refine S.conv (Qz rb .u32 (rs.map roE)) (show Ent _ (Qz rb .u32 ((rs.set i2 (A,{r2 with run:=false},q2)).map roE)::_) by rw[Y];exact Ent.refl _) (S.X7 I (niC {kind:=7,gen:=x.gen,Qu:=A,Kc:=r2.Kc,Jz:=r2.Jz}).toArray rfl ?_);obtain⟨g,z⟩:∃g,g=rs.set i2 (A,{r2 with run:=false},q2):=⟨_,rfl⟩;obtain⟨h,t⟩:∃h:Nt,h={kind:=7,gen:=x.gen,Qu:=A,Kc:=r2.Kc,Jz:=r2.Jz}:=⟨_,rfl⟩;obtain⟨e,y⟩:∃e,e=Wl A {r2 with run:=false} nd.rk:=⟨_,rfl⟩;have C:g.map roR=e:=by rw[z,y,←Z,k]
      rw[←y,←t]at a;rw[←z,←t];refine Zd ([blk I 72 (niC h).toArray,blk p 107 #[.bool nd.up,.map (some rb),f.v,ov.v,.bool nd.Qj]]) [10] (Zra 0 6) (ZY 6 ?_);refine Z1 (i:=6) ef ef ?_;refine(S.buildSlice (pvs:=[(_,_)]) [_,_,_,_,_,_,_,_,_,_,_,_,_] Tryz.underlying105 Tryz.Jp.h rfl rfl ⟨⟨rfl,rfl⟩,trivial⟩ rfl rfl ?_);intro v;refine Zk [] ?_;refine Z1 (i:=7) ef ef ?_;refine(S.Z6 (s:=ov) (1) (otC ⟨h,SV.nil,[]⟩) Tryz.underlying105 Tryz.Jp.h rfl rfl rfl (Yb (b:=v) rfl (by unfold maxLen;omega)) (by first|rfl|exact Qw _) (⟨Qb,Qb⟩) rfl ?_);intro c w;refine Zk [8,9] (ZY 2 ?_);refine Z1 (i:=10) ef ef ?_;refine(S.store (cs':=[_,_,_,_,_]) Eo.h rfl rfl rfl rfl rfl ?_);refine ZL ([]) [] ?_;refine ZD ?_;refine S.U2 (own c 72 13 (os.flatMap otC++otC ⟨h,SV.nil,[]⟩)) (alls os otB) (Ent.Ru c os h _) ?_;refine S.Yw p {nd with rk:=e,out:=nd.out++[otR ⟨h,SV.nil,[]⟩],Qj:=nd.Qj} rb f c g (os++[⟨h,SV.nil,[]⟩]) (j.say ⟨h,SV.nil,[]⟩ w C _) ?_;refine S.conv (NI p {nd with rk:=e,out:=nd.out++[otR ⟨h,SV.nil,[]⟩],Qj:=nd.Qj}) (show Ent _ (NI p (Z9 nd x)::_) by rw[a];exact Ent.refl _) ?_;exact Zfn ef Zq (rfl)
     ·refine Zy ?_;have a:=Qln (nd:=nd) H (show ¬Ya nd.rk≠0 by omega);refine S.X7 I (niC {kind:=7,gen:=x.gen}).toArray rfl ?_;obtain⟨g,z⟩:∃g,g=rs:=⟨_,rfl⟩;obtain⟨h,t⟩:∃h:Nt,h={kind:=7,gen:=x.gen}:=⟨_,rfl⟩;obtain⟨e,y⟩:∃e,e=nd.rk:=⟨_,rfl⟩;have C:g.map roR=e:=by rw[z,y,k]
      have a:Z9 nd x={nd with rk:=e,out:=nd.out++[(h,[])]}:=by rw[a,t,y]
      rw[←t];refine S.U2 (Qz rb .u32 (rs.map roE)) (alls rs roB) (show Ent _ (Qz rb .u32 (g.map roE)::alls g roB::_) by rw[z];exact Ent.refl _) ?_;refine Zd ([blk I 72 (niC h).toArray,blk p 107 #[.bool nd.up,.map (some rb),f.v,ov.v,.bool nd.Qj]]) [10] (Zra 0 6) (ZY 6 ?_);refine Z1 (i:=6) ef ef ?_;refine(S.buildSlice (pvs:=[(_,_)]) [_,_,_,_,_,_,_,_,_,_,_,_,_] Tryz.underlying105 Tryz.Jp.h rfl rfl ⟨⟨rfl,rfl⟩,trivial⟩ rfl rfl ?_);intro v;refine Zk [] ?_;refine Z1 (i:=7) ef ef ?_;refine(S.Z6 (s:=ov) (1) (otC ⟨h,SV.nil,[]⟩) Tryz.underlying105 Tryz.Jp.h rfl rfl rfl (Yb (b:=v) rfl (by unfold maxLen;omega)) (by first|rfl|exact Qw _) (⟨Qb,Qb⟩) rfl ?_);intro c w;refine Zk [8,9] (ZY 2 ?_);refine Z1 (i:=10) ef ef ?_;refine(S.store (cs':=[_,_,_,_,_]) Eo.h rfl rfl rfl rfl rfl ?_);refine ZL ([]) [] ?_;refine ZD ?_;refine S.U2 (own c 72 13 (os.flatMap otC++otC ⟨h,SV.nil,[]⟩)) (alls os otB) (Ent.Ru c os h _) ?_;refine S.Yw p {nd with rk:=e,out:=nd.out++[otR ⟨h,SV.nil,[]⟩],Qj:=nd.Qj} rb f c g (os++[⟨h,SV.nil,[]⟩]) (j.say ⟨h,SV.nil,[]⟩ w C _) ?_;refine S.conv (NI p {nd with rk:=e,out:=nd.out++[otR ⟨h,SV.nil,[]⟩],Qj:=nd.Qj}) (show Ent _ (NI p (Z9 nd x)::_) by rw[a];exact Ent.refl _) ?_;exact Zfn ef Zq (rfl)
    ·have K:x.kind≠6:=Qb
     refine ZY 5 ?_
     refine Zj ef (fun T=>?_) (fun T=>?_)
     ·have a:=Q8r (nd:=nd) (show x.kind=8 by omega) m;refine S.conv (alls rs roB) (Ent.Qmq k1 _) (ZY 8 ?_)
      refine Zbb 133 ef (fun o=>?_) (fun o=>?_)
      ·refine ZY 8 (ZY 7 (S.X7 p #[.bool nd.up,.map (some rb),f.v,ov.v,.bool (nd.Qj || r.run)] (by simp[o]) (ZY 3 (ZT ef ?_))));refine Zd ([blk B 72 (niC x).toArray,blk q 111 (rkC r).toArray,blk p 107 #[.bool nd.up,.map (some rb),f.v,ov.v,.bool (nd.Qj || r.run)]]) [26] (Zra 0 20) (ZY 8 (ZY 8 (ZY 3 ?_)));refine Zw ef (Qw9 Tryz.it5.h (by rw[Tryz.underlying3];rfl) rfl) ?_;refine Z1 (i:=20) ef ef ?_;refine(S.buildSlice (pvs:=[(_,_),(_,_)]) [_,_] Tryz.underlying22 Tryz.Zcm.h rfl rfl ⟨⟨rfl,rfl⟩,⟨rfl,rfl⟩,trivial⟩ rfl rfl ?_);intro d;refine Zk [21] ?_;refine Zw ef (Ye (pvs:=[(_,_),(_,_),(_,_),(_,_),(_,_)]) [_,_,_,_,_,_,_,_,_,_,_,_,_] Tryz.z72.h Tryz.p72.h ⟨⟨rfl,rfl⟩,⟨rfl,rfl⟩,⟨rfl,rfl⟩,⟨rfl,rfl⟩,⟨rfl,rfl⟩,trivial⟩ rfl) ?_;refine Z1 (i:=22) ef ef ?_;refine(S.buildSlice (pvs:=[(_,_)]) [_,_,_,_,_,_,_,_,_,_,_,_,_] Tryz.underlying105 Tryz.Jp.h rfl rfl ⟨⟨rfl,rfl⟩,trivial⟩ rfl rfl ?_);intro G;refine Zk [] ?_;refine Z1 (i:=23) ef ef ?_;refine(S.Z6 (s:=ov) (1) (otC ⟨{kind:=9,Qu:=x.Qu,ver:=x.ver,Yl:=r.place},⟨some ⟨d,0,none⟩,2,2⟩,[(r.place:Int),((x.Qg % 256:Nat):Int)]⟩) Tryz.underlying105 Tryz.Jp.h rfl rfl rfl (Yb (b:=G) rfl (by unfold maxLen;omega)) (by first|rfl|exact Qw _) (⟨Qb,Qb⟩) rfl ?_);intro c w;refine Zk [24,25] (ZY 2 ?_);refine Z1 (i:=26) ef ef ?_;refine(S.store (cs':=[_,_,_,_,_]) Eo.h rfl rfl rfl rfl rfl ?_);refine ZL ([]) [] ?_;refine ZD ?_;rw[Zeu];refine S.conv (blk d 5 #[.int .u8 (r.place:Int),.int .u8 ((x.Qg % 256:Nat):Int)]) (Ent.Qyv d 5 1 2 [.int .u8 (r.place:Int),.int .u8 ((x.Qg % 256:Nat):Int)] rfl (by unfold maxLen;omega) _) ?_;refine S.X0 (own c 72 13 (os.flatMap otC++otC ⟨{kind:=9,Qu:=x.Qu,ver:=x.ver,Yl:=r.place},⟨some ⟨d,0,none⟩,2,2⟩,[(r.place:Int),((x.Qg % 256:Nat):Int)]⟩)) (alls os otB) (own ⟨some ⟨d,0,none⟩,2,2⟩ 5 1 [.int .u8 (r.place:Int),.int .u8 ((x.Qg % 256:Nat):Int)]) (Ent.Q4s c os ⟨{kind:=9,Qu:=x.Qu,ver:=x.ver,Yl:=r.place},⟨some ⟨d,0,none⟩,2,2⟩,[(r.place:Int),((x.Qg % 256:Nat):Int)]⟩ _) (S.X0 (roB ((x.Qu,r,q):Ro)) (alls (rs.take i) roB) (alls (rs.drop (i+1)) roB) (Ent.Xk roB k1 _) ?_);refine S.Yw p {nd with rk:=nd.rk,out:=nd.out++[otR ⟨{kind:=9,Qu:=x.Qu,ver:=x.ver,Yl:=r.place},⟨some ⟨d,0,none⟩,2,2⟩,[(r.place:Int),((x.Qg % 256:Nat):Int)]⟩],Qj:=nd.Qj || r.run} rb f c rs (os++[⟨{kind:=9,Qu:=x.Qu,ver:=x.ver,Yl:=r.place},⟨some ⟨d,0,none⟩,2,2⟩,[(r.place:Int),((x.Qg % 256:Nat):Int)]⟩]) (j.say _ w k _) ?_;refine S.conv (NI p {nd with rk:=nd.rk,out:=nd.out++[otR ⟨{kind:=9,Qu:=x.Qu,ver:=x.ver,Yl:=r.place},⟨some ⟨d,0,none⟩,2,2⟩,[(r.place:Int),((x.Qg % 256:Nat):Int)]⟩],Qj:=nd.Qj || r.run}) (show Ent _ (NI p (Z9 nd x)::_) by rw[a];exact Ent.refl _) ?_;exact Zfn ef Zq (rfl)
      ·refine ZY 8 (ZY 7 (S.X7 p #[.bool nd.up,.map (some rb),f.v,ov.v,.bool (nd.Qj || r.run)] (by simp[o]) (ZY 3 (ZT ef ?_))));refine Zd ([blk B 72 (niC x).toArray,blk q 111 (rkC r).toArray,blk p 107 #[.bool nd.up,.map (some rb),f.v,ov.v,.bool (nd.Qj || r.run)]]) [26] (Zra 0 20) (ZY 8 (ZY 8 (ZY 3 ?_)));refine Zw ef (Qw9 Tryz.it5.h (by rw[Tryz.underlying3];rfl) rfl) ?_;refine Z1 (i:=20) ef ef ?_;refine(S.buildSlice (pvs:=[(_,_),(_,_)]) [_,_] Tryz.underlying22 Tryz.Zcm.h rfl rfl ⟨⟨rfl,rfl⟩,⟨rfl,rfl⟩,trivial⟩ rfl rfl ?_);intro d;refine Zk [21] ?_;refine Zw ef (Ye (pvs:=[(_,_),(_,_),(_,_),(_,_),(_,_)]) [_,_,_,_,_,_,_,_,_,_,_,_,_] Tryz.z72.h Tryz.p72.h ⟨⟨rfl,rfl⟩,⟨rfl,rfl⟩,⟨rfl,rfl⟩,⟨rfl,rfl⟩,⟨rfl,rfl⟩,trivial⟩ rfl) ?_;refine Z1 (i:=22) ef ef ?_;refine(S.buildSlice (pvs:=[(_,_)]) [_,_,_,_,_,_,_,_,_,_,_,_,_] Tryz.underlying105 Tryz.Jp.h rfl rfl ⟨⟨rfl,rfl⟩,trivial⟩ rfl rfl ?_);intro G;refine Zk [] ?_;refine Z1 (i:=23) ef ef ?_;refine(S.Z6 (s:=ov) (1) (otC ⟨{kind:=9,Qu:=x.Qu,ver:=x.ver,Yl:=r.place},⟨some ⟨d,0,none⟩,2,2⟩,[(r.place:Int),((x.Qg % 256:Nat):Int)]⟩) Tryz.underlying105 Tryz.Jp.h rfl rfl rfl (Yb (b:=G) rfl (by unfold maxLen;omega)) (by first|rfl|exact Qw _) (⟨Qb,Qb⟩) rfl ?_);intro c w;refine Zk [24,25] (ZY 2 ?_);refine Z1 (i:=26) ef ef ?_;refine(S.store (cs':=[_,_,_,_,_]) Eo.h rfl rfl rfl rfl rfl ?_);refine ZL ([]) [] ?_;refine ZD ?_;rw[Zeu];refine S.conv (blk d 5 #[.int .u8 (r.place:Int),.int .u8 ((x.Qg % 256:Nat):Int)]) (Ent.Qyv d 5 1 2 [.int .u8 (r.place:Int),.int .u8 ((x.Qg % 256:Nat):Int)] rfl (by unfold maxLen;omega) _) ?_;refine S.X0 (own c 72 13 (os.flatMap otC++otC ⟨{kind:=9,Qu:=x.Qu,ver:=x.ver,Yl:=r.place},⟨some ⟨d,0,none⟩,2,2⟩,[(r.place:Int),((x.Qg % 256:Nat):Int)]⟩)) (alls os otB) (own ⟨some ⟨d,0,none⟩,2,2⟩ 5 1 [.int .u8 (r.place:Int),.int .u8 ((x.Qg % 256:Nat):Int)]) (Ent.Q4s c os ⟨{kind:=9,Qu:=x.Qu,ver:=x.ver,Yl:=r.place},⟨some ⟨d,0,none⟩,2,2⟩,[(r.place:Int),((x.Qg % 256:Nat):Int)]⟩ _) (S.X0 (roB ((x.Qu,r,q):Ro)) (alls (rs.take i) roB) (alls (rs.drop (i+1)) roB) (Ent.Xk roB k1 _) ?_);refine S.Yw p {nd with rk:=nd.rk,out:=nd.out++[otR ⟨{kind:=9,Qu:=x.Qu,ver:=x.ver,Yl:=r.place},⟨some ⟨d,0,none⟩,2,2⟩,[(r.place:Int),((x.Qg % 256:Nat):Int)]⟩],Qj:=nd.Qj || r.run} rb f c rs (os++[⟨{kind:=9,Qu:=x.Qu,ver:=x.ver,Yl:=r.place},⟨some ⟨d,0,none⟩,2,2⟩,[(r.place:Int),((x.Qg % 256:Nat):Int)]⟩]) (j.say _ w k _) ?_;refine S.conv (NI p {nd with rk:=nd.rk,out:=nd.out++[otR ⟨{kind:=9,Qu:=x.Qu,ver:=x.ver,Yl:=r.place},⟨some ⟨d,0,none⟩,2,2⟩,[(r.place:Int),((x.Qg % 256:Nat):Int)]⟩],Qj:=nd.Qj || r.run}) (show Ent _ (NI p (Z9 nd x)::_) by rw[a];exact Ent.refl _) ?_;exact Zfn ef Zq (rfl)
     ·have J:x.kind≠8:=Qb
      refine ZY 5 ?_
      refine Zj ef (fun R=>?_) (fun R=>?_)
      ·have a:=Qr4 (nd:=nd) (show x.kind=10 by omega);refine Zy ?_;refine Zd ([blk B 72 (niC x).toArray,blk p 107 #[.bool nd.up,.map (some rb),f.v,ov.v,.bool nd.Qj]]) [6] (Zra 0 6) (ZY 6 ?_);refine Z1 (i:=6) ef ef ?_;refine(S.Gz Tryz.underlying104 Tryz.underlying31 rfl rfl rfl ?_);refine ZL ([]) [] ?_;refine ZD ?_;refine Zd ([blk B 72 (niC x).toArray,blk p 107 #[.bool nd.up,.map (some rb),f.v,ov.v,.bool nd.Qj]]) [12] (Zra 0 8) (ZY 7 ?_);refine Zw ef (Ye (pvs:=[(_,_),(_,_)]) [_,_,_,_,_,_,_,_,_,_,_,_,_] Tryz.z72.h Tryz.p72.h ⟨⟨rfl,rfl⟩,⟨rfl,rfl⟩,trivial⟩ rfl) ?_;refine Z1 (i:=8) ef ef ?_;refine(S.buildSlice (pvs:=[(_,_)]) [_,_,_,_,_,_,_,_,_,_,_,_,_] Tryz.underlying105 Tryz.Jp.h rfl rfl ⟨⟨rfl,rfl⟩,trivial⟩ rfl rfl ?_);intro F;refine Zk [] ?_;refine Z1 (i:=9) ef ef ?_;refine(S.Z6 (s:=ov) (1) (otC ⟨{kind:=11,Qu:=x.Qu},SV.nil,[]⟩) Tryz.underlying105 Tryz.Jp.h rfl rfl rfl (Yb (b:=F) rfl (by unfold maxLen;omega)) (by first|rfl|exact Qw _) (⟨Qb,Qb⟩) rfl ?_);intro c w;refine Zk [10,11] (ZY 2 ?_);refine Z1 (i:=12) ef ef ?_;refine(S.store (cs':=[_,_,_,_,_]) Eo.h rfl rfl rfl rfl rfl ?_);refine ZL ([]) [] ?_;refine ZD ?_;refine S.U2 (own c 72 13 (os.flatMap otC++otC ⟨{kind:=11,Qu:=x.Qu},SV.nil,[]⟩)) (alls os otB) (Ent.Ru c os {kind:=11,Qu:=x.Qu} _) ?_;refine S.conv (alls rs roB) (show Ent _ (alls (rs.eraseIdx i) roB::_) from ((Ent.Qmq k1 _).trans ((Ent.drop _ _).trans (Ent.Cv roB _ _ _))).trans (by rw[Qdq];exact Ent.refl _)) ?_;rw[k7];refine S.Yw p {nd with rk:=Fe x.Qu nd.rk,out:=nd.out++[otR ⟨{kind:=11,Qu:=x.Qu},SV.nil,[]⟩],Qj:=nd.Qj} rb f c (rs.eraseIdx i) (os++[⟨{kind:=11,Qu:=x.Qu},SV.nil,[]⟩]) (j.say ⟨{kind:=11,Qu:=x.Qu},SV.nil,[]⟩ w (by rw[←k,k8]) _) ?_;refine S.conv (NI p {nd with rk:=Fe x.Qu nd.rk,out:=nd.out++[otR ⟨{kind:=11,Qu:=x.Qu},SV.nil,[]⟩],Qj:=nd.Qj}) (show Ent _ (NI p (Z9 nd x)::_) by rw[a];exact Ent.refl _) ?_;exact Zfn ef Zq (rfl)
      ·refine Zy (S.Yw p nd rb f ov rs os j ?_);refine S.conv (NI p nd) (show Ent _ (NI p (Z9 nd x)::_) by rw[Qlp M L K J Qb];exact Ent.refl _) ?_;exact Zfn ef Zq (rfl)
def Cn(m:Mx):Nat→Mx
 | 0=>m
 | i+1=>(Go.Proofs.YtdackcibfkkniaaGreatDoor.upR (Cn m i) i false).2
theorem Qif{m:Mx}(h:W6 m):∀i,i≤m.N→W6 (Cn m i)∧(Cn m i).R=m.R∧(Cn m i).N=m.N∧(Cn m i).js=m.js∧∀q,(Cn m i).up.getLsbD q=true→i≤q∧m.up.getLsbD q=true
 | 0,_=>⟨h,rfl,rfl,rfl,fun q a=>⟨Xq _,a⟩⟩
 | i+1,o=>by
  obtain⟨l,k,b,j,g⟩:=Qif h i Qb;have f:K7 (Cn m i) (i:Int)=true:=Ue.2 ⟨Qb,by rw[b];omega⟩;have d:Cn m (i+1)=(Cn m i).Fw i false:=by simp[Cn,Go.Proofs.YtdackcibfkkniaaGreatDoor.upR,f]
  rw[d];refine⟨l.Fw (by rw[b];omega) false,k,b,j,fun q a=>?_⟩;simp only[Mx.Fw]at a;rw[Qe Qp,C2,Z5,Qdl,Z5,Te]at a;obtain⟨q1,q2,q3⟩:=a;obtain⟨n,c⟩:=g q q1;refine⟨?_,c⟩;have:i≠q:=fun e=>by subst e;simp at q3;simp at q2;omega
  omega
theorem Qlg{R N:Nat}(h:W6 (mx0 R N)):Cn (mx0 R N) N={mx0 R N with up:=0#16}:=by
 obtain⟨m,i,f,g,l⟩:=Qif h N (Q1 _)
 have e:(Cn (mx0 R N) N).up=0#16:=Qdm fun q _=>by
  cases j:(Cn (mx0 R N) N).up.getLsbD q with
  | false=>simp
  | true=>
   have:=m.up q j;rw[f]at this;have:=(l q j).1;have:q<N:=by assumption
   omega
 cases k:Cn (mx0 R N) N with
 | mk a b c d=>
  rw[k]at i f g e;simp only at i f g e;rw[i,f,g,e]
theorem Q59(a:List Assn):Ent a (imgs SV.nil []::a):=by
 have h:Ent a (own SV.nil 60 4 (([]:List Ig).flatMap igC)::alls ([]:List Ig) igB::a):=(Ent.Fk igB a).trans (Ent.Xb 60 4);exact h.trans ((Ent.pack [_,_] a).trans (Ent.Kg a fun _ s=>⟨[],rfl,s⟩))
theorem Qxp{N R Q G hold:Nat}(h:W6 (mx0 R N))(q1:1≤Q)(q2:Q≤1000)(g1:1≤G)(g2:G≤1000):Yu (Qcc N R Q G hold):=by
 have a:=Qlg h;have:=(Qif h N (Q1 _)).1;rw[a]at this;exact⟨rfl,rfl,this,List.Pairwise.nil,fun x b=>(by cases b),Xq _,q1,q2,g1,g2,Xq _,Xq _,Xq _,fun d a=>(by cases a)⟩
theorem Zkb(N R Q G hold:Nat)(o:1≤R)(n:R≤8)(p:1≤N)(z:N≤16)(s:1≤Q)(r:Q≤1000)(u:1≤G)(t:G≤1000) :
  Spec Tryz.prog 11 [.agg #[.int .i64 (N:Int),.int .i64 (R:Int),.int .i64 (Q:Int),.int .i64 (G:Int)],.int .u32 (hold:Int)] [] fun f v w=>∃b ps,v=.tuple #[pt b,.int .i64 0]∧w=BP b (Qcc N R Q G hold) ps::f:=by
 have k:=Qna o n p z;refine Zbd Tryz.func11 rfl Tryz.ntmps11 fun B f=>Zsh (ZY 2 (Zp (S.box (cs:=[_,_,_,_]) rfl rfl rfl ?_)));intro y;refine ZY 8 (Zy (Zp (Zc1 Ze (Go.Proofs.YtdackcibfkkniaaGreatDoor.Zns R N o n p z) ?_)));rintro v w ⟨mb,rfl,rfl⟩;refine ZY 8 (ZY 8 (Zy (Zu 24 false ef ((Q6 Qb)) (ZY 5 (Zu 29 false ef ((Q6 Qb)) (ZY 5 (Zu 34 false ef ((Q6 Qb)) (ZY 5 ?_))))))))
 refine Zj ef (fun x=>?_) (fun x=>?_)
 ·exact absurd x Qb
 ·refine ZY 8 (Zy ?_);refine Zl (fun q h j=>∃(i:Nat) (g:Mx),q=N-i∧i≤N∧g=Cn (mx0 R N) i∧h=[(1,.int .u32 (hold:Int)),(2,pt y),(6,pt mb),(40,.int .i64 (N:Int)),(41,.int .i64 (i:Int))]∧j=blk y 25 #[.int .i64 (N:Int),.int .i64 (R:Int),.int .i64 (Q:Int),.int .i64 (G:Int)]::MI mb g::f) (m:=_) (⟨0,mx0 R N,rfl,Qb,rfl,rfl,rfl⟩) ?_;rintro q h j ⟨i,g,C,D,d,rfl,rfl⟩;refine ZY 5 ?_
  refine Zj ef (fun A=>?_) (fun A=>?_)
  ·refine ZY 8 (ZY 3 (Zp (Zcp Ze (Go.Proofs.YtdackcibfkkniaaGreatDoor.Q14 mb g i false) (ZY 2 (Zv (Za ef ef) (ZY 2 ?_))))));exact ZX (q-1) (⟨i+1,(Go.Proofs.YtdackcibfkkniaaGreatDoor.upR g i false).2,Qb,Qb,by rw[d];rfl,rfl,rfl⟩) Qb
  ·obtain rfl:i=N:=Qb
   rw[Qlg k]at d;refine ZY 5 (Zp (S.makeMap .i64 rfl ?_));intro a;refine Zp (S.makeMap .u32 rfl ?_);intro e;refine Zy ?_;refine Zv (Ye (pvs:=[(_,_),(_,_),(_,_),(_,_),(_,_),(_,_)]) [_,_,_,_,_,_,_,_,_,_,_,_,_,_,_,_,_,_] Tryz.z84.h Tryz.p84.h ⟨⟨rfl,rfl⟩,⟨rfl,rfl⟩,⟨rfl,rfl⟩,⟨rfl,rfl⟩,⟨rfl,rfl⟩,⟨rfl,rfl⟩,trivial⟩ rfl) (Zp (S.box (cs:=[_,_,_,_,_,_,_,_,_,_,_,_,_,_,_,_,_,_]) rfl rfl rfl ?_));intro c;refine ZY 4 ?_;refine S.conv (Qz a .i64 []) (show Ent _ (Qz a .i64 (Vo [])::_) from Ent.refl _) ?_;refine S.Qs (Ent.Fk (jI fun _=>0) _) ?_;refine S.Qs (show Ent _ (own SV.nil 97 14 (([]:List Od).flatMap odC)::_) from Ent.Xb 97 14) ?_;refine S.Qs (show Ent _ (own SV.nil 31 1 (Yp [])::_) from Ent.Xb 31 1) ?_;refine S.Qs (show Ent _ (own SV.nil 31 1 (Yp [])::_) from Ent.Xb 31 1) (S.Qs (Q59 _) (S.Qs (Ent.Qca _) ?_));refine S.conv (MI mb g) (show Ent _ (MI mb (Qcc i R Q G hold).m::_) by rw[d];exact Ent.refl _) ?_;refine S.sub (blk c 84 #[.int .i64 (i:Int),.int .i64 (R:Int),.int .i64 (Q:Int),.int .i64 (G:Int),.int .u32 (hold:Int),.int .u32 0,.map (some a),.map (some e),pt mb,.slice none 0 0,.slice none 0 0,.slice none 0 0,.int .u32 0,.int .i64 (-1),.slice none 0 0,.int .u32 0,.map none,.bool false]::Qz a .i64 (Vo [])::Qz e .u32 []::alls [] (jI fun _=>0)::MI mb (Qcc i R Q G hold).m::own SV.nil 97 14 (([]:List Od).flatMap odC)::imgs SV.nil []::own SV.nil 31 1 (Yp [])::own SV.nil 31 1 (Yp [])::Vp none none::f) ?_;refine S.Qs (show Ent _ (BP c (Qcc i R Q G hold) (fun _=>0)::f) from Ent.bp (b:=c) (st:=Qcc i R Q G hold) (ps:=fun _=>0) (ub:=a) (jb:=e) (mb:=mb) (ov:=SV.nil) (iv:=SV.nil) (dv:=SV.nil) (mv:=SV.nil) (sb:=none) (l:=[]) ⟨Qxp k s r u t,Qom _,rfl,rfl,rfl,rfl,rfl⟩ f) ?_;exact Zf ef Zq (⟨c,fun _=>0,rfl,rfl⟩)
def Qek(st:Br)(i:Im):Bool:=match Qk st.js i.Qu with
 | none=>false
 | some x=>match x.Xg with
  | none=>false
  | some s=>decide (s.ver=i.ver)
theorem Qt1(st:Br):Vx st=(st.Qf.filter (Qek st),{st with Qf:=[]}):=rfl
theorem Q0z{st:Br}{i:Im}(h:Qk st.js i.Qu=none):Qek st i=false:=by rw[Qek,h]
theorem Q6a{st:Br}{i:Im}{x:Bj}(h:Qk st.js i.Qu=some x)(a:x.Xg=none):Qek st i=false:=by rw[Qek,h];dsimp only;rw[a]
theorem Q0y{st:Br}{i:Im}{x:Bj}{s:Sv}(h:Qk st.js i.Qu=some x)(a:x.Xg=some s):Qek st i=decide (s.ver=i.ver):=by rw[Qek,h];dsimp only;rw[a]
theorem Bv{a:Type}{p:a→Bool}{l:List a}{i:Nat}{x:a}(c:l[i]?=some x)(b:Bool)(h:p x=b):(l.take (i+1)).filter p=(l.take i).filter p++if b then [x] else []:=by
 rw[X2,c,Gu];cases b <;> simp[h]
abbrev bNI(b:Nat)(st:Br)(ps:Nat→Nat)(a jb c:Nat)(ov f d mv:SV)(sb:Option Nat)(l:List (Int×Value))(e:List Assn):List Assn:=
 blk b 84 (bC st a jb c ov f d mv sb).toArray::Qz a .i64 (Vo st.up)::Qz jb .u32 l::alls st.js (jI ps)::MI c st.m::own ov 97 14 (st.Qd.flatMap odC)::own d 31 1 (Yp st.done)::own mv 31 1 (Yp st.members)::Vp sb st.stops::e
set_option maxHeartbeats 1000000 in
theorem Q80(b:Nat)(st:Br)(ps:Nat→Nat)(a6:st.Qf.length≤900000):Spec Tryz.prog 31 [pt b] [BP b st ps] fun I v Θ=>∃u:SV,v=u.v∧u.n=(Vx st).1.length∧Θ=imgs u (Vx st).1::BP b (Vx st).2 ps::I:=by
 rw[Qt1];refine Spec.J3 fun n=>?_;refine Zbd Tryz.func31 rfl Tryz.ntmps31 fun w0 I=>Zsh ?_;refine S.W5 b st ps fun N jb O ov j V mv sb l r=>?_;refine S.L1 j st.Qf fun os D=>?_;have E:os.length=st.Qf.length:=by rw[←D,Qo]
 have a5:j.n=os.length:=by rw[E];exact r.im
 refine S.Xn j fun a4 Bt a3=>?_;have a2:maxLen≤9223372036854775807:=by unfold maxLen;omega
 refine ZY 8 (ZY 2 (ZF ef (ZY 8 ?_)));refine S.Qs (show Ent _ (own SV.nil 60 4 (([]:List Ig).flatMap igC)::_) from Ent.Xb 60 4) (S.Qs (Ent.Fk igB _) (ZY 8 ?_));refine Zl (fun h A B=>∃(e:Nat) (rs a:List Ig) (u:SV),h=os.length-e∧e≤os.length∧rs=os.drop e∧a.map (·.2)=(st.Qf.take e).filter (Qek st)∧a.length≤e∧u.n=a.length∧A=[(0,pt b),(3,u.v),(12,j.v),(13,.int .i64 (j.n:Int)),(14,.int .i64 (e:Int))]∧B=own j 60 4 (os.flatMap igC)::alls rs igB::own u 60 4 (a.flatMap igC)::alls a igB::bNI b st ps N jb O ov j V mv sb l I) (m:=_) (⟨0,os,[],SV.nil,rfl,Qb,rfl,rfl,Q2,rfl,rfl,rfl⟩) ?_;rintro h A B ⟨e,rs,a,u,hq,he,C,c,a0,d,rfl,rfl⟩;refine ZY 5 ?_
 refine Zj ef (fun h2=>?_) (fun h2=>?_)
 ·refine S.Q7 j Qb fun ib io F _ _ _=>?_;obtain⟨o,Q⟩:=Xs (show e<os.length by omega)
  have P:os.drop e=o::os.drop (e+1):=by
   have Z:=Yz.1 Q;rw[R2 Z.1,Z.2]
  have p:st.Qf[e]?=some o.2:=by rw[←D,Q8,Q];rfl
  rw[P]at C;subst C;refine S.conv (alls (o::os.drop (e+1)) igB) (Ent.Ct igB o (os.drop (e+1)) _) (ZY 5 (Zv (Zx (e) ef (F) ef Qb) ?_));refine Zv (Ub (j) (e*4) [_,_,_,_] Eo.h rfl F (by first|rfl|exact Xr _ _ _|omega) rfl (Wr (enc:=igC) (sz:=4) (fun _=>rfl) Q)) (Zp (S.alloc Tryz.z60.h rfl ?_));intro W;refine Zp (Zs ef ef (cs':=[_,_,_,_]) ef (ZY 2 ?_))
  rcases z:Qk st.js o.2.Qu with _|x
  ·have Y:Yh (o.2.Qu:Int) l=none:=by rw[Un n.Y4 r.perm,z];rfl
   have f:a.map (·.2)=(st.Qf.take (e+1)).filter (Qek st):=by rw[Bv p false (Q0z z),c];simp
   refine Zd0 (Zra 0 8) (ZY 6 ?_);refine Zw ef (Qx (.pointer none) Tryz.underlying82 Tryz.underlying31 Tryz.Jv.h rfl rfl rfl (by rw[Y];rfl)) (Zy ?_);refine ZD (Zy ?_);refine Zd ([blk W 60 (igC o).toArray]) [] [0,1,2] (ZY 3 ?_);refine Zr (Zra 3 19) (ZY 8 (ZY 8 (ZY 3 ?_)));refine ZD (ZY 3 (Zv (Za ef ef) (ZY 2 ?_)));first|exact ZX (h-1) ⟨e+1,os.drop (e+1),a++[o],J,Qb,Qb,rfl,f,by rw[Yd,Y0];omega,by rw[Yd,Y0];omega,rfl,rfl⟩ Qb|exact ZX (h-1) ⟨e+1,os.drop (e+1),a,u,Qb,Qb,rfl,f,Qb,d,rfl,rfl⟩ Qb
  ·obtain⟨Dj,G4⟩:=Qi z;have Y:Yh (o.2.Qu:Int) l=some (pt (ps x.id)):=by rw[Un n.Y4 r.perm,z];rfl
   obtain⟨i,M,_,_⟩:=P5 n.Y4 z;refine Zd0 (Zra 0 8) (ZY 6 ?_);refine Zw ef (Qx (pt (ps x.id)) Tryz.underlying82 Tryz.underlying31 Tryz.Jv.h rfl rfl rfl (by rw[Y];rfl)) (Zy ?_);refine ZD (Zy (S.conv (alls st.js (jI ps)) (Ent.U5 (jI ps) M _) ?_));refine S.Qnn (ps x.id) x fun H lb G rb K U w y t k=>?_
   rcases g:x.Xg with _|s
   ·have L:=Q6a z g;have f:a.map (·.2)=(st.Qf.take (e+1)).filter (Qek st):=by rw[Bv p false L,c];simp
    obtain rfl:K=none:=by rw[g]at k;cases K with|none=>rfl|some q=>cases k
    refine Zd ([blk W 60 (igC o).toArray,blk (ps x.id) 90 (bjC x H lb G rb none).toArray]) [] [0,1,2] (ZY 3 ?_);refine Zr (Zra 3 7) (ZY 7 ?_);refine Zr (Zra 10 12) (ZY 8 (ZY 4 ?_));refine ZD (ZY 3 ?_);refine S.conv (Jw none x.id none) (show Ent _ (Jw none x.id x.Xg::_) by rw[g];exact Ent.refl _) ?_;refine S.Qas (ps x.id) x H lb G rb none U w y t (by rw[g];rfl) (S.X0 (JI (ps x.id) x) (alls (st.js.take i) (jI ps)) (alls (st.js.drop (i+1)) (jI ps)) (Ent.Xk (jI ps) M _) (Zv (Za ef ef) (ZY 2 ?_)));first|exact ZX (h-1) ⟨e+1,os.drop (e+1),a++[o],J,Qb,Qb,rfl,f,by rw[Yd,Y0];omega,by rw[Yd,Y0];omega,rfl,rfl⟩ Qb|exact ZX (h-1) ⟨e+1,os.drop (e+1),a,u,Qb,Qb,rfl,f,Qb,d,rfl,rfl⟩ Qb
   ·have L:=Q0y z g;obtain⟨q,rfl⟩:∃q,K=some q:=by rw[g]at k;cases K with|none=>cases k|some q=>exact⟨q,rfl⟩
    refine S.Qmk q x.id s fun T sv=>?_;refine Zd ([blk W 60 (igC o).toArray,blk (ps x.id) 90 (bjC x H lb G rb (some q)).toArray,blk q 131 #[.int .u32 (x.id:Int),.int .u32 (s.ver:Int),.int .i64 (s.Qg:Int),sv.v,.map (some T),.bool s.told]]) [] [0,1,2] (ZY 3 ?_);refine Zr (Zra 3 7) (ZY 7 ?_);refine Zr (Zra 10 12) (ZY 8 (ZY 4 ?_));refine ZD ?_
    refine Zj ef (fun h3=>?_) (fun h3=>?_)
    ·have f:(a++[o]).map (·.2)=(st.Qf.take (e+1)).filter (Qek st):=by rw[Bv p true (by rw[L];exact Zh Qb),Vc,c];rfl
     refine ZY 3 ?_;refine Zp (S.buildSlice (pvs:=[(_,_)]) [_,_,_,_] Tryz.underlying51 Tryz.Qqz.h rfl rfl ⟨⟨rfl,rfl⟩,trivial⟩ rfl rfl ?_);intro X;refine Zp (S.Z6 (s:=u) (1) (igC o) Tryz.underlying51 Tryz.Qqz.h rfl rfl rfl (Yb (b:=X) rfl (by unfold maxLen;omega)) (by first|rfl|exact Qw _) (⟨Qb,Qb⟩) rfl ?_);intro J a1;rw[Wv igC a o];refine S.U2 (igB o) (alls a igB) (Ent.Ew igB a o _) (ZY 3 (S.Dq q T sv x.id s ?_));refine S.conv (Jw (some q) x.id (some s)) (show Ent _ (Jw (some q) x.id x.Xg::_) by rw[g];exact Ent.refl _) ?_;refine S.Qas (ps x.id) x H lb G rb (some q) U w y t (by rw[g];rfl) (S.X0 (JI (ps x.id) x) (alls (st.js.take i) (jI ps)) (alls (st.js.drop (i+1)) (jI ps)) (Ent.Xk (jI ps) M _) (Zv (Za ef ef) (ZY 2 ?_)));first|exact ZX (h-1) ⟨e+1,os.drop (e+1),a++[o],J,Qb,Qb,rfl,f,by rw[Yd,Y0];omega,by rw[Yd,Y0];omega,rfl,rfl⟩ Qb|exact ZX (h-1) ⟨e+1,os.drop (e+1),a,u,Qb,Qb,rfl,f,Qb,d,rfl,rfl⟩ Qb
    ·have f:a.map (·.2)=(st.Qf.take (e+1)).filter (Qek st):=by rw[Bv p false (by rw[L];exact Q6 Qb),c];simp
     refine ZY 2 (S.Dq q T sv x.id s ?_);refine S.conv (Jw (some q) x.id (some s)) (show Ent _ (Jw (some q) x.id x.Xg::_) by rw[g];exact Ent.refl _) ?_;refine S.Qas (ps x.id) x H lb G rb (some q) U w y t (by rw[g];rfl) (S.X0 (JI (ps x.id) x) (alls (st.js.take i) (jI ps)) (alls (st.js.drop (i+1)) (jI ps)) (Ent.Xk (jI ps) M _) (Zv (Za ef ef) (ZY 2 ?_)));first|exact ZX (h-1) ⟨e+1,os.drop (e+1),a++[o],J,Qb,Qb,rfl,f,by rw[Yd,Y0];omega,by rw[Yd,Y0];omega,rfl,rfl⟩ Qb|exact ZX (h-1) ⟨e+1,os.drop (e+1),a,u,Qb,Qb,rfl,f,Qb,d,rfl,rfl⟩ Qb
 ·have R:e=os.length:=Qb
  rw[show st.Qf.take e=st.Qf by rw[R,E,Wh]]at c;refine ZY 8 (ZY 6 (S.U2 (own u 60 4 (a.flatMap igC)) (alls a igB) (Ent.Ql6 u a _) (S.Qs (Q59 _) ?_)));refine S.sub (bX b {st with Qf:=[]} ps N jb O ov SV.nil V mv sb l (imgs u (a.map (fun x:Ig=>x.2))::I)) ?_;refine S.Yk b {st with Qf:=[]} ps N jb O ov SV.nil V mv sb l ⟨n.iset [],r.perm,r.on,rfl,r.dn,r.mn,r.sn⟩ ?_;exact Zf ef Zq (⟨u,rfl,by rw[←c,Qo];exact d,by rw[←c]⟩)
theorem Q1d{st:Br}{n:Int}{t:Nt}{blob:List Int}(h:Vh st n true≠0):X6 st n t blob=(Vh st n true,st):=by rw[X6,Qh h]
theorem Qud{st:Br}{n:Nat}{t:Nt}{blob:List Int}(h:¬Vh st n true≠0)(a:t.kind=7):X6 st n t blob=(0,Ut st n t):=by rw[X6,Qe h,Qh a];rfl
theorem Que{st:Br}{n:Nat}{t:Nt}{blob:List Int}(h:¬Vh st n true≠0)(b:t.kind≠7)(a:Qk st.js t.Qu=none):X6 st n t blob=(0,st):=by rw[X6,Qe h,Qe b,a]
theorem Quf{st:Br}{n:Nat}{t:Nt}{blob:List Int}(h:¬Vh st n true≠0)(c:t.kind≠7){x:Bj}(b:Qk st.js t.Qu=some x)(a:n∉x.at_):X6 st n t blob=(0,st):=by
 rw[X6,Qe h,Qe c,b];exact Qe a
theorem Q62{st:Br}{n:Nat}{t:Nt}{blob:List Int}(h:¬Vh st n true≠0)(c:t.kind≠7){x:Bj}(b:Qk st.js t.Qu=some x)(a:n∈x.at_):X6 st n t blob=(0,U8 st x n t blob):=by
 rw[X6,Qe h,Qe c,b];exact Qh a
abbrev N2(x:Bj)(d:List Nat)(n:Nat):Bj:={x with Xt:=some (Xm d n),state:=if (Xm d n).length=x.at_.length then 2 else 1}
theorem JOk.N2{N:Nat}{x:Bj}(h:JOk N x){d:List Nat}{n:Nat}(b:(Xm d n).Nodup):JOk N (N2 x d n):=⟨h.P3,h.Rx,h.tier,h.k1,h.kn,h.w,h.cr,h.wk,h.Uy,h.at_,h.drop,fun e a=>(by cases a;exact b),h.X4,fun _=>rfl,h.svl⟩
theorem F3{s:List Nat}(h:s.Nodup)(x:Nat):(Xm s x).Nodup:=by
 unfold Xm
 split
 ·exact h
 ·rename_i d;rw[Qjd];exact⟨h,Q2,fun a f b c e=>d (by rw[Vd]at c;rw[←c,←e];exact f)⟩
section
variable {st:Br}{x:Bj}{n:Nat}{t:Nt}{blob:List Int}
theorem Q65{d:List Nat}(c:t.kind=4)(a:x.state=1)(b:x.Xt=some d):U8 st x n t blob=st.set (N2 x d n):=by
 unfold U8;rw[Qh c,Qh a,b];rfl
theorem Q1e(b:t.kind=4)(a:x.state≠1):U8 st x n t blob=st:=by
 unfold U8;rw[Qh b,Qe a]
theorem Q63(a:t.kind=9):U8 st x n t blob=Ky st x n t blob:=by
 unfold U8;rw[Qe Qb,Qh a]
theorem Q66{d:List Nat}(h:t.kind=11)(a:x.Ql=some d):U8 st x n t blob=Y6 st (Cq x d n):=by
 unfold U8;rw[Qe Qb,Qe Qb,Qh h,a]
theorem Q1f(h:t.kind=11)(a:x.Ql=none):U8 st x n t blob=st:=by
 unfold U8;rw[Qe Qb,Qe Qb,Qh h,a]
theorem Q64(b:t.kind≠4)(a:t.kind≠9)(h:t.kind≠11):U8 st x n t blob=st:=by
 unfold U8;rw[Qe b,Qe a,Qe h]
end
set_option maxHeartbeats 1000000 in
theorem Zj4(b:Nat)(st:Br)(ps:Nat→Nat)(n:Int)(t:Nt)(R:Assn)(L:SV)(blob:List Int)(X:L.n=blob.length)(Y:blob.length≤1000000)(hR:RdS R L L.n 1 (bcells blob))(hz:t.Kc≤4294967295∧t.Jz≤4294967295)(V:t.Yl≤255)(hl:st.Qd.length≤880000)(W:st.Qf.length≤900000) :
  Spec Tryz.prog 30 [pt b,.int .i64 n,.agg (ntC t L).toArray] [BP b st ps,R] fun I v H=>v=.int .i64 (X6 st n t blob).1∧H=BP b (X6 st n t blob).2 ps::R::I:=by
 refine Spec.J3 fun h=>?_;refine Zbd Tryz.func30 rfl Tryz.ntmps30 fun w0 I=>Zsh (ZY 2 (Zp (S.box (cs:=[_,_,_,_,_,_,_,_,_,_,_,_,_]) rfl rfl rfl ?_)));intro b5;refine ZY 7 (Zp (Zcp Ze (Lo b st ps n true) (ZY 7 ?_)))
 refine Zj ef (fun K=>?_) (fun K=>?_)
 ·have f:=Q1d (t:=t) (blob:=blob) K;refine ZY 6 ?_;exact Zf ef Zq (⟨by rw[f];rfl,by rw[f]⟩)
 ·have hr:=Qe6 (W7 K);obtain⟨k,rfl⟩:∃k:Nat,n=k:=⟨n.toNat,Qb⟩;refine ZY 8 ?_
  refine Zj ef (fun h2=>?_) (fun h2=>?_)
  ·have f:=Qud (t:=t) (blob:=blob) K Qb;refine ZY 5 (Zp (Zc1 Ze (Zdf b st ps k t L hz hl) ?_));rintro v H rfl;refine ZY 6 ?_;exact Zf ef Zq (⟨by rw[f];rfl,by rw[f]⟩)
  ·have O:t.kind≠7:=fun e=>h2 (by rw[e];rfl);refine ZY 2 ?_
   rcases M:Qk st.js t.Qu with _|x
   ·have f:=Que (blob:=blob) K O M;refine S.W5 b st ps fun p jb r ov s u mv sb l A=>?_;have Fv:Yh (t.Qu:Int) l=none:=by rw[Un h.Y4 A.perm,M];rfl
    refine Zd0 (Zra 0 8) (ZY 6 ?_);refine Zw ef (Qx (.pointer none) Tryz.underlying82 Tryz.underlying31 Tryz.Jv.h rfl rfl rfl (by rw[Fv];rfl)) (Zy ?_);refine ZD (ZY 8 (ZY 8 (ZY 5 (S.Yk b st ps p jb r ov s u mv sb l A ?_))));exact Zf ef Zq (⟨by rw[f];rfl,by rw[f]⟩)
   ·obtain⟨_,G4⟩:=Qi M;have E:Qk st.js x.id=some x:=by rw[G4];exact M
    have C:=h.at_ E;have hN:=h.Ra;have a1:=C.len;refine S.Uu b st ps x E fun p jb r ov s u mv sb l i m lb w rb o A G Yr a0 g=>?_;have Fv:Yh (t.Qu:Int) l=some (pt (ps x.id)):=by rw[Un h.Y4 A.perm,M];rfl
    refine Zd0 (Zra 0 8) (ZY 6 ?_);refine Zw ef (Qx (pt (ps x.id)) Tryz.underlying82 Tryz.underlying31 Tryz.Jv.h rfl rfl rfl (by rw[Fv];rfl)) (Zy ?_);refine ZD (ZY 8 (ZY 3 (Zg ef ef ef (Zcp Ze (S8 (own m 3 1 (nds x.at_)) m x.at_ k g.an RdS.own) (ZY 3 ?_)))))
    refine Zi ef (fun Z=>?_) (fun Z=>?_)
    ·have f:=Quf (blob:=blob) K O M (show k∉x.at_ by simpa using Z);refine ZY 5 (S.Q0 b st ps p jb r ov s u mv sb l i x m lb w rb o G rfl (Yr x rfl) (A.set C) g ?_);rw[Z4 h E];exact Zf ef Zq (⟨by rw[f];rfl,by rw[f]⟩)
    ·have N:k∈x.at_:=by simpa using Z
     have f:=Q62 (blob:=blob) K O M N;refine ZY 8 (ZY 5 ?_)
     refine Zj ef (fun h4=>?_) (fun h4=>?_)
     ·have F:t.kind=4:=Qb
      refine ZY 8 (Zy ?_)
      refine Zj ef (fun h5=>?_) (fun h5=>?_)
      ·have J:x.state=1:=Qb
       obtain⟨d,D⟩:∃d,x.Xt=some d:=B2.1 (C.ld J);obtain⟨q,rfl⟩:∃q,lb=some q:=by have:=g.l;rw[D]at this;cases lb with|none=>cases this|some q=>exact⟨q,rfl⟩
       refine S.conv (Vp (some q) x.Xt) (Ent.Q0g D _) ?_;have z:=Q65 (st:=st) (n:=k) (blob:=blob) F J D;have U:=C.lod d D;obtain⟨c,a⟩:∃c:Bj,c=N2 x d k:=⟨_,rfl⟩;have T:JOk st.nodes c:=by rw[a];exact C.N2 (F3 U k)
       have j:c.id=x.id:=by rw[a]
       refine ZY 7 (Zp (Zc1 Ze (Qr0 q d k) ?_));rintro v H rfl;refine ZY 2 ?_;refine Zd0 (Zra 0 11) (ZY 8 (ZY 3 ?_));refine ZD ?_
       refine Zj ef (fun h6=>?_) (fun h6=>?_)
       ·refine ZY 7 ?_;have B:(Xm d k).length=x.at_.length:=by have:=Al (Xm d k);have:=g.an;omega
        refine S.X7 (ps x.id) (bjC c m (some q) w rb o).toArray (by rw[a];simp only[N2,Qh B];rfl) ?_;refine S.conv (Qz q .i64 (Vo (Xm d k))) (Ent.Qjn (show c.Xt=some (Xm d k) by rw[a]) _) ?_;refine S.sub (jX (ps x.id) c m (some q) w rb o (bR b st ps p jb r ov s u mv sb l i (R::I))) (e:=by subst a;infer_instance) ?_;refine S.Q0 b st ps p jb r ov s u mv sb l i c m (some q) w rb o G j (Yr c j) (A.set T) ⟨by rw[a];exact g.an,by rw[a];rfl,by rw[a];exact g.d,by rw[a];exact g.r,by rw[a];exact g.s⟩ ?_;rw[a,←z];refine ZY 5 ?_;exact Zf ef Zq (⟨by rw[f];rfl,by rw[f]⟩)
       ·refine Zy ?_;have B:¬(Xm d k).length=x.at_.length:=by have:=Al (Xm d k);have:=g.an;omega
        refine S.X7 (ps x.id) (bjC c m (some q) w rb o).toArray (by rw[a];simp only[Qe B,bjC];rw[J]) ?_;refine S.conv (Qz q .i64 (Vo (Xm d k))) (Ent.Qjn (show c.Xt=some (Xm d k) by rw[a]) _) ?_;refine S.sub (jX (ps x.id) c m (some q) w rb o (bR b st ps p jb r ov s u mv sb l i (R::I))) (e:=by subst a;infer_instance) ?_;refine S.Q0 b st ps p jb r ov s u mv sb l i c m (some q) w rb o G j (Yr c j) (A.set T) ⟨by rw[a];exact g.an,by rw[a];rfl,by rw[a];exact g.d,by rw[a];exact g.r,by rw[a];exact g.s⟩ ?_;rw[a,←z];refine ZY 5 ?_;exact Zf ef Zq (⟨by rw[f];rfl,by rw[f]⟩)
      ·refine Zy ?_;have z:=Q1e (st:=st) (n:=k) (blob:=blob) F (show x.state≠1 by omega);refine S.Q0 b st ps p jb r ov s u mv sb l i x m lb w rb o G rfl (Yr x rfl) (A.set C) g ?_;rw[Z4 h E];refine S.conv (BP b st ps) (show Ent _ (BP b (U8 st x k t blob) ps::_) by rw[z];exact Ent.refl _) (ZY 5 ?_);exact Zf ef Zq (⟨by rw[f];rfl,by rw[f]⟩)
     ·have F:t.kind≠4:=Qb
      refine ZY 5 ?_
      refine Zj ef (fun O=>?_) (fun O=>?_)
      ·have z:=Q63 (st:=st) (x:=x) (n:=k) (blob:=blob) (show t.kind=9 by omega);refine S.Q0 b st ps p jb r ov s u mv sb l i x m lb w rb o G rfl (Yr x rfl) (A.set C) g ?_;rw[Z4 h E];refine ZY 5 (Zp (Zc1 Ze (Zax b st ps x k t R L blob E N X Y hR W V) ?_));rintro v H rfl;refine Zy ?_;rw[←z];refine ZY 5 ?_;exact Zf ef Zq (⟨by rw[f];rfl,by rw[f]⟩)
      ·refine ZY 5 ?_
       refine Zj ef (fun h8=>?_) (fun h8=>?_)
       ·have P:t.kind=11:=Qb
        refine ZY 6 (Zv (F7 Tryz.underlying81 rfl rfl) (Zy ?_))
        refine Zi ef (fun Q=>?_) (fun Q=>?_)
        ·obtain⟨q,rfl⟩:∃q,w=some q:=by cases w with|none=>cases Q|some q=>exact⟨q,rfl⟩
         obtain⟨d,D⟩:∃d,x.Ql=some d:=by have:=g.d;cases e9:x.Ql with|none=>rw[e9]at this;cases this|some d=>exact⟨d,rfl⟩
         have z:=Q66 (st:=st) (n:=k) (blob:=blob) P D;have U:=C.drop d D;refine S.conv (Vp (some q) x.Ql) (Ent.Q0g D _) ?_;obtain⟨c,a⟩:∃c:Bj,c=Cq x d k:=⟨_,rfl⟩;have T:JOk st.nodes c:=by rw[a];exact C.Cq U k
         have j:c.id=x.id:=by rw[a]
         refine ZY 7 (Zp (S.Gz Tryz.underlying81 Tryz.underlying3 rfl rfl rfl ?_));rw[Tt k U];refine ZY 4 ?_;refine S.conv (Qz q .i64 (Vo (Jd d k))) (Ent.Qjn (show c.Ql=some (Jd d k) by rw[a]) _) (S.X7 (ps x.id) (bjC c m lb (some q) rb o).toArray (by rw[a]) ?_);refine S.sub (blk b5 72 (ntC t L).toArray::jX (ps x.id) c m lb (some q) rb o (bR b st ps p jb r ov s u mv sb l i (R::I))) (e:=by subst a;infer_instance) ?_;refine S.Q0 b st ps p jb r ov s u mv sb l i c m lb (some q) rb o G j (Yr c j) (A.set T) ⟨by rw[a];exact g.an,by rw[a];exact g.l,by rw[a];rfl,by rw[a];exact g.r,by rw[a];exact g.s⟩ ?_;refine Zp (Zc1 Ze ((j ▸ Qnx b (st.set c) ps c (Bu st (by rw[j];exact E)):Spec Tryz.prog 53 [pt b,pt (ps x.id)] [BP b (st.set c) ps] fun I _ H=>H=BP b (Y6 (st.set c) c) ps::I)) ?_);rintro v H rfl;rw[A7 st (x:=c) (y:=c) rfl];refine Zy ?_;rw[a,←z];refine ZY 5 ?_;exact Zf ef Zq (⟨by rw[f];rfl,by rw[f]⟩)
        ·refine Zy ?_;have D:x.Ql=none:=by have:=g.d;cases e9:x.Ql with|none=>rfl|some d=>rw[e9]at this;rw[this]at Q;cases Q
         have z:=Q1f (st:=st) (n:=k) (blob:=blob) P D;refine S.Q0 b st ps p jb r ov s u mv sb l i x m lb w rb o G rfl (Yr x rfl) (A.set C) g ?_;rw[Z4 h E];refine S.conv (BP b st ps) (show Ent _ (BP b (U8 st x k t blob) ps::_) by rw[z];exact Ent.refl _) (ZY 5 ?_);exact Zf ef Zq (⟨by rw[f];rfl,by rw[f]⟩)
       ·refine Zy ?_;have z:=Q64 (st:=st) (x:=x) (n:=k) (blob:=blob) F (show t.kind≠9 by omega) (show t.kind≠11 by omega);refine S.Q0 b st ps p jb r ov s u mv sb l i x m lb w rb o G rfl (Yr x rfl) (A.set C) g ?_;rw[Z4 h E];refine S.conv (BP b st ps) (show Ent _ (BP b (U8 st x k t blob) ps::_) by rw[z];exact Ent.refl _) (ZY 5 ?_);exact Zf ef Zq (⟨by rw[f];rfl,by rw[f]⟩)
section
variable {n:Nat}{md:Bool}{w0:WM md}{ρ:Env}{Γ Δ:List Assn}{φ:Act→World→Prop}
theorem S.Qnh(v:SV)(k:Nat)[q:Pick (Hf v k) Γ Δ](f:∀l:List Nat,l.length≤k→v.n=l.length→S n w0 ρ (own v 31 1 (Yp l)::Δ) φ):S n w0 ρ Γ φ:=by
 intro a w i h g;obtain⟨h0,e,m,j,d,c,b,⟨l,q1,q2,q3⟩,s⟩:=h.Qs q.Qs;exact f l q1 q2 a w i ⟨h0,e,m,j,d,c,b,q3,s⟩ g
theorem Ent.lst(v:SV){l:List Nat}{k:Nat}(h:l.length≤k)(a:v.n=l.length)(Γ:List Assn):Ent (own v 31 1 (Yp l)::Γ) (Hf v k::Γ):=Ent.Kg Γ fun _ s=>⟨l,h,a,s⟩
theorem Ent.Eu(v:SV){k k':Nat}(h:k≤k')(Γ:List Assn):Ent (Hf v k::Γ) (Hf v k'::Γ):=Ent.Kg Γ fun _ ⟨l,a,b,c⟩=>⟨l,Up a h,b,c⟩
theorem S.Qwg(b:Nat)[q:Pick (Ql1 b) Γ Δ](f:∀l:List (Int×Value),S n w0 ρ (Qz b .u32 l::Δ) φ):S n w0 ρ Γ φ:=by
 intro a w j i h;obtain⟨h0,g,m,k,d,e,c,⟨l,q1⟩,s⟩:=i.Qs q.Qs;exact f l a w j ⟨h0,g,m,k,d,e,c,q1,s⟩ h
theorem Ent.war(b:Nat)(l:List (Int×Value))(Γ:List Assn):Ent (Qz b .u32 l::Γ) (Ql1 b::Γ):=Ent.Kg Γ fun _ s=>⟨l,s⟩
end
theorem Ca(l:List Nat)(x:Nat):Yh (x:Int) (E4 l)=if x∈l then some (.bool true) else none:=by
 induction l with
 | nil=>rfl
 | cons y l c=>
  simp only[Z7,Yh]
  by_cases h:x=y
  ·rw[Qh Qb,Qh (by rw[h];exact Z0 ..)]
  ·rw[Qe Qb];refine c.trans ?_
   by_cases b:x∈l
   ·rw[Qh b,Qh (Ym _ b)]
   ·rw[Qe b,Qe (fun a=>by rcases Yf.1 a with a|a;exact h a;exact b a)]
theorem Tr(l:List Nat)(x:Nat):Xl (x:Int) (.bool true) (E4 l)=E4 (Xm l x):=by
 have key:∀l:List Nat,Xl (x:Int) (.bool true) (E4 l)=if x∈l then E4 l else E4 (l++[x]):=by
  intro l;induction l with
  | nil=>rfl
  | cons y l c=>
   simp only[Z7,Xl]
   by_cases h:x=y
   ·rw[Qh Qb,Qh (by rw[h];exact Z0 ..),h]
   ·rw[Qe Qb,c]
    by_cases b:x∈l
    ·rw[Qh b,Qh (Ym _ b)]
    ·rw[Qe b,Qe (fun a=>by rcases Yf.1 a with a|a;exact h a;exact b a)];rfl
 rw[key,Xm];split <;> rfl
theorem Mr{l:List Nd}{x:Nd}(h:l[0]?=some x):Ux l=l.set 0 {x with Qj:=true}:=by
 cases l with
 | nil=>cases h
 | cons y l=>cases h;rfl
theorem Q4t{l:List Nd}{o:Od}(h:l[o.1]?=none):As l o=Ux l:=by rw[As,h]
theorem Q0e{l:List Nd}{o:Od}{x:Nd}(h:l[o.1]?=some x)(a:x.up=false):As l o=Ux l:=by rw[As,h];dsimp only;rw[a];rfl
theorem Zbt{l:List Nd}{o:Od}{x:Nd}(h:l[o.1]?=some x)(a:x.up=true):As l o=l.set o.1 {x with Yy:=x.Yy++[o.2]}:=by rw[As,h];dsimp only;rw[a];rfl
theorem Qtp(l:List Nd)(os:List Od)(o:Od):U0 l (os++[o])=As (U0 l os) o:=by rw[U0,Ha];rfl
theorem Dp(l:List Nd):(Ux l).length=l.length:=by cases l <;> rfl
theorem Q4u(l:List Nd)(o:Od):(As l o).length=l.length:=by
 unfold As
 split
 ·exact Dp l
 ·split
  ·exact Xf ..
  ·exact Dp l
theorem Qko(l:List Nd)(os:List Od):(U0 l os).length=l.length:=by
 induction os generalizing l with
 | nil=>rfl
 | cons o os a=>exact(a (As l o)).trans (Q4u l o)
def qLe(l:List Nd)(k:Nat):Prop:=∀n∈l,n.Yy.length≤k∧n.out.length≤k
theorem qLe.mono{l:List Nd}{k a:Nat}(h:qLe l k)(c:k≤a):qLe l a:=fun n b=>⟨Up (h n b).1 c,Up (h n b).2 c⟩
theorem qLe.set{l:List Nd}{k:Nat}(h:qLe l k){i:Nat}{x:Nd}(b:x.Yy.length≤k∧x.out.length≤k):qLe (l.set i x) k:=fun n c=>by
 rcases Qvt c with a|a
 ·exact h n a
 ·rw[a];exact b
theorem qLe.Qj{l:List Nd}{k:Nat}(h:qLe l k):qLe (Ux l) k:=by
 cases l with
 | nil=>exact h
 | cons x l=>
   intro n a
   rcases Yf.1 a with rfl|a
   ·exact h x (Z0 ..)
   ·exact h n (Ym _ a)
theorem qLe.ord{l:List Nd}{k:Nat}(h:qLe l k)(o:Od):qLe (As l o) (k+1):=by
 unfold As
 split
 ·exact(h.mono Qb).Qj
 ·rename_i x a;have b:=h x (Yn a)
  split
  ·refine(h.mono Qb).set ⟨?_,by show x.out.length≤_;omega⟩;show (x.Yy++[o.2]).length≤_;rw[Yd,Y0];omega
  ·exact(h.mono Qb).Qj
theorem qLe.ords{l:List Nd}{k:Nat}(h:qLe l k)(os:List Od):qLe (U0 l os) (k+os.length):=by
 induction os generalizing l k with
 | nil=>exact h
 | cons o os a=>
  have:=a (h.ord o);rw[Ka];exact this.mono Qb
theorem Qah{ns:List No}{l:List Nd}(h:ns.map (·.2)=l){i:Nat}{x:Nd}(a:l[i]?=some x):∃q,ns[i]?=some (q,x):=by
 rw[←h,Q8]at a;obtain⟨o,b,e⟩:=Df.1 a;exact⟨o.1,by rw[b,←e]⟩
theorem M7{ns:List No}{i q:Nat}{x:Nd}(h:ns[i]?=some (q,x))(y:Nd):(ns.set i (q,y)).map noV=ns.map noV∧(ns.set i (q,y)).map (·.2)=(ns.map (·.2)).set i y:=by
 refine⟨?_,by rw[Qdd]⟩;refine E1 fun k=>?_;rw[Q8,Q8,Fq]
 split
 ·rename_i e;subst e;rw[h,Qh (Yz.1 h).1];rfl
 ·rfl
theorem Q6b(l:List Ig):Ee (l.flatMap igC)=true:=Kn.2 fun u a=>by
 obtain⟨x,_,h⟩:=Qde.1 a;simp only[igC,Yf,Hp,Ho]at h;rcases h with rfl|rfl|rfl|rfl <;> rfl
theorem Qut(p:List Nd×List Nat)(l:List Nat)(id:Nat):(l++[id]).foldl Jk p=Jk (l.foldl Jk p) id:=by rw[Ha];rfl
theorem Q1o(p:List Nd×List Nat)(id:Nat):(Jk p id).1.length=p.1.length:=by
 unfold Jk;dsimp only
 split
 ·exact Dp _
 ·rfl
theorem Qii(l:List Nat):∀(p:List Nd×List Nat),(l.foldl Jk p).1.length=p.1.length:=by
 induction l with
 | nil=>exact fun _=>rfl
 | cons id l a=>exact fun p=>(a _).trans (Q1o p id)
theorem Q58(st:Br):(Vx st).1.length≤st.Qf.length:=Uw _ _
structure Qbd(s:Sm):Prop where
 len:s.nd.length=s.cn
 n1:1≤s.cn
 q:qLe s.nd s.fu
 im:s.Qf.length≤s.fu
 fu:s.fu≤100000000000
 o:s.b.Qd.length≤900000
 i:s.b.Qf.length≤900000
 d:s.b.done.length≤900000
set_option maxHeartbeats 8000000 in
theorem D7(p:Nat)(s:Sm)(Z:Qbd s):Spec Tryz.prog 56 [pt p] [SP p s] fun Γ _ Θ=>Θ=SP p (X5 s)::Γ:=by
 have aK:=Z.fu;have aF:=Z.o;have aa:=Z.i;have aG:=Z.d;have aD:=Z.n1;have aM:=Z.im;refine Zbd Tryz.func56 rfl Tryz.ntmps56 fun w0 Γ=>Zsh ?_;refine S.Hh p s fun b ps nv ns rb jb I J C L f c hF=>?_;have aC:=hF.nn;have a0:=Z.len;refine S.Xn nv fun a7 ar aq=>?_;rw[Qo]at a7;refine ZY 7 (Zp (Zc1 Ze (Zjx b s.b ps) ?_));rintro v Θ ⟨tv,rfl,Aa,rfl⟩;refine S.Xn tv fun aB aA az=>?_;have aE:maxLen≤9223372036854775807:=by unfold maxLen;omega
 refine ZY 4 ?_;refine Zl (fun t O P=>∃(e:Nat) (nds:List Nd) (ns:List No) (f c:SV),t=s.b.Qd.length-e∧e≤s.b.Qd.length∧nds=U0 s.nd (s.b.Qd.take e)∧ns.map (·.2)=nds∧nv.n=nds.length∧O=[(0,pt p),(10,tv.v),(11,.int .i64 (tv.n:Int)),(12,.int .i64 (e:Int))] ∧   P=own tv 97 14 (s.b.Qd.flatMap odC)::blk p 55 (smC s b nv rb jb I J C L f c).toArray::BP b {s.b with Qd:=[]} ps::own nv 103 1 (ns.map noV)::alls ns noB::Qgr rb s.X4::Qz jb .u32 (s.Wy.map joE)::Qz I .u32 (E4 s.gone)::Qz J .u32 (E4 s.done)::imgs L s.Qf::Ql1 C::Hf f (s.fu+e)::Hf c (s.fu+e)::Γ) (m:=_) (⟨0,s.nd,ns,f,c,rfl,Qb,rfl,hF.nd,hF.nn,rfl,rfl⟩) ?_;rintro t O P ⟨e,nds,ns,f,c,ad,he,V,A,y,rfl,rfl⟩;have ak:nds.length=s.cn:=by rw[V,Qko,a0]
 have hq:qLe nds (s.fu+900000):=by rw[V];exact(Z.q.ords (s.b.Qd.take e)).mono (by rw[V9];omega)
 refine ZY 5 ?_
 refine Zj ef (fun h1=>?_) (fun h1=>?_)
 ·refine S.Q7 tv Qb fun tb a5 R _ _ _=>?_;obtain⟨o,ho⟩:=Xs (show e<s.b.Qd.length by omega);have B:U0 s.nd (s.b.Qd.take (e+1))=As nds o:=by rw[X2,ho,V];exact Qtp _ _ _
  refine S.Q7 nv Qb fun nb a6 N _ _ _=>?_;obtain⟨x0,Q⟩:=Xs (show 0<nds.length by omega);obtain⟨h,j⟩:=Qah A Q;have E:Ux nds=nds.set 0 {x0 with Qj:=true}:=Mr Q;obtain⟨m1,m2⟩:=M7 j {x0 with Qj:=true};rw[A]at m2;refine ZY 5 (Zv (Zx (e) ef (R) ef Qb) ?_);refine Zv (Ub (tv) (e*14) [_,_,_,_,_,_,_,_,_,_,_,_,_,_] Eo.h rfl R (by first|rfl|exact Xr _ _ _|omega) rfl (Wr (enc:=odC) (sz:=14) (fun _=>rfl) ho)) (Zp (S.alloc Tryz.z97.h rfl ?_));intro b3;refine Zp (Zs ef ef (cs':=[_,_,_,_,_,_,_,_,_,_,_,_,_,_]) ef (ZY 3 ?_))
  rcases G:nds[o.1]? with _|x
  ·have d:=Q4t G;have aJ:nds.length≤o.1:=Q9b.1 G;refine Zd ([blk b3 97 (odC o).toArray,blk p 55 (smC s b nv rb jb I J C L f c).toArray]) [] (Zra 0 4) (ZY 4 (Zu 19 false ef ((Q6 Qb)) ?_));refine Zr (Zra 4 10) (ZY 8 (ZY 2 (Zu 29 true ef ((Zh Qb)) ?_)));refine Zr (Zra 14 13) (ZY 8 (ZY 5 ?_));refine ZD (ZY 7 (Zv (Zx (0) ef (N) ef Qb) ?_));refine Zv (Zo (nv) (0) ef (N) (by rw[Q8,j];rfl)) ?_;refine S.conv (alls ns noB) (Ent.U5 noB j _) ?_;refine S.E7 h x0 fun l r n rs os g=>(ZY 6 ?_);refine S.Yw h {x0 with Qj:=true} l r n rs os ⟨g.rk,g.os,g.i,g.o⟩ (S.X0 (noB ((h,{x0 with Qj:=true}):No)) (alls (ns.take 0) noB) (alls (ns.drop (0+1)) noB) (Ent.Xo noB (x':=((h,{x0 with Qj:=true}):No)) j _) ?_);rw[←m1];refine S.conv (Hf c (s.fu+e)) (Ent.Eu c (k':=s.fu+(e+1)) Qb _) (S.conv (Hf f (s.fu+e)) (Ent.Eu f (k':=s.fu+(e+1)) Qb _) (Zv (Za ef ef) (ZY 2 ?_)));first|exact ZX (t-1) ⟨e+1,nds.set o.1 {x with Yy:=x.Yy++[o.2]},ns.set o.1 (q,{x with Yy:=x.Yy++[o.2]}),D,z,Qb,Qb,by rw[B,d],M,by rw[Xf];exact y,rfl,rfl⟩ Qb|exact ZX (t-1) ⟨e+1,nds.set o.1 {x with Yy:=x.Yy++[o.2]},ns.set o.1 (q,{x with Yy:=x.Yy++[o.2]}),D,c,Qb,Qb,by rw[B,d],M,by rw[Xf];exact y,rfl,rfl⟩ Qb|exact ZX (t-1) ⟨e+1,nds.set 0 {x0 with Qj:=true},ns.set 0 (h,{x0 with Qj:=true}),f,c,Qb,Qb,by rw[B,d,E],m2,by rw[Xf];exact y,rfl,rfl⟩ Qb
  ·have Uj:o.1<nds.length:=(Yz.1 G).1;obtain⟨q,H⟩:=Qah A G;obtain⟨G4,ao⟩:=hq x (Yn G);refine S.conv (alls ns noB) (Ent.U5 noB H _) ?_;refine S.E7 q x fun l r n rs os g=>?_;have aL:=g.i;refine Zd ([blk b3 97 (odC o).toArray,blk p 55 (smC s b nv rb jb I J C L f c).toArray,own nv 103 1 (ns.map noV),blk q 107 #[.bool x.up,.map (some l),r.v,n.v,.bool x.Qj]]) [] (Zra 0 4) (ZY 4 (Zu 19 false ef ((Q6 Qb)) ?_));refine Zr (Zra 4 10) (ZY 8 (ZY 2 (Zu 29 false ef ((Q6 Qb)) ?_)));refine Zr (Zra 14 13) (ZY 6 ?_);refine Zwg ef ef ef ef (Zx (o.1) ef (N) ef Qb) ?_;refine Zwg ef ef ef ef (Zo (nv) (o.1) ef (N) (by rw[Q8,H];rfl)) ?_;refine ZY 5 ?_;refine ZD ?_
   refine Zi ef (fun h2=>?_) (fun h2=>?_)
   ·have d:=Q0e G (by simpa using h2);refine S.Yw q x l r n rs os g (S.X0 (noB ((q,x):No)) (alls (ns.take o.1) noB) (alls (ns.drop (o.1+1)) noB) (Ent.Xk noB H _) (ZY 6 (Zv (Zx (0) ef (N) ef Qb) ?_)));refine Zv (Zo (nv) (0) ef (N) (by rw[Q8,j];rfl)) ?_;refine S.conv (alls ns noB) (Ent.U5 noB j _) ?_;refine S.E7 h x0 fun l r n rs os g=>(ZY 6 ?_);first|(refine S.Yw h {x0 with Qj:=true} l r n rs os ⟨g.rk,g.os,g.i,g.o⟩ ?_;refine S.X0 (noB ((h,{x0 with Qj:=true}):No)) (alls (ns.take 0) noB) (alls (ns.drop (0+1)) noB) (Ent.Xo noB (x':=((h,{x0 with Qj:=true}):No)) j _) ?_;rw[←m1])|skip
    first|refine S.conv (Hf c (s.fu+e)) (Ent.Eu c (k':=s.fu+(e+1)) Qb _) ?_|skip
    first|refine S.conv (Hf f (s.fu+e)) (Ent.Eu f (k':=s.fu+(e+1)) Qb _) ?_|skip
    refine Zv (Za ef ef) (ZY 2 ?_);first|exact ZX (t-1) ⟨e+1,nds.set o.1 {x with Yy:=x.Yy++[o.2]},ns.set o.1 (q,{x with Yy:=x.Yy++[o.2]}),D,z,Qb,Qb,by rw[B,d],M,by rw[Xf];exact y,rfl,rfl⟩ Qb|exact ZX (t-1) ⟨e+1,nds.set o.1 {x with Yy:=x.Yy++[o.2]},ns.set o.1 (q,{x with Yy:=x.Yy++[o.2]}),D,c,Qb,Qb,by rw[B,d],M,by rw[Xf];exact y,rfl,rfl⟩ Qb|exact ZX (t-1) ⟨e+1,nds.set 0 {x0 with Qj:=true},ns.set 0 (h,{x0 with Qj:=true}),f,c,Qb,Qb,by rw[B,d,E],m2,by rw[Xf];exact y,rfl,rfl⟩ Qb
   ·have d:=Zbt G (by simpa using h2);obtain⟨c1,M⟩:=M7 H {x with Yy:=x.Yy++[o.2]};rw[A]at M;refine ZY 2 ?_;refine Zd ([blk b3 97 (odC o).toArray,blk p 55 (smC s b nv rb jb I J C L f c).toArray,own nv 103 1 (ns.map noV),blk q 107 #[.bool x.up,.map (some l),r.v,n.v,.bool x.Qj]]) [25] (Zra 0 21) (ZY 6 ?_);refine Zw ef (Zx (o.1) ef (N) ef Qb) ?_;refine Zw ef (Zo (nv) (o.1) ef (N) (by rw[Q8,H];rfl)) ?_;refine ZY 6 ?_;refine Zw ef (Zx (o.1) ef (N) ef Qb) ?_;refine Zw ef (Zo (nv) (o.1) ef (N) (by rw[Q8,H];rfl)) ?_;refine ZY 5 ?_;refine Z1 (i:=21) ef ef ?_;refine(S.buildSlice (pvs:=[(_,_)]) [_,_,_,_,_,_,_,_,_,_,_,_,_] Tryz.underlying105 Tryz.Jp.h rfl rfl ⟨⟨rfl,rfl⟩,trivial⟩ rfl rfl ?_);intro ah;refine Zk [] ?_;refine Z1 (i:=22) ef ef ?_;refine(S.Z6 (s:=r) (1) (niC o.2) Tryz.underlying105 Tryz.Jp.h rfl rfl rfl (Yb (b:=ah) rfl (by unfold maxLen;omega)) (by first|rfl|exact Qw _) (⟨Qb,Qb⟩) rfl ?_);intro Y aP;refine Zk [23,24] (ZY 2 ?_);refine Z1 (i:=25) ef ef ?_;refine(S.store (cs':=[_,_,_,_,_]) Eo.h rfl rfl rfl rfl rfl ?_);refine ZL ([]) [] ?_;refine ZD (ZY 3 ?_);rw[Wv niC x.Yy o.2];refine S.Yw q {x with Yy:=x.Yy++[o.2]} l Y n rs os ⟨g.rk,g.os,by show Y.n=(x.Yy++[o.2]).length;rw[Yd,Y0];omega,g.o⟩ (S.X0 (noB ((q,{x with Yy:=x.Yy++[o.2]}):No)) (alls (ns.take o.1) noB) (alls (ns.drop (o.1+1)) noB) (Ent.Xo noB (x':=((q,{x with Yy:=x.Yy++[o.2]}):No)) H _) ?_);rw[←c1];refine ZY 5 ?_
    refine Zj ef (fun h3=>?_) (fun h3=>?_)
    ·refine S.Qnh f (s.fu+e) fun dl a4 C9=>?_;refine Zd ([blk b3 97 (odC o).toArray,blk p 55 (smC s b nv rb jb I J C L f c).toArray]) [12] (Zra 0 8) (ZY 8 ?_);refine Z1 (i:=8) ef ef ?_;refine(S.buildSlice (pvs:=[(_,_)]) [_] Tryz.underlying53 Tryz.H9.h rfl rfl ⟨⟨rfl,rfl⟩,trivial⟩ rfl rfl ?_);intro af;refine Zk [] ?_;refine Z1 (i:=9) ef ef ?_;refine(S.Z6 (s:=f) (1) (Yp [o.2.Qu]) Tryz.underlying53 Tryz.H9.h rfl rfl rfl (Yb (b:=af) rfl (by unfold maxLen;omega)) (by first|rfl|exact Qw _) (⟨Qb,Qb⟩) rfl ?_);intro D a3;refine Zk [10,11] (ZY 2 ?_);refine Z1 (i:=12) ef ef ?_;refine(S.store (cs':=[_,_,_,_,_,_,_,_,_,_,_,_,_,_,_,_]) Eo.h rfl rfl rfl rfl rfl ?_);refine ZL ([]) [] ?_;refine ZD ?_;rw[show Yp dl++Yp [o.2.Qu]=Yp (dl++[o.2.Qu]) from Vc.symm];refine S.conv (own D 31 1 (Yp (dl++[o.2.Qu]))) (Ent.lst D (k:=s.fu+(e+1)) (by rw[Yd,Y0];omega) (by rw[Yd,Y0];omega) _) (ZY 7 ?_)
     refine Zj ef (fun h4=>?_) (fun h4=>?_)
     ·refine S.Qwg C fun wl=>(Zy ?_);refine Zd ([blk b3 97 (odC o).toArray,blk p 55 (smC s b nv rb jb I J C L D c).toArray]) [10] (Zra 0 10) (ZY 8 (ZY 2 ?_));refine Z1 (i:=10) ef ef ?_;refine(S.mapUpdate Tryz.underlying52 Tryz.underlying31 rfl rfl rfl rfl ?_);refine ZL ([]) [] ?_;refine ZD ?_;refine Zd ([blk b3 97 (odC o).toArray,blk p 55 (smC s b nv rb jb I J C L D c).toArray]) [12] (Zra 0 8) (S.conv (Qz C .u32 (Xl (o.2.Qu:Int) (.int .u32 (o.2.tick:Int)) wl)) (Ent.war C _ _) ?_);refine S.Qnh c (s.fu+e) fun dl a4 C9=>(ZY 8 ?_);refine Z1 (i:=8) ef ef ?_;refine(S.buildSlice (pvs:=[(_,_)]) [_] Tryz.underlying53 Tryz.H9.h rfl rfl ⟨⟨rfl,rfl⟩,trivial⟩ rfl rfl ?_);intro U;refine Zk [] ?_;refine Z1 (i:=9) ef ef ?_;refine(S.Z6 (s:=c) (1) (Yp [o.2.Qu]) Tryz.underlying53 Tryz.H9.h rfl rfl rfl (Yb (b:=U) rfl (by unfold maxLen;omega)) (by first|rfl|exact Qw _) (⟨Qb,Qb⟩) rfl ?_);intro z aj;refine Zk [10,11] (ZY 2 ?_);refine Z1 (i:=12) ef ef ?_;refine(S.store (cs':=[_,_,_,_,_,_,_,_,_,_,_,_,_,_,_,_]) Eo.h rfl rfl rfl rfl rfl ?_);refine ZL ([]) [] ?_;refine ZD ?_;rw[show Yp dl++Yp [o.2.Qu]=Yp (dl++[o.2.Qu]) from Vc.symm];refine S.conv (own z 31 1 (Yp (dl++[o.2.Qu]))) (Ent.lst z (k:=s.fu+(e+1)) (by rw[Yd,Y0];omega) (by rw[Yd,Y0];omega) _) (Zy ?_);first|(refine S.Yw h {x0 with Qj:=true} l r n rs os ⟨g.rk,g.os,g.i,g.o⟩ ?_;refine S.X0 (noB ((h,{x0 with Qj:=true}):No)) (alls (ns.take 0) noB) (alls (ns.drop (0+1)) noB) (Ent.Xo noB (x':=((h,{x0 with Qj:=true}):No)) j _) ?_;rw[←m1])|skip
      first|refine S.conv (Hf c (s.fu+e)) (Ent.Eu c (k':=s.fu+(e+1)) Qb _) ?_|skip
      first|refine S.conv (Hf f (s.fu+e)) (Ent.Eu f (k':=s.fu+(e+1)) Qb _) ?_|skip
      refine Zv (Za ef ef) (ZY 2 ?_);first|exact ZX (t-1) ⟨e+1,nds.set o.1 {x with Yy:=x.Yy++[o.2]},ns.set o.1 (q,{x with Yy:=x.Yy++[o.2]}),D,z,Qb,Qb,by rw[B,d],M,by rw[Xf];exact y,rfl,rfl⟩ Qb|exact ZX (t-1) ⟨e+1,nds.set o.1 {x with Yy:=x.Yy++[o.2]},ns.set o.1 (q,{x with Yy:=x.Yy++[o.2]}),D,c,Qb,Qb,by rw[B,d],M,by rw[Xf];exact y,rfl,rfl⟩ Qb|exact ZX (t-1) ⟨e+1,nds.set 0 {x0 with Qj:=true},ns.set 0 (h,{x0 with Qj:=true}),f,c,Qb,Qb,by rw[B,d,E],m2,by rw[Xf];exact y,rfl,rfl⟩ Qb
     ·refine ZY 2 ?_;first|(refine S.Yw h {x0 with Qj:=true} l r n rs os ⟨g.rk,g.os,g.i,g.o⟩ ?_;refine S.X0 (noB ((h,{x0 with Qj:=true}):No)) (alls (ns.take 0) noB) (alls (ns.drop (0+1)) noB) (Ent.Xo noB (x':=((h,{x0 with Qj:=true}):No)) j _) ?_;rw[←m1])|skip
      first|refine S.conv (Hf c (s.fu+e)) (Ent.Eu c (k':=s.fu+(e+1)) Qb _) ?_|skip
      first|refine S.conv (Hf f (s.fu+e)) (Ent.Eu f (k':=s.fu+(e+1)) Qb _) ?_|skip
      refine Zv (Za ef ef) (ZY 2 ?_);first|exact ZX (t-1) ⟨e+1,nds.set o.1 {x with Yy:=x.Yy++[o.2]},ns.set o.1 (q,{x with Yy:=x.Yy++[o.2]}),D,z,Qb,Qb,by rw[B,d],M,by rw[Xf];exact y,rfl,rfl⟩ Qb|exact ZX (t-1) ⟨e+1,nds.set o.1 {x with Yy:=x.Yy++[o.2]},ns.set o.1 (q,{x with Yy:=x.Yy++[o.2]}),D,c,Qb,Qb,by rw[B,d],M,by rw[Xf];exact y,rfl,rfl⟩ Qb|exact ZX (t-1) ⟨e+1,nds.set 0 {x0 with Qj:=true},ns.set 0 (h,{x0 with Qj:=true}),f,c,Qb,Qb,by rw[B,d,E],m2,by rw[Xf];exact y,rfl,rfl⟩ Qb
    ·refine Zy (S.conv (Hf f (s.fu+e)) (Ent.Eu f (k':=s.fu+(e+1)) Qb _) ?_);obtain⟨D,a3⟩:∃D,D=f:=⟨_,rfl⟩;rw[←a3];refine ZY 7 ?_
     refine Zj ef (fun h4=>?_) (fun h4=>?_)
     ·refine S.Qwg C fun wl=>(Zy ?_);refine Zd ([blk b3 97 (odC o).toArray,blk p 55 (smC s b nv rb jb I J C L D c).toArray]) [10] (Zra 0 10) (ZY 8 (ZY 2 ?_));refine Z1 (i:=10) ef ef ?_;refine(S.mapUpdate Tryz.underlying52 Tryz.underlying31 rfl rfl rfl rfl ?_);refine ZL ([]) [] ?_;refine ZD ?_;refine Zd ([blk b3 97 (odC o).toArray,blk p 55 (smC s b nv rb jb I J C L D c).toArray]) [12] (Zra 0 8) (S.conv (Qz C .u32 (Xl (o.2.Qu:Int) (.int .u32 (o.2.tick:Int)) wl)) (Ent.war C _ _) ?_);refine S.Qnh c (s.fu+e) fun dl a4 C9=>(ZY 8 ?_);refine Z1 (i:=8) ef ef ?_;refine(S.buildSlice (pvs:=[(_,_)]) [_] Tryz.underlying53 Tryz.H9.h rfl rfl ⟨⟨rfl,rfl⟩,trivial⟩ rfl rfl ?_);intro U;refine Zk [] ?_;refine Z1 (i:=9) ef ef ?_;refine(S.Z6 (s:=c) (1) (Yp [o.2.Qu]) Tryz.underlying53 Tryz.H9.h rfl rfl rfl (Yb (b:=U) rfl (by unfold maxLen;omega)) (by first|rfl|exact Qw _) (⟨Qb,Qb⟩) rfl ?_);intro z aj;refine Zk [10,11] (ZY 2 ?_);refine Z1 (i:=12) ef ef ?_;refine(S.store (cs':=[_,_,_,_,_,_,_,_,_,_,_,_,_,_,_,_]) Eo.h rfl rfl rfl rfl rfl ?_);refine ZL ([]) [] ?_;refine ZD ?_;rw[show Yp dl++Yp [o.2.Qu]=Yp (dl++[o.2.Qu]) from Vc.symm];refine S.conv (own z 31 1 (Yp (dl++[o.2.Qu]))) (Ent.lst z (k:=s.fu+(e+1)) (by rw[Yd,Y0];omega) (by rw[Yd,Y0];omega) _) (Zy ?_);first|(refine S.Yw h {x0 with Qj:=true} l r n rs os ⟨g.rk,g.os,g.i,g.o⟩ ?_;refine S.X0 (noB ((h,{x0 with Qj:=true}):No)) (alls (ns.take 0) noB) (alls (ns.drop (0+1)) noB) (Ent.Xo noB (x':=((h,{x0 with Qj:=true}):No)) j _) ?_;rw[←m1])|skip
      first|refine S.conv (Hf c (s.fu+e)) (Ent.Eu c (k':=s.fu+(e+1)) Qb _) ?_|skip
      first|refine S.conv (Hf f (s.fu+e)) (Ent.Eu f (k':=s.fu+(e+1)) Qb _) ?_|skip
      refine Zv (Za ef ef) (ZY 2 ?_);first|exact ZX (t-1) ⟨e+1,nds.set o.1 {x with Yy:=x.Yy++[o.2]},ns.set o.1 (q,{x with Yy:=x.Yy++[o.2]}),D,z,Qb,Qb,by rw[B,d],M,by rw[Xf];exact y,rfl,rfl⟩ Qb|exact ZX (t-1) ⟨e+1,nds.set o.1 {x with Yy:=x.Yy++[o.2]},ns.set o.1 (q,{x with Yy:=x.Yy++[o.2]}),D,c,Qb,Qb,by rw[B,d],M,by rw[Xf];exact y,rfl,rfl⟩ Qb|exact ZX (t-1) ⟨e+1,nds.set 0 {x0 with Qj:=true},ns.set 0 (h,{x0 with Qj:=true}),f,c,Qb,Qb,by rw[B,d,E],m2,by rw[Xf];exact y,rfl,rfl⟩ Qb
     ·refine ZY 2 ?_;first|(refine S.Yw h {x0 with Qj:=true} l r n rs os ⟨g.rk,g.os,g.i,g.o⟩ ?_;refine S.X0 (noB ((h,{x0 with Qj:=true}):No)) (alls (ns.take 0) noB) (alls (ns.drop (0+1)) noB) (Ent.Xo noB (x':=((h,{x0 with Qj:=true}):No)) j _) ?_;rw[←m1])|skip
      first|refine S.conv (Hf c (s.fu+e)) (Ent.Eu c (k':=s.fu+(e+1)) Qb _) ?_|skip
      first|refine S.conv (Hf f (s.fu+e)) (Ent.Eu f (k':=s.fu+(e+1)) Qb _) ?_|skip
      refine Zv (Za ef ef) (ZY 2 ?_);first|exact ZX (t-1) ⟨e+1,nds.set o.1 {x with Yy:=x.Yy++[o.2]},ns.set o.1 (q,{x with Yy:=x.Yy++[o.2]}),D,z,Qb,Qb,by rw[B,d],M,by rw[Xf];exact y,rfl,rfl⟩ Qb|exact ZX (t-1) ⟨e+1,nds.set o.1 {x with Yy:=x.Yy++[o.2]},ns.set o.1 (q,{x with Yy:=x.Yy++[o.2]}),D,c,Qb,Qb,by rw[B,d],M,by rw[Xf];exact y,rfl,rfl⟩ Qb|exact ZX (t-1) ⟨e+1,nds.set 0 {x0 with Qj:=true},ns.set 0 (h,{x0 with Qj:=true}),f,c,Qb,Qb,by rw[B,d,E],m2,by rw[Xf];exact y,rfl,rfl⟩ Qb
 ·rw[show s.b.Qd.take e=s.b.Qd by rw[show e=s.b.Qd.length by omega,Wh]]at V;have ae:e=s.b.Qd.length:=Qb
  subst ae;have ab:(Vx {s.b with Qd:=[]}).1=(Vx s.b).1:=rfl;have aH:=Q58 s.b;refine S.L1 L s.Qf fun io a1=>?_;have al:io.length=s.Qf.length:=by rw[←a1,Qo]
  have aI:=hF.im;refine ZY 2 ?_;refine Zd ([blk p 55 (smC s b nv rb jb I J C L f c).toArray]) [13] (Zra 0 9) (ZY 8 (Zy ?_));refine Z1 (i:=9) ef ef ?_;refine  (Zc1 Ze (Q80 b {s.b with Qd:=[]} ps aa) ?_);rintro v Θ ⟨u,rfl,a9,rfl⟩;rw[ab]at a9 ⊢;refine S.L1 u (Vx s.b).1 fun W a8=>?_;refine Zk [] ?_;refine Z1 (i:=10) ef ef ?_;refine(S.Z6 (s:=L) (u.n) (W.flatMap igC) Tryz.underlying51 Tryz.Qqz.h rfl rfl rfl (fun w hs=>Uo.Tq inferInstance hs) (Q6b W) (⟨Qb,Qb⟩) rfl ?_);intro F aO;rw[show io.flatMap igC++W.flatMap igC=(io++W).flatMap igC from Qja.symm];refine Zk [11,12] (ZY 2 ?_);refine Z1 (i:=13) ef ef ?_;refine(S.store (cs':=[_,_,_,_,_,_,_,_,_,_,_,_,_,_,_,_]) Eo.h rfl rfl rfl rfl rfl ?_);refine ZL ([]) [] ?_;refine ZD (ZY 2 (S.U2 (alls io igB) (alls W igB) (Ent.Cv igB io W _) (S.U2 (own F 60 4 ((io++W).flatMap igC)) (alls (io++W) igB) (Ent.Ql6 F (io++W) _) ?_)));rw[Vc,a1,a8];refine ZY 4 (Zp (Zc1 Ze (Zj9 b (Vx {s.b with Qd:=[]}).2 ps) ?_));rintro v Θ ⟨K,rfl,ai,rfl⟩;rw[show (Vx {s.b with Qd:=[]}).2.done=s.b.done from rfl]at ai ⊢;rw[show ({ (Vx {s.b with Qd:=[]}).2 with done:=[]}:Br)={s.b with Qd:=[],Qf:=[],done:=[]} from rfl];refine S.Xn K fun ay ax av=>(ZY 4 ?_);refine Zl (fun t O P=>∃(e:Nat) (a:List Nd) (dl:List Nat) (ns:List No),t=s.b.done.length-e∧e≤s.b.done.length∧(a,dl)=(s.b.done.take e).foldl Jk (nds,s.done)∧ns.map (·.2)=a∧nv.n=a.length∧O=[(0,pt p),(136,K.v),(137,.int .i64 (K.n:Int)),(138,.int .i64 (e:Int))] ∧   P=own K 31 1 (Yp s.b.done)::blk p 55 (smC s b nv rb jb I J C F f c).toArray::BP b {s.b with Qd:=[],Qf:=[],done:=[]} ps::own nv 103 1 (ns.map noV)::alls ns noB::Qgr rb s.X4::Qz jb .u32 (s.Wy.map joE)::Qz I .u32 (E4 s.gone)::Qz J .u32 (E4 dl)::imgs F (s.Qf++(Vx s.b).1)::Ql1 C::Hf f (s.fu+s.b.Qd.length)::Hf c (s.fu+s.b.Qd.length)::Γ) (m:=_) (⟨0,nds,s.done,ns,rfl,Qb,rfl,A,y,rfl,rfl⟩) ?_;rintro t O P ⟨e,a,dl,ns,ad,he,X,A,y,rfl,rfl⟩
  have aN:a.length=s.cn:=by
   have:=Qii (s.b.done.take e) (nds,s.done);rw[←X]at this;exact this.trans ak
  refine ZY 5 ?_
  refine Zj ef (fun h5=>?_) (fun h5=>?_)
  ·refine S.Q7 K Qb fun tb a5 R _ _ _=>?_;obtain⟨id,a2⟩:=Xs (show e<s.b.done.length by omega);refine S.Q7 nv Qb fun nb a6 N _ _ _=>?_;obtain⟨x0,Q⟩:=Xs (show 0<a.length by omega);obtain⟨h,j⟩:=Qah A Q;have E:Ux a=a.set 0 {x0 with Qj:=true}:=Mr Q;obtain⟨m1,m2⟩:=M7 j {x0 with Qj:=true};rw[A]at m2;have B:(s.b.done.take (e+1)).foldl Jk (nds,s.done)=Jk (a,dl) id:=by rw[X2,a2,X];exact Qut _ _ _
   refine ZY 5 (Zv (Zx (e) ef (R) ef Qb) (Zv (Zo (K) (e) ef (R) (Cj a2)) (ZY 8 (ZY 2 ?_))));refine Zv (Qx (.bool (decide (id∈dl))) Tryz.underlying50 Tryz.underlying31 Tryz.zv4.h rfl rfl rfl (by rw[Ca];by_cases hm:id∈dl;(rw[Qh hm,Zh hm];rfl);(rw[Qe hm,Q6 hm];rfl))) (Zy ?_)
   refine Zj ef (fun h6=>?_) (fun h6=>?_)
   ·have T:Jk (a,dl) id=(a.set 0 {x0 with Qj:=true},Xm dl id):=by rw[Jk];dsimp only;rw[Qh h6,E]
    refine ZY 5 (Zv (Zx (0) ef (N) ef Qb) ?_);refine Zv (Zo (nv) (0) ef (N) (by rw[Q8,j];rfl)) ?_;refine S.conv (alls ns noB) (Ent.U5 noB j _) ?_;refine S.E7 h x0 fun l r n rs os g=>(ZY 4 ?_);refine S.Yw h {x0 with Qj:=true} l r n rs os ⟨g.rk,g.os,g.i,g.o⟩ (S.X0 (noB ((h,{x0 with Qj:=true}):No)) (alls (ns.take 0) noB) (alls (ns.drop (0+1)) noB) (Ent.Xo noB (x':=((h,{x0 with Qj:=true}):No)) j _) ?_);rw[←m1];refine ZY 6 (Zp (S.mapUpdate Tryz.underlying50 Tryz.underlying31 rfl rfl rfl rfl ?_));rw[Tr];refine ZY 2 (Zv (Za ef ef) (ZY 2 ?_));first|exact ZX (t-1) ⟨e+1,a.set 0 {x0 with Qj:=true},Xm dl id,ns.set 0 (h,{x0 with Qj:=true}),Qb,Qb,by rw[B,T],m2,by rw[Xf];exact y,rfl,rfl⟩ Qb|exact ZX (t-1) ⟨e+1,a,Xm dl id,ns,Qb,Qb,by rw[B,T],A,y,rfl,rfl⟩ Qb
   ·have T:Jk (a,dl) id=(a,Xm dl id):=by rw[Jk];dsimp only;rw[Qe h6]
    refine ZY 7 (Zp (S.mapUpdate Tryz.underlying50 Tryz.underlying31 rfl rfl rfl rfl ?_));rw[Tr];refine ZY 2 (Zv (Za ef ef) (ZY 2 ?_));first|exact ZX (t-1) ⟨e+1,a.set 0 {x0 with Qj:=true},Xm dl id,ns.set 0 (h,{x0 with Qj:=true}),Qb,Qb,by rw[B,T],m2,by rw[Xf];exact y,rfl,rfl⟩ Qb|exact ZX (t-1) ⟨e+1,a,Xm dl id,ns,Qb,Qb,by rw[B,T],A,y,rfl,rfl⟩ Qb
  ·rw[show s.b.done.take e=s.b.done by rw[show e=s.b.done.length by omega,Wh]]at X;obtain⟨s2,Da⟩:∃s2:Sm,s2={s with b:={s.b with Qd:=[],Qf:=[],done:=[]},nd:=a,done:=dl,Qf:=s.Qf++(Vx s.b).1,fu:=s.fu+s.b.Qd.length+s.b.Qf.length+s.b.done.length}:=⟨_,rfl⟩
   have hT:X5 s=s2:=by
    have e1:X5 s={s with b:={s.b with Qd:=[],Qf:=[],done:=[]},nd:=(s.b.done.foldl Jk (U0 s.nd s.b.Qd,s.done)).1,done:=(s.b.done.foldl Jk (U0 s.nd s.b.Qd,s.done)).2,Qf:=s.Qf++(Vx s.b).1,fu:=s.fu+s.b.Qd.length+s.b.Qf.length+s.b.done.length}:=rfl;rw[e1,←V,←X,Da]
   refine Zy ?_;refine S.conv (Hf f (s.fu+s.b.Qd.length)) (Ent.Eu f (k':=s2.fu) (by rw[Da];show _≤s.fu+s.b.Qd.length+s.b.Qf.length+s.b.done.length;omega) _) ?_;refine S.conv (Hf c (s.fu+s.b.Qd.length)) (Ent.Eu c (k':=s2.fu) (by rw[Da];show _≤s.fu+s.b.Qd.length+s.b.Qf.length+s.b.done.length;omega) _) ?_;refine S.sub (smX p s2 b ps nv ns rb jb I J C F f c Γ) (e:=by subst Da;infer_instance) ?_;refine S.Xz p s2 b ps nv ns rb jb I J C F f c ⟨by rw[Da];exact A,by rw[Da];exact y,by rw[Da];show F.n=(s.Qf++(Vx s.b).1).length;rw[Yd];omega⟩ ?_;exact Zfn ef Zq (by rw[hT])
theorem Zb4(x y:Nat)(b:x*y<18446744073709551616)(g:x<18446744073709551616)(f:y<18446744073709551616):Spec Tryz.prog 144 [.int .u64 (x:Int),.int .u64 (y:Int)] [] fun a v c=>v=.tuple #[.int .u64 0,.int .u64 ((x*y:Nat):Int)]∧c=a:=by
 intro a w d;refine(Go.Proofs.Any.bits_Mul64 Tryz.Zcf x y g f w).mono ?_;rintro e h ⟨rfl,rfl⟩;refine⟨_,a,rfl,⟨?_,rfl⟩,d,Ext.refl _⟩;rw[Qwd b,Qbh b];rfl
theorem Zlj(a b:Nat)(j:a≤1000000)(i:b≤1000):Spec Tryz.prog 111 [.int .i64 (a:Int),.int .i64 (b:Int)] [] fun e v g=>v=.int .i64 (a*b:Nat)∧g=e:=by
 have d:a*b≤1000000000:=Qvs j i;refine Zbd Tryz.func111 rfl Tryz.ntmps111 fun k e=>Zsh ?_;obtain⟨m,h⟩:∃m,m=a*b:=⟨_,rfl⟩;have c:=Zb4 a b Qb Qb Qb;rw[←h]at c d ⊢;refine ZY 7 (Zp (Zcp Ze (Qej a Qb) ?_));refine Zv (Vu Tryz.Ze7.h (by rw[Tryz.underlying3];rfl) rfl (Qd6 Qb Qb)) (Zy (Zp (Zcp Ze (Qej b Qb) ?_)));refine Zv (Vu Tryz.Ze7.h (by rw[Tryz.underlying3];rfl) rfl (Qd6 Qb Qb)) (Zp (Zcp Ze (c) (ZY 8 (ZY 8 ?_))))
 refine Zj ef (fun f=>?_) (fun f=>?_)
 ·exact absurd f Qb
 ·refine ZY 4 ?_;refine Zv (Vu Tryz.it3.h (by rw[Tryz.underlying225];rfl) rfl (Xy Qb Qb)) (ZY 3 ?_);exact Zf ef Zq (⟨rfl,rfl⟩)
theorem Qqo(b:Nat)(st:Br)(ps:Nat→Nat)(x:Bj)(c:Qk st.js x.id=some x):Spec Tryz.prog 76 [pt b,pt (ps x.id)] [BP b st ps] fun f v k=>v=.int .i64 (Lx st x:Nat)∧k=BP b st ps::f:=by
 refine Spec.J3 fun a=>?_;have e:=a.at_ c;have o:st.rows≤8:=by have:=a.Fu.R8;rw[a.R]at this;exact this
 have d:=e.cr;have s:=e.w;refine Zbd Tryz.func76 rfl Tryz.ntmps76 fun r f=>Zsh ?_;refine S.Uu b st ps x c fun ub jb mb ov iv dv mv sb l i j lb h rb g q n Yr m p=>(ZY 5 ?_);refine Zd ([blk (ps x.id) 90 (bjC x j lb h rb g).toArray,blk b 84 (bC st ub jb mb ov iv dv mv sb).toArray]) [] [0,1,2,3,4,5,6,7,8,9,11,12,13,14,15] (ZY 8 (ZY 7 ?_));refine Z1 (i:=10) ef ef ?_;refine  (Zcp Ze (Zh0 x.w x.Qg Qb d) ?_);refine Zk [] ?_;refine Z1 (i:=16) ef ef ?_;refine  (Zcp Ze (Zlj (x.w-x.Qg) st.rows Qb Qb) ?_);refine Zk [17] (Zy ?_);refine ZD (Zy (S.Q0 b st ps ub jb mb ov iv dv mv sb l i x j lb h rb g n rfl (Yr x rfl) (q.set e) p ?_));rw[Z4 a c];exact Zf ef Zq (⟨rfl,rfl⟩)
theorem fsnoc{a:Type}{p:a→Bool}{l:List a}{i:Nat}{x:a}(c:l[i]?=some x)(b:Bool)(h:p x=b):(l.take (i+1)).filter p=(l.take i).filter p++if b then [x] else []:=by
 rw[X2,c,Gu];cases b <;> simp[h]
def Qgo(st:Br)(id:Nat):Bool:=match Qk st.js id with
 | none=>false
 | some x=>decide (x.state=2)&&x.Ql.isNone&&decide (x.work<x.w)
theorem Qzx(st:Br)(l:List Nat):X1 st l=l.filter (Qgo st):=rfl
theorem Q3z{st:Br}{id:Nat}(h:Qk st.js id=none):Qgo st id=false:=by rw[Qgo,h]
theorem Q3y{st:Br}{id:Nat}{x:Bj}(h:Qk st.js id=some x):Qgo st id=(decide (x.state=2)&&x.Ql.isNone&&decide (x.work<x.w)):=by rw[Qgo,h]
theorem Qci{d c:Type}{a:Option d}{b:Option c}(h:a.isSome=b.isSome):a.isNone=b.isNone:=by cases a <;> cases b <;> first|rfl|cases h
set_option maxHeartbeats 1000000 in
theorem Qw0(b:Nat)(st:Br)(ps:Nat→Nat)(s:SV)(xs:List Nat)(Z:s.n=xs.length)(Y:xs.length≤1000000):Spec Tryz.prog 89 [pt b,s.v] [BP b st ps,own s 31 1 (Yp xs)] fun F v J=>∃u:SV,v=u.v∧u.n=(X1 st xs).length∧J=own u 31 1 (Yp (X1 st xs))::BP b st ps::own s 31 1 (Yp xs)::F:=by
 rw[Qzx];refine Spec.J3 fun f=>?_;refine Zbd Tryz.func89 rfl Tryz.ntmps89 fun U F=>Zsh ?_;refine S.Xn s fun P Bt O=>?_;have N:maxLen≤9223372036854775807:=by unfold maxLen;omega
 refine ZY 8 (ZY 3 ?_);refine S.Qs (show Ent _ (own SV.nil 31 1 (Yp [])::_) from Ent.Xb 31 1) (ZY 5 ?_);refine Zl (fun q r t=>∃(e:Nat) (a:List Nat) (u:SV),q=xs.length-e∧e≤xs.length∧a=(xs.take e).filter (Qgo st)∧a.length≤e∧u.n=a.length∧r=[(0,pt b),(5,u.v),(9,s.v),(10,.int .i64 (s.n:Int)),(11,.int .i64 (e:Int))]∧t=own u 31 1 (Yp a)::BP b st ps::own s 31 1 (Yp xs)::F) (m:=_) (⟨0,[],SV.nil,rfl,Qb,rfl,Q2,rfl,rfl,rfl⟩) ?_;rintro q r t ⟨e,a,u,W,X,d,K,h,rfl,rfl⟩;refine ZY 5 ?_
 refine Zj ef (fun R=>?_) (fun R=>?_)
 ·refine S.Q7 s Qb fun V io z _ _ _=>?_;obtain⟨id,j⟩:=Xs (show e<xs.length by omega);refine ZY 5 (Zv (Zx (e) ef (z) ef Qb) (Zv (Zo (s) (e) ef (z) (Cj j)) (ZY 3 ?_)))
  rcases k:Qk st.js id with _|x
  ·have g:a=(xs.take (e+1)).filter (Qgo st):=by rw[fsnoc j false (Q3z k),d];simp
   refine S.W5 b st ps fun ub jb mb ov iv dv mv sb l p=>?_;have H:Yh (id:Int) l=none:=by rw[Un f.Y4 p.perm,k];rfl
   refine ZY 6 ?_;refine Zv (Qx (.pointer none) Tryz.underlying82 Tryz.underlying31 Tryz.Jv.h rfl rfl rfl (by rw[H];rfl)) (ZY 3 ?_);refine Zd ([]) [] [0,1,2] (ZY 3 ?_);refine Zr (Zra 3 26) (ZY 8 (ZY 8 (ZY 8 (ZY 2 ?_))));refine ZD (ZY 3 (S.Yk b st ps ub jb mb ov iv dv mv sb l p (Zv (Za ef ef) (ZY 2 ?_))));first|exact ZX (q-1) ⟨e+1,a++[_],w,Qb,Qb,g,by rw[Yd,Y0];omega,by rw[Yd,Y0];omega,rfl,rfl⟩ Qb|exact ZX (q-1) ⟨e+1,a,u,Qb,Qb,g,Qb,h,rfl,rfl⟩ Qb
  ·obtain⟨_,T⟩:=Qi k;subst T;have E:=f.at_ k;have o:=Q3y k;refine S.Uu b st ps x k fun ub jb mb ov iv dv mv sb l i C lb B rb y p D Yr M A=>?_;have H:Yh (x.id:Int) l=some (pt (ps x.id)):=by rw[Un f.Y4 p.perm,k];rfl
   have I:=Qci A.d;refine ZY 6 ?_;refine Zv (Qx (pt (ps x.id)) Tryz.underlying82 Tryz.underlying31 Tryz.Jv.h rfl rfl rfl (by rw[H];rfl)) (ZY 3 ?_);refine Zd ([blk (ps x.id) 90 (bjC x C lb B rb y).toArray]) [] [0,1,2] (ZY 3 ?_);refine Zr (Zra 3 8) (ZY 8 ?_)
   refine Zb 31 ef (fun n=>?_) (fun n=>?_)
   ·refine Zr (Zra 11 7) (ZY 4 ?_);refine Zwg ef ef ef ef (Hz Tryz.underlying81 rfl rfl) (ZY 2 ?_)
    refine Zbb 38 ef (fun c=>?_) (fun c=>?_)
    ·refine Zr (Zra 18 11) (ZY 8 (ZY 3 ?_));refine ZD ?_
     refine Zj ef (fun Q=>?_) (fun Q=>?_)
     ·have g:a++[x.id]=(xs.take (e+1)).filter (Qgo st):=by rw[fsnoc j true (by rw[o,←I,c,Zh (show x.state=2 by omega),Zh (show x.work<x.w by omega)];rfl),d];rfl
      refine ZY 3 ?_;refine Zp (S.buildSlice (pvs:=[(_,_)]) [_] Tryz.underlying53 Tryz.H9.h rfl rfl ⟨⟨rfl,rfl⟩,trivial⟩ rfl rfl ?_);intro G;refine Zp (S.Z6 (s:=u) (1) (Yp [x.id]) Tryz.underlying53 Tryz.H9.h rfl rfl rfl (Yb (b:=G) rfl (by unfold maxLen;omega)) (by first|rfl|exact Qw _) (⟨Qb,Qb⟩) rfl ?_);intro w L;rw[show Yp a++Yp [x.id]=Yp (a++[x.id]) from Vc.symm];refine ZY 3 (S.Q0 b st ps ub jb mb ov iv dv mv sb l i x C lb B rb y D rfl (Yr x rfl) (p.set E) A ?_);rw[Z4 f k];refine Zv (Za ef ef) (ZY 2 ?_);first|exact ZX (q-1) ⟨e+1,a++[_],w,Qb,Qb,g,by rw[Yd,Y0];omega,by rw[Yd,Y0];omega,rfl,rfl⟩ Qb|exact ZX (q-1) ⟨e+1,a,u,Qb,Qb,g,Qb,h,rfl,rfl⟩ Qb
     ·have g:a=(xs.take (e+1)).filter (Qgo st):=by first|exact g|(rw[fsnoc j false (by rw[o,Q6 (show ¬x.work<x.w by omega),Tc]),d];simp)
      refine ZY 2 (S.Q0 b st ps ub jb mb ov iv dv mv sb l i x C lb B rb y D rfl (Yr x rfl) (p.set E) A ?_);rw[Z4 f k];refine Zv (Za ef ef) (ZY 2 ?_);first|exact ZX (q-1) ⟨e+1,a++[_],w,Qb,Qb,g,by rw[Yd,Y0];omega,by rw[Yd,Y0];omega,rfl,rfl⟩ Qb|exact ZX (q-1) ⟨e+1,a,u,Qb,Qb,g,Qb,h,rfl,rfl⟩ Qb
    ·have g:a=(xs.take (e+1)).filter (Qgo st):=by rw[fsnoc j false (by rw[o,←I,c,Tc];rfl),d];simp
     refine Zr (Zra 18 11) (ZY 8 (ZY 3 ?_));refine ZD (ZY 3 (S.Q0 b st ps ub jb mb ov iv dv mv sb l i x C lb B rb y D rfl (Yr x rfl) (p.set E) A ?_));rw[Z4 f k];refine Zv (Za ef ef) (ZY 2 ?_);first|exact ZX (q-1) ⟨e+1,a++[_],w,Qb,Qb,g,by rw[Yd,Y0];omega,by rw[Yd,Y0];omega,rfl,rfl⟩ Qb|exact ZX (q-1) ⟨e+1,a,u,Qb,Qb,g,Qb,h,rfl,rfl⟩ Qb
   ·have g:a=(xs.take (e+1)).filter (Qgo st):=by rw[fsnoc j false (by rw[o,Q6 (show ¬x.state=2 by omega)];rfl),d];simp
    refine Zr (Zra 11 18) (ZY 8 (ZY 8 (ZY 2 ?_)));refine ZD (ZY 3 (S.Q0 b st ps ub jb mb ov iv dv mv sb l i x C lb B rb y D rfl (Yr x rfl) (p.set E) A ?_));rw[Z4 f k];refine Zv (Za ef ef) (ZY 2 ?_);first|exact ZX (q-1) ⟨e+1,a++[_],w,Qb,Qb,g,by rw[Yd,Y0];omega,by rw[Yd,Y0];omega,rfl,rfl⟩ Qb|exact ZX (q-1) ⟨e+1,a,u,Qb,Qb,g,Qb,h,rfl,rfl⟩ Qb
 ·rw[show xs.take e=xs by rw[show e=xs.length by omega,Wh]]at d;refine ZY 7 ?_;exact Zf ef Zq (⟨u,rfl,by rw[←d];exact h,by rw[←d]⟩)
def Rv(st:Br)(id:Nat):Bool:=match Qk st.js id with
 | none=>false
 | some x=>x.Ql.isNone
theorem Q6d(st:Br):Rw st=!st.members.any (Rv st):=rfl
abbrev jP(b:Nat)(st:Br)(ps:Nat→Nat)(ub jb mb:Nat)(ov iv dv mv:SV)(sb:Option Nat)(l:List (Int×Value))(c:Nat)(a:List Assn):List Assn:=
 blk c 27 #[pt b]::blk b 84 (bC st ub jb mb ov iv dv mv sb).toArray::Qz jb .u32 l::alls st.js (jI ps)::a
section
variable {b:Nat}{st:Br}{ps:Nat→Nat}{ub jb mb:Nat}{ov iv dv mv:SV}{sb:Option Nat}{l:List (Int×Value)}
theorem Zct(m:BF st ps ov iv dv mv sb l)(g:Nat)(id:Nat):Spec Tryz.prog 72 [.int .u32 (id:Int),pt g] (jP b st ps ub jb mb ov iv dv mv sb l g []) fun n v p=>v=.bool (Rv st id)∧p=jP b st ps ub jb mb ov iv dv mv sb l g n:=by
 have a:=m.ok;refine Zbd Tryz.func72 rfl Tryz.ntmps72 fun y n=>Zsh (ZY 5 ?_)
 rcases d:Qk st.js id with _|x
 ·have c:Rv st id=false:=by rw[Rv,d]
  have f:Yh (id:Int) l=none:=by rw[Un a.Y4 m.perm,d];rfl
  refine ZY 6 ?_;refine Zv (Qx (.pointer none) Tryz.underlying82 Tryz.underlying31 Tryz.Jv.h rfl rfl rfl (by rw[f];rfl)) (ZY 8 (ZY 8 ?_));exact Zf ef Zq (⟨by rw[c];rfl,rfl⟩)
 ·obtain⟨_,u⟩:=Qi d;subst u;have c:Rv st x.id=x.Ql.isNone:=by rw[Rv,d]
  have f:Yh (x.id:Int) l=some (pt (ps x.id)):=by rw[Un a.Y4 m.perm,d];rfl
  obtain⟨i,o,_,_⟩:=P5 a.Y4 d;refine S.conv (alls st.js (jI ps)) (Ent.U5 (jI ps) o _) ?_;refine S.Qnn (ps x.id) x fun t lb s rb q r k e h j=>?_;have w:=Qci e;refine ZY 6 ?_;refine Zv (Qx (pt (ps x.id)) Tryz.underlying82 Tryz.underlying31 Tryz.Jv.h rfl rfl rfl (by rw[f];rfl)) (ZY 7 ?_);refine Zvg ef ef ef (Qx (pt (ps x.id)) Tryz.underlying82 Tryz.underlying31 Tryz.Jv.h rfl rfl rfl (by rw[f];rfl)) (ZY 3 (Zvg ef ef ef (Hz Tryz.underlying81 rfl rfl) (ZY 4 (S.Qas (ps x.id) x t lb s rb q r k e h j (S.X0 (JI (ps x.id) x) (alls (st.js.take i) (jI ps)) (alls (st.js.drop (i+1)) (jI ps)) (Ent.Xk (jI ps) o _) ?_)))));exact Zf ef Zq (⟨by rw[c,←w];rfl,rfl⟩)
theorem Zcq(u:BF st ps ov iv dv mv sb l)(a:Nat)(s:SV)(xs:List Nat)(D:s.n=xs.length):Spec Tryz.prog 107 [s.v,.func (.func 72) #[] #[pt a]] (own s 31 1 (Yp xs)::jP b st ps ub jb mb ov iv dv mv sb l a []) fun i v o=>
  (∃z:Int,v=.int .i64 z∧(0≤z↔xs.any (Rv st)=true))∧o=own s 31 1 (Yp xs)::jP b st ps ub jb mb ov iv dv mv sb l a i:=by
 refine Zbd Tryz.func107 rfl Tryz.ntmps107 fun y i=>Zsh ?_;refine S.Xn s fun t E r=>?_;have p:maxLen≤9223372036854775807:=by unfold maxLen;omega
 refine ZY 8 (ZY 4 ?_);refine Zl (fun q d f=>∃e:Nat,q=xs.length-e∧e≤xs.length∧(xs.take e).any (Rv st)=false∧d=[(0,s.v),(1,.func (.func 72) #[] #[pt a]),(7,.int .i64 (s.n:Int)),(8,.int .i64 (e:Int))]∧f=own s 31 1 (Yp xs)::jP b st ps ub jb mb ov iv dv mv sb l a i) (m:=_) (⟨0,rfl,Qb,rfl,rfl,rfl⟩) ?_;rintro q d f ⟨e,B,C,k,rfl,rfl⟩;refine ZY 5 ?_
 refine Zj ef (fun w=>?_) (fun w=>?_)
 ·refine S.Q7 s Qb fun A io g _ _ _=>?_;obtain⟨id,c⟩:=Xs (show e<xs.length by omega);have x:xs.take (e+1)=xs.take e++[id]:=by rw[X2,c];rfl
  refine ZY 8 (ZY 5 (Zv (Zx (e) ef (g) ef Qb) (Zv (Zo (s) (e) ef (g) (Cj c)) ?_)));refine Zp (S.Qyt (fs:=[]) (cs:=[pt a]) (vs:=[_]) Eo.h rfl ⟨rfl,trivial⟩ (Zct (b:=b) (ub:=ub) (jb:=jb) (mb:=mb) u a id) rfl ?_);rintro v o ⟨rfl,rfl⟩;refine Zy ?_
  refine Zi ef (fun j=>?_) (fun j=>?_)
  ·refine ZY 6 ?_;exact Zf ef Zq (⟨⟨(e:Int),rfl,fun _=>Pm.2 ⟨id,Yn c,j⟩,fun _=>Qb⟩,rfl⟩)
  ·have n:(xs.take (e+1)).any (Rv st)=false:=by rw[x,List.any_append,k];simp[j]
   refine ZY 2 (Zv (Za ef ef) (ZY 2 ?_));exact ZX (q-1) (⟨e+1,Qb,Qb,n,rfl,rfl⟩) Qb
 ·rw[show e=xs.length by omega,Wh]at k;refine ZY 6 ?_;exact Zf ef Zq (⟨⟨-1,rfl,fun h=>absurd h Qp,fun h=>by rw[k]at h;cases h⟩,rfl⟩)
theorem Q7y(f:BF st ps ov iv dv mv sb l)(a:Nat)(s:SV)(xs:List Nat)(g:s.n=xs.length):Spec Tryz.prog 71 [s.v,.func (.func 72) #[] #[pt a]] (own s 31 1 (Yp xs)::jP b st ps ub jb mb ov iv dv mv sb l a []) fun d v c=>
  v=.bool (xs.any (Rv st))∧c=own s 31 1 (Yp xs)::jP b st ps ub jb mb ov iv dv mv sb l a d:=by
 refine Zbd Tryz.func71 rfl Tryz.ntmps71 fun h d=>Zsh (ZY 8 (Zp (Zc1 Ze (Zcq (b:=b) (ub:=ub) (jb:=jb) (mb:=mb) f a s xs g) ?_)));rintro v c ⟨⟨z,rfl,e⟩,rfl⟩;refine ZY 4 ?_;exact Zf ef Zq (⟨by show Value.bool (decide (0≤z))=_;congr 1;rw[Qon,Qvr];exact e,rfl⟩)
end
theorem Zh8(b:Nat)(st:Br)(ps:Nat→Nat):Spec Tryz.prog 40 [pt b] [BP b st ps] fun c v d=>v=.bool (Rw st)∧d=BP b st ps::c:=by
 refine Zbd Tryz.func40 rfl Tryz.ntmps40 fun f c=>Zsh ?_;refine S.W5 b st ps fun ub jb mb ov iv dv mv sb l a=>(ZY 2 (Zp (S.box (cs:=[_]) rfl rfl rfl ?_)));intro e;refine ZY 8 (Zy (Zp (Zcp Ze (Q7y (b:=b) (ub:=ub) (jb:=jb) (mb:=mb) a e mv st.members a.mn) (ZY 4 (S.Yk b st ps ub jb mb ov iv dv mv sb l a ?_)))));exact Zf ef Zq (⟨by rw[Q6d];rfl,rfl⟩)
theorem Zhl(b:Nat)(st:Br)(ps:Nat→Nat)(x:Bj)(e:Qk st.js x.id=some x):Spec Tryz.prog 81 [pt (ps x.id)] [BP b st ps] fun g v p=>v=.bool (x.Wp || x.Ql.isSome)∧p=BP b st ps::g:=by
 refine Spec.J3 fun c=>?_;have o:=c.at_ e;refine Zbd Tryz.func81 rfl Tryz.ntmps81 fun r g=>Zsh ?_;refine S.Uu b st ps x e fun ub jb mb ov iv dv mv sb l i n lb m rb h k j Yr q f=>?_;have d:=f.d;refine ZY 8 (ZY 3 ?_)
 refine Zbb 7 ef (fun a=>?_) (fun a=>?_)
 ·refine ZY 8 (Zy (S.Q0 b st ps ub jb mb ov iv dv mv sb l i x n lb m rb h j rfl (Yr x rfl) (k.set o) f ?_));rw[Z4 c e];exact Zf ef Zq (⟨by simp[a,←d,Vt],rfl⟩)
 ·refine ZY 4 (Zvg ef ef ef (F7 Tryz.underlying81 rfl rfl) (ZY 4 (S.Q0 b st ps ub jb mb ov iv dv mv sb l i x n lb m rb h j rfl (Yr x rfl) (k.set o) f ?_)));rw[Z4 c e];exact Zf ef Zq (⟨by simp[a,←d,Vt],rfl⟩)
abbrev lvB(x:Bj):Bool:=x.Wp || x.Ql.isSome
theorem Zh6(b:Nat)(st:Br)(ps:Nat→Nat)(s:SV)(C:s.n=st.js.length):Spec Tryz.prog 118 [s.v,.func (.func 81) #[] #[]] [own s 86 1 (pts ps st.js),BP b st ps] fun g v n=>
  (∃z:Int,v=.int .i64 z∧(0≤z↔st.js.any lvB=true))∧n=own s 86 1 (pts ps st.js)::BP b st ps::g:=by
 refine Zbd Tryz.func118 rfl Tryz.ntmps118 fun w g=>Zsh ?_;refine S.Xn s fun r D p=>?_;have o:maxLen≤9223372036854775807:=by unfold maxLen;omega
 refine S.J3 b st ps fun i=>(ZY 8 (ZY 4 ?_));refine Zl (fun q a c=>∃e:Nat,q=st.js.length-e∧e≤st.js.length∧(st.js.take e).any lvB=false∧a=[(0,s.v),(1,.func (.func 81) #[] #[]),(7,.int .i64 (s.n:Int)),(8,.int .i64 (e:Int))]∧c=own s 86 1 (pts ps st.js)::BP b st ps::g) (m:=_) (⟨0,rfl,Qb,rfl,rfl,rfl⟩) ?_;rintro q a c ⟨e,A,B,k,rfl,rfl⟩;refine ZY 5 ?_
 refine Zj ef (fun t=>?_) (fun t=>?_)
 ·refine S.Q7 s Qb fun y io d _ _ _=>?_;obtain⟨x,f⟩:=Xs (show e<st.js.length by omega);have u:st.js.take (e+1)=st.js.take e++[x]:=by rw[X2,f];rfl
  refine ZY 8 (ZY 5 (Zv (Zx (e) ef (d) ef Qb) ?_));refine Zv (Zo (s) (e) ef (d) (by rw[Q8,f];rfl)) ?_;refine Zp (S.Qyt (fs:=[]) (cs:=[]) (vs:=[_]) Eo.h rfl ⟨rfl,trivial⟩ (Zhl b st ps x (Ys i.Y4 (Yn f))) rfl ?_);rintro v n ⟨rfl,rfl⟩;refine Zy ?_
  refine Zi ef (fun j=>?_) (fun j=>?_)
  ·refine ZY 6 ?_;exact Zf ef Zq (⟨⟨(e:Int),rfl,fun _=>Pm.2 ⟨x,Yn f,j⟩,fun _=>Qb⟩,rfl⟩)
  ·have l:(st.js.take (e+1)).any lvB=false:=by rw[u,List.any_append,k];simp only[List.any_cons,List.any_nil,Bool.or_false,Qvu];exact j
   refine ZY 2 (Zv (Za ef ef) (ZY 2 ?_));exact ZX (q-1) (⟨e+1,Qb,Qb,l,rfl,rfl⟩) Qb
 ·rw[show e=st.js.length by omega,Wh]at k;refine ZY 6 ?_;exact Zf ef Zq (⟨⟨-1,rfl,fun h=>absurd h Qp,fun h=>by rw[k]at h;cases h⟩,rfl⟩)
theorem Zd3(b:Nat)(st:Br)(ps:Nat→Nat)(s:SV)(e:s.n=st.js.length):Spec Tryz.prog 80 [s.v,.func (.func 81) #[] #[]] [own s 86 1 (pts ps st.js),BP b st ps] fun c v a=>
  v=.bool (st.js.any lvB)∧a=own s 86 1 (pts ps st.js)::BP b st ps::c:=by
 refine Zbd Tryz.func80 rfl Tryz.ntmps80 fun f c=>Zsh (ZY 8 (Zp (Zc1 Ze (Zh6 b st ps s e) ?_)));rintro v a ⟨⟨z,rfl,d⟩,rfl⟩;refine ZY 4 ?_;exact Zf ef Zq (⟨by show Value.bool (decide (0≤z))=_;congr 1;rw[Qon,Qvr];exact d,rfl⟩)
abbrev B9(x:Bj):PR.It:=⟨x.id,x.tier,0⟩
abbrev quB(x:Bj):Bool:=decide (x.state=0)&&x.Ql.isNone
def wUp(l:List Bj):PR.HSt:=l.foldl (fun h x=>(PR.H4 (B9 x) h).2) (some [])
theorem Qo7(st:Br):Rp st=PR.stL (wUp (st.js.filter quB)):=rfl
theorem Q2w(l:List Bj)(x:Bj):wUp (l++[x])=(PR.H4 (B9 x) (wUp l)).2:=by rw[wUp,Ha];rfl
theorem Qwh(l:List Bj)(k:Wm l):∃q,wUp l=some q∧q.Perm (l.map B9):=by
 have key:∀(l m:List Bj) (q:List PR.It),Wm (m++l)→q.Perm (m.map B9)→∃d,l.foldl (fun h x=>(PR.H4 (B9 x) h).2) (some q)=some d∧d.Perm ((m++l).map B9):=by
  intro l;induction l with
  | nil=>exact fun m q _ a=>⟨q,rfl,by rw[X3];exact a⟩
  | cons x l g=>
   intro m q f a
   have c:PR.Ss (x.id:Int) q=false:=by
    unfold PR.Ss;rw[Qvw];intro y j;obtain⟨z,i,e⟩:=Qq.1 (a.mem_iff.1 j);have:=(Qjc.1 f).2.2 z i x (Z0 ..);subst e;simp only[Zz];omega
   have b:(PR.H4 (B9 x) (some q)).2=some (PR.ins (B9 x) q):=by simp only[PR.H4,c];rfl
   have n:(PR.ins (B9 x) q).Perm ((m++[x]).map B9):=by
    refine(PR.Qat _ _).trans ?_;rw[Vc];exact(a.cons _).trans (Qv1 _ _).symm
   have:=g (m++[x]) _ (by rw[Wb];exact f) n;rw[Wb]at this;rw[Mi,b];exact this
 exact key l [] [] k (Qom _)
theorem D5{st:Br}(h:Wm st.js):(Rp st).Perm ((st.js.filter quB).map B9):=by
 obtain⟨q,b,a⟩:=Qwh (st.js.filter quB) (h.filter _);rw[Qo7,b];exact a
theorem Gy{st:Br}(h:Wm st.js){id:Nat}(c:id∈Wf st):∃x,Qk st.js id=some x∧quB x=true:=by
 obtain⟨y,a,e⟩:=Qq.1 c;obtain⟨x,b,e2⟩:=Qq.1 ((D5 h).mem_iff.1 a);obtain⟨f,d⟩:=Y5.1 b;subst e2;simp only[K0]at e;subst e;exact⟨x,Ys h f,d⟩
theorem Aj{st:Br}(h:Wm st.js):(Wf st).length≤st.js.length:=by
 rw[Wf,Qo,(D5 h).length_eq,Qo];exact Uw _ _
theorem El{st:Br}(h:Wm st.js):(Wf st).Nodup:=by
 have a:(Wf st).Perm ((st.js.filter quB).map (·.id)):=by
  have:=(D5 h).map fun x:PR.It=>x.id.toNat;rw[Kk]at this;exact this
 refine a.nodup_iff.2 (Ww.2 ((h.filter _).imp fun h=>?_));omega
abbrev wps(ps:Nat→Nat)(l:List Nat):List Value:=l.map fun id=>pt (ps id)
theorem Qqp{l:List Bj}(h:Wm l):PR.Lx (wUp l)=l.length:=by
 obtain⟨q,b,a⟩:=Qwh l h;rw[b];show q.length=_;rw[a.length_eq,Qo]
set_option maxHeartbeats 1000000 in
theorem Qj5(b:Nat)(st:Br)(ps:Nat→Nat):Spec Tryz.prog 75 [pt b] [BP b st ps] fun G v F=>∃u:SV,v=u.v∧u.n=(Wf st).length∧F=own u 86 1 (wps ps (Wf st))::BP b st ps::G:=by
 refine Spec.J3 fun a=>?_;have Sq:=a.Dk;refine Zbd Tryz.func75 rfl Tryz.ntmps75 fun w0 G=>Zsh (ZY 6 (Zp (Zc1 Ze (PR.Zj5) ?_)));rintro v F ⟨I,rfl,rfl⟩;refine ZY 6 (Zp (Zc1 Ze (Qip b st ps) ?_));rintro v F ⟨z,rfl,aa,rfl⟩;refine S.Xn z fun a9 Bt a8=>?_;have a7:maxLen≤9223372036854775807:=by unfold maxLen;omega
 refine ZY 4 ?_;refine Zl (fun d f g=>∃(e:Nat) (h:PR.HSt),d=st.js.length-e∧e≤st.js.length∧h=wUp ((st.js.take e).filter quB)∧f=[(0,pt b),(3,.pointer I),(11,z.v),(12,.int .i64 (z.n:Int)),(13,.int .i64 (e:Int))]∧g=own z 86 1 (pts ps st.js)::PR.HI I h::BP b st ps::G) (m:=_) (⟨0,some [],rfl,Qb,rfl,rfl,rfl⟩) ?_;rintro d f g ⟨e,h,U,he,k,rfl,rfl⟩;refine ZY 5 ?_
 refine Zj ef (fun h1=>?_) (fun h1=>?_)
 ·refine S.Q7 z Qb fun sb so E _ _ _=>?_;obtain⟨x,D⟩:=Xs (show e<st.js.length by omega);have q:Qk st.js x.id=some x:=Ys a.Y4 (Yn D);have X:=a.at_ q;have Y:=fun v (hv:quB x=v)=>fsnoc (p:=quB) D v hv;refine S.Uu b st ps x q fun t jb w ov A C mv sb l i L lb K rb H B T Yr a3 J=>?_;have Z:=Qci J.d;refine ZY 5 (Zv (Zx (e) ef (E) ef Qb) ?_);refine Zv (Zo (z) (e) ef (E) (by rw[Q8,D];rfl)) ?_;refine ZY 8 (ZY 3 ?_)
  refine Zb 23 ef (fun n=>?_) (fun n=>?_)
  ·refine ZY 4 (Zvg ef ef ef (Hz Tryz.underlying81 rfl rfl) (ZY 2 ?_))
   refine Zi ef (fun V=>?_) (fun V=>?_)
   ·have c:(PR.H4 (B9 x) h).2=wUp ((st.js.take (e+1)).filter quB):=by rw[Y true (by rw[quB,Zh (show x.state=0 by omega),←Z,V];rfl)];simp only[C0];rw[Q2w,k]
    have R:PR.Lx h≤999:=by
     rw[k,Qqp ((a.Y4.sublist (List.take_sublist _ _)).filter _)];have:=Uw quB (st.js.take e);rw[V9]at this;omega
    refine Zd ([blk (ps x.id) 90 (bjC x L lb K rb H).toArray]) [] (Zra 0 12) (ZY 8 (ZY 3 ?_));refine Zw ef (Ye (pvs:=[(_,_),(_,_)]) [_,_,_] Tryz.z183.h Tryz.Zo6.h ⟨⟨rfl,rfl⟩,⟨rfl,rfl⟩,trivial⟩ rfl) ?_;refine Z1 (i:=12) ef ef ?_;refine  (Zcp Ze (PR.Zeo I h (B9 x) R) ?_);refine Zk [] ?_;refine ZD (Zy (S.Q0 b st ps t jb w ov A C mv sb l i x L lb K rb H T rfl (Yr x rfl) (B.set X) J ?_));rw[Z4 a q];refine Zv (Za ef ef) (ZY 2 ?_);first|exact ZX (d-1) ⟨e+1,_,Qb,Qb,c,rfl,rfl⟩ Qb|exact ZX (d-1) ⟨e+1,(PR.H4 (B9 x) h).2,Qb,Qb,c,rfl,rfl⟩ Qb|exact ZX (d-1) ⟨e+1,h,Qb,Qb,c,rfl,rfl⟩ Qb
   ·have c:h=wUp ((st.js.take (e+1)).filter quB):=by first|exact c|(rw[Y false (by rw[quB,←Z,V,Tc])];simpa using k)
    refine ZY 2 (S.Q0 b st ps t jb w ov A C mv sb l i x L lb K rb H T rfl (Yr x rfl) (B.set X) J ?_);rw[Z4 a q];refine Zv (Za ef ef) (ZY 2 ?_);first|exact ZX (d-1) ⟨e+1,_,Qb,Qb,c,rfl,rfl⟩ Qb|exact ZX (d-1) ⟨e+1,(PR.H4 (B9 x) h).2,Qb,Qb,c,rfl,rfl⟩ Qb|exact ZX (d-1) ⟨e+1,h,Qb,Qb,c,rfl,rfl⟩ Qb
  ·have c:h=wUp ((st.js.take (e+1)).filter quB):=by rw[Y false (by rw[quB,Q6 (show ¬x.state=0 by omega)];rfl)];simpa using k
   refine ZY 8 (ZY 2 (S.Q0 b st ps t jb w ov A C mv sb l i x L lb K rb H T rfl (Yr x rfl) (B.set X) J ?_));rw[Z4 a q];refine Zv (Za ef ef) (ZY 2 ?_);first|exact ZX (d-1) ⟨e+1,_,Qb,Qb,c,rfl,rfl⟩ Qb|exact ZX (d-1) ⟨e+1,(PR.H4 (B9 x) h).2,Qb,Qb,c,rfl,rfl⟩ Qb|exact ZX (d-1) ⟨e+1,h,Qb,Qb,c,rfl,rfl⟩ Qb
 ·rw[show st.js.take e=st.js by rw[show e=st.js.length by omega,Wh]]at k;have hq:Rp st=PR.stL h:=by rw[k];rfl
  have Q:=D5 a.Y4;have a4:=Aj a.Y4;have a0:(Wf st).length=(Rp st).length:=Qo ..;refine ZY 3 ?_;refine S.Qs (show Ent _ (own SV.nil 86 1 (wps ps [])::_) from Ent.Xb 86 1) (ZY 6 ?_);refine Zp (Zc1 Ze (PR.Zj3 I h (by rw[k,Qqp (a.Y4.filter _)];exact Up (Uw _ _) Sq)) ?_);rintro v F ⟨u,rfl,rfl⟩;rw[←hq];refine S.Xn u fun P a2 a1=>?_;rw[Y1 PR.Gi]at P;refine ZY 4 ?_;refine Zl (fun d f g=>∃(e:Nat) (r:List Nat) (o:SV),d=(Rp st).length-e∧e≤(Rp st).length∧r=(Wf st).take e∧o.n=e∧f=[(0,pt b),(6,o.v),(45,u.v),(46,.int .i64 (u.n:Int)),(47,.int .i64 (e:Int))]∧g=own o 86 1 (wps ps r)::own u 183 3 ((Rp st).flatMap PR.itC)::BP b st ps::G) (m:=_) (⟨0,[],SV.nil,rfl,Qb,rfl,rfl,rfl,rfl⟩) ?_;rintro d f g ⟨e,r,o,U,he,j,a5,rfl,rfl⟩;refine ZY 5 ?_
  refine Zj ef (fun h3=>?_) (fun h3=>?_)
  ·refine S.Q7 u Qb fun sb so E _ _ _=>?_;obtain⟨y,M⟩:=Xs (show e<(Rp st).length by omega);obtain⟨x,D,N⟩:=Qq.1 (Q.mem_iff.1 (Yn M));subst N;have O:(Wf st)[e]?=some x.id:=by rw[Wf,Q8,M];rfl
   have q:Qk st.js x.id=some x:=Ys a.Y4 (Y5.1 D).1;refine S.W5 b st ps fun t jb w ov A C mv sb l B=>?_;have Fv:Yh (x.id:Int) l=some (pt (ps x.id)):=by rw[Un a.Y4 B.perm,q];rfl
   refine ZY 5 (Zv (Zx (e) ef (E) ef Qb) ?_);refine Zv (Ub (u) (e*3) [_,_,_] Eo.h rfl E (by first|rfl|exact Xr _ _ _|omega) rfl (Wr (enc:=PR.itC) (sz:=3) (fun _=>rfl) M)) (Zp (S.alloc Tryz.z183.h rfl ?_));intro b8;refine Zp (Zs ef ef (cs':=[_,_,_]) ef (Zy ?_));refine Zd ([blk b8 183 (PR.itC (B9 x)).toArray,blk b 84 (bC st t jb w ov A C mv sb).toArray,Qz jb .u32 l]) [9] (Zra 0 8) (ZY 7 ?_);refine Zw ef (Qx (pt (ps x.id)) Tryz.underlying82 Tryz.underlying31 Tryz.Jv.h rfl rfl rfl (by rw[Fv];rfl)) ?_;refine Z1 (i:=8) ef ef ?_;refine(S.buildSlice (pvs:=[(_,_)]) [_] Tryz.underlying99 Tryz.Qx6.h rfl rfl ⟨⟨rfl,rfl⟩,trivial⟩ rfl rfl ?_);intro W;refine Zk [] ?_;refine Z1 (i:=9) ef ef ?_;refine(S.Z6 (s:=o) (1) (wps ps [x.id]) Tryz.underlying99 Tryz.Qx6.h rfl rfl rfl (Yb (b:=W) rfl (by unfold maxLen;omega)) (by first|rfl|exact Qw _) (⟨Qb,Qb⟩) rfl ?_);intro o2 a6;refine ZL ([]) [10] (Zy ?_);refine ZD (Zy ?_);rw[show wps ps r++wps ps [x.id]=wps ps (r++[x.id]) from Vc.symm];refine S.Yk b st ps t jb w ov A C mv sb l B (Zv (Za ef ef) (ZY 2 ?_));exact ZX (d-1) (⟨e+1,r++[x.id],o2,Qb,Qb,by rw[X2,O,j];rfl,Qb,rfl,rfl⟩) Qb
  ·rw[show (Wf st).take e=Wf st by rw[show e=(Wf st).length by omega,Wh]]at j;refine ZY 7 ?_;subst j;exact Zf ef Zq (⟨o,rfl,Qb,rfl⟩)
section
variable {P:Program}{n:Nat}{ρ:Env}{Γ Δ:List Assn}{ty:TypeId}{pos:String}{af:Array Edge}{gd:Option (Nat×Bool)}{ds:Option Tmp}
theorem Q39(b:Nat)(st:Br)(ps:Nat→Nat){x:Bj}(j:Qk st.js x.id=some x)[p:Pick (BP b st ps) Γ Δ]{t o:Nat}{y:Operand}{v:Value}(m:Fy P t=true)(h:ev ρ y=some (.pointer (some ⟨ps x.id,o,none⟩)))(k:∀f lb e rb sb,lg (bjC x f lb e rb sb) o=some v) :
  Qv P n ρ Γ ⟨ds,.load t y,ty,pos,af,gd⟩ v:=fun a w d c=>
 (S.Uu (n:=n) (w0:=(⟨w⟩:WM false)) (φ:=fun a w=>(execOp a.eval ⟨ds,.load t y,ty,pos,af,gd⟩).run P w=.ok (.value v) w) b st ps x j fun q jb r ov s u mv sb l i f lb e rb g _ _ _ _ _=>
  fun a w d c _=>Gl m h (by simpa using k f lb e rb g) a w d c) a w d c (Ext.refl _)
end
abbrev C6(x:Bj)(ns:List Nat):Bj:={x with at_:=ns,Xt:=some [],state:=1}
theorem JOk.C6{N:Nat}{x:Bj}(h:JOk N x){ns:List Nat}(f:ns.Pairwise (· < ·))(e:∀i∈ns,i<N)(b:x.Xg=none):JOk N (C6 x ns):=⟨h.P3,h.Rx,h.tier,h.k1,h.kn,h.w,h.cr,h.wk,f,e,h.drop,fun d c=>(by cases c;exact Fo),h.X4,fun _=>rfl,fun s a=>by
 have a:x.Xg=some s:=a;rw[b]at a;cases a⟩
theorem Qxb(m:Mx)(j:Nat)(z:Int)(l:List Int):(Uc m j z l).2.N=m.N∧(Uc m j z l).2.R=m.R∧(Uc m j z l).2.up=m.up:=by
 unfold Uc
 split
 ·exact⟨rfl,rfl,rfl⟩
 split
 ·exact⟨rfl,rfl,rfl⟩
 split <;> exact⟨rfl,rfl,rfl⟩
theorem Ap{m:Mx}{j:Nat}{z:Int}{l:List Int}(h:(Uc m j z l).1=0):Hr m l l.length=true∧0<l.length∧look m.js j=none∧(Uc m j z l).2=m.add ⟨j,z.toNat,ofL (nats l)⟩:=by
 unfold Uc at h ⊢
 split at h
 ·cases h
 rename_i a;have a:(Vv m j z l&&Hr m l l.length)=true:=by simpa using a
 split at h
 ·cases h
 rename_i b
 split at h
 ·cases h
 rename_i d;rw[Qe (by rw[a];decide),Qe b,Qe d];rw[Z5,Vv,Z5,Z5,Zz,Zz]at a;exact⟨a.2,Qb,by cases c:look m.js j with|none=>rfl|some x=>rw[c]at b;simp at b,rfl⟩
theorem Yu.Qxs{st:Br}(h:Yu st){m:Mx}(b:W6 m)(d:m.N=st.m.N)(c:m.R=st.m.R):Yu {st with m:=m}:=⟨c.trans h.R,d.trans h.N,b,h.Y4,fun x a=>h.Qu x a,h.Dk,h.q1,h.q2,h.g1,h.g2,h.now,h.fin,h.mem,h.C4⟩
theorem H6{st:Br}{x:Bj}{s:PL.St}(h:(Uc st.m x.id s.row s.nodes).1≠0):Jh st x s={st with m:=(Uc st.m x.id s.row s.nodes).2}:=by rw[Jh,Qh h]
theorem Jg{st:Br}{x:Bj}{s:PL.St}(h:¬(Uc st.m x.id s.row s.nodes).1≠0):Jh st x s=Br.set {st with m:=(Uc st.m x.id s.row s.nodes).2,Qd:=st.Qd++Vk x (nats s.nodes)} (C6 x (nats s.nodes)):=by rw[Jh,Qe h]
theorem Qql{st:Br}(h:Yu st){x:Bj}{s:PL.St}(c:JOk st.nodes x)(g:x.Xg=none):Yu (Jh st x s):=by
 have d:=Qxa h.Fu c.Rx s.row s.nodes;obtain⟨n1,b,_⟩:=Qxb st.m x.id s.row s.nodes
 by_cases a:(Uc st.m x.id s.row s.nodes).1≠0
 ·rw[H6 a];exact h.Qxs d n1 b
 ·rw[Jg a];obtain⟨q1,q2,q3,k⟩:=Ap (W7 a);obtain⟨f,e⟩:=D0 q1;exact((h.Qxs d n1 b).oset _).set (x:=BN.C6 x (nats s.nodes)) (c.C6 f (fun i j=>by rw[←h.N];exact e i j) g)
theorem Lw(st:Br){x:Bj}(s:PL.St){id:Nat}(h:id≠x.id):Qk (Jh st x s).js id=Qk st.js id:=by
 by_cases a:(Uc st.m x.id s.row s.nodes).1≠0
 ·rw[H6 a]
 ·rw[Jg a];exact Dn {st with m:=(Uc st.m x.id s.row s.nodes).2,Qd:=st.Qd++Vk x (nats s.nodes)} (x:=C6 x (nats s.nodes)) h
theorem Qqm(x:Bj)(ns:List Nat):(Vk x ns).length=ns.length:=by simp[Vk]
theorem An{l:List Nat}(h:l.Pairwise (· < ·)){N:Nat}(a:∀i∈l,i<N):l.length≤N:=Qhd (h.imp fun h e=>Qb) a
theorem Q5n{st:Br}(h:Yu st)(x:Bj)(s:PL.St):(Jh st x s).Qd.length≤st.Qd.length+16:=by
 by_cases a:(Uc st.m x.id s.row s.nodes).1≠0
 ·rw[H6 a];exact U6 ..
 ·rw[Jg a];obtain⟨q1,q2,q3,d⟩:=Ap (W7 a);obtain⟨c,b⟩:=D0 q1;have:=An c b;have:=h.Fu.Ra;show (st.Qd++Vk x (nats s.nodes)).length≤_;rw[Yd,Qqm];omega
theorem Q0k{m:Mx}{l:List Int}(h:Hr m l l.length=true):ints l=nds (nats l):=by
 show l.map (Value.int .i64)=(l.map Int.toNat).map nv;rw[Kk];refine De fun z b=>?_;obtain⟨i,a,e⟩:=Pq b;have c:=Ue.1 (P0 h (i:=i) a).1;simp only[List.getD,Ju a,Tf,e]at c;show Value.int .i64 z=Value.int .i64 ((z.toNat:Nat):Int)
 congr 1
 omega
theorem Qnj(x:Bj){ns:List Nat}{e y:Nat}(h:ns[e]?=some y):Vk x (ns.take (e+1))=Vk x (ns.take e)++[(y,{kind:=3,Qu:=x.id,ver:=x.ver,Yl:=e,Qg:=x.Qg})]:=by
 have a:e<ns.length:=(Yz.1 h).1;rw[X2,h];unfold Vk;rw[List.mapIdx_append,V9,Ny Qb];simp
set_option maxHeartbeats 1000000 in
theorem Zhz(b:Nat)(st:Br)(ps:Nat→Nat)(x:Bj)(s:PL.St)(sv:SV)(R:Assn)(I:Qk st.js x.id=some x)(hs:x.Xg=none)(X:sv.n=s.nodes.length)(K:s.nodes.length≤1000)(V:RdS R sv sv.n 1 (ints s.nodes))(hl:st.Qd.length≤900000) :
  Spec Tryz.prog 79 [pt b,pt (ps x.id),.agg (PL.stC sv s).toArray] [BP b st ps,R] fun Γ _ G=>G=BP b (Jh st x s) ps::R::Γ:=by
 refine Spec.J3 fun f=>?_;have F:=f.at_ I;have hN:=f.Ra;have P:=Qxa f.Fu F.Rx s.row s.nodes;obtain⟨n1,Y,_⟩:=Qxb st.m x.id s.row s.nodes;have t:=f.Qxs P n1 Y;refine Zbd Tryz.func79 rfl Tryz.ntmps79 fun w0 Γ=>Zsh ?_;refine S.Uu b st ps x I fun o jb k ov p q mv sb l i O lb n rb j g C Yr a1 D=>(ZY 2 (Zp (S.box (cs:=[_,_,_,_]) rfl rfl rfl ?_)));intro b5;refine ZY 3 ?_;refine Zd ([blk (ps x.id) 90 (bjC x O lb n rb j).toArray,blk b 84 (bC st o jb k ov p q mv sb).toArray,blk b5 146 (PL.stC sv s).toArray]) [] (Zra 0 13) (ZY 8 (ZY 5 ?_));refine Z1 (i:=13) ef ef ?_;refine  (Zcp Ze (Go.Proofs.YtdackcibfkkniaaGreatDoor.Q8v k st.m x.id s.row R sv s.nodes X V F.Rx) ?_);refine Zk [14] (Zy ?_);refine ZD ?_
 refine Zj ef (fun E=>?_) (fun E=>?_)
 ·have M:=H6 (st:=st) (x:=x) (s:=s) E;refine Zy (S.sub (jX (ps x.id) x O lb n rb j (bR b {st with m:=(Uc st.m x.id s.row s.nodes).2} ps o jb k ov p q mv sb l i (R::Γ))) ?_);refine S.Q0 b {st with m:=(Uc st.m x.id s.row s.nodes).2} ps o jb k ov p q mv sb l i x O lb n rb j C rfl (Yr x rfl) (BF.set (st:={st with m:=(Uc st.m x.id s.row s.nodes).2}) ⟨t,g.perm,g.on,g.im,g.dn,g.mn,g.sn⟩ F) D ?_;rw[Z4 (st:={st with m:=(Uc st.m x.id s.row s.nodes).2}) t I];exact Zf ef Zq (by rw[M])
 ·have M:=Jg (st:=st) (x:=x) (s:=s) E;obtain⟨q1,q2,q3,q4⟩:=Ap (W7 E);obtain⟨T,Q⟩:=D0 q1;have L:=Q0k q1;have a4:(nats s.nodes).length=s.nodes.length:=Qo ..;have a2:=An T Q;have a6:=f.Fu.Ra;obtain⟨d,h⟩:∃d:Bj,d=C6 x (nats s.nodes):=⟨_,rfl⟩;have Nv:JOk st.nodes d:=by rw[h];exact F.C6 T (fun i C=>by rw[←f.N];exact Q i C) hs
  have A:d.id=x.id:=by rw[h]
  refine ZY 8 ?_;refine Zp (Zc1 Ze (PL.Qy4 R sv s.nodes K (by rw[←X];exact V)) ?_);rintro v G ⟨u,rfl,rfl⟩;rw[L];refine S.Xn u fun J a0 Z=>?_;rw[Qo]at J;refine Zp (S.makeMap .i64 rfl ?_);intro a;refine ZY 8 (ZY 5 ?_);refine S.X7 (ps x.id) (bjC d u (some a) n rb j).toArray (by rw[h];rfl) (ZY 8 ?_);refine Zl (fun N w z=>∃(e:Nat) (os:List Od) (c:SV),N=(nats s.nodes).length-e∧e≤(nats s.nodes).length∧os=st.Qd++Vk x ((nats s.nodes).take e)∧c.n=os.length∧os.length=st.Qd.length+e∧w=[(0,pt b),(1,pt (ps x.id)),(40,u.v),(41,.int .i64 (u.n:Int)),(42,.int .i64 (e:Int))] ∧   z=blk (ps x.id) 90 (bjC d u (some a) n rb j).toArray::Qz a .i64 []::own u 3 1 (nds (nats s.nodes))::R::Vp n x.Ql::M6 rb x.X4::Jw j x.id x.Xg::blk b 84 (bC st o jb k c p q mv sb).toArray::Qz o .i64 (Vo st.up)::Qz jb .u32 l::jT ps st.js i::jD ps st.js i::MI k (Uc st.m x.id s.row s.nodes).2::own c 97 14 (os.flatMap odC)::imgs p st.Qf::own q 31 1 (Yp st.done)::own mv 31 1 (Yp st.members)::Vp sb st.stops::Γ) (m:=_) (⟨0,st.Qd,ov,rfl,Qb,by simp[Vk],g.on,rfl,rfl,rfl⟩) ?_;rintro N w z ⟨e,os,c,a5,he,r,W,a3,rfl,rfl⟩;refine ZY 5 ?_
  refine Zj ef (fun h2=>?_) (fun h2=>?_)
  ·refine S.Q7 u Qb fun ab ao B _ _ _=>?_;obtain⟨y,U⟩:=Xs (show e<(nats s.nodes).length by omega);have A5:os++[((y,{kind:=3,Qu:=x.id,ver:=x.ver,Yl:=e,Qg:=x.Qg}):Od)]=st.Qd++Vk x ((nats s.nodes).take (e+1)):=by rw[r,Qnj x U,Wb]
   have e1:d.id=x.id∧d.ver=x.ver∧d.Qg=x.Qg:=by rw[h];exact⟨rfl,rfl,rfl⟩
   refine ZY 6 (Zv (Zx (e) ef (B) ef Qb) ?_);refine Zv (Zo (u) (e) ef (B) (by rw[Q8,U];rfl)) ?_;refine ZY 3 ?_;refine Zd ([blk (ps x.id) 90 (bjC d u (some a) n rb j).toArray]) [] (Zra 0 19) (ZY 8 (ZY 4 ?_));refine Zw ef (Vu Tryz.it5.h (by rw[Tryz.underlying3];rfl) rfl (Zcn Qb Qb)) (ZY 5 ?_);refine Zw ef (Ye (pvs:=[(_,_),(_,_),(_,_),(_,_),(_,_)]) [_,_,_,_,_,_,_,_,_,_,_,_,_] Tryz.z72.h Tryz.p72.h ⟨⟨rfl,rfl⟩,⟨rfl,rfl⟩,⟨rfl,rfl⟩,⟨rfl,rfl⟩,⟨rfl,rfl⟩,trivial⟩ rfl) ?_;refine Z1 (i:=19) ef ef ?_;rw[e1.1,e1.2.1,e1.2.2];refine  (Zc1 Ze (Bp b st o jb k c p q mv sb y {kind:=3,Qu:=x.id,ver:=x.ver,Yl:=e,Qg:=x.Qg} os W Qb) ?_);rintro v G ⟨H,N6,rfl⟩;refine Zk [] ?_;refine ZD (Zy (Zv (Za ef ef) (ZY 2 ?_)));exact ZX (N-1) (⟨e+1,os++[((y,{kind:=3,Qu:=x.id,ver:=x.ver,Yl:=e,Qg:=x.Qg}):Od)],H,Qb,Qb,A5,N6,by rw[Yd,Y0];omega,rfl,rfl⟩) Qb
  ·rw[show (nats s.nodes).take e=nats s.nodes by rw[show e=(nats s.nodes).length by omega,Wh]]at r;refine Zy ?_;refine S.conv (Qz a .i64 []) (show Ent _ (Vp (some a) (some [])::_) from Ent.Qjn (s:=some []) rfl _) ?_;refine S.sub (jX (ps x.id) d u (some a) n rb j (bR b {st with m:=(Uc st.m x.id s.row s.nodes).2,Qd:=os} ps o jb k c p q mv sb l i (R::Γ))) (e:=by subst h;infer_instance) ?_;refine S.Q0 b {st with m:=(Uc st.m x.id s.row s.nodes).2,Qd:=os} ps o jb k c p q mv sb l i d u (some a) n rb j C A (Yr d A) (BF.set (st:={st with m:=(Uc st.m x.id s.row s.nodes).2,Qd:=os}) ⟨t.oset os,g.perm,W,g.im,g.dn,g.mn,g.sn⟩ Nv) ⟨by rw[h];show u.n=(nats s.nodes).length;omega,by rw[h];rfl,by rw[h];exact D.d,by rw[h];exact D.r,by rw[h];exact D.s⟩ ?_;exact Zfn ef Zq (by rw[M,←r,←h])
theorem S.Qxf{n:Nat}{j:Bool}{g:WM j}{c:Env}{f:List Assn}{b:Act→World→Prop}(s:SV){e:TypeId}{i:Nat}{xs:List Value}(a:List Value){d:List Assn}[h:Uo f s e i xs d](l:xs=a)(k:S n g c (own s e i a::d) b):S n g c f b:=S.Qs h.Qs (by subst l;exact k)
theorem Qgx{st:Br}{r n:Nat}(h:Ji st.m n=false):V5 st r n=1099511627776:=by simp only[V5];rw[Qe (by rw[h];simp)]
theorem Qtm{st:Br}{r n:Nat}(h:Ji st.m n=true)(a:Qk st.js (atR st.m r n)=none):V5 st r n=0:=by simp only[V5];rw[Qh h,a]
theorem Qtl{st:Br}{r n:Nat}{x:Bj}(h:Ji st.m n=true)(a:Qk st.js (atR st.m r n)=some x):V5 st r n=max 1 ((Lx st x:Nat):Int):=by simp only[V5];rw[Qh h,a]
abbrev Zk8(st:Br)(r:Nat):List Int:=(List.range st.nodes).map fun n:Nat=>V5 st r n
abbrev Zhj(st:Br)(r n:Nat):List Int:=(List.range n).map fun n:Nat=>V5 st r n
theorem Qgw(st:Br):Bn st=(List.range st.rows).map (Zk8 st):=rfl
def Rz(st:Br)(r n:Nat)(rs:List PL.RW):Prop:=rs.length=st.rows∧∀(i:Nat) (w:PL.RW),rs[i]?=some w→w.d=if i<r then Zk8 st i else if i=r then Zhj st r n else []
theorem Rz.all{st:Br}{rs:List PL.RW}(h:Rz st st.rows 0 rs):PL.dat rs=Bn st:=by
 refine E1 fun i=>?_;rw[Qgw,Q8,Q8]
 by_cases a:i<st.rows
 ·rw[List.getElem?_range a];obtain⟨w,b⟩:=Xs (show i<rs.length by rw[h.1];exact a);rw[b,U3,U3,h.2 i w b,Qh a]
 ·rw[Pf (by rw[h.1];omega),Pf (by rw[Ft];omega)];rfl
theorem Rz.row{st:Br}{r:Nat}{rs:List PL.RW}(h:Rz st r st.nodes rs):Rz st (r+1) 0 rs:=⟨h.1,fun i w d=>by
 rw[h.2 i w d]
 by_cases c:i<r
 ·rw[Qh c,Qh Qb]
 ·rw[Qe c]
  by_cases b:i=r
  ·subst b;rw[Qh rfl,Qh Qb]
  ·rw[Qe b,Qe Qb]
   by_cases a:i=r+1
   ·rw[Qh a];rfl
   ·rw[Qe a]⟩
theorem Rz.cell{st:Br}{r n:Nat}{rs:List PL.RW}(h:Rz st r n rs){w:PL.RW}(c:rs[r]?=some w)(v:SV):Rz st r (n+1) (rs.set r ⟨v,w.d++[V5 st r n]⟩):=⟨by rw[Xf];exact h.1,fun i u a=>by
 rw[Fq]at a
 by_cases e:r=i
 ·subst e;rw[Qh rfl,Qh (Yz.1 c).1,Km]at a;rw[←a,Qe (Qi1 _),Qh rfl];show w.d++[V5 st r n]=_;rw[h.2 r w c,Qe (Qi1 _),Qh rfl,Zhj,Zhj,Qol,Vc];rfl
 ·rw[Qe e]at a;rw[h.2 i u a]
  by_cases b:i<r
  ·rw[Qh b,Qh b]
  ·rw[Qe b,Qe b,Qe Qb,Qe Qb]⟩
theorem Qst(m:Nat):X8 [.slice none 0 0] m=(List.replicate m (⟨SV.nil,[]⟩:PL.RW)).flatMap PL.rwC:=by
 induction m with
 | zero=>rfl
 | succ m a=>rw[Qdh,G2,←a];rfl
theorem Q8l(m:Nat)(a:List Assn):Ent a (alls (List.replicate m (⟨SV.nil,[]⟩:PL.RW)) PL.rwB::a):=by
 induction m with
 | zero=>exact Ent.Fk _ _
 | succ m b=>
  rw[Qdh];exact(b.trans (show Ent _ (PL.rwB (⟨SV.nil,[]⟩:PL.RW)::_) from Ent.Xb 3 1)).trans (Ent.Cu PL.rwB _ _ _)
theorem Qmm(rs:List PL.RW)(i:Nat)(w:PL.RW):(rs.flatMap PL.rwC).set (i*1) w.v.v=(rs.set i w).flatMap PL.rwC:=by
 have e:∀l:List PL.RW,l.flatMap PL.rwC=l.map fun r=>r.v.v:=fun l=>by
  induction l with
  | nil=>rfl
  | cons x l a=>rw[G2,a];rfl
 rw[e,e,Qdd,Kz]
theorem Qmn{rs:List PL.RW}{i:Nat}{w:PL.RW}(h:rs[i]?=some w):(rs.flatMap PL.rwC)[i]?=some w.v.v:=by
 have e:∀l:List PL.RW,l.flatMap PL.rwC=l.map fun r=>r.v.v:=fun l=>by
  induction l with
  | nil=>rfl
  | cons x l a=>rw[G2,a];rfl
 rw[e,Q8,h];rfl
set_option maxHeartbeats 2000000 in
theorem Qz6(b:Nat)(st:Br)(ps:Nat→Nat):Spec Tryz.prog 78 [pt b] [BP b st ps] fun U v Θ=>∃(s:SV) (rs:List PL.RW),v=s.v∧PL.dat rs=Bn st∧Θ=PL.prof s rs::BP b st ps::U:=by
 refine Spec.J3 fun q=>?_;have hN:=q.Ra;have Z:st.rows≤8:=by have:=q.Fu.R8;rw[q.R]at this;exact this
 refine Zbd Tryz.func78 rfl Tryz.ntmps78 fun w0 U=>Zsh ?_;refine S.W5 b st ps fun z jb t ov A C mv sb l B=>(ZY 8 (ZY 3 (Zp (S.makeSlice (st.rows) (st.rows) Tryz.underlying143 Tryz.Ze9.h rfl rfl rfl rfl rfl Qb Qb rfl ?_))));intro o ho;refine ZY 5 (S.Yk b st ps z jb t ov A C mv sb l B ?_);rw[Qst];refine S.Qs (Q8l st.rows _) (ZY 5 ?_);refine Zl (fun fz u y=>∃(r:Nat) (rs:List PL.RW),fz=st.rows-r∧r≤st.rows∧Rz st r 0 rs∧u=[(0,pt b),(3,o.v),(15,.int .i64 (o.n:Int)),(16,.int .i64 (r:Int))]∧y=own o 66 1 (rs.flatMap PL.rwC)::alls rs PL.rwB::BP b st ps::U) (m:=_) (⟨0,List.replicate st.rows ⟨SV.nil,[]⟩,rfl,Qb,⟨Pj ..,fun i w d=>by obtain⟨_,e⟩:=Yz.1 d;rw[List.getElem_replicate]at e;rw[←e];split;(rename_i h;exact absurd h (Qo0 _));split <;> rfl⟩,rfl,rfl⟩) ?_;rintro fz u y ⟨r,rs,a0,hr,g,rfl,rfl⟩;refine ZY 5 ?_
 refine Zj ef (fun h1=>?_) (fun h1=>?_)
 ·refine S.W5 b st ps fun z jb t ov A C mv sb l B=>(ZY 8 (ZY 7 (S.Yk b st ps z jb t ov A C mv sb l B (ZY 3 ?_))));refine Zl (fun fy u y=>∃(n:Nat) (rs:List PL.RW),fy=st.nodes-n∧n≤st.nodes∧Rz st r n rs∧u=[(0,pt b),(3,o.v),(4,.int .i64 (r:Int)),(15,.int .i64 (o.n:Int)),(16,.int .i64 (r:Int)),(23,.int .i64 (st.nodes:Int)),(24,.int .i64 (n:Int))]∧y=own o 66 1 (rs.flatMap PL.rwC)::alls rs PL.rwB::BP b st ps::U) (m:=_) (⟨0,rs,rfl,Qb,g,rfl,rfl⟩) ?_;rintro fy u y ⟨n,rs,a1,hn,g,rfl,rfl⟩;refine ZY 5 ?_
  refine Zj ef (fun h2=>?_) (fun h2=>?_)
  ·refine S.Q7 o Qb fun ib io a _ _ _=>?_;obtain⟨w,d⟩:=Xs (show r<rs.length by rw[g.1];omega);have W:=g.cell d;refine S.W5 b st ps fun z jb t ov A C mv sb l B=>(ZY 8 (ZY 6 ?_))
   rcases I:Qk st.js (atR st.m r n) with _|x
   ·have Fv:Yh ((atR st.m r n:Nat):Int) l=none:=by rw[Un q.Y4 B.perm,I];rfl
    refine Zd ([blk b 84 (bC st z jb t ov A C mv sb).toArray,Qz jb .u32 l]) [] (Zra 0 10) (ZY 8 (ZY 2 ?_));refine Z1 (i:=10) ef ef ?_;refine  (Zcp Ze (Go.Proofs.YtdackcibfkkniaaGreatDoor.Znw t st.m r n) ?_);refine Zk [11,12] ?_;refine Zw ef (Qx (.pointer none) Tryz.underlying82 Tryz.underlying31 Tryz.Jv.h rfl rfl rfl (by rw[Fv];rfl)) (Zy ?_);refine ZD (ZY 5 (ZF ef (ZY 8 (Zy (Zp (Zcp Ze (Go.Proofs.YtdackcibfkkniaaGreatDoor.Qoe t st.m n) (ZY 2 ?_)))))))
    refine Zi ef (fun H=>?_) (fun H=>?_)
    ·have k:V5 st r n=1099511627776:=Qgx (by simpa using H);refine ZY 3 (S.conv (alls rs PL.rwB) (Ent.U5 PL.rwB d _) ?_);refine S.Xn w.v fun j F E=>?_;rw[Qo,g.2 r w d,Qe (Qi1 _),Qh rfl,Qo,Ft]at j;refine ZY 5 (Zv (Zx (r) ef (a) ef Qb) (Zv (Zo (o) (r) ef (a) (Qmn d)) (Zy ?_)));refine Zp (S.buildSlice (pvs:=[(_,_)]) [_] Tryz.underlying66 Tryz.N3.h rfl rfl ⟨⟨rfl,rfl⟩,trivial⟩ rfl rfl ?_);intro p;refine Zp (S.Z6 (s:=w.v) (1) (_) Tryz.underlying66 Tryz.N3.h rfl rfl rfl (Yb (b:=p) rfl (by unfold maxLen;omega)) (by first|rfl|exact Qw _) (⟨Qb,Qb⟩) rfl ?_);intro c G;refine S.Qxf c (ints (w.d++[V5 st r n])) (by rw[k];exact(Vc (f:=Value.int .i64) (l₁:=w.d) (l₂:=[_])).symm) (Zv (Zx (r) ef (a) ef Qb) ?_);refine Zp (S.Xa (o) (r*1) Eo.h rfl rfl rfl a (by first|rfl|exact Xr _ _ _|omega) (by rw[Y1 PL.Gg,g.1];omega) (Qmm rs r ⟨c,w.d++[V5 st r n]⟩) (ZY 2 ?_));refine S.X0 (own c 3 1 (ints (w.d++[V5 st r n]))) (alls (rs.take r) PL.rwB) (alls (rs.drop (r+1)) PL.rwB) (Ent.Xo PL.rwB (x':=⟨c,w.d++[V5 st r n]⟩) d _) (S.Yk b st ps z jb t ov A C mv sb l B (Zv (Za ef ef) (ZY 2 ?_)));exact ZX (fy-1) (⟨n+1,rs.set r ⟨c,w.d++[V5 st r n]⟩,Qb,Qb,W c,rfl,rfl⟩) Qb
    ·have k:V5 st r n=0:=Qtm (by simpa using H) I;refine Zy (S.conv (alls rs PL.rwB) (Ent.U5 PL.rwB d _) ?_);refine S.Xn w.v fun j F E=>?_;rw[Qo,g.2 r w d,Qe (Qi1 _),Qh rfl,Qo,Ft]at j;refine ZY 5 (Zv (Zx (r) ef (a) ef Qb) (Zv (Zo (o) (r) ef (a) (Qmn d)) (Zy ?_)));refine Zp (S.buildSlice (pvs:=[(_,_)]) [_] Tryz.underlying66 Tryz.N3.h rfl rfl ⟨⟨rfl,rfl⟩,trivial⟩ rfl rfl ?_);intro p;refine Zp (S.Z6 (s:=w.v) (1) (_) Tryz.underlying66 Tryz.N3.h rfl rfl rfl (Yb (b:=p) rfl (by unfold maxLen;omega)) (by first|rfl|exact Qw _) (⟨Qb,Qb⟩) rfl ?_);intro c G;refine S.Qxf c (ints (w.d++[V5 st r n])) (by rw[k];exact(Vc (f:=Value.int .i64) (l₁:=w.d) (l₂:=[_])).symm) (Zv (Zx (r) ef (a) ef Qb) ?_);refine Zp (S.Xa (o) (r*1) Eo.h rfl rfl rfl a (by first|rfl|exact Xr _ _ _|omega) (by rw[Y1 PL.Gg,g.1];omega) (Qmm rs r ⟨c,w.d++[V5 st r n]⟩) (ZY 2 ?_));refine S.X0 (own c 3 1 (ints (w.d++[V5 st r n]))) (alls (rs.take r) PL.rwB) (alls (rs.drop (r+1)) PL.rwB) (Ent.Xo PL.rwB (x':=⟨c,w.d++[V5 st r n]⟩) d _) (S.Yk b st ps z jb t ov A C mv sb l B (Zv (Za ef ef) (ZY 2 ?_)));exact ZX (fy-1) (⟨n+1,rs.set r ⟨c,w.d++[V5 st r n]⟩,Qb,Qb,W c,rfl,rfl⟩) Qb
   ·obtain⟨_,G4⟩:=Qi I;have hx:Qk st.js x.id=some x:=by rw[G4];exact I
    have Fv:Yh ((atR st.m r n:Nat):Int) l=some (pt (ps x.id)):=by rw[Un q.Y4 B.perm,I];rfl
    have Q:Lx st x≤80000:=by
     have h1:=(q.at_ hx).w;exact Qvs (show x.w-x.Qg≤10000 by omega) Z
    refine Zd ([blk b 84 (bC st z jb t ov A C mv sb).toArray,Qz jb .u32 l]) [] (Zra 0 10) (ZY 8 (ZY 2 ?_));refine Z1 (i:=10) ef ef ?_;refine  (Zcp Ze (Go.Proofs.YtdackcibfkkniaaGreatDoor.Znw t st.m r n) ?_);refine Zk [11,12] ?_;refine Zw ef (Qx (pt (ps x.id)) Tryz.underlying82 Tryz.underlying31 Tryz.Jv.h rfl rfl rfl (by rw[Fv];rfl)) (Zy ?_);refine ZD (ZY 5 (ZT ef (ZY 3 (S.Yk b st ps z jb t ov A C mv sb l B (Zp (Zcp Ze (Qqo b st ps x hx) ?_))))));obtain⟨X,P⟩:∃X,X=Lx st x:=⟨_,rfl⟩;rw[←P]at Q ⊢;obtain⟨V,Y⟩:∃V:Int,V=max 1 ((X:Nat):Int):=⟨_,rfl⟩;refine Zv (Qd0 (V) rfl rfl Qb) (ZY 5 ?_);refine S.W5 b st ps fun J N D L O T M K l2 R=>(ZY 5 (Zp (Zcp Ze (Go.Proofs.YtdackcibfkkniaaGreatDoor.Qoe D st.m n) (ZY 2 ?_))))
    refine Zi ef (fun H=>?_) (fun H=>?_)
    ·have k:V5 st r n=1099511627776:=Qgx (by simpa using H);refine ZY 3 (S.conv (alls rs PL.rwB) (Ent.U5 PL.rwB d _) ?_);refine S.Xn w.v fun j F E=>?_;rw[Qo,g.2 r w d,Qe (Qi1 _),Qh rfl,Qo,Ft]at j;refine ZY 5 (Zv (Zx (r) ef (a) ef Qb) (Zv (Zo (o) (r) ef (a) (Qmn d)) (Zy ?_)));refine Zp (S.buildSlice (pvs:=[(_,_)]) [_] Tryz.underlying66 Tryz.N3.h rfl rfl ⟨⟨rfl,rfl⟩,trivial⟩ rfl rfl ?_);intro p;refine Zp (S.Z6 (s:=w.v) (1) (_) Tryz.underlying66 Tryz.N3.h rfl rfl rfl (Yb (b:=p) rfl (by unfold maxLen;omega)) (by first|rfl|exact Qw _) (⟨Qb,Qb⟩) rfl ?_);intro c G;refine S.Qxf c (ints (w.d++[V5 st r n])) (by rw[k];exact(Vc (f:=Value.int .i64) (l₁:=w.d) (l₂:=[_])).symm) (Zv (Zx (r) ef (a) ef Qb) ?_);refine Zp (S.Xa (o) (r*1) Eo.h rfl rfl rfl a (by first|rfl|exact Xr _ _ _|omega) (by rw[Y1 PL.Gg,g.1];omega) (Qmm rs r ⟨c,w.d++[V5 st r n]⟩) (ZY 2 ?_));refine S.X0 (own c 3 1 (ints (w.d++[V5 st r n]))) (alls (rs.take r) PL.rwB) (alls (rs.drop (r+1)) PL.rwB) (Ent.Xo PL.rwB (x':=⟨c,w.d++[V5 st r n]⟩) d _) (S.Yk b st ps J N D L O T M K l2 R (Zv (Za ef ef) (ZY 2 ?_)));exact ZX (fy-1) (⟨n+1,rs.set r ⟨c,w.d++[V5 st r n]⟩,Qb,Qb,W c,rfl,rfl⟩) Qb
    ·have k:V5 st r n=V:=by rw[Y,P];exact Qtl (by simpa using H) I
     refine Zy (S.conv (alls rs PL.rwB) (Ent.U5 PL.rwB d _) ?_);refine S.Xn w.v fun j F E=>?_;rw[Qo,g.2 r w d,Qe (Qi1 _),Qh rfl,Qo,Ft]at j;refine ZY 5 (Zv (Zx (r) ef (a) ef Qb) (Zv (Zo (o) (r) ef (a) (Qmn d)) (Zy ?_)));refine Zp (S.buildSlice (pvs:=[(_,_)]) [_] Tryz.underlying66 Tryz.N3.h rfl rfl ⟨⟨rfl,rfl⟩,trivial⟩ rfl rfl ?_);intro p;refine Zp (S.Z6 (s:=w.v) (1) (_) Tryz.underlying66 Tryz.N3.h rfl rfl rfl (Yb (b:=p) rfl (by unfold maxLen;omega)) (by first|rfl|exact Qw _) (⟨Qb,Qb⟩) rfl ?_);intro c G;refine S.Qxf c (ints (w.d++[V5 st r n])) (by rw[k];exact(Vc (f:=Value.int .i64) (l₁:=w.d) (l₂:=[_])).symm) (Zv (Zx (r) ef (a) ef Qb) ?_);refine Zp (S.Xa (o) (r*1) Eo.h rfl rfl rfl a (by first|rfl|exact Xr _ _ _|omega) (by rw[Y1 PL.Gg,g.1];omega) (Qmm rs r ⟨c,w.d++[V5 st r n]⟩) (ZY 2 ?_));refine S.X0 (own c 3 1 (ints (w.d++[V5 st r n]))) (alls (rs.take r) PL.rwB) (alls (rs.drop (r+1)) PL.rwB) (Ent.Xo PL.rwB (x':=⟨c,w.d++[V5 st r n]⟩) d _) (S.Yk b st ps J N D L O T M K l2 R (Zv (Za ef ef) (ZY 2 ?_)));exact ZX (fy-1) (⟨n+1,rs.set r ⟨c,w.d++[V5 st r n]⟩,Qb,Qb,W c,rfl,rfl⟩) Qb
  ·rw[show n=st.nodes by omega]at g;refine ZY 2 (Zv (Za ef ef) (ZY 2 ?_));exact ZX (fz-1) (⟨r+1,rs,Qb,Qb,g.row,rfl,rfl⟩) Qb
 ·rw[show r=st.rows by omega]at g;refine ZY 7 (S.U2 (own o 66 1 (rs.flatMap PL.rwC)) (alls rs PL.rwB) (PL.Ent.prof o rs _) ?_);exact Zf ef Zq (⟨o,rs,rfl,g.all,rfl⟩)
def akO(st:Br)(id:Nat):PL.Ak:=match Qk st.js id with
 | none=>⟨0,0⟩
 | some x=>⟨x.k,Lx st x⟩
theorem Cs(st:Br):Bz st=(Wf st).map (akO st):=rfl
theorem Pd{st:Br}{id:Nat}{x:Bj}(h:Qk st.js id=some x):akO st id=⟨x.k,(Lx st x:Nat)⟩:=by rw[akO,h]
def Ud(b:Br)(p:Nat×PL.St):Br:=if p.2.ok=true∧p.2.at_=0 then match Qk b.js p.1 with|none=>b|some x=>Jh b x p.2 else b
theorem X9:∀(l:List (Nat×PL.St)) (b:Br),Xp b l=l.foldl Ud b
 | [],_=>rfl
 | (id,s)::l,b=>by rw[Xp,X9 l];rfl
theorem Qac(b:Br)(l:List (Nat×PL.St))(p:Nat×PL.St):Xp b (l++[p])=Ud (Xp b l) p:=by rw[X9,X9,Ha];rfl
theorem Py{b:Br}{p:Nat×PL.St}(h:¬(p.2.ok=true∧p.2.at_=0)):Ud b p=b:=Qe h
theorem Si{b:Br}{p:Nat×PL.St}{x:Bj}(h:p.2.ok=true∧p.2.at_=0)(a:Qk b.js p.1=some x):Ud b p=Jh b x p.2:=by rw[Ud,Qh h,a]
def Ba(st:Br):Prop:=∀x∈st.js,x.state=0→x.Xg=none
structure Qr9(st:Br)(zs:List (Nat×PL.St))(e:Nat)(t:Br):Prop where
 ok:Yu t
 ord:t.Qd.length≤st.Qd.length+16*e
 here:∀i p,e≤i→zs[i]?=some p→Qk t.js p.1=Qk st.js p.1
theorem Qr9.step{st:Br}{b:List (Nat×PL.St)}(k:(b.map (·.1)).Nodup)(l:∀p∈b,∀x,Qk st.js p.1=some x→x.Xg=none){e:Nat}{t:Br}(h:Qr9 st b e t){p:Nat×PL.St}(f:b[e]?=some p):Qr9 st b (e+1) (Ud t p):=by
 by_cases d:p.2.ok=true∧p.2.at_=0
 ·cases c:Qk t.js p.1 with
  | none=>
   have:Ud t p=t:=by rw[Ud,Qh d,c]
   rw[this];exact⟨h.ok,by have:=h.ord;omega,fun i q g a=>h.here i q Qb a⟩
  | some x=>
   rw[Si d c];have j:=(Qi c).2;have u:Qk t.js x.id=some x:=by rw[j];exact c
   have m:x.Xg=none:=l p (Yn f) x (by rw[←h.here e p (Q1 _) f];exact c);refine⟨Qql h.ok (h.ok.at_ u) m,by have:=h.ord;have:=Q5n h.ok x p.2;omega,fun i q g a=>?_⟩
   rw[Lw t p.2 ?_]
   ·exact h.here i q Qb a
   ·rw[j];intro e9;obtain⟨s,r⟩:=Yz.1 f;obtain⟨o,n⟩:=Yz.1 a;have:=Jy.1 (Pk.1 k) e i (by simpa using s) (by simpa using o) Qb;simp only[List.getElem_map,r,n]at this;exact this e9.symm
 ·rw[Py d];exact⟨h.ok,by have:=h.ord;omega,fun i q g a=>h.here i q Qb a⟩
abbrev zsR(st:Br):List (Nat×PL.St):=(Wf st).zip (PL.Ch (Bn st) (Bz st))
theorem Eh{st:Br}:(zsR st).map (·.1)=Wf st:=by
 rw[List.map_fst_zip];rw[PL.Dt,Cs,Qo];exact Q1 _
theorem Qkm{st:Br}(h:Yu st)(i:Ba st):∀e,e≤(zsR st).length→Qr9 st (zsR st) e (Xp st ((zsR st).take e)):=by
 intro e;induction e with
 | zero=>exact fun _=>⟨h,Q1 _,fun _ _ _ _=>rfl⟩
 | succ e g=>
  intro l;obtain⟨p,f⟩:=Xs (show e<(zsR st).length by omega);have k:(zsR st).take (e+1)=(zsR st).take e++[p]:=by rw[X2,f];rfl
  rw[k,Qac];refine(g Qb).step (by rw[Eh];exact El h.Y4) (fun q j x d=>?_) f;have c:q.1∈Wf st:=by rw[←Eh];exact Qq.2 ⟨q,j,rfl⟩
  obtain⟨y,b,a⟩:=Gy h.Y4 c;rw[d]at b;cases b;simp only[quB,Z5,Zz]at a;exact i x (Qi d).1 a.1
theorem Gx(st:Br):Q9 st=Xp st (zsR st):=rfl
theorem Qd3{st:Br}(h:Yu st)(a:Ba st):Yu (Q9 st)∧(Q9 st).Qd.length≤st.Qd.length+16*st.js.length:=by
 have:=Qkm h a _ (Q1 _);rw[Wh]at this;refine⟨this.ok,Up this.ord ?_⟩;have c:=Aj h.Y4;have b:(zsR st).length≤(Wf st).length:=by rw[List.length_zip];exact Nat.min_le_left _ _
 omega
theorem Quz(row:List Int)(k:Nat):(PL.chosen row k).length≤row.length:=by
 unfold PL.chosen;rw[(PL.Dy _).length_eq,Qo,V9,PL.F0];exact Qi5 _ _
theorem Q1k{D:List (List Int)}{n:Nat}(h:∀r∈D,r.length≤n)(k:Int):(PL.V1 D k).nodes.length≤n:=by
 unfold PL.V1
 split
 ·exact Xq _
 split
 ·exact Xq _
 ·rename_i v i _;refine Up (Quz _ _) ?_;cases a:D[i]? with
  | none=>exact Xq _
  | some r=>exact h r (Yn a)
theorem Qp9{n:Nat}:∀(l:List PL.Ak) {D:List (List Int)},(∀r∈D,r.length≤n)→∀s∈PL.Ch D l,s.nodes.length≤n
 | [],_,_,s,b=>by cases b
 | a::l,D,h,s,b=>by
  rcases Yf.1 b with rfl|b
  ·exact Q1k h _
  ·refine Qp9 l (fun r d=>?_) s b;have c:r.length∈(PL.Sg D (PL.V1 D a.k) a.len).map List.length:=Qq.2 ⟨r,d,rfl⟩;rw[PL.Qke]at c;obtain⟨q,f,e⟩:=Qq.1 c;rw[←e];exact h q f
theorem Qkj(st:Br):∀r∈Bn st,r.length≤st.nodes:=fun r a=>by
 obtain⟨i,_,rfl⟩:=Qq.1 (by rw[Qgw]at a;exact a);rw[Qo,Ft];exact Q1 _
theorem Q4i{st:Br}(c:st.nodes≤16)(b:st.rows≤8):PL.Sml (Bn st):=⟨by rw[Qgw,Qo,Ft];omega,fun r a=>by have:=Qkj st r a;omega⟩
set_option maxHeartbeats 2000000 in
theorem Zbp(b:Nat)(st:Br)(ps:Nat→Nat)(hw:Ba st)(hl:st.Qd.length≤800000):Spec Tryz.prog 43 [pt b] [BP b st ps] fun N _ C=>C=BP b (Q9 st) ps::N:=by
 refine Spec.J3 fun a=>?_;have hN:=a.Ra;have Sq:=a.Dk;have W:st.rows≤8:=by have:=a.Fu.R8;rw[a.R]at this;exact this
 have a2:=Aj a.Y4;refine Zbd Tryz.func43 rfl Tryz.ntmps43 fun w0 N=>Zsh (ZY 3 (Zp (Zc1 Ze (Qj5 b st ps) ?_)));rintro v C ⟨f,rfl,a1,rfl⟩;refine S.Xn f fun a5 a4 a3=>?_;have ab:maxLen≤9223372036854775807:=by unfold maxLen;omega
 refine ZY 8 (Zy ?_);refine S.Qs (show Ent _ (own SV.nil 139 2 (([]:List PL.Ak).flatMap PL.akC)::_) from Ent.Xb 139 2) (ZY 5 ?_);refine Zl (fun g j k=>∃(e:Nat) (K:List PL.Ak) (q:SV),g=(Wf st).length-e∧e≤(Wf st).length∧K=(Bz st).take e∧q.n=e∧j=[(0,pt b),(2,f.v),(3,q.v),(10,f.v),(11,.int .i64 (f.n:Int)),(12,.int .i64 (e:Int))]∧k=own f 86 1 (wps ps (Wf st))::own q 139 2 (K.flatMap PL.akC)::BP b st ps::N) (m:=_) (⟨0,[],SV.nil,rfl,Qb,rfl,rfl,rfl,rfl⟩) ?_;rintro g j k ⟨e,K,q,V,he,y,ad,rfl,rfl⟩;refine ZY 5 ?_
 refine Zj ef (fun h1=>?_) (fun h1=>?_)
 ·refine S.Q7 f Qb fun sb so L _ _ _=>?_;obtain⟨id,d⟩:=Xs (show e<(Wf st).length by omega);obtain⟨x,o,w⟩:=Gy a.Y4 (Yn d);obtain⟨_,G4⟩:=Qi o;subst G4;have Wg:=a.at_ o;have J:(Bz st)[e]?=some ⟨x.k,(Lx st x:Nat)⟩:=by rw[Cs,Q8,d];exact Z3 some (Pd o)
  obtain⟨D,U⟩:∃D,D=Lx st x:=⟨_,rfl⟩;have p:=Qqo b st ps x o;rw[←U]at p J;refine ZY 5 (Zv (Zx (e) ef (L) ef Qb) ?_);refine Zv (Zo (f) (e) ef (L) (by rw[Q8,d];rfl)) ?_;refine ZY 2 ?_;refine Zd ([BP b st ps]) [11] (Zra 0 8) (ZY 5 ?_);refine Zw ef (Q39 b st ps o Eo.h rfl (fun _ _ _ _ _=>rfl)) (ZY 2 ?_);refine Z1 (i:=8) ef ef ?_;refine  (Zcp Ze (p) ?_);refine Zk [9] ?_;refine Zw ef (Ye (pvs:=[(_,_),(_,_)]) [_,_] Tryz.z139.h Tryz.Zo9.h ⟨⟨rfl,rfl⟩,⟨rfl,rfl⟩,trivial⟩ rfl) ?_;refine Z1 (i:=10) ef ef ?_;refine(S.buildSlice (pvs:=[(_,_)]) [_,_] Tryz.underlying136 Tryz.Q56.h rfl rfl ⟨⟨rfl,rfl⟩,trivial⟩ rfl rfl ?_);intro Y;refine Zk [] ?_;refine Z1 (i:=11) ef ef ?_;refine(S.Z6 (s:=q) (1) (PL.akC ⟨x.k,(D:Nat)⟩) Tryz.underlying136 Tryz.Q56.h rfl rfl rfl (Yb (b:=Y) rfl (by unfold maxLen;omega)) (by first|rfl|exact Qw _) (⟨Qb,Qb⟩) rfl ?_);intro Z ae;refine ZL ([]) [12] (Zy ?_);refine ZD (Zy ?_);rw[Wv PL.akC K (⟨x.k,(D:Nat)⟩:PL.Ak)];refine Zv (Za ef ef) (ZY 2 ?_);exact ZX (g-1) (⟨e+1,K++[⟨x.k,(D:Nat)⟩],Z,Qb,Qb,by rw[X2,J,y];rfl,Qb,rfl,rfl⟩) Qb
 ·have l:(Bz st).length=(Wf st).length:=by rw[Cs,Qo]
  rw[show (Bz st).take e=Bz st by rw[show e=(Bz st).length by omega,Wh]]at y;subst y;refine ZY 4 (Zp (Zc1 Ze (Qz6 b st ps) ?_));rintro v C ⟨P,rs,rfl,F,rfl⟩;refine Zy ?_;refine Zp (Zc1 Ze (PL.Zjz (PL.prof P rs) (own q 139 2 ((Bz st).flatMap PL.akC)) P rs q (Bz st) (by rw[F];exact Q4i hN W) Qb (PL.RdP.prof P rs) (by rw[l,←show q.n=(Wf st).length by omega];exact RdS.own)) ?_);rintro v C ⟨u,os,rfl,n,rfl⟩;rw[F]at n;have H:=PL.Dt (Bz st) (Bn st);have T:os.length=(Wf st).length:=by rw[←l,←H,←n,Qo]
  refine S.Xn u fun Q a7 a6=>?_;rw[Y1 PL.Qws,T]at Q;have a0:(zsR st).length=(Wf st).length:=by rw[List.length_zip,H,l,Nat.min_self]
  refine ZY 4 ?_;refine Zl (fun g j k=>∃(e:Nat) (t:Br),g=(Wf st).length-e∧e≤(Wf st).length∧t=Xp st ((zsR st).take e)∧j=[(0,pt b),(2,f.v),(32,u.v),(33,.int .i64 (u.n:Int)),(34,.int .i64 (e:Int))]∧k=own u 146 4 (os.flatMap PL.srC)::alls os PL.srB::own f 86 1 (wps ps (Wf st))::BP b t ps::N) (m:=_) (⟨0,st,rfl,Qb,rfl,rfl,rfl⟩) ?_;rintro g j k ⟨e,t,V,he,O,rfl,rfl⟩;have hI:Qr9 st (zsR st) e t:=by rw[O];exact Qkm a hw e Qb
  refine ZY 5 ?_
  refine Zj ef (fun h2=>?_) (fun h2=>?_)
  ·refine S.Q7 u Qb fun sb so L _ _ _=>?_;refine S.Q7 f Qb fun wb wo E _ _ _=>?_;obtain⟨r,A⟩:=Xs (show e<os.length by omega);obtain⟨id,d⟩:=Xs (show e<(Wf st).length by omega);have R:(PL.Ch (Bn st) (Bz st))[e]?=some r.x:=by rw[←n,Q8,A];rfl
   have hz:(zsR st)[e]?=some (id,r.x):=by rw[Qok];exact⟨d,R⟩
   obtain⟨x,o,w⟩:=Gy a.Y4 (Yn d);obtain⟨_,G4⟩:=Qi o;subst G4;have I:Qk t.js x.id=some x:=by rw[hI.here e (x.id,r.x) (Q1 _) hz];exact o
   have N4:x.Xg=none:=by
    simp only[quB,Z5,Zz]at w;exact hw x (Qi o).1 w.1
   have B:Xp st ((zsR st).take (e+1))=Ud t (x.id,r.x):=by rw[X2,hz,O];exact Qac _ _ _
   have aa:r.x.nodes.length≤16:=Up (Qp9 (Bz st) (Qkj st) r.x (by rw[←n];exact Qq.2 ⟨r,Yn A,rfl⟩)) hN;have a8:=hI.ord;refine S.conv (alls os PL.srB) (Ent.U5 PL.srB A _) ?_;refine S.Xn r.v fun G P4 a9=>?_;rw[Qo,Kz]at G;refine S.X0 (PL.srB r) (alls (os.take e) PL.srB) (alls (os.drop (e+1)) PL.srB) (Ent.Xk PL.srB A _) (ZY 6 (Zv (Zx (e) ef (L) ef Qb) ?_));refine Zv (Ub (u) (e*4) [_,_,_,_] Eo.h rfl L (by first|rfl|exact Xr _ _ _|omega) rfl (Wr (enc:=PL.srC) (sz:=4) (fun _=>rfl) A)) (Zp (S.alloc Tryz.z146.h rfl ?_));intro b7;refine Zy (Zp (Zs ef ef (cs':=[_,_,_,_]) ef (ZY 6 ?_)))
   refine Zbb 41 ef (fun c=>?_) (fun c=>?_)
   ·refine ZY 5 ?_
    refine Zj ef (fun X=>?_) (fun X=>?_)
    ·have z:Ud t (x.id,r.x)=Jh t x r.x:=Si ⟨c,X⟩ I;refine Zd ([blk b7 146 (PL.srC r).toArray,own f 86 1 (wps ps (Wf st))]) [] (Zra 0 6) (ZY 3 ?_);refine Zw ef (Zx (e) ef (E) ef Qb) ?_;refine Zw ef (Zo (f) (e) ef (E) (by rw[Q8,d];rfl)) ?_;refine Zy ?_;refine Z1 (i:=6) ef ef ?_;refine  (Zc1 Ze (Zhz b t ps x r.x r.v (alls os PL.srB) I N4 G.symm Qb (RdS.alls A RdS.own) Qb) ?_);rintro v C rfl;refine Zk [] ?_;refine ZD (Zy (Zv (Za ef ef) (ZY 2 ?_)));first|exact ZX (g-1) ⟨e+1,t,Qb,Qb,by rw[B,M],rfl,rfl⟩ Qb|exact ZX (g-1) ⟨e+1,Jh t x r.x,Qb,Qb,by rw[B,z],rfl,rfl⟩ Qb
    ·have M:Ud t (x.id,r.x)=t:=by first|exact M|exact Py (fun h=>X h.2)
     refine ZY 2 (Zv (Za ef ef) (ZY 2 ?_));first|exact ZX (g-1) ⟨e+1,t,Qb,Qb,by rw[B,M],rfl,rfl⟩ Qb|exact ZX (g-1) ⟨e+1,Jh t x r.x,Qb,Qb,by rw[B,z],rfl,rfl⟩ Qb
   ·have M:Ud t (x.id,r.x)=t:=Py (by rw[c];simp);refine ZY 8 (Zv (Za ef ef) (ZY 2 ?_));first|exact ZX (g-1) ⟨e+1,t,Qb,Qb,by rw[B,M],rfl,rfl⟩ Qb|exact ZX (g-1) ⟨e+1,Jh t x r.x,Qb,Qb,by rw[B,z],rfl,rfl⟩ Qb
  ·rw[show (zsR st).take e=zsR st by rw[show e=(zsR st).length by omega,Wh]]at O;refine Zy ?_;exact Zfn ef Zq (by rw[Gx,←O])
theorem Qil{m:Mx}{tier k:Int}{l:List Cd}{x:Cd}(h:x∈(Pb m tier k l).1):x∈l:=by
 have key:∀i,x∈(Qc4 m tier k l i).1→x∈l:=by
  intro i;induction i with
  | zero=>exact fun h=>by cases h
  | succ i a=>
   intro h;rw[Qc4]at h
   split at h
   ·exact Qxk h
   ·exact a h
 exact key _ h
theorem Qa5(m:Mx)(tier k:Int)(l:List Cd):(Pb m tier k l).1.length≤l.length:=by
 have a:∀row,(ofV m row tier k l).1.length≤l.length:=fun row=>by
  unfold ofV
  split
  ·exact Xq _
  split
  ·exact Up (List.length_take_le' _ _) (Qhr m row tier l)
  ·exact Xq _
 have key:∀i,(Qc4 m tier k l i).1.length≤l.length:=by
  intro i;induction i with
  | zero=>exact Xq _
  | succ i b=>
   rw[Qc4]
   split
   ·exact a _
   ·exact b
 exact key _
structure Zen(f:Br→Bj→Br)(st:Br)(l:List Nat)(e:Nat)(t:Br):Prop where
 ok:Yu t
 ord:t.Qd.length≤st.Qd.length+16*e
 ids:t.js.map (·.id)=st.js.map (·.id)
theorem Nf{js a:List Bj}(h:a.map (·.id)=js.map (·.id))(id:Nat):(Qk a id).isSome=(Qk js id).isSome:=by
 have e:∀l:List Bj,(Qk l id).isSome=(l.map (·.id)).any fun i=>decide (i=id):=fun l=>by
  unfold Qk;rw[List.isSome_find?,List.any_map];rfl
 rw[e,e,h]
theorem linv{f:Br→Bj→Br}(g:Cw f)(d:∀st x,(f st x).js.map (·.id)=st.js.map (·.id)){st:Br}(h:Yu st){l:List Nat}(k:∀id∈l,(Qk st.js id).isSome=true):∀e,e≤l.length→Zen f st l e (each f st (l.take e)):=by
 intro e;induction e with
 | zero=>exact fun _=>⟨h,Q1 _,rfl⟩
 | succ e j=>
  intro n;have a:=j Qb;obtain⟨id,b⟩:=Xs (show e<l.length by omega);have m:l.take (e+1)=l.take e++[id]:=by rw[X2,b];rfl
  obtain⟨x,c⟩:∃x,Qk (each f st (l.take e)).js id=some x:=B2.1 (by rw[Nf a.ids];exact k id (Yn b));have i:=(Qi c).2;rw[m,Qcz,c];dsimp only;refine⟨g.ok _ x a.ok (by rw[i];exact c),?_,by rw[d];exact a.ids⟩;have:=g.ord _ x a.ok (by rw[i];exact c);have:=a.ord;omega
theorem lstep{f:Br→Bj→Br}{st:Br}{l:List Nat}{e id:Nat}{x:Bj}(a:l[e]?=some id)(b:Qk (each f st (l.take e)).js id=some x):each f st (l.take (e+1))=f (each f st (l.take e)) x:=by
 rw[X2,a];show each f st (l.take e++[id])=_;rw[Qcz,b]
abbrev Qfk(st:Br)(x:Bj):Bj:={x with Wp:=true,C5:=Xi st.now st.Wu}
abbrev Sa(st:Br)(x:Bj)(n:Nat):Od:=(n,{kind:=12,Qu:=x.id,tick:=Xi st.now st.Wu})
theorem N8(st:Br)(x:Bj):Ur st x=Br.set {st with Qd:=st.Qd++x.at_.map (Sa st x)} (Qfk st x):=rfl
theorem JOk.Qfk{N:Nat}{st:Br}{x:Bj}(h:JOk N x):JOk N (Qfk st x):=⟨h.P3,h.Rx,h.tier,h.k1,h.kn,h.w,h.cr,h.wk,h.Uy,h.at_,h.drop,h.lod,h.X4,h.ld,h.svl⟩
theorem Q2v:Cw Ur:=⟨fun st x h a=>by rw[N8];exact(h.oset _).set (x:=BN.Qfk st x) (h.at_ a).Qfk,fun st x id h=>by rw[N8];exact Dn {st with Qd:=st.Qd++x.at_.map (Sa st x)} (x:=BN.Qfk st x) h,fun st x h a=>by
 rw[N8];show (st.Qd++x.at_.map (Sa st x)).length≤_;rw[Yd,Qo];have:=Qk0 h a;omega⟩
theorem Qfj(st:Br)(x:Bj):(Ur st x).js.map (·.id)=st.js.map (·.id):=Le st.js (BN.Qfk st x)
def He(st:Br)(y:Bj):List Nat:=A3 (Pb st.m y.tier y.k (Hv st)).1
theorem pre_nil{st:Br}(h:Wf st=[]):Qy st=st:=by rw[Qy,h]
theorem Qp6{st:Br}(h:st.js.any lvB=true):Qy st=st:=by
 unfold Qy
 split
 ·rfl
 ·exact Qh h
theorem Q4j{st:Br}{id:Nat}{l:List Nat}{y:Bj}(b:Wf st=id::l)(h:st.js.any lvB=false)(a:Qk st.js id=some y):Qy st=each Ur st (He st y):=by
 unfold Qy;rw[b];dsimp only;rw[Qe (by rw[h];decide),a];rfl
theorem Tk{st:Br}(b:Wm st.js){y:Bj}:∀id∈He st y,(Qk st.js id).isSome=true:=fun id h=>by
 obtain⟨c,d,e⟩:=Qq.1 h;obtain⟨x,a,e2⟩:=Qq.1 (Qil d);subst e2;simp only at e;rw[←e,Ys b (Y5.1 a).1];rfl
theorem Q5s(t n:Nat):Xi t n≤4294967295:=Qi5 _ _
set_option maxHeartbeats 4000000 in
theorem Qz7(b:Nat)(st:Br)(ps:Nat→Nat)(hl:st.Qd.length≤800000){W:World}(hW:Dx W):Spec Tryz.prog 44 [pt b] [BP b st ps,Wo W] fun U _ Θ=>Θ=BP b (Qy st) ps::Wo W::U:=by
 refine Spec.J3 fun d=>?_;have hN:=d.Ra;have Sq:=d.Dk;have aD:=Aj d.Y4;refine Zbd Tryz.func44 rfl Tryz.ntmps44 fun w0 U=>Zsh (ZY 3 (Zp (Zc1 Ze (Qj5 b st ps) ?_)));rintro v Θ ⟨wv,rfl,af,rfl⟩;refine ZY 8 (Zy ?_)
 refine Zb 18 ef (fun Q=>?_) (fun Q=>?_)
 ·have hg:=pre_nil (Ae (show (Wf st).length=0 by omega));refine ZY 7 ?_;exact Zf ef Zq (by rw[hg])
 ·refine Zy (Zg ef ef ef (Zc1 Ze (Qip b st ps) ?_));rintro v Θ ⟨jv,rfl,aj,rfl⟩;refine Zg ef ef ef (Zcp Ze (Zd3 b st ps jv aj) (ZY 2 ?_))
  refine Zi ef (fun h1=>?_) (fun h1=>?_)
  ·have hg:=Qp6 h1;refine Zy ?_;exact Zf ef Zq (by rw[hg])
  ·obtain⟨id,ws,V⟩:∃id ws,Wf st=id::ws:=by
    cases hw:Wf st with
    | nil=>exact absurd (show ((wv.n:Nat):Int)=0 by rw[af,hw];rfl) Q
    | cons id ws=>exact⟨id,ws,rfl⟩
   obtain⟨y,M,aC⟩:=Gy d.Y4 (show id∈Wf st by rw[V];exact Z0 ..);obtain⟨_,ae⟩:=Qi M;subst ae;have hg:=Q4j V h1 M;refine ZY 8 ?_;refine S.Qs (show Ent _ (own SV.nil 152 2 (([]:List Cd).flatMap cdC)::_) from Ent.Xb 152 2) (Zy (Zp (Zc1 Ze (Qip b st ps) ?_)));rintro v Θ ⟨j2,rfl,aH,rfl⟩;refine S.Xn j2 fun aG Bt aF=>?_;have aE:maxLen≤9223372036854775807:=by unfold maxLen;omega
   refine ZY 4 ?_;refine Zl (fun J g h=>∃(e:Nat) (n:List Cd) (N:SV),J=st.js.length-e∧e≤st.js.length∧n=((st.js.take e).filter fun x=>decide (x.state=2) || decide (x.state=1)).map (fun x=>(x.id,(x.tier:Int)))∧N.n=n.length∧n.length≤e∧g=[(0,pt b),(2,wv.v),(3,N.v),(24,j2.v),(25,.int .i64 (j2.n:Int)),(26,.int .i64 (e:Int))]∧h=own j2 86 1 (pts ps st.js)::own wv 86 1 (wps ps (Wf st))::own N 152 2 (n.flatMap cdC)::BP b st ps::Wo W::U) (m:=_) (⟨0,[],SV.nil,rfl,Qb,rfl,rfl,Q1 _,rfl,rfl⟩) ?_;rintro J g h ⟨e,n,N,a9,he,Y,ad,aI,rfl,rfl⟩;refine ZY 5 ?_
   refine Zj ef (fun h2=>?_) (fun h2=>?_)
   ·refine S.Q7 j2 Qb fun sb so Yo _ _ _=>?_;obtain⟨x,hx⟩:=Xs (show e<st.js.length by omega);have I:Qk st.js x.id=some x:=Ys d.Y4 (Yn hx);have Wg:=d.at_ I;have Jq:=fun v hv=>fsnoc (p:=fun x:Bj=>decide (x.state=2) || decide (x.state=1)) hx v hv;refine S.Uu b st ps x I fun w jb q ov B C mv sb l i k lb D rb A u T Yr a2 F=>(ZY 5 (Zv (Zx (e) ef (Yo) ef Qb) ?_));refine Zv (Zo (j2) (e) ef (Yo) (by rw[Q8,hx];rfl)) ?_;refine ZY 8 (ZY 3 ?_)
    refine Zb 36 ef (fun a3=>?_) (fun a3=>?_)
    ·have H:n++[(x.id,(x.tier:Int))]=((st.js.take (e+1)).filter fun x=>decide (x.state=2) || decide (x.state=1)).map (fun x=>(x.id,(x.tier:Int))):=by
      rw[Jq true (by rw[Zh (show x.state=2 by omega)];rfl),Vc,Y];rfl
     refine ZY 8 (Zy ?_);refine Zd ([blk (ps x.id) 90 (bjC x k lb D rb A).toArray]) [13] (Zra 0 12) (ZY 8 (ZY 3 ?_));refine Zw ef (Ye (pvs:=[(_,_),(_,_)]) [_,_] Tryz.z152.h Tryz.Zlc.h ⟨⟨rfl,rfl⟩,⟨rfl,rfl⟩,trivial⟩ rfl) ?_;refine Z1 (i:=12) ef ef ?_;refine(S.buildSlice (pvs:=[(_,_)]) [_,_] Tryz.underlying150 Tryz.Qcm.h rfl rfl ⟨⟨rfl,rfl⟩,trivial⟩ rfl rfl ?_);intro a4;refine Zk [] ?_;refine Z1 (i:=13) ef ef ?_;refine(S.Z6 (s:=N) (1) (cdC (x.id,(x.tier:Int))) Tryz.underlying150 Tryz.Qcm.h rfl rfl rfl (Yb (b:=a4) rfl (by unfold maxLen;omega)) (by first|rfl|exact Qw _) (⟨Qb,Qb⟩) rfl ?_);intro Z aB;refine ZL ([]) [14] (Zy ?_);refine ZD (Zy ?_);first|rw[Wv cdC n ((x.id,(x.tier:Int)):Cd)]|skip
     refine S.Q0 b st ps w jb q ov B C mv sb l i x k lb D rb A T rfl (Yr x rfl) (u.set Wg) F ?_;rw[Z4 d I];refine Zv (Za ef ef) (ZY 2 ?_);first|exact ZX (J-1) ⟨e+1,n++[(x.id,(x.tier:Int))],Z,Qb,Qb,H,by rw[Yd,Y0];omega,by rw[Yd,Y0];omega,rfl,rfl⟩ Qb|exact ZX (J-1) ⟨e+1,n,N,Qb,Qb,H,Qb,Qb,rfl,rfl⟩ Qb
    ·refine ZY 8 ?_
     refine Zj ef (fun h3=>?_) (fun h3=>?_)
     ·have H:n++[(x.id,(x.tier:Int))]=((st.js.take (e+1)).filter fun x=>decide (x.state=2) || decide (x.state=1)).map (fun x=>(x.id,(x.tier:Int))):=by
       rw[Jq true (by rw[Zh (show x.state=1 by omega),Bool.or_true]),Vc,Y];rfl
      refine Zd ([blk (ps x.id) 90 (bjC x k lb D rb A).toArray]) [13] (Zra 0 12) (ZY 8 (ZY 3 ?_));refine Zw ef (Ye (pvs:=[(_,_),(_,_)]) [_,_] Tryz.z152.h Tryz.Zlc.h ⟨⟨rfl,rfl⟩,⟨rfl,rfl⟩,trivial⟩ rfl) ?_;refine Z1 (i:=12) ef ef ?_;refine(S.buildSlice (pvs:=[(_,_)]) [_,_] Tryz.underlying150 Tryz.Qcm.h rfl rfl ⟨⟨rfl,rfl⟩,trivial⟩ rfl rfl ?_);intro a4;refine Zk [] ?_;refine Z1 (i:=13) ef ef ?_;refine(S.Z6 (s:=N) (1) (cdC (x.id,(x.tier:Int))) Tryz.underlying150 Tryz.Qcm.h rfl rfl rfl (Yb (b:=a4) rfl (by unfold maxLen;omega)) (by first|rfl|exact Qw _) (⟨Qb,Qb⟩) rfl ?_);intro Z aB;refine ZL ([]) [14] (Zy ?_);refine ZD (Zy ?_);first|rw[Wv cdC n ((x.id,(x.tier:Int)):Cd)]|skip
      refine S.Q0 b st ps w jb q ov B C mv sb l i x k lb D rb A T rfl (Yr x rfl) (u.set Wg) F ?_;rw[Z4 d I];refine Zv (Za ef ef) (ZY 2 ?_);first|exact ZX (J-1) ⟨e+1,n++[(x.id,(x.tier:Int))],Z,Qb,Qb,H,by rw[Yd,Y0];omega,by rw[Yd,Y0];omega,rfl,rfl⟩ Qb|exact ZX (J-1) ⟨e+1,n,N,Qb,Qb,H,Qb,Qb,rfl,rfl⟩ Qb
     ·have H:n=((st.js.take (e+1)).filter fun x=>decide (x.state=2) || decide (x.state=1)).map (fun x=>(x.id,(x.tier:Int))):=by
       rw[Jq false (by rw[Q6 (show ¬x.state=2 by omega),Q6 (show ¬x.state=1 by omega)];rfl),Y];simp
      refine ZY 2 ?_;first|rw[Wv cdC n ((x.id,(x.tier:Int)):Cd)]|skip
      refine S.Q0 b st ps w jb q ov B C mv sb l i x k lb D rb A T rfl (Yr x rfl) (u.set Wg) F ?_;rw[Z4 d I];refine Zv (Za ef ef) (ZY 2 ?_);first|exact ZX (J-1) ⟨e+1,n++[(x.id,(x.tier:Int))],Z,Qb,Qb,H,by rw[Yd,Y0];omega,by rw[Yd,Y0];omega,rfl,rfl⟩ Qb|exact ZX (J-1) ⟨e+1,n,N,Qb,Qb,H,Qb,Qb,rfl,rfl⟩ Qb
   ·have a7:n=Hv st:=by rw[Y,show e=st.js.length by omega,Wh];rfl
    have aa:∀c∈n,0≤c.2∧c.2≤255:=fun c hc=>by
     rw[a7]at hc;obtain⟨x,hx,e2⟩:=Qq.1 hc;have:=(d.Qu x (Y5.1 hx).1).tier;subst e2;exact⟨by show (0:Int)≤(x.tier:Int);omega,by show ((x.tier:Nat):Int)≤255;omega⟩
    refine S.Q7 wv Qb fun wb wo X _ _ _=>?_;have a8:=d.at_ M;refine S.Uu b st ps y M fun w jb q ov B C mv sb l i k lb D rb A u T Yr a2 F=>(ZY 2 ?_);refine Zd ([blk (ps y.id) 90 (bjC y k lb D rb A).toArray,blk b 84 (bC st w jb q ov B C mv sb).toArray,own wv 86 1 (wps ps (Wf st))]) [] (Zra 0 19) (ZY 6 ?_);refine Zw ef (Zx (0) ef (X) ef Qb) ?_;refine Zw ef (Zo (wv) (0) ef (X) (by rw[V];rfl)) (ZY 5 ?_);refine Zw ef (Zx (0) ef (X) ef Qb) ?_;refine Zw ef (Zo (wv) (0) ef (X) (by rw[V];rfl)) (ZY 4 ?_)
    refine Z2 (i:=19) (j:=23) ef ef ef ?_ ?_
    ·refine  (Zc1 Ze (Qsc q st.m y.tier y.k (own N 152 2 (n.flatMap cdC)) N n ad Qb aa RdS.own hW) ?_);rintro v Θ ⟨E,rfl,a5,rfl⟩;refine Zk [20,21,22] (ZY 3 ?_);refine Z1 (i:=23) ef ef ?_;refine(S.alloc Tryz.z154.h rfl ?_);intro b6;refine Zk [] ?_;refine Z1 (i:=24) ef ef ?_;refine  (Zs ef ef (cs':=[_,_]) ef ?_);refine Zk [25] (Zy ?_);refine ZD (ZY 2 ?_);have O:A3 (Pb st.m y.tier y.k n).1=He st y:=by rw[a7];rfl
     have a6:(Pb st.m y.tier y.k n).1.length=(He st y).length:=by rw[←O,Qo]
     rw[O];rw[a6]at a5;refine S.Q0 b st ps w jb q ov B C mv sb l i y k lb D rb A T rfl (Yr y rfl) (u.set a8) F ?_;rw[Z4 d M];refine S.Xn E fun ax ar aq=>?_
     have ah:(He st y).length≤1000:=by
      have h1:(He st y).length≤(Hv st).length:=Up (Qoj (Qo ..)) (Qa5 st.m y.tier y.k (Hv st));have h2:(Hv st).length≤st.js.length:=by rw[Hv,Qo];exact Uw _ _
      omega
     refine ZY 6 ?_;refine Zl (fun J g h=>∃(e:Nat) (t:Br),J=(He st y).length-e∧e≤(He st y).length∧t=each Ur st ((He st y).take e)∧g=[(0,pt b),(83,E.v),(84,.int .i64 (E.n:Int)),(85,.int .i64 (e:Int))]∧h=own E 31 1 (Yp (He st y))::BP b t ps::Wo W::U) (m:=_) (⟨0,st,rfl,Qb,rfl,rfl,rfl⟩) ?_;rintro J g h ⟨e,t,a9,he,P,rfl,rfl⟩;have hI:Zen Ur st (He st y) e t:=by rw[P];exact linv Q2v Qfj d (Tk d.Y4) e he
     have aA:=hI.ord;refine ZY 5 ?_
     refine Zj ef (fun h4=>?_) (fun h4=>?_)
     ·refine S.Q7 E Qb fun sb so Yo _ _ _=>?_;obtain⟨id,L⟩:=Xs (show e<(He st y).length by omega);obtain⟨x,I⟩:∃x,Qk t.js id=some x:=B2.1 (by rw[Nf hI.ids];exact Tk d.Y4 id (Yn L));obtain⟨_,G4⟩:=Qi I;subst G4;have Wa:each Ur st ((He st y).take (e+1))=Ur t x:=by rw[P];exact lstep L (by rw[←P];exact I)
      have a:=hI.ok;have Wg:=a.at_ I;have az:=Up Wg.len a.Ra;obtain⟨o,r⟩:∃o:Bj,o=Qfk t x:=⟨_,rfl⟩;have Nv:JOk t.nodes o:=by rw[r];exact Wg.Qfk
      have G:o.id=x.id:=by rw[r]
      have e1:o.C5=Xi t.now t.Wu:=by rw[r]
      refine S.Uu b t ps x I fun w jb q ov B C mv sb l i k lb D rb A u T Yr a2 F=>?_;have Fv:Yh (x.id:Int) l=some (pt (ps x.id)):=by rw[Un a.Y4 u.perm,I];rfl
      have ay:=F.an;refine ZY 5 (Zv (Zx (e) ef (Yo) ef Qb) (Zv (Zo (E) (e) ef (Yo) (Cj L)) (ZY 8 (Zy ?_))));refine Zv (Qx (pt (ps x.id)) Tryz.underlying82 Tryz.underlying31 Tryz.Jv.h rfl rfl rfl (by rw[Fv];rfl)) (ZY 3 ?_);refine Zd ([blk b 84 (bC t w jb q ov B C mv sb).toArray]) [] (Zra 0 11) (ZY 8 (ZY 3 ?_));refine Z1 (i:=11) ef ef ?_;refine  (Zcp Ze (Qnm t.now t.Wu a.now (by have:=a.g2;omega)) ?_);refine Zk [12,13] (ZY 2 ?_);refine Z1 (i:=14) ef ef ?_;refine(S.store (cs':=[_,_,_,_,_,_,_,_,_,_,_,_,_,_,_,_,_]) Eo.h rfl rfl rfl rfl rfl ?_);refine Zk [15,16] (ZY 2 ?_);refine Z1 (i:=17) ef ef ?_;refine(S.store (cs':=[_,_,_,_,_,_,_,_,_,_,_,_,_,_,_,_,_]) Eo.h rfl rfl rfl rfl rfl ?_);refine Zk [] ?_;refine ZD (ZY 2 (S.X7 (ps x.id) (bjC o k lb D rb A).toArray (by rw[r]) (ZY 8 ?_)));refine Zl (fun fy g h=>∃(e3:Nat) (os:List Od) (f:SV),fy=x.at_.length-e3∧e3≤x.at_.length∧os=t.Qd++(x.at_.take e3).map (Sa t x)∧f.n=os.length∧os.length=t.Qd.length+e3∧g=[(0,pt b),(9,.int .u32 (x.id:Int)),(10,pt (ps x.id)),(83,E.v),(84,.int .i64 (E.n:Int)),(85,.int .i64 (e:Int)),(114,k.v),(115,.int .i64 (k.n:Int)),(116,.int .i64 (e3:Int))] ∧   h=blk (ps x.id) 90 (bjC o k lb D rb A).toArray::own k 3 1 (nds x.at_)::Vp lb x.Xt::Vp D x.Ql::M6 rb x.X4::Jw A x.id x.Xg::blk b 84 (bC t w jb q f B C mv sb).toArray::Qz w .i64 (Vo t.up)::Qz jb .u32 l::jT ps t.js i::jD ps t.js i::MI q t.m::own f 97 14 (os.flatMap odC)::imgs B t.Qf::own C 31 1 (Yp t.done)::own mv 31 1 (Yp t.members)::Vp sb t.stops::own E 31 1 (Yp (He st y))::Wo W::U) (m:=_) (⟨0,t.Qd,ov,rfl,Qb,Q2,u.on,rfl,rfl,rfl⟩) ?_;rintro fy g h ⟨e3,os,f,ak,al,K,Uf,ai,rfl,rfl⟩;refine ZY 5 ?_
      refine Zj ef (fun h5=>?_) (fun h5=>?_)
      ·refine S.Q7 k Qb fun ab ao R _ _ _=>?_;obtain⟨z,hz⟩:=Xs (show e3<x.at_.length by omega);have Fh:x.at_.take (e3+1)=x.at_.take e3++[z]:=by rw[X2,hz];rfl
       have A5:os++[((z,{kind:=12,Qu:=x.id,tick:=Xi t.now t.Wu}):Od)]=t.Qd++(x.at_.take (e3+1)).map (Sa t x):=by rw[K,Fh,Vc,Wb];rfl
       refine ZY 5 (Zv (Zx (e3) ef (R) ef Qb) ?_);refine Zv (Zo (k) (e3) ef (R) (by rw[Q8,hz];rfl)) ?_;refine ZY 8 (ZY 2 ?_);refine Zv (Ye (pvs:=[(_,_),(_,_),(_,_)]) [_,_,_,_,_,_,_,_,_,_,_,_,_] Tryz.z72.h Tryz.p72.h ⟨⟨rfl,rfl⟩,⟨rfl,rfl⟩,⟨rfl,rfl⟩,trivial⟩ rfl) ?_;rw[e1];refine Zp (Zc1 Ze (Bp b t w jb q f B C mv sb z {kind:=12,Qu:=x.id,tick:=Xi t.now t.Wu} os Uf Qb) ?_);rintro v Θ ⟨a0,N6,rfl⟩;refine ZY 2 (Zv (Za ef ef) (ZY 2 ?_));exact ZX (fy-1) (⟨e3+1,os++[((z,{kind:=12,Qu:=x.id,tick:=Xi t.now t.Wu}):Od)],a0,Qb,Qb,A5,N6,by rw[Yd,Y0];omega,rfl,rfl⟩) Qb
      ·rw[show x.at_.take e3=x.at_ by rw[show e3=x.at_.length by omega,Wh]]at K;have a1:Ur t x=Br.set {t with Qd:=os} o:=by rw[N8,K,r]
       refine ZY 2 ?_;refine S.sub (jX (ps x.id) o k lb D rb A (bR b {t with Qd:=os} ps w jb q f B C mv sb l i (own E 31 1 (Yp (He st y))::Wo W::U))) (e:=by subst r;infer_instance) ?_;refine S.Q0 b {t with Qd:=os} ps w jb q f B C mv sb l i o k lb D rb A T G (Yr o G) (BF.set (st:={t with Qd:=os}) ⟨a.oset os,u.perm,Uf,u.im,u.dn,u.mn,u.sn⟩ Nv) ⟨by rw[r];exact F.an,by rw[r];exact F.l,by rw[r];exact F.d,by rw[r];exact F.r,by rw[r];exact F.s⟩ ?_;rw[←a1];refine Zv (Za ef ef) (ZY 2 ?_);exact ZX (J-1) (⟨e+1,Ur t x,Qb,Qb,by rw[Wa],rfl,rfl⟩) Qb
     ·rw[show (He st y).take e=He st y by rw[show e=(He st y).length by omega,Wh]]at P;refine Zy ?_;exact Zfn ef Zq (by rw[hg,←P])
    ·refine(S.alloc Tryz.z154.h rfl ?_);intro b6;refine Zk [] ?_;refine Z1 (i:=19) ef ef ?_;refine  (Zc1 Ze (Qsc q st.m y.tier y.k (own N 152 2 (n.flatMap cdC)) N n ad Qb aa RdS.own hW) ?_);rintro v Θ ⟨E,rfl,a5,rfl⟩;refine Zk [20,21,22] (ZY 3 ?_);refine Z1 (i:=24) ef ef ?_;refine  (Zs ef ef (cs':=[_,_]) ef ?_);refine Zk [25] (Zy ?_);refine ZD (ZY 2 ?_);have O:A3 (Pb st.m y.tier y.k n).1=He st y:=by rw[a7];rfl
     have a6:(Pb st.m y.tier y.k n).1.length=(He st y).length:=by rw[←O,Qo]
     rw[O];rw[a6]at a5;refine S.Q0 b st ps w jb q ov B C mv sb l i y k lb D rb A T rfl (Yr y rfl) (u.set a8) F ?_;rw[Z4 d M];refine S.Xn E fun ax ar aq=>?_
     have ah:(He st y).length≤1000:=by
      have h1:(He st y).length≤(Hv st).length:=Up (Qoj (Qo ..)) (Qa5 st.m y.tier y.k (Hv st));have h2:(Hv st).length≤st.js.length:=by rw[Hv,Qo];exact Uw _ _
      omega
     refine ZY 6 ?_;refine Zl (fun J g h=>∃(e:Nat) (t:Br),J=(He st y).length-e∧e≤(He st y).length∧t=each Ur st ((He st y).take e)∧g=[(0,pt b),(83,E.v),(84,.int .i64 (E.n:Int)),(85,.int .i64 (e:Int))]∧h=own E 31 1 (Yp (He st y))::BP b t ps::Wo W::U) (m:=_) (⟨0,st,rfl,Qb,rfl,rfl,rfl⟩) ?_;rintro J g h ⟨e,t,a9,he,P,rfl,rfl⟩;have hI:Zen Ur st (He st y) e t:=by rw[P];exact linv Q2v Qfj d (Tk d.Y4) e he
     have aA:=hI.ord;refine ZY 5 ?_
     refine Zj ef (fun h4=>?_) (fun h4=>?_)
     ·refine S.Q7 E Qb fun sb so Yo _ _ _=>?_;obtain⟨id,L⟩:=Xs (show e<(He st y).length by omega);obtain⟨x,I⟩:∃x,Qk t.js id=some x:=B2.1 (by rw[Nf hI.ids];exact Tk d.Y4 id (Yn L));obtain⟨_,G4⟩:=Qi I;subst G4;have Wa:each Ur st ((He st y).take (e+1))=Ur t x:=by rw[P];exact lstep L (by rw[←P];exact I)
      have a:=hI.ok;have Wg:=a.at_ I;have az:=Up Wg.len a.Ra;obtain⟨o,r⟩:∃o:Bj,o=Qfk t x:=⟨_,rfl⟩;have Nv:JOk t.nodes o:=by rw[r];exact Wg.Qfk
      have G:o.id=x.id:=by rw[r]
      have e1:o.C5=Xi t.now t.Wu:=by rw[r]
      refine S.Uu b t ps x I fun w jb q ov B C mv sb l i k lb D rb A u T Yr a2 F=>?_;have Fv:Yh (x.id:Int) l=some (pt (ps x.id)):=by rw[Un a.Y4 u.perm,I];rfl
      have ay:=F.an;refine ZY 5 (Zv (Zx (e) ef (Yo) ef Qb) (Zv (Zo (E) (e) ef (Yo) (Cj L)) (ZY 8 (Zy ?_))));refine Zv (Qx (pt (ps x.id)) Tryz.underlying82 Tryz.underlying31 Tryz.Jv.h rfl rfl rfl (by rw[Fv];rfl)) (ZY 3 ?_);refine Zd ([blk b 84 (bC t w jb q ov B C mv sb).toArray]) [] (Zra 0 11) (ZY 8 (ZY 3 ?_));refine Z1 (i:=11) ef ef ?_;refine  (Zcp Ze (Qnm t.now t.Wu a.now (by have:=a.g2;omega)) ?_);refine Zk [12,13] (ZY 2 ?_);refine Z1 (i:=14) ef ef ?_;refine(S.store (cs':=[_,_,_,_,_,_,_,_,_,_,_,_,_,_,_,_,_]) Eo.h rfl rfl rfl rfl rfl ?_);refine Zk [15,16] (ZY 2 ?_);refine Z1 (i:=17) ef ef ?_;refine(S.store (cs':=[_,_,_,_,_,_,_,_,_,_,_,_,_,_,_,_,_]) Eo.h rfl rfl rfl rfl rfl ?_);refine Zk [] ?_;refine ZD (ZY 2 (S.X7 (ps x.id) (bjC o k lb D rb A).toArray (by rw[r]) (ZY 8 ?_)));refine Zl (fun fy g h=>∃(e3:Nat) (os:List Od) (f:SV),fy=x.at_.length-e3∧e3≤x.at_.length∧os=t.Qd++(x.at_.take e3).map (Sa t x)∧f.n=os.length∧os.length=t.Qd.length+e3∧g=[(0,pt b),(9,.int .u32 (x.id:Int)),(10,pt (ps x.id)),(83,E.v),(84,.int .i64 (E.n:Int)),(85,.int .i64 (e:Int)),(114,k.v),(115,.int .i64 (k.n:Int)),(116,.int .i64 (e3:Int))] ∧   h=blk (ps x.id) 90 (bjC o k lb D rb A).toArray::own k 3 1 (nds x.at_)::Vp lb x.Xt::Vp D x.Ql::M6 rb x.X4::Jw A x.id x.Xg::blk b 84 (bC t w jb q f B C mv sb).toArray::Qz w .i64 (Vo t.up)::Qz jb .u32 l::jT ps t.js i::jD ps t.js i::MI q t.m::own f 97 14 (os.flatMap odC)::imgs B t.Qf::own C 31 1 (Yp t.done)::own mv 31 1 (Yp t.members)::Vp sb t.stops::own E 31 1 (Yp (He st y))::Wo W::U) (m:=_) (⟨0,t.Qd,ov,rfl,Qb,Q2,u.on,rfl,rfl,rfl⟩) ?_;rintro fy g h ⟨e3,os,f,ak,al,K,Uf,ai,rfl,rfl⟩;refine ZY 5 ?_
      refine Zj ef (fun h5=>?_) (fun h5=>?_)
      ·refine S.Q7 k Qb fun ab ao R _ _ _=>?_;obtain⟨z,hz⟩:=Xs (show e3<x.at_.length by omega);have Fh:x.at_.take (e3+1)=x.at_.take e3++[z]:=by rw[X2,hz];rfl
       have A5:os++[((z,{kind:=12,Qu:=x.id,tick:=Xi t.now t.Wu}):Od)]=t.Qd++(x.at_.take (e3+1)).map (Sa t x):=by rw[K,Fh,Vc,Wb];rfl
       refine ZY 5 (Zv (Zx (e3) ef (R) ef Qb) ?_);refine Zv (Zo (k) (e3) ef (R) (by rw[Q8,hz];rfl)) ?_;refine ZY 8 (ZY 2 ?_);refine Zv (Ye (pvs:=[(_,_),(_,_),(_,_)]) [_,_,_,_,_,_,_,_,_,_,_,_,_] Tryz.z72.h Tryz.p72.h ⟨⟨rfl,rfl⟩,⟨rfl,rfl⟩,⟨rfl,rfl⟩,trivial⟩ rfl) ?_;rw[e1];refine Zp (Zc1 Ze (Bp b t w jb q f B C mv sb z {kind:=12,Qu:=x.id,tick:=Xi t.now t.Wu} os Uf Qb) ?_);rintro v Θ ⟨a0,N6,rfl⟩;refine ZY 2 (Zv (Za ef ef) (ZY 2 ?_));exact ZX (fy-1) (⟨e3+1,os++[((z,{kind:=12,Qu:=x.id,tick:=Xi t.now t.Wu}):Od)],a0,Qb,Qb,A5,N6,by rw[Yd,Y0];omega,rfl,rfl⟩) Qb
      ·rw[show x.at_.take e3=x.at_ by rw[show e3=x.at_.length by omega,Wh]]at K;have a1:Ur t x=Br.set {t with Qd:=os} o:=by rw[N8,K,r]
       refine ZY 2 ?_;refine S.sub (jX (ps x.id) o k lb D rb A (bR b {t with Qd:=os} ps w jb q f B C mv sb l i (own E 31 1 (Yp (He st y))::Wo W::U))) (e:=by subst r;infer_instance) ?_;refine S.Q0 b {t with Qd:=os} ps w jb q f B C mv sb l i o k lb D rb A T G (Yr o G) (BF.set (st:={t with Qd:=os}) ⟨a.oset os,u.perm,Uf,u.im,u.dn,u.mn,u.sn⟩ Nv) ⟨by rw[r];exact F.an,by rw[r];exact F.l,by rw[r];exact F.d,by rw[r];exact F.r,by rw[r];exact F.s⟩ ?_;rw[←a1];refine Zv (Za ef ef) (ZY 2 ?_);exact ZX (J-1) (⟨e+1,Ur t x,Qb,Qb,by rw[Wa],rfl,rfl⟩) Qb
     ·rw[show (He st y).take e=He st y by rw[show e=(He st y).length by omega,Wh]]at P;refine Zy ?_;exact Zfn ef Zq (by rw[hg,←P])
theorem Jc(l:List Nat):(Jm l).Perm l:=Qoq l _
theorem Q3e(l:List Nat):(Jm l).Pairwise (·≤·):=by
 have:=Qvy (le:=fun a b:Nat=>decide (a≤b)) (fun a b c e d=>by simp only[Zz]at *;omega) (fun a b=>by simp only[E2,Zz];omega) l;exact this.imp fun h=>by simpa using h
theorem Qfz(l:List Nat):(Jm l).length=l.length:=(Jc l).length_eq
theorem Zal(s:SV)(l:List Nat)(g:l.length≤65535)(k:s.n=l.length):Spec Tryz.prog 101 [s.v] [own s 31 1 (Yp l)] fun Γ _ f=>f=own s 31 1 (Yp (Jm l))::Γ:=by
 have h:=Go.Proofs.YtdackcibfkkniaaGreatDoor.Qob s (l.map fun n:Nat=>(n:Int)).toArray (by simpa using g) (by simpa using k)
 have e:∀m:List Nat,uA (m.map fun n:Nat=>(n:Int)).toArray=Yp m:=fun m=>by
  show (m.map fun n:Nat=>(n:Int)).map (Value.int .u32)=_;rw[Kk];rfl
 rw[e]at h;refine h.weaken fun Γ=>⟨Γ,Ent.refl _,?_⟩;rintro v f ⟨R,d,c,rfl⟩;refine⟨_,rfl,?_⟩
 have j:R.toList=(Jm l).map fun n:Nat=>(n:Int):=by
  refine(d.trans ?_).eq_of_pairwise (le:=fun a b:Int=>a≤b) (fun a b _ _ d c=>Qvv d c) c (Ww.2 ((Q3e l).imp fun h=>Qb));show ((l.map fun n:Nat=>(n:Int)).toArray).toList.Perm _;exact((Jc l).symm.map _)
 have i:uA R=Yp (Jm l):=by
  show R.toList.map (Value.int .u32)=_;rw[j,Kk];rfl
 rw[i];exact Ent.refl _
theorem Ent.Q22{b:Nat}{st:Br}{ps:Nat→Nat}{f jb a:Nat}{ov c d mv:SV}{sb:Option Nat}{l:List (Int×Value)}{i:Nat}{x x':Bj}(h:st.js[i]?=some x)(e:x'.id=x.id)(Yr:Xe st.js x'=st.js.set i x')(Γ:List Assn) :
  Ent (JI (ps x.id) x'::bR b st ps f jb a ov c d mv sb l i Γ) (bX b (st.set x') ps f jb a ov c d mv sb l Γ):=by
 have g:Ent (JI (ps x.id) x'::jT ps st.js i::jD ps st.js i::MI a st.m::own ov 97 14 (st.Qd.flatMap odC)::imgs c st.Qf::own d 31 1 (Yp st.done)::own mv 31 1 (Yp st.members)::Vp sb st.stops::Γ) (alls (st.js.set i x') (jI ps)::MI a st.m::own ov 97 14 (st.Qd.flatMap odC)::imgs c st.Qf::own d 31 1 (Yp st.done)::own mv 31 1 (Yp st.members)::Vp sb st.stops::Γ):=by
  rw[←e];exact Ent.Xo (jI ps) (x':=x') h _
 have j:(st.set x').js=st.js.set i x':=Yr;rw[←j]at g;exact(((Ent.swap _ _ _).trans ((Ent.swap _ _ _).cons _)).trans (((Ent.swap _ _ _).cons _).cons _)).trans ((((g.cons _).cons _).cons _))
section
variable {n:Nat}{md:Bool}{w0:WM md}{ρ:Env}{Γ Δ:List Assn}{φ:Act→World→Prop}
theorem S.Zd6(b:Nat)(st:Br)(ps:Nat→Nat)(e jb f:Nat)(ov g h mv:SV)(sb:Option Nat)(l:List (Int×Value)){i:Nat}{x:Bj}(o:st.js[i]?=some x)[q:Picks (bX b st ps e jb f ov g h mv sb l []) Γ Δ](k:∀d lb c rb a,JF x d lb c rb a→S n w0 ρ (jX (ps x.id) x d lb c rb a (bR b st ps e jb f ov g h mv sb l i Δ)) φ):S n w0 ρ Γ φ:=by
 refine S.Qs (q.Qs.trans (Ent.focus o Δ)) ?_;refine S.Qnn (ps x.id) x fun d lb c rb a q1 q2 q3 m j=>?_;exact k d lb c rb a ⟨q1,q2,q3,m,j⟩
theorem S.Zd7(b:Nat)(st:Br)(ps:Nat→Nat)(g jb h:Nat)(ov j m mv:SV)(sb:Option Nat)(l:List (Int×Value))(i:Nat){x:Bj}(a:Bj)(f:SV)(lb e rb c:Option Nat)(p:st.js[i]?=some x)(o:a.id=x.id)(Yr:Xe st.js a=st.js.set i a)(d:JF a f lb e rb c)
  [q:Picks (jX (ps x.id) a f lb e rb c (bR b st ps g jb h ov j m mv sb l i [])) Γ Δ] (k:S n w0 ρ (bX b (st.set a) ps g jb h ov j m mv sb l Δ) φ):S n w0 ρ Γ φ:=by
 refine S.Qs ?_ k
 have r:Ent (jX (ps x.id) a f lb e rb c (bR b st ps g jb h ov j m mv sb l i Δ)) (JI (ps x.id) a::bR b st ps g jb h ov j m mv sb l i Δ):=
  (Ent.pack (jX (ps x.id) a f lb e rb c []) _).trans (Ent.Kg _ fun _ s=>⟨f,lb,e,rb,c,d.an,d.l,d.d,d.r,d.s,s⟩)
 exact q.Qs.trans (r.trans (Ent.Q22 p o Yr Δ))
end
abbrev goX(x:Bj):Bj:={x with X4:=some []}
abbrev Qh5(st:Br)(x:Bj)(n:Nat):Od:=(n,{kind:=5,gen:=st.gen,Qu:=x.id})
theorem Qa1(st:Br)(x:Bj):V8 st x=Br.set {st with stops:=some (x.at_.foldl Xm (st.stops.getD [])),Qd:=st.Qd++x.at_.map (Qh5 st x)} (goX x):=rfl
theorem JOk.goX{N:Nat}{x:Bj}(h:JOk N x):JOk N (goX x):=⟨h.P3,h.Rx,h.tier,h.k1,h.kn,h.w,h.cr,h.wk,h.Uy,h.at_,h.drop,h.lod,fun r b=>(by cases b;intro y a;cases a),h.ld,h.svl⟩
theorem Qh6:∀(l s:List Nat),s.Nodup→(l.foldl Xm s).Nodup
 | [],_,h=>h
 | x::l,s,h=>Qh6 l (Xm s x) (F3 h x)
theorem Yu.stset{st:Br}(h:Yu st){s:Option (List Nat)}(b:∀d,s=some d→d.Nodup):Yu {st with stops:=s}:=⟨h.R,h.N,h.Fu,h.Y4,fun x a=>h.Qu x a,h.Dk,h.q1,h.q2,h.g1,h.g2,h.now,h.fin,h.mem,b⟩
theorem goE:Cw V8:=by
 refine⟨fun st x h a=>?_,fun st x id h=>by rw[Qa1];exact Dn {st with stops:=some (x.at_.foldl Xm (st.stops.getD [])),Qd:=st.Qd++x.at_.map (Qh5 st x)} (x:=BN.goX x) h,fun st x h a=>?_⟩
 ·have c:∀d,some (x.at_.foldl Xm (st.stops.getD []))=some d→d.Nodup:=fun d e=>by
   cases e;refine Qh6 _ _ ?_;cases b:st.stops with
   | none=>exact Fo
   | some s=>exact h.C4 s b
  have f:Yu {st with stops:=some (x.at_.foldl Xm (st.stops.getD [])),Qd:=st.Qd++x.at_.map (Qh5 st x)}:=(h.oset (st.Qd++x.at_.map (Qh5 st x))).stset c;rw[Qa1];exact Yu.set f (x:=BN.goX x) (h.at_ a).goX
 ·rw[Qa1];show (st.Qd++x.at_.map (Qh5 st x)).length≤_;rw[Yd,Qo];have:=Qk0 h a;omega
theorem Q7h(st:Br)(x:Bj):(V8 st x).js.map (·.id)=st.js.map (·.id):=Le st.js (BN.goX x)
theorem Zdq(st:Br)(x:Bj):(V8 st x).members=st.members∧(V8 st x).gen=st.gen∧(V8 st x).stops.isSome=true:=⟨rfl,rfl,rfl⟩
theorem Qn1{l:List Nat}:∀ {st:Br},st.stops.isSome=true→(each V8 st l).members=st.members∧(each V8 st l).stops.isSome=true:=by
 induction l with
 | nil=>exact fun h=>⟨rfl,h⟩
 | cons id l a=>
  intro st h;have e:each V8 st (id::l)=each V8 (match Qk st.js id with|none=>st|some x=>V8 st x) l:=rfl;rw[e];cases g:Qk st.js id with
  | none=>exact a h
  | some x=>
   obtain⟨f,i,d⟩:=Zdq st x;obtain⟨c,b⟩:=a (st:=V8 st x) d;exact⟨c.trans f,b⟩
abbrev F4(st:Br)(l:List Nat):Br:={st with gen:=u32 (st.gen+1),members:=Jm l,fin:=Xi st.now st.Yv,stops:=some []}
theorem Bh(st:Br)(l:List Nat):Tv st l=each V8 (F4 st l) (Jm l):=rfl
theorem Qmp{st:Br}(h:Yu st){l:List Nat}(b:l.length≤1000):Yu (F4 st l):=⟨h.R,h.N,h.Fu,h.Y4,fun x a=>h.Qu x a,h.Dk,h.q1,h.q2,h.g1,h.g2,h.now,Q5s _ _,by show (Jm l).length≤_;rw[Qfz];exact b,fun d c=>(by cases c;exact Fo)⟩
theorem Zgz{st:Br}(h:Yu st){l:List Nat}(c:l.length≤1000)(b:∀id∈l,(Qk st.js id).isSome=true):Yu (Tv st l)∧(Tv st l).Qd.length≤st.Qd.length+16*l.length:=by
 have:=linv goE Q7h (Qmp h c) (l:=Jm l) (fun id a=>b id ((Jc l).mem_iff.1 a)) _ (Q1 _);rw[Wh]at this;rw[Bh];exact⟨this.ok,by have:=this.ord;rw[Qfz]at this;exact this⟩
set_option maxHeartbeats 4000000 in
theorem Zk0(b:Nat)(st:Br)(ps:Nat→Nat)(s:SV)(xs:List Nat)(Jq:s.n=xs.length)(Tg:xs.length≤1000)(Dj:∀id∈xs,(Qk st.js id).isSome=true)(hl:st.Qd.length≤800000):Spec Tryz.prog 90 [pt b,s.v] [BP b st ps,own s 31 1 (Yp xs)] fun Γ _ R=>R=BP b (Tv st xs) ps::Γ:=by
 refine Spec.J3 fun F=>?_;have P:=Qmp F Tg;have Q:∀id∈Jm xs,(Qk (F4 st xs).js id).isSome=true:=fun id y=>Dj id ((Jc xs).mem_iff.1 y);have a0:=Qfz xs;refine Zbd Tryz.func90 rfl Tryz.ntmps90 fun w0 Γ=>Zsh (ZY 3 (Zp (Zc1 Ze (Zal s xs Qb Jq) ?_)));rintro v R rfl;refine S.W5 b st ps fun g jb h ov c d mv sb l n=>(ZY 7 (Zv (Q4e rfl rfl) ?_));rw[wrap32];refine ZY 8 (ZY 5 ?_);refine Zd ([blk b 84 (bC {st with gen:=u32 (st.gen+1),members:=Jm xs} g jb h ov c d s sb).toArray]) [13] (Zra 0 10) (ZY 8 (ZY 2 ?_));refine Z1 (i:=10) ef ef ?_;refine  (Zcp Ze (Qnm st.now st.Yv F.now (by have:=F.q2;omega)) ?_);refine Zk [11,12] (ZY 2 ?_);refine Z1 (i:=13) ef ef ?_;refine(S.store (cs':=[_,_,_,_,_,_,_,_,_,_,_,_,_,_,_,_,_,_]) Eo.h rfl rfl rfl rfl rfl ?_);refine ZL ([]) [] ?_;refine ZD (ZY 3 (Zp (S.makeMap .i64 rfl ?_)));intro o;refine ZY 6 ?_;refine S.conv (Qz o .i64 []) (show Ent _ (Vp (some o) (some [])::_) from Ent.Qjn (s:=some []) rfl _) (S.X7 b (bC (F4 st xs) g jb h ov c d s (some o)).toArray rfl (S.sub (bX b (F4 st xs) ps g jb h ov c d s (some o) l Γ) ?_));have W:BF (F4 st xs) ps ov c d s (some o) l:=⟨P,n.perm,n.on,n.im,n.dn,by show s.n=(Jm xs).length;omega,rfl⟩;clear n
 refine ZY 5 ?_;refine Zl (fun X u w=>∃(e:Nat) (t:Br) (g jb h:Nat) (ov c d:SV) (sb:Option Nat) (l:List (Int×Value)),X=(Jm xs).length-e∧e≤(Jm xs).length∧t=each V8 (F4 st xs) ((Jm xs).take e)∧BF t ps ov c d s sb l∧u=[(0,pt b),(39,s.v),(40,.int .i64 (s.n:Int)),(41,.int .i64 (e:Int))]∧w=bX b t ps g jb h ov c d s sb l Γ) (m:=_) (⟨0,F4 st xs,g,jb,h,ov,c,d,some o,l,rfl,Qb,rfl,W,rfl,rfl⟩) ?_;rintro X u w ⟨e,t,g,jb,h,ov,c,d,sb,l,a2,he,G,n,rfl,rfl⟩;have U:Zen V8 (F4 st xs) (Jm xs) e t:=by rw[G];exact linv goE Q7h P Q e he
 have a7:t.Qd.length≤st.Qd.length+16*e:=U.ord;obtain⟨Hl,Z⟩:t.members=Jm xs∧t.stops.isSome=true:=by rw[G];exact Qn1 (st:=F4 st xs) rfl
 refine ZY 5 ?_
 refine Zj ef (fun h1=>?_) (fun h1=>?_)
 ·obtain⟨id,y⟩:=Xs (show e<(Jm xs).length by omega);obtain⟨x,H⟩:∃x,Qk t.js id=some x:=B2.1 (by rw[Nf U.ids];exact Q id (Yn y));obtain⟨_,G4⟩:=Qi H;subst G4;have Wa:each V8 (F4 st xs) ((Jm xs).take (e+1))=V8 t x:=by rw[G];exact lstep y (by rw[←G];exact H)
  have f:=U.ok;have Wg:=f.at_ H;have a6:=Up Wg.len f.Ra;obtain⟨I,D⟩:∃I,t.stops=some I:=B2.1 Z;obtain⟨q,rfl⟩:∃q,sb=some q:=by have:=n.sn;rw[D]at this;cases sb with|none=>cases this|some q=>exact⟨q,rfl⟩
  obtain⟨p,A⟩:∃p:Bj,p=goX x:=⟨_,rfl⟩;have Nv:JOk t.nodes p:=by rw[A];exact Wg.goX
  have C:p.id=x.id:=by rw[A]
  refine S.Q7 s Qb fun ib io L _ _ _=>?_;obtain⟨i,hi,Yr,_⟩:=P5 f.Y4 H;refine S.Zd6 b t ps g jb h ov c d s (some q) l hi fun B lb O rb J N=>(S.conv (Vp (some q) t.stops) (Ent.Q0g D _) ?_);have Fv:Yh (x.id:Int) l=some (pt (ps x.id)):=by rw[Un f.Y4 n.perm,H];rfl
  have a5:=N.an;refine ZY 5 (Zv (Zx (e) ef (L) ef Qb) ?_);refine Zv (Zo (s) (e) ef (L) (by rw[Hl];exact Cj y)) (ZY 8 (Zy ?_));refine Zv (Qx (pt (ps x.id)) Tryz.underlying82 Tryz.underlying31 Tryz.Jv.h rfl rfl rfl (by rw[Fv];rfl)) (ZY 5 (Zp (S.makeMap .i64 rfl ?_)));intro k;refine ZY 6 (S.X7 (ps x.id) (bjC p B lb O (some k) J).toArray (by rw[A]) (ZY 8 ?_));refine Zl (fun fy u w=>∃(e3:Nat) (r:List Nat) (os:List Od) (a:SV),fy=x.at_.length-e3∧e3≤x.at_.length∧r=(x.at_.take e3).foldl Xm I∧os=t.Qd++(x.at_.take e3).map (Qh5 t x)∧a.n=os.length∧os.length=t.Qd.length+e3∧u=[(0,pt b),(5,.int .u32 (x.id:Int)),(6,pt (ps x.id)),(39,s.v),(40,.int .i64 (s.n:Int)),(41,.int .i64 (e:Int)),(58,B.v),(59,.int .i64 (B.n:Int)),(60,.int .i64 (e3:Int))] ∧   w=blk (ps x.id) 90 (bjC p B lb O (some k) J).toArray::Qz k .i64 []::Qz q .i64 (Vo r)::own B 3 1 (nds x.at_)::Vp lb x.Xt::Vp O x.Ql::Jw J x.id x.Xg::blk b 84 (bC t g jb h a c d s (some q)).toArray::Qz g .i64 (Vo t.up)::Qz jb .u32 l::jT ps t.js i::jD ps t.js i::MI h t.m::own a 97 14 (os.flatMap odC)::imgs c t.Qf::own d 31 1 (Yp t.done)::own s 31 1 (Yp t.members)::Γ) (m:=_) (⟨0,I,t.Qd,ov,rfl,Qb,rfl,Q2,n.on,rfl,rfl,rfl⟩) ?_;rintro fy u w ⟨e3,r,os,a,a3,a4,J8,E,Uf,a1,rfl,rfl⟩;refine ZY 5 ?_
  refine Zj ef (fun h2=>?_) (fun h2=>?_)
  ·refine S.Q7 B Qb fun ab ao M _ _ _=>?_;obtain⟨z,hz⟩:=Xs (show e3<x.at_.length by omega);have Fh:x.at_.take (e3+1)=x.at_.take e3++[z]:=by rw[X2,hz];rfl
   have A5:os++[((z,{kind:=5,gen:=t.gen,Qu:=x.id}):Od)]=t.Qd++(x.at_.take (e3+1)).map (Qh5 t x):=by rw[E,Fh,Vc,Wb];rfl
   have Y:Xm r z=(x.at_.take (e3+1)).foldl Xm I:=by rw[Fh,Ha,←J8];rfl
   refine ZY 5 (Zv (Zx (e3) ef (M) ef Qb) ?_);refine Zv (Zo (B) (e3) ef (M) (by rw[Q8,hz];rfl)) ?_;refine ZY 8 (Zy (Zp (Zc1 Ze (Qr0 q r z) ?_)));rintro v R rfl;refine ZY 8 (Zy ?_);refine Zv (Ye (pvs:=[(_,_),(_,_),(_,_)]) [_,_,_,_,_,_,_,_,_,_,_,_,_] Tryz.z72.h Tryz.p72.h ⟨⟨rfl,rfl⟩,⟨rfl,rfl⟩,⟨rfl,rfl⟩,trivial⟩ rfl) (Zp (Zc1 Ze (Bp b t g jb h a c d s (some q) z {kind:=5,gen:=t.gen,Qu:=x.id} os Uf Qb) ?_));rintro v R ⟨T,N6,rfl⟩;refine ZY 2 (Zv (Za ef ef) (ZY 2 ?_));exact ZX (fy-1) (⟨e3+1,Xm r z,os++[((z,{kind:=5,gen:=t.gen,Qu:=x.id}):Od)],T,Qb,Qb,Y,A5,N6,by rw[Yd,Y0];omega,rfl,rfl⟩) Qb
  ·rw[show x.at_.take e3=x.at_ by rw[show e3=x.at_.length by omega,Wh]]at E J8;have j:V8 t x=Br.set {t with stops:=some r,Qd:=os} p:=by rw[Qa1,E,J8,A,D];rfl
   have K:Yu (V8 t x):=goE.ok t x f H;have V:BF (V8 t x) ps a c d s (some q) l:=⟨K,by rw[j];show l.Perm ((Xe t.js p).map (jE ps));rw[Qt0];exact n.perm,by rw[j];exact Uf,by rw[j];exact n.im,by rw[j];exact n.dn,by rw[j];exact n.mn,by rw[j];rfl⟩;refine ZY 2 ?_;refine S.conv (Qz q .i64 (Vo r)) (show Ent _ (Vp (some q) (some r)::_) from Ent.Qjn (s:=some r) rfl _) ?_;refine S.conv (Qz k .i64 []) (show Ent _ (M6 (some k) p.X4::_) by rw[A];exact Ent.refl _) ?_;refine S.sub (jX (ps x.id) p B lb O (some k) J (bR b {t with stops:=some r,Qd:=os} ps g jb h a c d s (some q) l i Γ)) (e:=by subst A;infer_instance) ?_;refine S.Zd7 b {t with stops:=some r,Qd:=os} ps g jb h a c d s (some q) l i p B lb O (some k) J hi C (Yr p C) ⟨by rw[A];exact N.an,by rw[A];exact N.l,by rw[A];exact N.d,by rw[A];rfl,by rw[A];exact N.s⟩ ?_;rw[←j];refine Zv (Za ef ef) (ZY 2 ?_);exact ZX (X-1) (⟨e+1,V8 t x,g,jb,h,a,c,d,some q,l,Qb,Qb,by rw[Wa],V,rfl,rfl⟩) Qb
 ·rw[show (Jm xs).take e=Jm xs by rw[show e=(Jm xs).length by omega,Wh]]at G;refine Zy (S.Yk b t ps g jb h ov c d s sb l n ?_);exact Zfn ef Zq (by rw[Bh,←G])
theorem T1{m:Mx}{j:Nat}{r:Mv×Mx}:∀ {p:Nat},Je m j p=some r→∃i,i<p∧Ug m j i=(some r.1,r.2)∧∀k,k<i→(Ug m j k).1=none
 | 0,h=>by cases h
 | p+1,h=>by
  rw[Je]at h;cases a:Je m j p with
  | some e=>
   rw[a]at h;simp only[Km]at h;subst h;obtain⟨i,g,d,c⟩:=T1 a;exact⟨i,Qb,d,c⟩
  | none=>
   rw[a]at h;simp only at h;cases b:Ug m j p with
   | mk x f=>
    rw[b]at h;cases x with
    | none=>cases h
    | some x=>
     simp only[Km]at h;subst h;exact⟨p,Qb,b,Qdw a⟩
def Mvs(m:Mx):List Mv→Mx→Prop
 | [],a=>a=m
 | x::xs,a=>(Ug m x.1 x.2.2).1=some x∧Mvs (Ug m x.1 x.2.2).2 xs a
theorem Q1g{m m1 m2:Mx}{xs a:List Mv}(h:Mvs m xs m1)(b:Mvs m1 a m2):Mvs m (xs++a) m2:=by
 induction xs generalizing m with
 | nil=>rw[show m1=m from h]at b;exact b
 | cons x xs c=>exact⟨h.1,c h.2⟩
theorem Zje{m a:Mx}{j:Nat}{z:Int}{x:Mv}(h:Ug m j z=(some x,a)):Mvs m [x] a:=by
 obtain⟨y,_,_,rfl,_⟩:=Qhi h;refine⟨by rw[h],?_⟩;show a=_;rw[h]
theorem Qkf{m0:Mx}{j:Nat}{ids:List Nat}{a:Mx×List Mv}(h:Mvs m0 a.2 a.1):∀q,Mvs m0 (Gk j ids a q).2 (Gk j ids a q).1
 | 0=>h
 | q+1=>by
  have b:=Qkf (ids:=ids) h q (j:=j);rw[Gk];cases d:Je (Gk j ids a q).1 (ids.getD q 0) j with
  | none=>exact b
  | some r=>
   obtain⟨i,_,c,_⟩:=T1 d;exact Q1g b (Zje c)
theorem Qpz(m:Mx):∀k,Mvs m (T0 m k).2 (T0 m k).1
 | 0=>rfl
 | k+1=>Qkf (Qpz m k) _
theorem Qzw(m:Mx):Mvs m (Hc m).2 (Hc m).1:=Qpz m _
abbrev Qns(x:Jb):Nat×Bs:=(x.id,x.ns)
structure Keep(m m':Mx):Prop where
 ok:W6 m'
 R:m'.R=m.R
 N:m'.N=m.N
 up:m'.up=m.up
 js:m'.js.map Qns=m.js.map Qns
theorem Keep.refl{m:Mx}(h:W6 m):Keep m m:=⟨h,rfl,rfl,rfl,rfl⟩
theorem Keep.trans{a b c:Mx}(h:Keep a b)(d:Keep b c):Keep a c:=⟨d.ok,d.R.trans h.R,d.N.trans h.N,d.up.trans h.up,d.js.trans h.js⟩
theorem Qtb(js:List Jb)(j t:Nat):(Cb js j t).map Qns=js.map Qns:=by
 rw[Cb,Kk];refine De fun x _=>?_;show Qns (if x.id=j then _ else x)=_;split <;> rfl
theorem Keep.move{m:Mx}(b:W6 m)(j:Nat)(z:Int):Keep m (Ug m j z).2:=by
 obtain⟨f,d,c⟩:=Qxt m j z;refine⟨Qhj b j z,f,d,c,?_⟩;cases a:Ug m j z with
 | mk x g=>
  cases x with
  | none=>rw[(Qhk a).1]
  | some x=>
   obtain⟨y,_,_,_,e⟩:=Qhi a;rw[e];exact Qtb _ _ _
theorem Keep.go{xs:List Mv}:∀ {m a:Mx},W6 m→Mvs m xs a→Keep m a:=by
 induction xs with
 | nil=>intro m a b h;rw[show a=m from h];exact .refl b
 | cons x xs c=>intro m a b h;exact(Keep.move b x.1 x.2.2).trans (c (Qhj b _ _) h.2)
theorem Keep.repack{m:Mx}(a:W6 m):Keep m (Hc m).1:=Keep.go a (Qzw m)
theorem Q0t{js a:List Jb}(h:a.map Qns=js.map Qns)(j:Nat):(look a j).map Qns=(look js j).map Qns:=by
 induction js generalizing a with
 | nil=>rw[Fs.1 h]
 | cons x js b=>
  cases a with
  | nil=>cases h
  | cons y a=>
   rw[Z7,Z7,Hw]at h;obtain⟨c,f⟩:=h;have d:y.id=x.id:=Z3 Prod.fst c;have b:=b f;unfold look at b ⊢;rw[List.find?_cons,List.find?_cons,d]
   by_cases e:x.id=j
   ·simp only[e,decide_true,U3];exact Z3 some c
   ·simp only[e,decide_false];exact b
theorem Keep.ids{m a:Mx}(h:Keep m a):a.js.map (·.id)=m.js.map (·.id):=by
 have:=Z3 (List.map Prod.fst) h.js
 simpa [List.map_map,Function.comp_def] using this
theorem F5{m:Mx}(_h:W6 m)(z:Int):(Yq m z).length≤128:=by
 unfold Yq
 split
 ·rw[Qo];have a:=Ty m z.toNat;omega
 ·exact Xq _
theorem Bx{m:Mx}(h:W6 m)(z:Int):(Xc m z).length≤128:=by
 unfold Xc
 split
 ·rw[Qo];have a:=Sx m z.toNat m.R;have:=h.R8;omega
 ·exact Xq _
theorem Mo(b:Br)(row:Int):Xx b row 0=b:=rfl
theorem Mp{b:Br}{row:Int}{i:Nat}(h:(Xh b.m row).2=false):Xx b row (i+1)=b:=by rw[Xx,Qh h]
theorem D9{b:Br}{row:Int}{i:Nat}(h:(Xh b.m row).2=true)(a:0<(X1 b (Yq b.m (Xh b.m row).1)).length):Xx b row (i+1)=Tv {b with row:=(Xh b.m row).1} (X1 b (Yq b.m (Xh b.m row).1++Xc b.m (Xh b.m row).1)):=by
 rw[Xx,Qe (by rw[h];decide),Qh a]
theorem D8{b:Br}{row:Int}{i:Nat}(h:(Xh b.m row).2=true)(a:¬0<(X1 b (Yq b.m (Xh b.m row).1)).length):Xx b row (i+1)=Xx b (Xh b.m row).1 i:=by
 rw[Xx,Qe (by rw[h];decide),Qe a]
theorem Qkg{st:Br}{l:List Nat}:∀id∈X1 st l,(Qk st.js id).isSome=true:=fun id h=>by
 have a:=(Y5.1 h).2;cases b:Qk st.js id with
 | none=>rw[b]at a;cases a
 | some x=>rfl
theorem Pu(st:Br)(l:List Nat):(X1 st l).length≤l.length:=Uw _ _
theorem Yu.rset{st:Br}(h:Yu st)(z:Int):Yu {st with row:=z}:=⟨h.R,h.N,h.Fu,h.Y4,fun x a=>h.Qu x a,h.Dk,h.q1,h.q2,h.g1,h.g2,h.now,h.fin,h.mem,h.C4⟩
theorem Qpe{st:Br}(h:Yu st):∀(i:Nat) (row:Int),Yu (Xx st row i)∧(Xx st row i).Qd.length≤st.Qd.length+4096
 | 0,_=>⟨h,by rw[Mo];omega⟩
 | i+1,row=>by
  cases c:(Xh st.m row).2 with
  | false=>rw[Mp c];exact⟨h,Qb⟩
  | true=>
   by_cases d:0<(X1 st (Yq st.m (Xh st.m row).1)).length
   ·rw[D9 c d]
    have e:(X1 st (Yq st.m (Xh st.m row).1++Xc st.m (Xh st.m row).1)).length≤256:=by
     have:=Pu st (Yq st.m (Xh st.m row).1++Xc st.m (Xh st.m row).1);rw[Yd]at this;have:=F5 h.Fu (Xh st.m row).1;have:=Bx h.Fu (Xh st.m row).1;omega
    obtain⟨a,b⟩:=Zgz (h.rset (Xh st.m row).1) (l:=X1 st (Yq st.m (Xh st.m row).1++Xc st.m (Xh st.m row).1)) Qb (Qkg (st:=st));exact⟨a,Up b (by show st.Qd.length+_≤_;omega)⟩
   ·rw[D8 c d];exact Qpe h i _
set_option maxHeartbeats 4000000 in
theorem Zai(b:Nat)(st:Br)(ps:Nat→Nat)(L:st.Qd.length≤800000){W:World}(B:Dx W):Spec Tryz.prog 47 [pt b] [BP b st ps,Wo W] fun t _ n=>n=BP b (Xx st st.row st.rows) ps::Wo W::t:=by
 refine Spec.J3 fun d=>?_;have Q:st.rows≤8:=by have:=d.Fu.R8;rw[d.R]at this;exact this
 refine Zbd Tryz.func47 rfl Tryz.ntmps47 fun V t=>Zsh ?_;refine S.W5 b st ps fun g jb c ov h k mv sb l f=>(ZY 8 (ZY 7 (S.Yk b st ps g jb c ov h k mv sb l f (ZY 3 ?_))));refine Zl (fun D o p=>∃(e:Nat) (row:Int),D=st.rows-e∧e≤st.rows∧Xx st st.row st.rows=Xx st row (st.rows-e)∧o=[(0,pt b),(2,.int .i64 row),(13,.int .i64 (st.rows:Int)),(14,.int .i64 (e:Int))]∧p=BP b st ps::Wo W::t) (m:=_) (⟨0,st.row,rfl,Qb,rfl,rfl,rfl⟩) ?_;rintro D o p ⟨e,row,M,X,j,rfl,rfl⟩;refine ZY 5 ?_
 refine Zj ef (fun T=>?_) (fun T=>?_)
 ·refine S.W5 b st ps fun g jb c ov h k mv sb l f=>?_;have y:st.rows-e=(st.rows-(e+1))+1:=Qb
  rw[y]at j;refine ZY 8 (ZY 2 (Zp (Zcp Ze (Go.Proofs.YtdackcibfkkniaaGreatDoor.Zj1 c st.m row) (ZY 8 (ZY 4 ?_)))))
  refine Zi ef (fun C=>?_) (fun C=>?_)
  ·have a:=j.trans (Mp (by simpa using C));refine Zy (S.Yk b st ps g jb c ov h k mv sb l f ?_);exact Zf ef Zq (by rw[a])
  ·have r:(Xh st.m row).2=true:=by simpa using C
   obtain⟨z,q⟩:∃z,z=(Xh st.m row).1:=⟨_,rfl⟩;rw[←q];have K:=F5 d.Fu z;refine ZY 8 (ZY 6 (Zp (Zc1 Ze (Go.Proofs.YtdackcibfkkniaaGreatDoor.Qy3 c st.m z B) ?_)));rintro v n ⟨H,rfl,A,rfl⟩;refine S.Yk b st ps g jb c ov h k mv sb l f (Zp (Zc1 Ze (Qw0 b st ps H (Yq st.m z) A Qb) ?_));rintro v n ⟨u,rfl,J,rfl⟩;refine ZY 3 ?_
   refine Zj ef (fun R=>?_) (fun R=>?_)
   ·have a:=j.trans (D9 r (by rw[←q];omega));rw[←q]at a;have N:=Bx d.Fu z;have E:=Pu st (Yq st.m z++Xc st.m z);rw[Yd]at E;refine S.W5 b st ps fun g jb c ov h k mv sb l f=>(ZY 8 (Zy ?_));refine Zd ([blk b 84 (bC {st with row:=z} g jb c ov h k mv sb).toArray]) [15] [] ?_;refine ZP 0 [1,2,3,4,5,6,8,9,10,11,12] ef (Y8 rfl) ef (ZY 8 (ZY 3 ?_));refine Z1 (i:=7) ef ef ?_;refine  (Zc1 Ze (Go.Proofs.YtdackcibfkkniaaGreatDoor.Qy3 c st.m z B) ?_);rintro v n ⟨I,rfl,Y,rfl⟩;refine Zk [] ?_;refine Z1 (i:=13) ef ef ?_;refine  (Zc1 Ze (Go.Proofs.YtdackcibfkkniaaGreatDoor.Zj8 c st.m z B) ?_);rintro v n ⟨U,rfl,O,rfl⟩;refine Zk [] ?_;refine Z1 (i:=14) ef ef ?_;refine(S.Z6 (s:=I) (U.n) (Yp (Xc st.m z)) Tryz.underlying53 Tryz.H9.h rfl rfl rfl (fun w j=>Uo.Tq inferInstance j) (Qx8 _) (⟨Qb,Qb⟩) rfl ?_);intro F P;rw[show Yp (Yq st.m z)++Yp (Xc st.m z)=Yp (Yq st.m z++Xc st.m z) from Vc.symm];refine Zk [] ?_;refine Z1 (i:=15) ef ef (S.sub (bX b {st with row:=z} ps g jb c ov h k mv sb l (own F 31 1 (Yp (Yq st.m z++Xc st.m z))::Wo W::t)) ?_);refine S.Yk b {st with row:=z} ps g jb c ov h k mv sb l ⟨d.rset z,f.perm,f.on,f.im,f.dn,f.mn,f.sn⟩ ?_;refine  (Zc1 Ze (Qw0 b {st with row:=z} ps F (Yq st.m z++Xc st.m z) (by rw[Yd];omega) (by rw[Yd];omega)) ?_);rintro v n ⟨G,rfl,x,rfl⟩;refine ZL ([]) [] ?_;refine Z1 (i:=16) ef ef ?_;refine  (Zc1 Ze (Zk0 b {st with row:=z} ps G (X1 {st with row:=z} (Yq st.m z++Xc st.m z)) x (by show (X1 st _).length≤_;omega) (Qkg (st:={st with row:=z})) L) ?_);rintro v n rfl;rw[show X1 {st with row:=z} (Yq st.m z++Xc st.m z)=X1 st (Yq st.m z++Xc st.m z) from rfl];refine Zk [] ?_;refine ZD (Zy ?_);exact Zf ef Zq (by rw[a])
   ·have a:=j.trans (D8 r (by rw[←q];omega));rw[←q]at a;refine ZY 2 (Zv (Za ef ef) (ZY 2 ?_));exact ZX (D-1) (⟨e+1,z,Qb,Qb,a,rfl,rfl⟩) Qb
 ·rw[show st.rows-e=0 by omega,Mo]at j;refine Zy ?_;exact Zfn ef Zq (by rw[j])
theorem Qht{st:Br}{x:Bj}(h:Ba st):Ba (Q4 st x):=by
 have Yr:∀(b:Br) (y:Bj),Ba b→(y.state=0→y.Xg=none)→Ba (b.set y):=fun b y a f z d h0=>by
  obtain⟨w,g,e⟩:=Qq.1 d
  split at e
  ·subst e;exact f h0
  ·subst e;exact a w g h0
 have c:∀(b:Br) (y:Bj),Ba b→(y.state=0→y.Xg=none)→Ba (Y6 b y):=fun b y a f=>by
  unfold Y6
  split
  ·split
   ·exact Yr {b with m:=(Xj b.m y.id).2} _ a fun _=>rfl
   ·intro z d h0;exact a z (Y5.1 d).1 h0
  ·exact Yr b y a f
 unfold Q4
 split
 ·unfold Wd
  split
  ·exact c _ _ h fun _=>rfl
  ·exact c _ _ h fun _=>rfl
 ·exact h
theorem P7{f:Br→Bj→Br}(a:∀st x,Ba st→Ba (f st x)):∀(l:List Nat) {st:Br},Ba st→Ba (each f st l)
 | [],_,h=>h
 | id::l,st,h=>by
  have e:each f st (id::l)=each f (match Qk st.js id with|none=>st|some x=>f st x) l:=rfl;rw[e];cases b:Qk st.js id with
  | none=>exact P7 a l h
  | some x=>exact P7 a l (a st x h)
abbrev rep(st:Br):Br:={st with m:=(Hc st.m).1}
theorem Qs9{st:Br}(h:Yu st):Yu (rep st):=by
 have k:=Keep.repack h.Fu;exact h.Qxs k.ok k.N k.R
theorem Qgy{st:Br}(h:Yu st):Yu (Qy st)∧(Qy st).Qd.length≤st.Qd.length+16*st.js.length:=by
 cases b:Wf st with
 | nil=>rw[pre_nil b];exact⟨h,U6 ..⟩
 | cons id l=>
  cases a:st.js.any lvB with
  | true=>rw[Qp6 a];exact⟨h,U6 ..⟩
  | false=>
   obtain⟨y,c,_⟩:=Gy h.Y4 (show id∈Wf st by rw[b];exact Z0 ..);rw[Q4j b a c];have:=linv Q2v Qfj h (Tk h.Y4 (y:=y)) _ (Q1 _);rw[Wh]at this
   have d:(He st y).length≤st.js.length:=by
    have f:(He st y).length≤(Hv st).length:=Up (Qoj (Qo ..)) (Qa5 st.m y.tier y.k (Hv st));have e:(Hv st).length≤st.js.length:=by rw[Hv,Qo];exact Uw _ _
    omega
   exact⟨this.ok,by have:=this.ord;omega⟩
theorem Yu.nset{st:Br}(h:Yu st){n:Nat}(b:n≤4294967295):Yu {st with now:=n}:=⟨h.R,h.N,h.Fu,h.Y4,fun x a=>h.Qu x a,h.Dk,h.q1,h.q2,h.g1,h.g2,b,h.fin,h.mem,h.C4⟩
section
variable {st:Br}{now:Nat}
theorem Qs2(h:now≤st.now):Y7 st now=(12,st):=by rw[Y7,Qh h]
theorem Qzj(h:¬now≤st.now)(a:now≤st.hold):Y7 st now=(0,{st with now:=now}):=by rw[Y7,Qe h,Qh a]
theorem Qj8(h:¬now≤st.now)(c:¬now≤st.hold)(b:st.stops.isSome=true)(a:st.Qn=false∧(st.fin≤now∨Rw st=true)):Y7 st now=(0,Di {st with now:=now}):=by rw[Y7,Qe h,Qe c,Qh b,Qh a]
theorem Qpa(h:¬now≤st.now)(c:¬now≤st.hold)(b:st.stops.isSome=true)(a:¬(st.Qn=false∧(st.fin≤now∨Rw st=true))):Y7 st now=(0,{st with now:=now}):=by rw[Y7,Qe h,Qe c,Qh b,Qe a]
theorem Qzi(h:¬now≤st.now)(b:¬now≤st.hold)(a:st.stops.isSome=false):Y7 st now=(0,V0 {st with now:=now}):=by rw[Y7,Qe h,Qe b,Qe (by rw[a];decide)]
end
theorem Qzn{st:Br}(h:Yu st):Yu (Di st):=(h.oset (Di st).Qd).Yr true
theorem Qa3{f:Br→Bj→Br}(a:Cw f){st:Br}(h:Yu st):(each f st st.ids).Qd.length≤st.Qd.length+16000:=by
 have:=Qie a h;have:=h.Dk;omega
theorem Q90{st:Br}(h:Yu st)(i:Ba st):Yu (V0 st)∧(V0 st).Qd.length≤st.Qd.length+70000:=by
 have c:=Qa2 Qhu h;have o:=Qa3 Qhu h;have d:Ba (each Q4 st st.ids):=P7 (fun st x h=>Qht h) _ i;obtain⟨b,n⟩:=Qd3 c d;obtain⟨l,m⟩:=Qgy b;have a:=Qs9 l;have k:=Qa2 Qpw a;have g:=Qa3 Qpw a;obtain⟨j,e⟩:=Qpe k (each Xv (rep (Qy (Q9 (each Q4 st st.ids)))) (rep (Qy (Q9 (each Q4 st st.ids)))).ids).rows (each Xv (rep (Qy (Q9 (each Q4 st st.ids)))) (rep (Qy (Q9 (each Q4 st st.ids)))).ids).row;refine⟨j,?_⟩;have q:=c.Dk;have p:=b.Dk;have f:_≤(Qy (Q9 (each Q4 st st.ids))).Qd.length+16000:=g;exact Up e Qb
set_option maxHeartbeats 4000000 in
theorem Zjw(b:Nat)(st:Br)(ps:Nat→Nat)(now:Nat)(P:now≤4294967295)(V:Ba st)(X:st.Qd.length≤700000){W:World}(M:Dx W):Spec Tryz.prog 14 [pt b,.int .u32 (now:Int)] [BP b st ps,Wo W] fun q v y=>v=.int .i64 (Y7 st now).1∧y=BP b (Y7 st now).2 ps::Wo W::q:=by
 refine Spec.J3 fun H=>?_;have d:=H.nset P;have Sq:=H.Dk;obtain⟨t,m⟩:∃t:Br,t={st with now:=now}:=⟨_,rfl⟩;have D:Yu t:=by rw[m];exact d
 have K:Ba t:=by rw[m];exact V
 have Uj:t.Qd.length≤700000:=by rw[m];exact X
 refine Zbd Tryz.func14 rfl Tryz.ntmps14 fun w0 q=>Zsh ?_;refine S.W5 b st ps fun f jb j ov g i mv sb l a=>(ZY 8 (ZY 4 (ZF ef (ZY 8 (ZY 2 ?_)))))
 refine Zj ef (fun Z=>?_) (fun Z=>?_)
 ·have k:=Qs2 (st:=st) (now:=now) Qb;refine ZY 5 (S.Yk b st ps f jb j ov g i mv sb l a ?_);exact Zf ef Zq (⟨by rw[k];rfl,by rw[k]⟩)
 ·have p:¬now≤st.now:=Qb
  refine ZY 8 (ZY 8 (ZY 3 ?_))
  refine Zj ef (fun Y=>?_) (fun Y=>?_)
  ·have k:=Qzj (st:=st) (now:=now) p Qb;refine ZY 5 (S.sub (bX b {st with now:=now} ps f jb j ov g i mv sb l (Wo W::q)) ?_);refine S.Yk b {st with now:=now} ps f jb j ov g i mv sb l ⟨d,a.perm,a.on,a.im,a.dn,a.mn,a.sn⟩ ?_;exact Zf ef Zq (⟨by rw[k];rfl,by rw[k]⟩)
  ·have u:¬now≤st.hold:=Qb
   refine ZY 8 (Zv (F7 Tryz.underlying81 rfl rfl) (Zy ?_))
   refine Zi ef (fun O=>?_) (fun O=>?_)
   ·have o:st.stops.isSome=true:=by rw[←a.sn];simpa using O
    refine ZY 8 (Zy ?_)
    refine Zbb 35 ef (fun e=>?_) (fun e=>?_)
    ·refine ZY 7 ?_
     refine Zb 42 ef (fun n=>?_) (fun n=>?_)
     ·have k:=Qj8 (st:=st) (now:=now) p u o ⟨by simpa using e,.inl Qb⟩;refine ZY 8 ?_;first|(refine S.sub (bX b {st with now:=now} ps f jb j ov g i mv sb l (Wo W::q)) ?_;refine S.Yk b {st with now:=now} ps f jb j ov g i mv sb l ⟨d,a.perm,a.on,a.im,a.dn,a.mn,a.sn⟩ ?_;rw[←m])|skip
      refine Zp (Zc1 Ze (Q3b b t ps Qb) ?_);rintro v y rfl;refine ZY 6 ?_;first|(refine S.sub (bX b {st with now:=now} ps f jb j ov g i mv sb l (Wo W::q)) ?_;refine S.Yk b {st with now:=now} ps f jb j ov g i mv sb l ⟨d,a.perm,a.on,a.im,a.dn,a.mn,a.sn⟩ ?_;rw[←m])|skip
      exact Zf ef Zq (⟨by rw[k];rfl,by rw[k,←m]⟩)
     ·refine Zy ?_
      (refine S.sub (bX b {st with now:=now} ps f jb j ov g i mv sb l (Wo W::q)) ?_;refine S.Yk b {st with now:=now} ps f jb j ov g i mv sb l ⟨d,a.perm,a.on,a.im,a.dn,a.mn,a.sn⟩ ?_;rw[←m])
      refine Zg ef ef ef (Zcp Ze (Zh8 b t ps) ?_);have I:Rw t=Rw st:=by rw[m];rfl
      refine ZY 3 ?_
      refine Zi ef (fun N=>?_) (fun N=>?_)
      ·have k:=Qj8 (st:=st) (now:=now) p u o ⟨by simpa using e,.inr (by rw[←I];exact N)⟩;refine ZY 2 ?_;first|(refine S.sub (bX b {st with now:=now} ps f jb j ov g i mv sb l (Wo W::q)) ?_;refine S.Yk b {st with now:=now} ps f jb j ov g i mv sb l ⟨d,a.perm,a.on,a.im,a.dn,a.mn,a.sn⟩ ?_;rw[←m])|skip
       refine Zp (Zc1 Ze (Q3b b t ps Qb) ?_);rintro v y rfl;refine ZY 6 ?_;first|(refine S.sub (bX b {st with now:=now} ps f jb j ov g i mv sb l (Wo W::q)) ?_;refine S.Yk b {st with now:=now} ps f jb j ov g i mv sb l ⟨d,a.perm,a.on,a.im,a.dn,a.mn,a.sn⟩ ?_;rw[←m])|skip
       exact Zf ef Zq (⟨by rw[k];rfl,by rw[k,←m]⟩)
      ·have k:=Qpa (st:=st) (now:=now) p u o (fun h=>by rcases h.2 with h|h;(exact n Qb);(rw[←I,N]at h;cases h));refine ZY 6 ?_;first|(refine S.sub (bX b {st with now:=now} ps f jb j ov g i mv sb l (Wo W::q)) ?_;refine S.Yk b {st with now:=now} ps f jb j ov g i mv sb l ⟨d,a.perm,a.on,a.im,a.dn,a.mn,a.sn⟩ ?_;rw[←m])|skip
       exact Zf ef Zq (⟨by rw[k];rfl,by rw[k,←m]⟩)
    ·have k:=Qpa (st:=st) (now:=now) p u o (fun h=>by rw[h.1]at e;cases e);refine ZY 8 (ZY 8 (ZY 3 ?_));first|(refine S.sub (bX b {st with now:=now} ps f jb j ov g i mv sb l (Wo W::q)) ?_;refine S.Yk b {st with now:=now} ps f jb j ov g i mv sb l ⟨d,a.perm,a.on,a.im,a.dn,a.mn,a.sn⟩ ?_;rw[←m])|skip
     exact Zf ef Zq (⟨by rw[k];rfl,by rw[k,←m]⟩)
   ·have o:st.stops.isSome=false:=by rw[←a.sn];simpa using O
    have k:=Qzi (st:=st) (now:=now) p u o
    (refine S.sub (bX b {st with now:=now} ps f jb j ov g i mv sb l (Wo W::q)) ?_;refine S.Yk b {st with now:=now} ps f jb j ov g i mv sb l ⟨d,a.perm,a.on,a.im,a.dn,a.mn,a.sn⟩ ?_;rw[←m])
    obtain⟨z,s⟩:∃z,z=each Q4 t t.ids:=⟨_,rfl⟩;obtain⟨C,G⟩:∃C,C=Q9 z:=⟨_,rfl⟩;obtain⟨w,F⟩:∃w,w=Qy C:=⟨_,rfl⟩;obtain⟨B,r⟩:∃B,B=rep w:=⟨_,rfl⟩;obtain⟨A,E⟩:∃A,A=each Xv B B.ids:=⟨_,rfl⟩;have T:Yu z:=by rw[s];exact Qa2 Qhu D
    have Q:Ba z:=by rw[s];exact P7 (fun st x h=>Qht h) _ K
    have l1:z.Qd.length≤t.Qd.length+16000:=by rw[s];exact Qa3 Qhu D
    have R:Yu C∧C.Qd.length≤z.Qd.length+16*z.js.length:=by rw[G];exact Qd3 T Q
    have U:Yu w∧w.Qd.length≤C.Qd.length+16*C.js.length:=by rw[F];exact Qgy R.1
    have J:Yu B:=by rw[r];exact Qs9 U.1
    have l4:B.Qd.length=w.Qd.length:=by rw[r]
    have o5:Yu A∧A.Qd.length≤B.Qd.length+16000:=by rw[E];exact⟨Qa2 Qpw J,Qa3 Qpw J⟩
    have f1:=T.Dk;have f2:=R.1.Dk;have L:V0 t=Xx A A.row A.rows:=by rw[E,r,F,G,s];rfl
    refine ZY 4 (Zp (Zc1 Ze (Zce b t ps Qb) ?_));rintro v y rfl;rw[←s];refine ZY 4 (Zp (Zc1 Ze (Zbp b z ps Q Qb) ?_));rintro v y rfl;rw[←G];refine ZY 4 (Zp (Zc1 Ze (Qz7 b C ps Qb M) ?_));rintro v y rfl;rw[←F];refine ZY 3 ?_;refine S.W5 b w ps fun f jb j ov g i mv sb l a=>(ZY 5 (Zp (Zc1 Ze (Go.Proofs.YtdackcibfkkniaaGreatDoor.Q8u j w.m M) ?_)));rintro v y ⟨c,sv,rfl,G5,rfl⟩;refine ZY 8 (ZY 2 (S.sub (bX b (rep w) ps f jb c ov g i mv sb l (Wo W::q)) ?_));refine S.Yk b (rep w) ps f jb c ov g i mv sb l ⟨by rw[←r];exact J,a.perm,a.on,a.im,a.dn,a.mn,a.sn⟩ ?_;rw[←r];refine Zp (Zc1 Ze (Zay b B ps Qb) ?_);rintro v y rfl;rw[←E];refine ZY 4 (Zp (Zc1 Ze (Zai b A ps Qb M) ?_));rintro v y rfl;refine ZY 6 ?_;exact Zf ef Zq (⟨by rw[k];rfl,by rw[k,←m,L]⟩)
structure Sm3(b b':Br)(i d j:Nat):Prop where
 im:b'.Qf.length≤b.Qf.length+i
 dn:b'.done.length≤b.done.length+d
 js:b'.js.length≤b.js.length+j
 nodes:b'.nodes=b.nodes
theorem Sm3.refl(b:Br):Sm3 b b 0 0 0:=⟨Q1 _,Q1 _,Q1 _,rfl⟩
theorem Sm3.trans{a b c:Br}{i d j f g e:Nat}(h:Sm3 a b i d j)(k:Sm3 b c f g e):Sm3 a c (i+f) (d+g) (j+e):=⟨by have:=h.im;have:=k.im;omega,by have:=h.dn;have:=k.dn;omega,by have:=h.js;have:=k.js;omega,k.nodes.trans h.nodes⟩
theorem Sm3.tr0{a b c:Br}{i d j:Nat}(h:Sm3 a b 0 0 0)(k:Sm3 b c i d j):Sm3 a c i d j:=by have:=h.trans k;simpa using this
theorem Sm3.le{a b:Br}{i d j e f c:Nat}(h:Sm3 a b i d j)(l:i≤e)(k:d≤f)(g:j≤c):Sm3 a b e f c:=⟨by have:=h.im;omega,by have:=h.dn;omega,by have:=h.js;omega,h.nodes⟩
theorem Sm3.set(b:Br)(x:Bj):Sm3 b (b.set x) 0 0 0:=⟨Q1 _,Q1 _,by show (Xe b.js x).length≤_;rw[G8];exact Q1 _,rfl⟩
theorem Sm3.gone(b:Br)(x:Bj):Sm3 b (Y6 b x) 0 0 0:=by
 unfold Y6
 split
 ·split
  ·exact⟨Q1 _,Q1 _,by show (Xe b.js _).length≤_;rw[G8];exact Q1 _,rfl⟩
  ·exact⟨Q1 _,Q1 _,Uw _ _,rfl⟩
 ·exact .set b x
theorem Sm3.drop(b:Br)(x:Bj)(a:Bool):Sm3 b (Wd b x a) 0 0 0:=by
 unfold Wd
 split
 ·exact .gone b _
 ·exact(show Sm3 b {b with Qd:=b.Qd++(J0 b x).map (Va x.id)} 0 0 0 from ⟨Q1 _,Q1 _,Q1 _,rfl⟩).tr0 (.gone _ _)
theorem Sm3.finish(b:Br)(x:Bj):Sm3 b (Yj b x) 0 1 0:=by
 unfold Yj
 split
 ·exact(Sm3.set b x).le Qb Qb Qb
 ·have h:=Sm3.drop {b with done:=b.done++[x.id]} {x with done:=true} false;exact⟨h.im,by have:=h.dn;simp only[Yd,Y0]at this;omega,h.js,h.nodes⟩
theorem Sm3.save(b:Br)(x:Bj):Sm3 b (Xv b x) 0 0 0:=by
 by_cases a:x.work=x.Qg∨x.Xg.isSome∨x.Ql.isSome∨x.state≠2
 ·rw[V3 a];exact .set b x
 ·rw[Ua a];exact⟨Q1 _,Q1 _,by show (Xe b.js _).length≤_;rw[G8];exact Q1 _,rfl⟩
theorem Sm3.count(b:Br)(x:Bj):Sm3 b (Y9 b x) 0 0 0:=by
 unfold Y9
 split
 ·exact .set b x
 ·split
  ·exact .set b _
  ·exact .save b _
theorem Sm3.each{f:Br→Bj→Br}(a:∀b x,Sm3 b (f b x) 0 0 0):∀(l:List Nat) (b:Br),Sm3 b (each f b l) 0 0 0
 | [],b=>.refl b
 | id::l,b=>by
  have e:BN.each f b (id::l)=BN.each f (match Qk b.js id with|none=>b|some x=>f b x) l:=rfl;rw[e];cases Qk b.js id with
  | none=>exact Sm3.each a l b
  | some x=>exact(a b x).tr0 (Sm3.each a l _)
theorem Sm3.Qka(b:Br)(n:Nat):Sm3 b (Zt b n) 0 0 0:=by
 unfold Zt
 split
 ·exact .refl b
 ·split
  ·exact⟨Q1 _,Q1 _,Q1 _,rfl⟩
  ·exact(show Sm3 b {b with stops:=none,Qn:=false} 0 0 0 from ⟨Q1 _,Q1 _,Q1 _,rfl⟩).tr0 (.each Sm3.count _ _)
theorem Sm3.lost(b:Br)(n:Int):Sm3 b (Kh b n).2 0 0 0:=by
 unfold Kh
 split
 ·exact .refl b
 ·refine Sm3.tr0 (b:=BN.each (Xw n.toNat) {b with up:=Jd b.up n.toNat,m:=(Go.Proofs.YtdackcibfkkniaaGreatDoor.upR b.m n false).2,Qd:=b.Qd.filter fun o=>decide (o.1≠n.toNat)} b.ids) ?_ (.Qka _ _);refine(show Sm3 b {b with up:=Jd b.up n.toNat,m:=(Go.Proofs.YtdackcibfkkniaaGreatDoor.upR b.m n false).2,Qd:=b.Qd.filter fun o=>decide (o.1≠n.toNat)} 0 0 0 from ⟨Q1 _,Q1 _,Q1 _,rfl⟩).tr0 (.each (fun b x=>?_) _ _);unfold Xw
  split
  ·split
   ·exact .drop b x true
   ·exact .gone b _
  ·exact .refl b
theorem Sm3.heard(b:Br)(n:Nat)(x:Nt):Sm3 b (Ut b n x) 0 0 0:=by
 unfold Ut
 split
 ·refine Sm3.tr0 ?_ (.Qka _ _)
  split
  ·exact .refl b
  ·split
   ·exact .refl b
   ·split
    ·exact .set b _
    ·exact .refl b
 ·exact .refl b
theorem Sm3.saved(b:Br)(x:Bj)(n:Nat)(t:Nt)(c:List Int):Sm3 b (Ky b x n t c) 1 0 0:=by
 have a:=(Sm3.refl b).le (Xq 1) (Q1 0) (Q1 0);unfold Ky
 split
 ·exact a
 ·split
  ·exact a
  ·split
   ·exact a
   ·dsimp only
    split
    ·exact⟨by show (b.Qf++[_]).length≤_;rw[Yd,Y0];exact Q1 _,Q1 _,by show (Xe b.js _).length≤_;rw[G8];exact Q1 _,rfl⟩
    ·exact(Sm3.set b _).le (Xq 1) (Q1 0) (Q1 0)
theorem Sm3.hear(b:Br)(n:Int)(t:Nt)(d:List Int):Sm3 b (X6 b n t d).2 1 0 0:=by
 have a:∀ {c:Br},Sm3 b c 0 0 0→Sm3 b c 1 0 0:=fun h=>h.le (Xq 1) (Q1 0) (Q1 0);unfold X6
 split
 ·exact a (.refl b)
 split
 ·exact a (.heard b _ _)
 split
 ·exact a (.refl b)
 split
 ·show Sm3 b (U8 b _ _ t d) 1 0 0;unfold U8
  split
  ·split
   ·exact a (.set b _)
   ·exact a (.refl b)
  split
  ·exact .saved b _ _ t d
  split
  ·split
   ·exact a (.refl b)
   ·exact a (.gone b _)
  ·exact a (.refl b)
 ·exact a (.refl b)
theorem Sm3.published(b:Br)(id ver:Nat)(ok:Bool):Sm3 b (Q5 b id ver ok).2 0 1 0:=by
 have a:=(Sm3.refl b).le (Q1 0) (Xq 1) (Q1 0);unfold Q5
 split
 ·exact a
 split
 ·exact a
 split
 ·exact a
 ·exact .finish b _
theorem Sm3.cancel(b:Br)(id:Nat):Sm3 b (Xd b id).2 0 0 0:=by
 unfold Xd
 split
 ·exact .refl b
 split
 ·exact .drop b _ false
 split
 ·exact .set b _
 ·exact .refl b
theorem Sm3.load(b:Br)(x:Bj)(s:PL.St):Sm3 b (Jh b x s) 0 0 0:=by
 by_cases a:(Uc b.m x.id s.row s.nodes).1≠0
 ·rw[H6 a];exact⟨Q1 _,Q1 _,Q1 _,rfl⟩
 ·rw[Jg a];exact⟨Q1 _,Q1 _,by show (Xe b.js _).length≤_;rw[G8];exact Q1 _,rfl⟩
theorem Sm3.place(l:List (Nat×PL.St)):∀b:Br,Sm3 b (Xp b l) 0 0 0:=by
 induction l with
 | nil=>exact fun b=>.refl b
 | cons p l a=>
  intro b;have e:Xp b (p::l)=Xp (Ud b p) l:=by rw[X9,X9];rfl
  rw[e];refine Sm3.tr0 ?_ (a _);unfold Ud
  split
  ·split
   ·exact .refl b
   ·exact .load b _ _
  ·exact .refl b
theorem Sm3.preempt(b:Br):Sm3 b (Qy b) 0 0 0:=by
 unfold Qy
 split
 ·exact .refl b
 split
 ·exact .refl b
 split
 ·exact .refl b
 ·exact .each (f:=Ur) (fun b x=>⟨Q1 _,Q1 _,by show (Xe b.js _).length≤_;rw[G8];exact Q1 _,rfl⟩) _ _
theorem Sm3.run(b:Br)(l:List Nat):Sm3 b (Tv b l) 0 0 0:=
 (show Sm3 b (F4 b l) 0 0 0 from ⟨Q1 _,Q1 _,Q1 _,rfl⟩).tr0 (.each (f:=V8) (fun b x=>⟨Q1 _,Q1 _,by show (Xe b.js _).length≤_;rw[G8];exact Q1 _,rfl⟩) _ _)
theorem Sm3.start(b:Br):∀(i:Nat) (row:Int),Sm3 b (Xx b row i) 0 0 0
 | 0,_=>.refl b
 | i+1,row=>by
  rw[Xx]
  split
  ·exact .refl b
  split
  ·exact(show Sm3 b {b with row:=(Xh b.m row).1} 0 0 0 from ⟨Q1 _,Q1 _,Q1 _,rfl⟩).tr0 (.run _ _)
  ·exact .start b i _
theorem Sm3.leave(b:Br)(x:Bj):Sm3 b (Q4 b x) 0 0 0:=by
 unfold Q4
 split
 ·exact .drop b x true
 ·exact .refl b
theorem Sm3.work(b:Br):Sm3 b (V0 b) 0 0 0:=by
 have f:=Sm3.each Sm3.leave b.ids b;have e:=f.tr0 (Sm3.place (zsR (BN.each Q4 b b.ids)) _);have d:=e.tr0 (Sm3.preempt _);have c:=d.tr0 (show Sm3 _ (rep (Qy (Q9 (BN.each Q4 b b.ids)))) 0 0 0 from ⟨Q1 _,Q1 _,Q1 _,rfl⟩);have a:=c.tr0 (Sm3.each Sm3.save (rep (Qy (Q9 (BN.each Q4 b b.ids)))).ids _);exact a.tr0 (Sm3.start _ _ _)
theorem Sm3.tick(b:Br)(now:Nat):Sm3 b (Y7 b now).2 0 0 0:=by
 unfold Y7
 split
 ·exact .refl b
 split
 ·exact⟨Q1 _,Q1 _,Q1 _,rfl⟩
 split
 ·split
  ·exact⟨Q1 _,Q1 _,Q1 _,rfl⟩
  ·exact⟨Q1 _,Q1 _,Q1 _,rfl⟩
 ·exact(show Sm3 b {b with now:=now} 0 0 0 from ⟨Q1 _,Q1 _,Q1 _,rfl⟩).tr0 (.work _)
theorem Qfp{b:Br}(h:Yu b)(d:Ba b){now:Nat}(a:now≤4294967295):Yu (Y7 b now).2∧(Y7 b now).2.Qd.length≤b.Qd.length+70000:=by
 unfold Y7
 split
 ·exact⟨h,U6 ..⟩
 split
 ·exact⟨h.nset a,U6 ..⟩
 split
 ·split
  ·refine⟨Qzn (h.nset a),?_⟩;show (b.Qd++_).length≤_;rw[Yd,Qo]
   have c:((List.range b.nodes).filter fun n=>decide (n∈b.stops.getD [])).length≤b.nodes:=by
    have:=Uw (fun n=>decide (n∈b.stops.getD [])) (List.range b.nodes)
    rwa [Ft]at this
   have c:(List.filter (fun n=>decide (n∈({b with now:=now}:Br).stops.getD [])) (List.range ({b with now:=now}:Br).nodes)).length≤b.nodes:=c;have:=h.Ra;omega
  ·exact⟨h.nset a,U6 ..⟩
 ·exact Q90 (h.nset a) d
abbrev ncE(cr:List (Nat×Nat)):List (Int×Value):=cr.map fun p:Nat×Nat=>((p.1:Int),Value.int .i64 (p.2:Int))
theorem Zhs(cr:List (Nat×Nat))(id:Nat):Yh (id:Int) (ncE cr)=(Yt id cr).map fun v:Nat=>Value.int .i64 (v:Int):=by
 induction cr with
 | nil=>rfl
 | cons x cr a=>
  simp only[Z7,Yh,Yt]
  by_cases h:x.1=id
  ·rw[Qh h,Qh Qb];rfl
  ·rw[Qe h,Qe Qb];exact a
theorem Zhr(cr:List (Nat×Nat))(id v:Nat):Xl (id:Int) (.int .i64 (v:Int)) (ncE cr)=ncE (Wl id v cr):=by
 induction cr with
 | nil=>rfl
 | cons x cr a=>
  simp only[Z7,Xl,Wl]
  by_cases h:x.1=id
  ·rw[Qh h,Qh Qb];rfl
  ·rw[Qe h,Qe Qb];exact Z3 _ a
def L9(cr:List (Nat×Nat))(n:Nd):List (Nat×Nat):=if Ya n.rk≠0 then Wl (Ya n.rk) (V6 (Ya n.rk) cr+1) cr else cr
def Rh(l:List Nd):List (Nat×Nat):=l.foldl L9 []
theorem Qlh(l:List Nd)(n:Nd):Rh (l++[n])=L9 (Rh l) n:=by rw[Rh,Ha];rfl
theorem Qik(l:List Nd)(n:Nd)(id:Nat):Gc (l++[n]) id=Gc l id+if Ya n.rk=id then 1 else 0:=by
 unfold Gc;rw[Gu,Yd]
 congr 1
 by_cases h:Ya n.rk=id
 ·simp[h]
 ·simp[h]
theorem Quw(l:List Nd):(keys (Rh l)).Nodup∧∀id,Yt id (Rh l)=if id≠0∧0<Gc l id then some (Gc l id) else none:=by
 have key:∀(l m:List Nd),((keys (Rh m)).Nodup∧∀id,Yt id (Rh m)=if id≠0∧0<Gc m id then some (Gc m id) else none)→((keys (Rh (m++l))).Nodup∧∀id,Yt id (Rh (m++l))=if id≠0∧0<Gc (m++l) id then some (Gc (m++l) id) else none):=by
  intro l;induction l with
  | nil=>intro m h;rw[X3];exact h
  | cons n l c=>
   intro m h;have e:m++n::l=(m++[n])++l:=Q2
   rw[e];refine c (m++[n]) ?_;rw[Qlh];unfold L9
   by_cases a:Ya n.rk≠0
   ·rw[Qh a];refine⟨Av _ _ h.1,fun id=>?_⟩;rw[Jf,Qik]
    by_cases e2:id=Ya n.rk
    ·rw[Qh e2,Qh e2.symm,Qh ⟨by rw[e2];exact a,Qb⟩]
     congr 1
     rw[V6,h.2,←e2]
     split
     ·rfl
     ·rename_i b;have b:¬(id≠0∧0<Gc m id):=b
      have:Gc m id=0:=by
       have:id≠0:=by rw[e2];exact a
       exact W7 fun f=>b ⟨this,Qb⟩
      rw[this];rfl
    ·have d:(if Ya n.rk=id then 1 else 0)=0:=Qe (fun e3=>e2 e3.symm);rw[Qe e2,d,Qbl];exact h.2 id
   ·rw[Qe a];refine⟨h.1,fun id=>?_⟩;rw[h.2,Qik]
    by_cases e2:Ya n.rk=id
    ·have:id=0:=by rw[←e2];exact W7 a
     rw[Qe (fun h=>h.1 this),Qe (fun h=>h.1 this)]
    ·rw[Qe e2,Qbl]
 have:=key l [] ⟨Fo,fun id=>by rw[Qe (fun h=>absurd h.2 (by simp[Gc]))];rfl⟩
 simpa using this
def hit(s:Sm)(l:List Nd)(id:Nat):Bool:=match Ns s.Wy id with
 | none=>false
 | some j=>T5 l j
def Qji(s:Sm)(l:List Nd)(id:Nat):Nat:=V6 id s.X4+if hit s l id then 1 else 0
theorem Qcd(k v:Nat)(l:List (Nat×Nat))(i:Nat):V6 i (Wl k v l)=if i=k then v else V6 i l:=by
 unfold V6;rw[Jf];split <;> rfl
theorem Qz1(s:Sm)(l:List Nd)(b:(s.Wy.map (·.id)).Nodup)(id:Nat):V6 id (Qgp s l)=Qji s l id:=by
 unfold Qgp Qji hit
 have key:∀(js:List Jo) (r:List (Nat×Nat)),(js.map (·.id)).Nodup→V6 id (js.foldl (fun r j=>if T5 l j then Wl j.id (V6 j.id r+1) r else r) r)=V6 id r+if (match Ns js id with|none=>false|some j=>T5 l j)=true then 1 else 0:=by
  intro js;induction js with
  | nil=>intro r _;rfl
  | cons j js c=>
   intro r b;rw[Z7,Vz]at b;rw[Mi,c _ b.2]
   have e:Ns (j::js) id=if j.id=id then some j else Ns js id:=by
    unfold Ns;rw[List.find?_cons]
    by_cases h:j.id=id
    ·rw[Qh h,Zh h]
    ·rw[Qe h,Q6 h]
   rw[e]
   by_cases h:j.id=id
   ·have f:Ns js id=none:=List.find?_eq_none.2 fun x d=>by
     have:x.id≠id:=fun e9=>b.1 (Qq.2 ⟨x,d,by rw[e9,h]⟩);simp[this]
    rw[Qh h,f];dsimp only
    by_cases a:T5 l j=true
    ·rw[Qh a,Qh a,Qcd,Qh h.symm,h];rfl
    ·rw[Qe a,Qe a];rfl
   ·rw[Qe h]
    by_cases a:T5 l j=true
    ·rw[Qh a,Qcd,Qe (fun e9=>h e9.symm)]
    ·rw[Qe a]
 exact key s.Wy s.X4 b
def Qp0(b:Nat)(g:Nat→Nat):Assn:=fun h=>∃l:List (Int×Value),(∀id:Nat,(Yh (id:Int) l).getD (.int .i64 0)=.int .i64 (g id:Nat))∧Qz b .u32 l h
theorem Ent.Qp0{b:Nat}{f:List (Nat×Nat)}{g:Nat→Nat}(h:∀id,g id=V6 id f)(Γ:List Assn):Ent (Qgr b f::Γ) (Qp0 b g::Γ):=Ent.Kg Γ fun _ ⟨l,a,b⟩=>⟨l,fun id=>by rw[a,h],b⟩
theorem Ent.Zov{b:Nat}{f:List (Nat×Nat)}{g:Nat→Nat}(h:∀id,g id=V6 id f)(Γ:List Assn):Ent (BN.Qp0 b g::Γ) (Qgr b f::Γ):=Ent.Kg Γ fun _ ⟨l,a,b⟩=>⟨l,fun id=>by rw[a,h],b⟩
section
variable {n:Nat}{md:Bool}{w0:WM md}{ρ:Env}{Γ Δ:List Assn}{φ:Act→World→Prop}
theorem S.Zbf(b:Nat)(g:Nat→Nat)[q:Pick (Qp0 b g) Γ Δ](f:∀l:List (Int×Value),(∀id:Nat,(Yh (id:Int) l).getD (.int .i64 0)=.int .i64 (g id:Nat))→S n w0 ρ (Qz b .u32 l::Δ) φ):S n w0 ρ Γ φ:=by
 intro a w k j i;obtain⟨h0,h,o,m,d,e,c,⟨l,q1,q2⟩,s⟩:=j.Qs q.Qs;exact f l q1 a w k ⟨h0,h,o,m,d,e,c,q2,s⟩ i
theorem Ent.Q34{b:Nat}{g:Nat→Nat}{l:List (Int×Value)}(h:∀id:Nat,(Yh (id:Int) l).getD (.int .i64 0)=.int .i64 (g id:Nat))(Γ:List Assn):Ent (Qz b .u32 l::Γ) (BN.Qp0 b g::Γ):=Ent.Kg Γ fun _ s=>⟨l,h,s⟩
end
theorem Q5x(js:List Jo)(id:Nat):Yh (id:Int) (js.map joE)=(Ns js id).map fun j=>Value.agg (joC j).toArray:=by
 unfold Ns;induction js with
 | nil=>rfl
 | cons j js a=>
  rw[Z7,List.find?_cons];simp only[Yh]
  by_cases h:j.id=id
  ·rw[Qh Qb,Zh h];rfl
  ·rw[Qe Qb,Q6 h];exact a
theorem Qu9(z:Int)(v:Value)(l:List (Int×Value))(y:Int):Yh y (Xl z v l)=if y=z then some v else Yh y l:=by
 induction l with
 | nil=>
  simp only[Xl,Yh]
 | cons x l b=>
  simp only[Xl]
  by_cases h:z=x.1
  ·rw[Qh h];simp only[Yh]
   by_cases a:y=z
   ·rw[Qh a,Qh a]
   ·rw[Qe a,Qe a,Qe Qb]
  ·rw[Qe h];simp only[Yh]
   by_cases a:y=x.1
   ·rw[Qh a,Qh a,Qe Qb]
   ·rw[Qe a,Qe a,b]
theorem S.Qkx{n:Nat}{md:Bool}{w0:WM md}{ρ:Env}{Γ:List Assn}{φ:Act→World→Prop}(b:Nat){kk:IntKind}{l:List (Int×Value)}(a:List (Int×Value)){Δ:List Assn}[h:Pe Γ b kk l Δ](c:l=a)(k:S n w0 ρ (Qz b kk a::Δ) φ):S n w0 ρ Γ φ:=S.Qs h.Qs (by subst c;exact k)
theorem Ziv{s:Sm}{l:List Nd}{id:Nat}(h:id∉keys (Rh l)):hit s l id=false:=by
 have d:=(Quw l).2 id;rw[Ea.2 h]at d;have c:¬(id≠0∧0<Gc l id):=fun c=>by rw[Qh c]at d;cases d
 unfold hit;cases e:Ns s.Wy id with
 | none=>rfl
 | some j=>
  have b:j.id=id:=by have f:=List.find?_some e;exact U4 f
  cases a:T5 l j with
  | false=>exact a
  | true=>
   simp only[T5,Z5,Zz]at a;rw[b]at a;exact absurd ⟨a.1.1,a.2⟩ c
structure Znr(s:Sm):Prop where
 tk:Qbd s
 now:s.now+1≤4294967295
 am:Qlk s.nd=true
 am2:Qlk (s.nd.map (Yg (s.now+1)))=true
 ws:Ba s.b
 o7:s.b.Qd.length≤700000
 n16:s.cn≤16
 rn:∀id,V6 id s.X4≤s.now
theorem Q24(now:Nat)(n:Nd):(Yg now n).Yy=n.Yy∧(Yg now n).out=n.out∧(Yg now n).up=n.up∧(Yg now n).Qj=n.Qj:=by
 unfold Yg
 split
 ·split <;> exact⟨rfl,rfl,rfl,rfl⟩
 ·exact⟨rfl,rfl,rfl,rfl⟩
theorem qLe.tick{l:List Nd}{k:Nat}(h:qLe l k)(now:Nat):qLe (l.map (Yg now)) k:=fun n a=>by
 obtain⟨m,b,rfl⟩:=Qq.1 a;obtain⟨e1,e2,_⟩:=Q24 now m;rw[e1,e2];exact h m b
abbrev Qmd(s:Sm):List Nd:=if (Y7 s.b (s.now+1)).1≠0 then Ux (s.nd.map (Yg (s.now+1))) else s.nd.map (Yg (s.now+1))
theorem Qkb(s:Sm):Y2 s=X5 {s with now:=s.now+1,X4:=Qgp s (s.nd.map (Yg (s.now+1))),b:=(Y7 s.b (s.now+1)).2,nd:=Qmd s,ok:=s.ok&&stB s}:=rfl
set_option maxHeartbeats 8000000 in
theorem Qwp(p:Nat)(s:Sm)(l:Znr s){W:World}(hW:Dx W):Spec Tryz.prog 55 [pt p] [SP p s,Wo W] fun Γ _ Θ=>Θ=SP p (Y2 s)::Wo W::Γ:=by
 have aI:=l.tk.n1;have b4:=l.now;have a7:=l.tk.len;have b1:=l.tk.d;have b0:=l.tk.i;refine Zbd Tryz.func55 rfl Tryz.ntmps55 fun w0 Γ=>Zsh ?_;refine S.Hh p s fun b ps nv ns rb jb N P J M O I hF=>?_;have aY:=hF.nn;refine S.Qhn jb fun aq=>?_
 have aL:(s.Wy.map (·.id)).Nodup:=by
  rw[Kk]at aq;refine Ww.2 ((Ww.1 aq).imp fun h e=>h ?_);exact Z3 (fun n:Nat=>(n:Int)) e
 refine S.Xn nv fun aE aU aT=>?_;rw[Qo]at aE;have aZ:maxLen≤9223372036854775807:=by unfold maxLen;omega
 obtain⟨L,hL⟩:∃L,L=s.nd.map (Yg (s.now+1)):=⟨_,rfl⟩;have ai:L.length=s.cn:=by rw[hL,Qo,a7]
 refine ZY 6 (Zv (Bm rfl rfl (Qx7 Qb Qb)) (ZY 6 (Zp (S.makeMap .u32 rfl ?_))));intro A;refine ZY 5 (S.Qkx A (ncE []) rfl (S.X7 p (smC {s with now:=s.now+1} b nv rb jb N P J M O I).toArray rfl (ZY 8 ?_)));refine Zl (fun Y E F=>∃(e:Nat) (ns:List No) (cr:List (Nat×Nat)),Y=s.nd.length-e∧e≤s.nd.length∧cr=Rh (L.take e)∧ns.map (·.2)=L.take e++s.nd.drop e∧E=[(0,pt p),(2,.map (some A)),(19,nv.v),(20,.int .i64 (nv.n:Int)),(21,.int .i64 (e:Int))] ∧   F=Qz A .u32 (ncE cr)::blk p 55 (smC {s with now:=s.now+1} b nv rb jb N P J M O I).toArray::BP b s.b ps::own nv 103 1 (ns.map noV)::alls ns noB::Qgr rb s.X4::Qz jb .u32 (s.Wy.map joE)::Qz N .u32 (E4 s.gone)::Qz P .u32 (E4 s.done)::imgs M s.Qf::Ql1 J::Hf O s.fu::Hf I s.fu::Wo W::Γ) (m:=_) (⟨0,ns,[],rfl,Qb,rfl,by rw[List.take_zero,Q9c];exact hF.nd,rfl,rfl⟩) ?_;rintro Y E F ⟨e,ns,cr,ab,he,G,w,rfl,rfl⟩;refine ZY 5 ?_
 refine Zj ef (fun h1=>?_) (fun h1=>?_)
 ·refine S.Q7 nv Qb fun nb aA L2 _ _ _=>?_;obtain⟨x,hx⟩:=Xs (show e<s.nd.length by omega);have af:L[e]?=some (Yg (s.now+1) x):=by rw[hL,Q8,hx];rfl
  have ah:L.take (e+1)=L.take e++[Yg (s.now+1) x]:=by rw[X2,af];rfl
  have aC:(L.take e++s.nd.drop e)[e]?=some x:=by
   rw[Qlu (by rw[V9];omega),V9,Ny Qb,Qiy,Qsf,Qbl];exact hx
  obtain⟨q,hq⟩:=Qah w aC;obtain⟨m1,m2⟩:=M7 hq (Yg (s.now+1) x)
  have ao:(ns.set e (q,Yg (s.now+1) x)).map (·.2)=L.take (e+1)++s.nd.drop (e+1):=by
   rw[m2,w,Qsg _ _ (by rw[V9];omega),V9,Ny Qb,Qiy,ah,Wb]
   congr 1
   have Ry:=Yz.1 hx;rw[R2 Ry.1];rfl
  have aN:amB x.rk=true:=Kn.1 l.am x (Yn hx);have aR:amB (Yg (s.now+1) x).rk=true:=Kn.1 l.am2 _ (by rw[←hL];exact Yn af);have ak:Rh (L.take (e+1))=L9 cr (Yg (s.now+1) x):=by rw[ah,Qlh,G]
  have aO:∀id,V6 id cr≤1000:=fun id=>by
   rw[V6,G,(Quw _).2]
   split
   ·have:Gc (L.take e) id≤(L.take e).length:=Uw _ _;rw[V9]at this;have:=l.tk.fu;show Gc (L.take e) id≤1000;have:=l.n16;omega
   ·exact Xq _
  refine S.conv (alls ns noB) (Ent.U5 noB hq _) (ZY 5 (Zv (Zx (e) ef (L2) ef Qb) ?_));refine Zv (Zo (nv) (e) ef (L2) (by rw[Q8,hq];rfl)) ?_;refine ZY 8 (Zy (Zp (Zc1 Ze (Zb0 q x (s.now+1) aN) ?_)));rintro v Θ rfl;refine ZY 4 (Zp (Zcp Ze (Qb2 q (Yg (s.now+1) x) aR) ?_));obtain⟨j0,a0⟩:∃j0,j0=Ya (Yg (s.now+1) x).rk:=⟨_,rfl⟩;rw[←a0];refine S.X0 (NI q (Yg (s.now+1) x)) (alls (ns.take e) noB) (alls (ns.drop (e+1)) noB) (Ent.Xo noB (x':=((q,Yg (s.now+1) x):No)) hq _) ?_;rw[←m1];refine ZY 7 ?_
  refine Zj ef (fun h2=>?_) (fun h2=>?_)
  ·have V:L9 cr (Yg (s.now+1) x)=Wl j0 (V6 j0 cr+1) cr:=by rw[L9,←a0,Qh Qb]
   have aJ:=aO j0;obtain⟨c0,ae⟩:∃c0,c0=V6 j0 cr:=⟨_,rfl⟩;rw[←ae]at V aJ;refine ZY 3 ?_;refine Zv (Qx (.int .i64 (c0:Int)) Tryz.underlying44 Tryz.underlying31 Tryz.zv3.h rfl rfl rfl (by rw[Zhs,ae,V6];cases Yt j0 cr <;> rfl)) (Zv (Za ef ef) (Zp (S.mapUpdate Tryz.underlying44 Tryz.underlying31 rfl rfl rfl rfl ?_)));rw[show ((c0:Int)+1)=((c0+1:Nat):Int) by omega,Zhr];refine ZY 2 (S.Qkx A (ncE (Rh (L.take (e+1)))) (by rw[ak,V]) (Zv (Za ef ef) (ZY 2 ?_)));exact ZX (Y-1) (⟨e+1,ns.set e (q,Yg (s.now+1) x),Rh (L.take (e+1)),Qb,Qb,rfl,ao,rfl,rfl⟩) Qb
  ·have V:L9 cr (Yg (s.now+1) x)=cr:=by rw[L9,←a0,Qe Qb]
   refine ZY 2 (S.Qkx A (ncE (Rh (L.take (e+1)))) (by rw[ak,V]) (Zv (Za ef ef) (ZY 2 ?_)));exact ZX (Y-1) (⟨e+1,ns.set e (q,Yg (s.now+1) x),Rh (L.take (e+1)),Qb,Qb,rfl,ao,rfl,rfl⟩) Qb
 ·rw[show L.take e=L by rw[show e=L.length by omega,Wh],show s.nd.drop e=[] by rw[show e=s.nd.length by omega,List.drop_length],X3]at w;rw[show L.take e=L by rw[show e=L.length by omega,Wh]]at G;obtain⟨Z,U⟩:∃Z,Z=cr:=⟨_,rfl⟩;rw[←U]at G ⊢;have U:=G;obtain⟨a1,ad⟩:=Quw L;rw[←U]at a1 ad;refine S.conv (Qgr rb s.X4) (Ent.Qp0 (g:=fun id=>V6 id s.X4) (fun _=>rfl) _) (ZY 5 (Zp (S.range Tryz.underlying44 rfl rfl ?_)));intro a3;refine ZY 2 ?_;refine Zl (fun Y E F=>∃(left:List (Int×Value)) (aj:Option (Int×Value)) (jl:List (Nat×Nat)) (g:Nat→Nat),Y=left.length∧left=ncE jl∧(∀y∈jl,y∈Z)∧(keys jl).Nodup∧(∀id,g id=if id∈keys jl then V6 id s.X4 else Qji s L id)∧E=[(0,pt p),(41,.pointer (some ⟨a3,0,none⟩))] ∧   F=G3 a3 A .u32 (ncE Z) left aj::blk p 55 (smC {s with now:=s.now+1} b nv rb jb N P J M O I).toArray::BP b s.b ps::own nv 103 1 (ns.map noV)::alls ns noB::Qp0 rb g::Qz jb .u32 (s.Wy.map joE)::Qz N .u32 (E4 s.gone)::Qz P .u32 (E4 s.done)::imgs M s.Qf::Ql1 J::Hf O s.fu::Hf I s.fu::Wo W::Γ) (m:=_) (⟨ncE Z,none,Z,fun id=>V6 id s.X4,rfl,rfl,fun y hy=>hy,a1,fun id=>by by_cases c:id∈keys Z;(rw[Qh c]);(rw[Qe c,Qji,Ziv (by rw[←U];exact c)];rfl),rfl,rfl⟩) ?_;rintro Y E F ⟨left,aj,jl,g,ab,Fi,ar,aP,hg,rfl,rfl⟩;refine ZY 2 ?_
  refine Zp (S.Xh rfl rfl (fun aQ=>?_) (fun a av ax X=>?_))
  ·obtain rfl:jl=[]:=by
    rw[aQ]at Fi;exact Fs.1 Fi.symm
   refine S.conv (Qp0 rb g) (Ent.Zov (f:=Qgp s L) (fun id=>by rw[hg,Qe Q2,Qz1 s L aL]) _) ?_;obtain⟨K,Q⟩:∃K:Sm,K={s with now:=s.now+1,X4:=Qgp s L,b:=(Y7 s.b (s.now+1)).2,nd:=Qmd s,ok:=s.ok&&stB s}:=⟨_,rfl⟩;have hT:Y2 s=X5 K:=by rw[Qkb,Q,hL]
   have D:Qmd s=if (Y7 s.b (s.now+1)).1≠0 then Ux L else L:=by rw[hL]
   refine S.J3 b s.b ps fun aH=>?_;obtain⟨_,aV⟩:=Qfp aH l.ws (now:=s.now+1) l.now;have a5:=Sm3.tick s.b (s.now+1);have b3:=a5.im;have b2:=a5.dn;have aX:=l.o7
   have aG:qLe (Qmd s) s.fu:=by
    rw[D]
    split
    ·rw[hL];exact(l.tk.q.tick _).Qj
    ·rw[hL];exact l.tk.q.tick _
   have aK:(Qmd s).length=s.cn:=by
    rw[D]
    split
    ·rw[Dp,ai]
    ·exact ai
   have a9:Qbd K:=by
    rw[Q];exact⟨aK,aI,aG,l.tk.im,l.tk.fu,by show (Y7 s.b (s.now+1)).2.Qd.length≤_;omega,by show (Y7 s.b (s.now+1)).2.Qf.length≤_;omega,by show (Y7 s.b (s.now+1)).2.done.length≤_;omega⟩
   refine ZY 7 ?_;refine Zd ([blk p 55 (smC {s with now:=s.now+1} b nv rb jb N P J M O I).toArray]) [] (Zra 0 8) (ZY 8 ?_);refine Z1 (i:=8) ef ef ?_;refine  (Zcp Ze (Zjw b s.b ps (s.now+1) l.now l.ws l.o7 hW) ?_);refine Zk [9] (Zy ?_);refine ZD ?_
   refine Zj ef (fun h5=>?_) (fun h5=>?_)
   ·rw[Qh h5]at D;refine S.Q7 nv Qb fun nb aA L2 _ _ _=>?_;obtain⟨x0,R⟩:=Xs (show 0<L.length by omega);obtain⟨q0,T⟩:=Qah w R;have aF:Ux L=L.set 0 {x0 with Qj:=true}:=Mr R;obtain⟨m1,m2⟩:=M7 T {x0 with Qj:=true};rw[w]at m2;refine ZY 5 (Zv (Zx (0) ef (L2) ef Qb) ?_);refine Zv (Zo (nv) (0) ef (L2) (by rw[Q8,T];rfl)) ?_;refine S.conv (alls ns noB) (Ent.U5 noB T _) ?_;refine S.E7 q0 x0 fun ay aB az rs os hN=>(ZY 4 ?_);refine S.Yw q0 {x0 with Qj:=true} ay aB az rs os ⟨hN.rk,hN.os,hN.i,hN.o⟩ (S.X0 (noB ((q0,{x0 with Qj:=true}):No)) (alls (ns.take 0) noB) (alls (ns.drop (0+1)) noB) (Ent.Xo noB (x':=((q0,{x0 with Qj:=true}):No)) T _) ?_);rw[←m1];refine S.sub (smX p K b ps nv (ns.set 0 (q0,{x0 with Qj:=true})) rb jb N P J M O I (Wo W::Γ)) (e:=by subst Q;infer_instance) ?_;refine S.Xz p K b ps nv (ns.set 0 (q0,{x0 with Qj:=true})) rb jb N P J M O I ⟨by rw[Q];show _=Qmd s;rw[m2,D,aF],by rw[Q];show nv.n=(Qmd s).length;omega,by rw[Q];exact hF.im⟩ (ZY 2 (Zp (Zc1 Ze (D7 p K a9) ?_)));rintro v Θ rfl;refine Zy ?_;exact Zfn ef Zq (by rw[hT])
   ·rw[Qe h5]at D;refine Zy ?_;refine S.sub (smX p K b ps nv ns rb jb N P J M O I (Wo W::Γ)) (e:=by subst Q;infer_instance) ?_;refine S.Xz p K b ps nv ns rb jb N P J M O I ⟨by rw[Q];show _=Qmd s;rw[w,D],by rw[Q];show nv.n=(Qmd s).length;omega,by rw[Q];exact hF.im⟩ (ZY 2 (Zp (Zc1 Ze (D7 p K a9) ?_)));rintro v Θ rfl;refine Zy ?_;exact Zfn ef Zq (by rw[hT])
  ·obtain⟨x,hx,a4⟩:∃x,jl[a]?=some x∧((x.1:Int),Value.int .i64 (x.2:Int))=(av,ax):=by
    rw[Fi,Q8]at X;exact Df.1 X
   simp only[Hx]at a4;obtain⟨rfl,rfl⟩:=a4;have Dj:=Yn hx;have Jr:=Et (k:=x.1) (v:=x.2) a1 (ar x Dj);rw[ad]at Jr
   obtain⟨R,aD,aS⟩:x.1≠0∧0<Gc L x.1∧Gc L x.1=x.2:=by
    split at Jr
    ·rename_i h;exact⟨h.1,h.2,Hb Jr⟩
    ·cases Jr
   have C:(left.eraseIdx a).length<Y:=by
    rw[ab,Q9d (by have:=(Yz.1 X).1;exact this)];have:=(Yz.1 X).1;omega
   have z:(left.eraseIdx a)=ncE (jl.eraseIdx a):=by rw[Fi];exact(Vr _ jl a).symm
   have B:∀y∈jl.eraseIdx a,y∈Z:=fun y hy=>ar y (Qjb hy);have a6:=M5 hx;have d:(x.1::keys (jl.eraseIdx a)).Nodup:=(a6.map Prod.fst).nodup_iff.1 aP;rw[Vz]at d;have o:∀id,id∈keys jl↔id=x.1∨id∈keys (jl.eraseIdx a):=fun id=>((a6.map Prod.fst).mem_iff).trans Yf;have aa:g x.1=V6 x.1 s.X4:=by rw[hg,Qh ((o _).2 (.inl rfl))]
   have aW:=l.rn x.1;refine ZY 8 (Zv (Cf rfl) (ZY 6 ?_))
   rcases hj:Ns s.Wy x.1 with _|j
   ·have t:hit s L x.1=false:=by rw[hit,hj]
    refine ZY 7 ?_;refine Zv (Qx (.agg #[.int .u32 0,.int .u8 0,.int .i64 0,.int .i64 0,.int .u8 0,.int .i64 0]) Tryz.underlying49 Tryz.underlying31 Tryz.Zgl.h rfl rfl rfl (by rw[Q5x,hj];rfl)) (ZY 3 ?_)
    refine Zj ef (fun h4=>?_) (fun h4=>?_)
    ·exact absurd h4 Qb
    ·have t:hit s L x.1=false:=by
      first
       | exact t
       | (rw[hit,hj];show T5 L j=false;rw[T5,a2,Q6 (show ¬Gc L x.1=j.k by omega),Tc];rfl)
     have r:∀id,g id=if id∈keys (jl.eraseIdx a) then V6 id s.X4 else Qji s L id:=fun id=>by
      rw[hg]
      by_cases c:id=x.1
      ·rw[Qh ((o id).2 (.inl c)),Qe (by rw[c];exact d.1),Qji,c,t];rfl
      ·by_cases u:id∈keys (jl.eraseIdx a)
       ·rw[Qh u,Qh ((o id).2 (.inr u))]
       ·rw[Qe u,Qe (fun h=>by rcases (o id).1 h with h|h;exact c h;exact u h)]
     refine Zy ?_;first|exact ZX (left.eraseIdx a).length ⟨left.eraseIdx a,some ((x.1:Int),Value.int .i64 (x.2:Int)),jl.eraseIdx a,fun id=>if id=x.1 then H+1 else g id,rfl,z,B,d.2,r,rfl,rfl⟩ C|exact ZX (left.eraseIdx a).length ⟨left.eraseIdx a,some ((x.1:Int),Value.int .i64 (x.2:Int)),jl.eraseIdx a,g,rfl,z,B,d.2,r,rfl,rfl⟩ C
   ·have a2:j.id=x.1:=by have u:=List.find?_some hj;exact U4 u
    refine ZY 7 ?_;refine Zv (Qx (.agg (joC j).toArray) Tryz.underlying49 Tryz.underlying31 Tryz.Zgl.h rfl rfl rfl (by rw[Q5x,hj];rfl)) (ZY 3 ?_)
    refine Zj ef (fun h4=>?_) (fun h4=>?_)
    ·have t:hit s L x.1=true:=by rw[hit,hj];simp only[T5,a2,Z5,Zz];exact⟨⟨R,Qb⟩,aD⟩
     refine S.Zbf rb g fun lst al=>?_;obtain⟨H,aM⟩:∃H,H=g x.1:=⟨_,rfl⟩;have a8:=al x.1;rw[←aM]at a8 aa;refine ZY 6 (Zv (Qx (.int .i64 (H:Int)) Tryz.underlying44 Tryz.underlying31 Tryz.zv3.h rfl rfl rfl (a8.symm)) (Zv (Za ef ef) (Zp (S.mapUpdate Tryz.underlying44 Tryz.underlying31 rfl rfl rfl rfl (Zy ?_)))))
     refine S.conv (Qz rb .u32 (Xl (x.1:Int) (.int .i64 ((H:Int)+1)) lst)) (Ent.Q34 (g:=fun id=>if id=x.1 then H+1 else g id) (fun id=>by
      rw[Qu9]
      by_cases c:id=x.1
      ·rw[Qh Qb,Qh c];show Value.int .i64 ((H:Int)+1)=_;congr 1
      ·rw[Qe Qb,Qe c];exact al id) _) ?_
     have r:∀id,(fun id=>if id=x.1 then H+1 else g id) id=if id∈keys (jl.eraseIdx a) then V6 id s.X4 else Qji s L id:=fun id=>by
      show (if id=x.1 then H+1 else g id)=_
      by_cases c:id=x.1
      ·rw[Qh c,Qe (by rw[c];exact d.1),Qji,c,t,aa];rfl
      ·rw[Qe c,hg]
       by_cases u:id∈keys (jl.eraseIdx a)
       ·rw[Qh u,Qh ((o id).2 (.inr u))]
       ·rw[Qe u,Qe (fun h=>by rcases (o id).1 h with h|h;exact c h;exact u h)]
     first|exact ZX (left.eraseIdx a).length ⟨left.eraseIdx a,some ((x.1:Int),Value.int .i64 (x.2:Int)),jl.eraseIdx a,fun id=>if id=x.1 then H+1 else g id,rfl,z,B,d.2,r,rfl,rfl⟩ C|exact ZX (left.eraseIdx a).length ⟨left.eraseIdx a,some ((x.1:Int),Value.int .i64 (x.2:Int)),jl.eraseIdx a,g,rfl,z,B,d.2,r,rfl,rfl⟩ C
    ·have t:hit s L x.1=false:=by
      first
       | exact t
       | (rw[hit,hj];show T5 L j=false;rw[T5,a2,Q6 (show ¬Gc L x.1=j.k by omega),Tc];rfl)
     have r:∀id,g id=if id∈keys (jl.eraseIdx a) then V6 id s.X4 else Qji s L id:=fun id=>by
      rw[hg]
      by_cases c:id=x.1
      ·rw[Qh ((o id).2 (.inl c)),Qe (by rw[c];exact d.1),Qji,c,t];rfl
      ·by_cases u:id∈keys (jl.eraseIdx a)
       ·rw[Qh u,Qh ((o id).2 (.inr u))]
       ·rw[Qe u,Qe (fun h=>by rcases (o id).1 h with h|h;exact c h;exact u h)]
     refine Zy ?_;first|exact ZX (left.eraseIdx a).length ⟨left.eraseIdx a,some ((x.1:Int),Value.int .i64 (x.2:Int)),jl.eraseIdx a,fun id=>if id=x.1 then H+1 else g id,rfl,z,B,d.2,r,rfl,rfl⟩ C|exact ZX (left.eraseIdx a).length ⟨left.eraseIdx a,some ((x.1:Int),Value.int .i64 (x.2:Int)),jl.eraseIdx a,g,rfl,z,B,d.2,r,rfl,rfl⟩ C
theorem Mn{s:Sm}(h:tkB s=true):Qbd s:=by
 simp only[tkB,Z5,Zz,Kn]at h;obtain⟨⟨⟨⟨⟨⟨⟨i,g⟩,f⟩,e⟩,d⟩,c⟩,b⟩,a⟩:=h;exact⟨i,g,f,e,d,c,b,a⟩
theorem Qqe{l:List (Nat×Nat)}{k:Nat}(h:∀x∈l,x.2≤k)(id:Nat):V6 id l≤k:=by
 unfold V6;cases a:Yt id l with
 | none=>exact Xq _
 | some v=>exact h _ (Fc a)
theorem Q3d{s:Sm}(h:stB s=true):Znr s:=by
 simp only[stB,Z5,Zz]at h;obtain⟨⟨⟨⟨⟨⟨⟨k,j⟩,i⟩,g⟩,f⟩,e⟩,d⟩,c⟩:=h;refine⟨Mn k,j,i,g,fun x a h0=>?_,e,d,fun id=>Qqe (fun x a=>U4 (Kn.1 c x a)) id⟩;have:=Kn.1 f x a;rw[E2,Zz]at this
 rcases this with b|b
 ·exact absurd h0 b
 ·exact Qef.1 b
section
variable {s:Sm}{i:Nat}{n:Nd}
theorem Ni{back:Bool}(h:s.nd[i]?=some n)(a:n.up=false):Q3 s i back=(false,s):=by rw[Q3,h];dsimp only;rw[Qh a]
theorem Mf(h:s.nd[i]?=some n)(a:n.out=[]):Q3 s i true=(false,s):=by
 rw[Q3,h];dsimp only;rw[a];split <;> rfl
theorem Qa4{x:Nt×List Int}{l:List (Nt×List Int)}(h:s.nd[i]?=some n)(a:¬n.up=false)(b:n.out=x::l):Q3 s i true=(true,X5 {Ga s i n x l with ok:=s.ok&&ntB x&&tkB s&&decide (s.b.Qd.length≤800000)&&decide (s.b.Qf.length≤800000)&&tkB (Ga s i n x l)}):=by rw[Q3,h];dsimp only;rw[Qe a,Qh rfl,b]
theorem Qc1(h:s.nd[i]?=some n)(a:n.Yy=[]):Q3 s i false=(false,s):=by
 rw[Q3,h];dsimp only;rw[a];split <;> rfl
theorem Qrl{x:Nt}{l:List Nt}(h:s.nd[i]?=some n)(a:¬n.up=false)(b:n.Yy=x::l):Q3 s i false=(true,{Zej s i n x l with ok:=s.ok&&amB n.rk&&tkB s}):=by rw[Q3,h];dsimp only;rw[Qe a,Qe Qp,b]
end
theorem Qbd.R9{s:Sm}(h:Qbd s)(o:Bool):Qbd {s with ok:=o}:=⟨h.len,h.n1,h.q,h.im,h.fu,h.o,h.i,h.d⟩
theorem H3(s:Sm):(X5 s).ok=s.ok:=rfl
set_option maxHeartbeats 8000000 in
theorem Qc3(p:Nat)(s:Sm)(i:Nat)(back:Bool)(hi:i<s.nd.length)(f:(Q3 s i back).2.ok=true):Spec Tryz.prog 57 [pt p,.int .i64 (i:Int),.bool back] [SP p s] fun R v U=>v=.bool (Q3 s i back).1∧U=SP p (Q3 s i back).2::R:=by
 obtain⟨n,G⟩:=Xs hi;refine Zbd Tryz.func57 rfl Tryz.ntmps57 fun w0 R=>Zsh ?_;refine S.Hh p s fun b ps nv ns rb jb C D A B w m y=>?_;have P:=y.nn;refine S.Q7 nv Qb fun nb a0 T _ _ _=>?_;obtain⟨q,t⟩:=Qah y.nd G;refine S.conv (alls ns noB) (Ent.U5 noB t _) ?_;refine S.E7 q n fun h c d rs os j=>?_;have K:=j.i;have J:=j.o;refine ZY 5 ?_
 cases back
 ·skip
  refine ZY 6 (Zv (Zx (i) ef (T) ef Qb) ?_);refine Zv (Zo (nv) (i) ef (T) (by rw[Q8,t];rfl)) ?_;refine ZY 8 (ZY 3 ?_)
  refine Zi ef (fun L=>?_) (fun L=>?_)
  ·have g:=Ni (back:=false) G (by simpa using L);refine ZY 5 (S.Yw q n h c d rs os j (S.X0 (noB ((q,n):No)) (alls (ns.take i) noB) (alls (ns.drop (i+1)) noB) (Ent.Xk noB t _) (S.Xz p s b ps nv ns rb jb C D A B w m y ?_)));exact Zf ef Zq (⟨by rw[g];rfl,by rw[g]⟩)
  ·have H:¬n.up=false:=by simpa using L
   refine ZY 8 (ZY 8 (ZY 8 (ZY 6 ?_)))
   refine Zj ef (fun h3=>?_) (fun h3=>?_)
   ·obtain⟨x,l,z⟩:∃x l,n.Yy=x::l:=by
     cases O:n.Yy with
     | nil=>exfalso;rw[O,Dd]at K;omega
     | cons x l=>exact⟨x,l,rfl⟩
    have g:=Qrl G H z;rw[g]at f ⊢;simp only[Z5]at f;obtain⟨⟨k1,W⟩,Y⟩:=f;have Z:=Mn Y;have a1:=(Z.q n (Yn G)).2;have a2:=Z.fu;have I:1≤c.n:=by rw[z,Ka]at K;omega
    refine S.conv (own c 72 13 (n.Yy.flatMap niC)) (show Ent _ (own c 72 13 ((x::l).flatMap niC)::_) by rw[z];exact Ent.refl _) ?_;refine S.Q7 c Qb fun ob V u _ _ _=>?_;obtain⟨r,k⟩:∃r:Sm,r={Zej s i n x l with ok:=s.ok&&amB n.rk&&tkB s}:=⟨_,rfl⟩;rw[←k];obtain⟨m1,m2⟩:=M7 t (Z9 {n with Yy:=l} x);rw[y.nd]at m2;refine ZY 6 (Zv (Zx (0) ef (u) ef Qb) ?_);refine Zv (Ub (c) (0*13) [_,_,_,_,_,_,_,_,_,_,_,_,_] Eo.h rfl u (by first|rfl|exact Xr _ _ _|omega) rfl (Wr (enc:=niC) (sz:=13) (fun _=>rfl) (show (x::l)[0]?=some x from rfl))) (Zp (S.alloc Tryz.z72.h rfl ?_));intro b9;refine Zp (Zs ef ef (cs':=[_,_,_,_,_,_,_,_,_,_,_,_,_]) ef (ZY 8 (Zp (S.Qbt (s:=c) (1) Eo.h rfl rfl rfl (I) rfl ?_))));intro F a4;rw[show ((x::l).flatMap niC).drop (1*13)=l.flatMap niC from Qvq rfl];refine ZY 8 ?_;refine S.Yw q {n with Yy:=l} h F d rs os ⟨j.rk,j.os,by rw[z,Ka]at K;show F.n=l.length;omega,j.o⟩ ?_;refine Zp (Zc1 Ze (Znq q {n with Yy:=l} x W (by show n.out.length≤_;omega)) ?_);rintro v U rfl;refine ZY 3 (S.X0 (NI q (Z9 {n with Yy:=l} x)) (alls (ns.take i) noB) (alls (ns.drop (i+1)) noB) (Ent.Xo noB (x':=((q,Z9 {n with Yy:=l} x):No)) t _) ?_);rw[←m1];refine S.conv (Hf w s.fu) (Ent.Eu w (k':=s.fu+1) Qb _) (S.conv (Hf m s.fu) (Ent.Eu m (k':=s.fu+1) Qb _) ?_);refine S.sub (smX p r b ps nv (ns.set i (q,Z9 {n with Yy:=l} x)) rb jb C D A B w m R) (e:=by subst k;infer_instance) ?_;refine S.Xz p r b ps nv (ns.set i (q,Z9 {n with Yy:=l} x)) rb jb C D A B w m ⟨by rw[k];exact m2,by rw[k];show nv.n=(s.nd.set i _).length;rw[Xf];exact P,by rw[k];exact y.im⟩ (ZY 3 ?_);exact Zf ef Zq (⟨rfl,rfl⟩)
   ·have g:=Qc1 G (show n.Yy=[] from Ae Qb);refine ZY 6 (S.Yw q n h c d rs os j (S.X0 (noB ((q,n):No)) (alls (ns.take i) noB) (alls (ns.drop (i+1)) noB) (Ent.Xk noB t _) (S.Xz p s b ps nv ns rb jb C D A B w m y ?_)));exact Zf ef Zq (⟨by rw[g];rfl,by rw[g]⟩)
 ·skip
  refine ZY 6 (Zv (Zx (i) ef (T) ef Qb) ?_);refine Zv (Zo (nv) (i) ef (T) (by rw[Q8,t];rfl)) ?_;refine ZY 8 (ZY 3 ?_)
  refine Zi ef (fun L=>?_) (fun L=>?_)
  ·have g:=Ni (back:=true) G (by simpa using L);refine ZY 5 (S.Yw q n h c d rs os j (S.X0 (noB ((q,n):No)) (alls (ns.take i) noB) (alls (ns.drop (i+1)) noB) (Ent.Xk noB t _) (S.Xz p s b ps nv ns rb jb C D A B w m y ?_)));exact Zf ef Zq (⟨by rw[g];rfl,by rw[g]⟩)
  ·have H:¬n.up=false:=by simpa using L
   refine ZY 8 (ZY 6 ?_)
   refine Zj ef (fun h2=>?_) (fun h2=>?_)
   ·obtain⟨x,l,z⟩:∃x l,n.out=x::l:=by
     cases O:n.out with
     | nil=>exfalso;rw[O,Dd]at J;omega
     | cons x l=>exact⟨x,l,rfl⟩
    obtain⟨o,a,rfl⟩:∃o a,os=o::a:=by
     cases O:os with
     | nil=>have:=j.os;rw[O,z]at this;cases this
     | cons o a=>exact⟨o,a,rfl⟩
    have N:=j.os;rw[z,Z7,Hw]at N;obtain⟨rfl,rfl⟩:=N;have g:=Qa4 G H z;rw[g]at f ⊢;rw[H3]at f;simp only[Z5,Zz]at f;obtain⟨⟨⟨⟨⟨k1,W⟩,Y⟩,k4⟩,k5⟩,k6⟩:=f;have M:=W;simp only[ntB,Z5,Zz]at M;obtain⟨⟨⟨e1,e2⟩,e3⟩,e4⟩:=M;have I:1≤d.n:=by rw[z,Ka]at J;omega
    refine S.Q7 d Qb fun ob V u _ _ _=>(S.conv (alls (o::a) otB) (Ent.Ct otB o a _) ?_);refine S.Xn o.v fun Q Uf N6=>?_;rw[Qjy,Kz,Kz]at Q;obtain⟨r,k⟩:∃r:Sm,r={Ga s i n (otR o) (a.map otR) with ok:=s.ok&&ntB (otR o)&&tkB s&&decide (s.b.Qd.length≤800000)&&decide (s.b.Qf.length≤800000)&&tkB (Ga s i n (otR o) (a.map otR))}:=⟨_,rfl⟩;have X:Qbd r:=by rw[k];exact(Mn (s:=Ga s i n (otR o) (a.map otR)) k6).R9 _
    rw[←k];obtain⟨m1,m2⟩:=M7 t {n with out:=a.map otR};rw[y.nd]at m2;refine ZY 6 (Zv (Zx (0) ef (u) ef Qb) ?_);refine Zv (Ub (d) (0*13) [_,_,_,_,_,_,_,_,_,_,_,_,_] Eo.h rfl u (by first|rfl|exact Xr _ _ _|omega) rfl (Wr (enc:=otC) (sz:=13) (fun _=>rfl) (show (o::a)[0]?=some o from rfl))) (Zp (S.alloc Tryz.z72.h rfl ?_));intro b8;refine Zp (Zs ef ef (cs':=[_,_,_,_,_,_,_,_,_,_,_,_,_]) ef (ZY 8 (Zp (S.Qbt (s:=d) (1) Eo.h rfl rfl rfl (I) rfl ?_))));intro E a3;rw[show ((o::a).flatMap otC).drop (1*13)=a.flatMap otC from Qvq (Zbs o)];refine ZY 5 ?_;refine Zd ([blk p 55 (smC s b nv rb jb C D A B w m).toArray,blk b8 72 (otC o).toArray]) [] (Zra 0 6) (ZY 6 ?_);refine Z1 (i:=6) ef ef ?_;refine  (Zcp Ze (Zj4 b s.b ps i o.x (otB o) o.v o.bs Q.symm e4 RdS.own ⟨e2,e3⟩ e1 Qb Qb) ?_);refine Zk [] ?_;refine ZD (ZY 3 ?_);refine S.Yw q {n with out:=a.map otR} h c E rs a ⟨j.rk,rfl,j.i,by rw[z,Ka]at J;show E.n=(a.map otR).length;omega⟩ (S.X0 (noB ((q,{n with out:=a.map otR}):No)) (alls (ns.take i) noB) (alls (ns.drop (i+1)) noB) (Ent.Xo noB (x':=((q,{n with out:=a.map otR}):No)) t _) ?_);rw[←m1];refine S.sub (smX p r b ps nv (ns.set i (q,{n with out:=a.map otR})) rb jb C D A B w m R) (e:=by subst k;infer_instance) ?_;refine S.Xz p r b ps nv (ns.set i (q,{n with out:=a.map otR})) rb jb C D A B w m ⟨by rw[k];exact m2,by rw[k];show nv.n=(s.nd.set i _).length;rw[Xf];exact P,by rw[k];exact y.im⟩ (Zp (Zc1 Ze (D7 p r X) ?_));rintro v U rfl;refine ZY 6 ?_;exact Zf ef Zq (⟨rfl,rfl⟩)
   ·have g:=Mf G (show n.out=[] from Ae Qb);refine ZY 8 (ZY 8 (ZY 6 (S.Yw q n h c d rs os j (S.X0 (noB ((q,n):No)) (alls (ns.take i) noB) (alls (ns.drop (i+1)) noB) (Ent.Xk noB t _) (S.Xz p s b ps nv ns rb jb C D A B w m y ?_)))));exact Zf ef Zq (⟨by rw[g];rfl,by rw[g]⟩)
theorem Qg4{s:Sm}{ok:Bool}(h:s.Qf=[]):Yi s ok=(false,s):=by rw[Yi,h]
theorem Qe5{s:Sm}{ok:Bool}{x:Im}{l:List Im}(h:s.Qf=x::l):Yi s ok=(true,X5 {M3 s x l ok with ok:=s.ok&&tkB s&&decide (s.b.Qd.length≤800000)&&decide (s.b.done.length≤800000)&&tkB (M3 s x l ok)}):=by rw[Yi,h]
set_option maxHeartbeats 4000000 in
theorem Qki(p:Nat)(s:Sm)(ok:Bool)(d:(Yi s ok).2.ok=true):Spec Tryz.prog 58 [pt p,.bool ok] [SP p s] fun A v E=>v=.bool (Yi s ok).1∧E=SP p (Yi s ok).2::A:=by
 refine Zbd Tryz.func58 rfl Tryz.ntmps58 fun J A=>Zsh ?_;refine S.Hh p s fun b ps nv ns rb jb w z t k y r u=>?_;have g:=u.im;refine ZY 8 (ZY 6 ?_)
 refine Zj ef (fun G=>?_) (fun G=>?_)
 ·have h:=Qg4 (ok:=ok) (show s.Qf=[] from Ae Qb);refine ZY 5 (S.Xz p s b ps nv ns rb jb w z t k y r u ?_);exact Zf ef Zq (⟨by rw[h];rfl,by rw[h]⟩)
 ·obtain⟨x,l,q⟩:∃x l,s.Qf=x::l:=by
   cases B:s.Qf with
   | nil=>exfalso;rw[B,Dd]at g;omega
   | cons x l=>exact⟨x,l,rfl⟩
  have h:=Qe5 (ok:=ok) q;rw[h]at d;rw[H3]at d;simp only[Z5,Zz]at d;obtain⟨⟨⟨⟨k1,N⟩,M⟩,L⟩,k5⟩:=d;obtain⟨j,m⟩:∃j:Sm,j={M3 s x l ok with ok:=s.ok&&tkB s&&decide (s.b.Qd.length≤800000)&&decide (s.b.done.length≤800000)&&tkB (M3 s x l ok)}:=⟨_,rfl⟩;have D:Qbd j:=by rw[m];exact(Mn (s:=M3 s x l ok) k5).R9 _
  rw[←m]at h;refine S.L1 k s.Qf fun io f=>?_
  obtain⟨o,a,rfl⟩:∃o a,io=o::a:=by
   cases B:io with
   | nil=>rw[B,q]at f;cases f
   | cons o a=>exact⟨o,a,rfl⟩
  rw[q,Z7,Hw]at f;obtain⟨rfl,rfl⟩:=f;have C:1≤k.n:=by rw[q,Ka]at g;omega
  refine S.Q7 k Qb fun K F n _ _ _=>(ZY 7 (Zv (Zx (0) ef (n) ef Qb) ?_));refine Zv (Ub (k) (0*4) [_,_,_,_] Eo.h rfl n (by first|rfl|exact Xr _ _ _|omega) rfl (Wr (enc:=igC) (sz:=4) (fun _=>rfl) (show (o::a)[0]?=some o from rfl))) (Zp (S.alloc Tryz.z60.h rfl ?_));intro H;refine Zp (Zs ef ef (cs':=[_,_,_,_]) ef (ZY 8 (Zp (S.Qbt (s:=k) (1) Eo.h rfl rfl rfl (C) rfl ?_))));intro c I;rw[show ((o::a).flatMap igC).drop (1*4)=a.flatMap igC from Qvq rfl];refine ZY 5 ?_;refine Zd ([blk p 55 (smC s b nv rb jb w z t c y r).toArray,blk H 60 (igC o).toArray]) [] (Zra 0 9) (ZY 8 (Zy ?_));refine Z1 (i:=9) ef ef ?_;refine  (Zcp Ze (Qr8 b s.b ps o.2.Qu o.2.ver ok Qb Qb) ?_);refine Zk [] ?_;refine ZD (ZY 3 (S.conv (alls (o::a) igB) ((Ent.Ct igB o a _).trans (Ent.drop _ _)) (S.U2 (own c 60 4 (a.flatMap igC)) (alls a igB) (Ent.Ql6 c a _) ?_)));refine S.sub (smX p j b ps nv ns rb jb w z t c y r A) (e:=by subst m;infer_instance) ?_;refine S.Xz p j b ps nv ns rb jb w z t c y r ⟨by rw[m];exact u.nd,by rw[m];exact u.nn,by rw[m];rw[q,Ka]at g;show c.n=(a.map _).length;omega⟩ (Zp (Zc1 Ze (D7 p j D) ?_));rintro v E rfl;refine ZY 6 ?_;exact Zf ef Zq (⟨by rw[h];rfl,by rw[h]⟩)
theorem Cp{s:Sm}{i:Nat}{back:Bool}(h:(Q3 s i back).2.ok=true):s.ok=true:=by
 cases a:s.nd[i]? with
 | none=>rw[Q3,a]at h;exact h
 | some n=>
  by_cases c:n.up=false
  ·rw[Ni a c]at h;exact h
  ·cases back with
   | true=>
    cases b:n.out with
    | nil=>rw[Mf a b]at h;exact h
    | cons x l=>
     rw[Qa4 a c b,H3]at h;simp only[Z5]at h;exact h.1.1.1.1.1
   | false=>
    cases b:n.Yy with
    | nil=>rw[Qc1 a b]at h;exact h
    | cons x l=>
     rw[Qrl a c b]at h;simp only[Z5]at h;exact h.1.1
theorem Qgv{s:Sm}{o:Bool}(h:(Yi s o).2.ok=true):s.ok=true:=by
 cases a:s.Qf with
 | nil=>rw[Qg4 a]at h;exact h
 | cons x l=>
  rw[Qe5 a,H3]at h;simp only[Z5]at h;exact h.1.1.1.1
theorem My{s:Sm}{o:Bool}:∀ {i:Nat},(roundUp s o i).2.ok=true→s.ok=true
 | 0,h=>h
 | _+1,h=>My (Cp (Cp h))
theorem P9:∀ {k:Nat} {s:Sm},(Vy s k).ok=true→s.ok=true
 | 0,_,h=>h
 | k+1,s,h=>by
  simp only[Vy]at h
  split at h
  ·exact Qgv (My (P9 h))
  ·exact Qgv (My h)
theorem Qft{s:Sm}(h:(Y2 s).ok=true):s.ok=true∧stB s=true:=by
 rw[Qkb,H3]at h
 simpa only [Z5] using h
theorem Qzl(s:Sm):(X5 s).nd.length=s.nd.length:=by
 show (List.foldl Jk (U0 s.nd s.b.Qd,s.done) s.b.done).1.length=_;rw[Qii,Qko]
theorem L8(s:Sm)(i:Nat)(back:Bool):(Q3 s i back).2.nd.length=s.nd.length:=by
 cases a:s.nd[i]? with
 | none=>rw[Q3,a]
 | some n=>
  by_cases c:n.up=false
  ·rw[Ni a c]
  ·cases back with
   | true=>
    cases b:n.out with
    | nil=>rw[Mf a b]
    | cons x l=>rw[Qa4 a c b,Qzl];exact Xf
   | false=>
    cases b:n.Yy with
    | nil=>rw[Qc1 a b]
    | cons x l=>rw[Qrl a c b];exact Xf
theorem Qdu(s:Sm)(o:Bool):∀i,(roundUp s o i).2.nd.length=s.nd.length
 | 0=>rfl
 | i+1=>by
  show (Q3 (Q3 (roundUp s o i).2 i false).2 i true).2.nd.length=_;rw[L8,L8,Qdu s o i]
theorem Qgj{s:Sm}{o:Bool}{i:Nat}:∀ {k:Nat},(roundUp s o (i+k)).2.ok=true→(roundUp s o i).2.ok=true
 | 0,h=>h
 | k+1,h=>Qgj (k:=k) (Cp (Cp h))
theorem By(s:Sm)(k:Nat):Vy s (k+1)=if (roundUp (Yi s true).2 (Yi s true).1 (Yi s true).2.nd.length).1 then Vy (roundUp (Yi s true).2 (Yi s true).1 (Yi s true).2.nd.length).2 k else (roundUp (Yi s true).2 (Yi s true).1 (Yi s true).2.nd.length).2:=rfl
set_option maxHeartbeats 4000000 in
theorem Qu1(p:Nat)(s:Sm)(h:(U9 s).ok=true){W:World}(hW:Dx W):Spec Tryz.prog 28 [pt p] [SP p s,Wo W] fun z _ M=>M=SP p (U9 s)::Wo W::z:=by
 obtain⟨k1,R⟩:=Qft (P9 h);obtain⟨T,N⟩:∃T,T=U9 s:=⟨_,rfl⟩;rw[←N]at h ⊢;refine Zbd Tryz.func28 rfl Tryz.ntmps28 fun w0 z=>Zsh ?_;obtain⟨s0,B⟩:∃s0,s0=Y2 s:=⟨_,rfl⟩;refine ZY 3 (Zp (Zc1 Ze (Qwp p s (Q3d R) hW) ?_));rintro v M rfl;rw[←B];refine ZY 6 ?_;refine Zl (fun A a c=>∃(k:Nat) (t:Sm),A=3000-k∧k≤3000∧Vy t A=T∧a=[(0,pt p),(2,.int .i64 (k:Int))]∧c=SP p t::Wo W::z) (m:=_) (⟨0,s0,rfl,Qb,by rw[B];exact N.symm,rfl,rfl⟩) ?_;rintro A a c ⟨k,t,a0,hk,g,rfl,rfl⟩;refine ZY 6 ?_
 refine Zj ef (fun h1=>?_) (fun h1=>?_)
 ·obtain⟨fy,rfl⟩:∃fy,A=fy+1:=⟨A-1,Qb⟩;rw[By]at g;obtain⟨d,q⟩:∃d,d=Yi t true:=⟨_,rfl⟩;rw[←q]at g
  have C:(roundUp d.2 d.1 d.2.nd.length).2.ok=true:=by
   split at g
   ·rw[←g]at h;exact P9 h
   ·rw[←g]at h;exact h
  have I:(Yi t true).2.ok=true:=by rw[←q];exact My C
  refine ZY 6 (Zp (Zcp Ze (Qki p t true I) ?_));rw[←q];refine S.Hh p d.2 fun b ps nv ns rb jb gb db Q U dv P O=>?_;have Y:=O.nn;refine S.Xn nv fun H X V=>?_;rw[Qo]at H;have Z:maxLen≤9223372036854775807:=by unfold maxLen;omega
  refine ZY 8 (ZY 2 (S.Xz p d.2 b ps nv ns rb jb gb db Q U dv P O (ZY 3 ?_)));refine Zl (fun w a c=>∃(i:Nat) (r:Bool×Sm),w=d.2.nd.length-i∧i≤d.2.nd.length∧r=roundUp d.2 d.1 i∧a=[(0,pt p),(2,.int .i64 (k:Int)),(3,.bool r.1),(17,.int .i64 (nv.n:Int)),(18,.int .i64 (i:Int))]∧c=SP p r.2::Wo W::z) (m:=_) (⟨0,d,rfl,Qb,rfl,rfl,rfl⟩) ?_;rintro w a c ⟨i,r,a1,hi,G,rfl,rfl⟩;refine ZY 5 ?_
  refine Zj ef (fun h2=>?_) (fun h2=>?_)
  ·have j:roundUp d.2 d.1 (i+1)=((Q3 (Q3 r.2 i false).2 i true).1 || (Q3 r.2 i false).1 || r.1,(Q3 (Q3 r.2 i false).2 i true).2):=by rw[G];rfl
   have E:(roundUp d.2 d.1 (i+1)).2.ok=true:=Qgj (k:=d.2.nd.length-(i+1)) (by rw[Nat.add_sub_cancel' Qb];exact C);have D:i<r.2.nd.length:=by rw[G,Qdu];omega
   obtain⟨q1,o⟩:∃q1,q1=Q3 r.2 i false:=⟨_,rfl⟩;rw[←o]at j;obtain⟨q2,n⟩:∃q2,q2=Q3 q1.2 i true:=⟨_,rfl⟩;rw[←n]at j;have x:q2.2.ok=true:=by rw[j]at E;exact E
   have L:q1.2.ok=true:=by rw[n]at x;exact Cp x
   have K:i<q1.2.nd.length:=by rw[o,L8];exact D
   obtain⟨F,u⟩:∃F,F=(q1.1 || r.1):=⟨_,rfl⟩;obtain⟨l,y⟩:∃l,l=(q2.1 || F):=⟨_,rfl⟩;rw[Bool.or_assoc,←u,←y]at j;refine ZY 2 ?_
   refine Zc (fun a c=>a=[(0,pt p),(2,.int .i64 (k:Int)),(3,.bool l),(17,.int .i64 (nv.n:Int)),(18,.int .i64 (i:Int))]∧c=SP p q2.2::Wo W::z) ?_ ?_
   ·refine ZY 7 ?_
    refine Zc (fun a c=>a=[(0,pt p),(2,.int .i64 (k:Int)),(3,.bool F),(4,.int .i64 (i:Int)),(17,.int .i64 (nv.n:Int)),(18,.int .i64 (i:Int))]∧c=SP p q1.2::Wo W::z) ?_ ?_
    ·refine ZY 3 ?_;refine Zp (Zcp Ze (Qc3 p r.2 i false D (by rw[←o];exact L)) ?_);rw[←o];refine Zy ?_
     refine Zbb 24 ef (fun f=>?_) (fun f=>?_)
     ·refine ZY 4 ?_;rw[u,f];exact ZM ⟨rfl,rfl⟩
     ·refine ZY 4 ?_;rw[u,f];exact ZM ⟨rfl,rfl⟩
    ·rintro a c ⟨rfl,rfl⟩;refine ZY 3 ?_;refine Zp (Zcp Ze (Qc3 p q1.2 i true K (by rw[←n];exact x)) ?_);rw[←n];refine Zy ?_
     refine Zbb 30 ef (fun e=>?_) (fun e=>?_)
     ·refine ZY 4 ?_;rw[y,e];exact ZM ⟨rfl,rfl⟩
     ·refine ZY 4 ?_;rw[y,e];exact ZM ⟨rfl,rfl⟩
   ·rintro a c ⟨rfl,rfl⟩;refine Zy (Zv (Za ef ef) (ZY 2 ?_));exact ZX (w-1) (⟨i+1,(l,q2.2),Qb,Qb,j.symm,rfl,rfl⟩) Qb
  ·rw[show i=d.2.nd.length by omega]at G;rw[←G]at g;refine ZY 6 ?_
   refine Zi ef (fun J=>?_) (fun J=>?_)
   ·rw[show r.1=false by simpa using J]at g;rw[Qe Qp]at g;refine Zy ?_;exact Zf ef Zq (by rw[←g])
   ·rw[show r.1=true by simpa using J,if_pos rfl]at g;refine ZY 3 (Zv (Za ef ef) (ZY 2 ?_));exact ZX (fy) (⟨k+1,r.2,Qb,Qb,g,rfl,rfl⟩) Qb
 ·obtain rfl:A=0:=Qb
  replace g:t=T:=g;refine Zy ?_;exact Zfn ef Zq (by rw[←g])
theorem Q7z(n r q g:Nat)(f:n≤255)(d:r≤255)(e:q≤255)(h:g≤255):Spec Tryz.prog 10 [.int .u8 (n:Int),.int .u8 (r:Int),.int .u8 (q:Int),.int .u8 (g:Int)] [] fun a v b=>v=.agg #[.int .i64 ((1+n % 6:Nat):Int),.int .i64 ((1+r % 4:Nat):Int),.int .i64 ((1+q % 6:Nat):Int),.int .i64 ((1+g % 9:Nat):Int)]∧b=a:=by
 refine Zbd Tryz.func10 rfl Tryz.ntmps10 fun c a=>Zsh (ZY 2 (Zp (S.alloc Tryz.z25.h rfl ?_)));intro i;refine ZY 4 ?_;refine Zv (Rt rfl rfl (⟨Qb,Qb⟩)) ?_;refine Zv (Vu Tryz.it3.h (by rw[Tryz.underlying5];rfl) rfl (Xy Qb Qb)) (Zv (Za ef ef) (Zy ?_));refine Zv (Rt rfl rfl (⟨Qb,Qb⟩)) ?_;refine Zv (Vu Tryz.it3.h (by rw[Tryz.underlying5];rfl) rfl (Xy Qb Qb)) (Zv (Za ef ef) (Zy ?_));refine Zv (Rt rfl rfl (⟨Qb,Qb⟩)) ?_;refine Zv (Vu Tryz.it3.h (by rw[Tryz.underlying5];rfl) rfl (Xy Qb Qb)) (Zv (Za ef ef) (Zy ?_));refine Zv (Rt rfl rfl (⟨Qb,Qb⟩)) ?_;refine Zv (Vu Tryz.it3.h (by rw[Tryz.underlying5];rfl) rfl (Xy Qb Qb)) (Zv (Za ef ef) ?_);refine Zv (Ye (pvs:=[(_,_),(_,_),(_,_),(_,_)]) [_,_,_,_] Tryz.z25.h Tryz.p25.h ⟨⟨rfl,rfl⟩,⟨rfl,rfl⟩,⟨rfl,rfl⟩,⟨rfl,rfl⟩,trivial⟩ rfl) (Zp (Zs ef ef (cs':=[_,_,_,_]) ef (ZY 2 ?_)));exact Zf ef Zq (⟨rfl,rfl⟩)
abbrev nd0:Nd:=⟨true,[],[],[],false⟩
theorem Zow(b:Nat)(a:List Assn):Ent (Qz b .u32 []::a) (Qgr b []::a):=Ent.Kg a fun _ s=>⟨[],fun _=>rfl,s⟩
theorem Zb8(k:Nat)(a:List Assn):Ent a (Hf SV.nil k::a):=(show Ent a (own SV.nil 31 1 (Yp [])::a) from Ent.Xb 31 1).trans (Ent.lst SV.nil (l:=[]) (Xq _) rfl a)
theorem niE(p rb:Nat)(up wr:Bool)(a:List Assn):Ent (blk p 107 #[.bool up,.map (some rb),SV.nil.v,SV.nil.v,.bool wr]::Qz rb .u32 []::a) (NI p ⟨up,[],[],[],wr⟩::a):=by
 have c:Ent a (own SV.nil 72 13 (([]:List Nt).flatMap niC)::own SV.nil 72 13 (([]:List Ot).flatMap otC)::alls ([]:List Ot) otB::a):=(Ent.Fk otB a).trans ((Ent.Xb 72 13).trans (Ent.Xb 72 13));have b:Ent (blk p 107 #[.bool up,.map (some rb),SV.nil.v,SV.nil.v,.bool wr]::Qz rb .u32 []::a) (ndX p ⟨up,[],[],[],wr⟩ rb SV.nil SV.nil [] [] a):=Ent.cons _ (Ent.cons _ ((Ent.Fk roB a).trans (Ent.cons _ c)));exact b.trans ((Ent.pack (ndX p ⟨up,[],[],[],wr⟩ rb SV.nil SV.nil [] [] []) a).trans (Ent.Kg a fun _ s=>⟨rb,SV.nil,SV.nil,[],[],⟨rfl,rfl,rfl,rfl⟩,s⟩))
theorem ni0(p rb:Nat)(a:List Assn):Ent (blk p 107 #[.bool true,.map (some rb),SV.nil.v,SV.nil.v,.bool false]::Qz rb .u32 []::a) (NI p nd0::a):=niE p rb true false a
def Dl(b:Br)(i:Nat):Br:=(List.range i).foldl (fun b (i:Nat)=>(Ja b i).2) b
theorem Qbp(b:Br)(i:Nat):Dl b (i+1)=(Ja (Dl b i) (i:Nat)).2:=by rw[Dl,Qol,Ha];rfl
set_option maxHeartbeats 4000000 in
theorem Qyx(N R Q G:Nat)(A:1≤R)(z:R≤8)(D:1≤N)(O:N≤16)(C:1≤Q)(B:Q≤1000)(F:1≤G)(E:G≤1000) :
  Spec Tryz.prog 19 [.agg #[.int .i64 (N:Int),.int .i64 (R:Int),.int .i64 (Q:Int),.int .i64 (G:Int)]] [] fun r v J=>∃p,v=pt p∧J=SP p (Uv N R Q G)::r:=by
 refine Zbd Tryz.func19 rfl Tryz.ntmps19 fun P r=>Zsh ?_;obtain⟨l,j⟩:∃l,l=Uv N R Q G:=⟨_,rfl⟩;obtain⟨n0,u⟩:∃n0,n0=Qcc N R Q G 0:=⟨_,rfl⟩;rw[←j];refine ZY 2 (Zp (S.box (cs:=[_,_,_,_]) rfl rfl rfl ?_));intro U;refine ZY 5 (Zp (Zc1 Ze (Zkb N R Q G 0 A z D O C B F E) ?_));rintro v J ⟨b,ps,rfl,rfl⟩;rw[←u];refine ZY 8 (ZY 8 (ZF ef (ZY 5 (Zp (S.makeMap .u32 rfl ?_)))));intro c;refine Zp (S.makeMap .u32 rfl ?_);intro h;refine Zp (S.makeMap .u32 rfl ?_);intro g;refine Zp (S.makeMap .u32 rfl ?_);intro f;refine Zp (S.makeMap .u32 rfl ?_);intro a;refine Zv (Ye (pvs:=[(_,_),(_,_),(_,_),(_,_),(_,_),(_,_),(_,_),(_,_)]) [_,_,_,_,_,_,_,_,_,_,_,_,_,_,_,_] Tryz.z55.h Tryz.p55.h ⟨⟨rfl,rfl⟩,⟨rfl,rfl⟩,⟨rfl,rfl⟩,⟨rfl,rfl⟩,⟨rfl,rfl⟩,⟨rfl,rfl⟩,⟨rfl,rfl⟩,⟨rfl,rfl⟩,trivial⟩ rfl) (Zp (S.box (cs:=[_,_,_,_,_,_,_,_,_,_,_,_,_,_,_,_]) rfl rfl rfl ?_));intro e;refine ZY 5 ?_;refine S.X7 e (smC l b SV.nil c h g f a SV.nil SV.nil SV.nil).toArray (by rw[j];rfl) (S.Qs (Ent.Fk noB _) ?_);refine S.Qs (show Ent _ (own SV.nil 103 1 (([]:List No).map noV)::_) from Ent.Xb 103 1) (ZY 5 ?_);refine Zl (fun H o q=>∃(i:Nat) (nv:SV) (ns:List No) (n:Br),H=N-i∧i≤N∧nv.n=i∧ns.map (·.2)=List.replicate i nd0∧n=Dl n0 i∧o=[(3,pt b),(5,pt e),(28,.int .i64 (N:Int)),(29,.int .i64 (i:Int))]∧q=blk e 55 (smC l b nv c h g f a SV.nil SV.nil SV.nil).toArray::own nv 103 1 (ns.map noV)::alls ns noB::BP b n ps::Qz c .u32 []::Qz h .u32 []::Qz g .u32 []::Qz f .u32 []::Qz a .u32 []::r) (m:=_) (⟨0,SV.nil,[],n0,rfl,Qb,rfl,rfl,rfl,rfl,rfl⟩) ?_;rintro H o q ⟨i,nv,ns,n,K,T,y,t,w,rfl,rfl⟩;refine ZY 5 ?_
 refine Zj ef (fun L=>?_) (fun L=>?_)
 ·refine ZY 8 (ZY 7 (Zp (S.makeMap .u32 rfl ?_)));intro k;refine Zv (Ye (pvs:=[(_,_),(_,_)]) [_,_,_,_,_] Tryz.z107.h Tryz.Zlg.h ⟨⟨rfl,rfl⟩,⟨rfl,rfl⟩,trivial⟩ rfl) (Zp (S.box (cs:=[_,_,_,_,_]) rfl rfl rfl ?_));intro d;refine Zp (S.buildSlice (pvs:=[(_,_)]) [_] Tryz.underlying48 Tryz.Q57.h rfl rfl ⟨⟨rfl,rfl⟩,trivial⟩ rfl rfl ?_);intro I;refine Zp (S.Z6 (s:=nv) (1) ([pt d]) Tryz.underlying48 Tryz.Q57.h rfl rfl rfl (Yb (b:=I) rfl (by unfold maxLen;omega)) (by first|rfl|exact Qw _) (⟨Qb,Qb⟩) rfl ?_);intro x M;rw[show ns.map noV++[pt d]=(ns++[((d,nd0):No)]).map noV by rw[Vc];rfl];refine ZY 7 (Zp (Zcp Ze (Q14 b n ps i) (ZY 2 (S.U2 (blk d 107 #[.bool true,.map (some k),SV.nil.v,SV.nil.v,.bool false]) (Qz k .u32 []) (ni0 d k _) (S.U2 (NI d nd0) (alls ns noB) (Ent.Ew noB ns ((d,nd0):No) _) (Zv (Za ef ef) (ZY 2 ?_)))))));exact ZX (H-1) (⟨i+1,x,ns++[(d,nd0)],(Ja n (i:Nat)).2,Qb,Qb,Qb,by rw[Vc,t,List.replicate_succ'];rfl,by rw[w,Qbp],rfl,rfl⟩) Qb
 ·obtain rfl:i=N:=Qb
  refine ZY 7 (S.conv (Qz c .u32 []) (Zow c _) (S.conv (Qz a .u32 []) (Ent.war a [] _) (S.Qs (Zb8 0 _) (S.Qs (Zb8 0 _) (S.Qs (Q59 _) (S.sub (blk e 55 (smC l b nv c h g f a SV.nil SV.nil SV.nil).toArray::BP b n ps::own nv 103 1 (ns.map noV)::alls ns noB::Qgr c []::Qz h .u32 []::Qz g .u32 []::Qz f .u32 []::imgs SV.nil []::Ql1 a::Hf SV.nil 0::Hf SV.nil 0::r) ?_))))));refine S.Qs (show Ent _ (smX e l b ps nv ns c h g f a SV.nil SV.nil SV.nil r) by subst j;subst w;subst u;exact Ent.refl _) ?_;refine S.Xz e l b ps nv ns c h g f a SV.nil SV.nil SV.nil ⟨by rw[t,j];rfl,by rw[j,y];exact Pj.symm,by rw[j];rfl⟩ ?_;exact Zf ef Zq (⟨e,rfl,rfl⟩)
def sA:Sm:={Uv 2 1 5 3 with Wy:=[⟨1,0,2,3⟩],b:=(Ex (Uv 2 1 5 3).b (Kl 1 0 2 3 0 0)).2}
def aw:Nat→Sm
 | 0=>sA
 | k+1=>U9 (aw k)
theorem Zge:(aw 200).ok=true∧1∈(aw 200).done∧3≤V6 1 (aw 200).X4∧(aw 200).b.js=[]:=by decide +kernel
theorem S.Q32{n:Nat}{j:Bool}{i:WM j}{e:Env}{h g:List Assn}{c:Act→World→Prop}(b:Nat)(f:List (Nat×Nat))[q:Pick (Qgr b f) h g](k:∀l:List (Int×Value),(∀id:Nat,(Yh (id:Int) l).getD (.int .i64 0)=.int .i64 (V6 id f:Nat))→S n i e (Qz b .u32 l::g) c):S n i e h c:=by
 intro a w u t r;obtain⟨h0,p,x,v,d,o,m,⟨l,q1,q2⟩,s⟩:=t.Qs q.Qs;exact k l q1 a w u ⟨h0,p,x,v,d,o,m,q2,s⟩ r
theorem Zno{k:Nat}(h:k≤200):(aw k).ok=true:=by
 have key:∀j,j+k≤200→(aw (j+k)).ok=true→(aw k).ok=true:=by
  intro j;induction j with
  | zero=>intro _ h;rwa [Qj2]at h
  | succ j b=>
   intro c a;refine b Qb ?_;rw[show j+1+k=(j+k)+1 by omega]at a;exact(Qft (P9 a)).1
 refine key (200-k) Qb ?_;rw[show 200-k+k=200 by omega];exact Zge.1
theorem Zgy:Ey (Uv 2 1 5 3).b (Kl 1 0 2 3 0 0)=true∧(Uv 2 1 5 3).b.js.length≤999∧(Uv 2 1 5 3).b.Qd.length≤900000∧(Uv 2 1 5 3).b.done.length≤900000:=by decide +kernel
set_option maxHeartbeats 4000000 in
theorem Zea{W:World}(K:Dx W):Spec Tryz.prog 9 [] [Wo W] fun q v g=>v=.bool true∧g=Wo W::q:=by
 obtain⟨B0,a⟩:∃B0,B0=Uv 2 1 5 3:=⟨_,rfl⟩;obtain⟨H,G,F,E⟩:=Zgy;rw[←a]at H G F E;obtain⟨d,o⟩:∃d,d=sA:=⟨_,rfl⟩;have c:d={B0 with Wy:=[⟨1,0,2,3⟩],b:=(Ex B0.b (Kl 1 0 2 3 0 0)).2}:=by rw[o,a];rfl
 refine Zbd Tryz.func9 rfl Tryz.ntmps9 fun M q=>Zsh (ZY 6 ?_);refine Zv (Ye (pvs:=[(_,_),(_,_),(_,_),(_,_)]) [_,_,_,_] Tryz.z25.h Tryz.p25.h ⟨⟨rfl,rfl⟩,⟨rfl,rfl⟩,⟨rfl,rfl⟩,⟨rfl,rfl⟩,trivial⟩ rfl) (Zp (Zc1 Ze (Qyx 2 1 5 3 Qb Qb Qb Qb Qb Qb Qb Qb) ?_));rintro v g ⟨p,rfl,rfl⟩;rw[←a];refine ZY 8 (ZF ef (ZY 4 ?_));refine S.Hh p B0 fun b ps nv ns rb jb y A s u z r x=>?_;refine S.Qkx jb [] (by rw[a];rfl) (ZY 3 ?_);refine Zv (Ye (pvs:=[(_,_),(_,_),(_,_)]) [_,_,_,_,_,_] Tryz.z35.h Tryz.p35.h ⟨⟨rfl,rfl⟩,⟨rfl,rfl⟩,⟨rfl,rfl⟩,trivial⟩ rfl) (Zp (S.mapUpdate Tryz.underlying49 Tryz.underlying31 rfl rfl rfl rfl ?_));refine S.Qkx jb (([⟨1,0,2,3⟩]:List Jo).map joE) rfl (ZY 2 ?_);refine Zd ([blk p 55 (smC B0 b nv rb jb y A s u z r).toArray,Qz jb .u32 (([⟨1,0,2,3⟩]:List Jo).map joE)]) [] (Zra 0 9) (ZY 8 ?_);refine Zw ef (Qx (.agg (joC ⟨1,0,2,3⟩).toArray) Tryz.underlying49 Tryz.underlying31 Tryz.Zgl.h rfl rfl rfl (rfl)) ?_;refine Z1 (i:=9) ef ef ?_;refine  (Zc1 Ze (Zgk b B0.b ps 1 0 2 3 0 0 0 Qb H G F E) ?_);rintro v g ⟨j,rfl,rfl⟩;refine Zk [] ?_;refine ZD (ZY 3 ?_);refine S.sub (smX p d b j nv ns rb jb y A s u z r (Wo W::q)) (e:=by rw[c];infer_instance) ?_;refine S.Xz p d b j nv ns rb jb y A s u z r ⟨by rw[c];exact x.nd,by rw[c];exact x.nn,by rw[c];exact x.im⟩ (ZY 3 ?_);refine Zl (fun C f h=>∃(k:Nat) (t:Sm),C=200-k∧k≤200∧t=aw k∧f=[(1,pt p),(21,.int .i64 (k:Int))]∧h=SP p t::Wo W::q) (m:=_) (⟨0,d,rfl,Qb,o,rfl,rfl⟩) ?_;rintro C f h ⟨k,t,J,N,w,rfl,rfl⟩;refine ZY 5 ?_
 refine Zj ef (fun L=>?_) (fun L=>?_)
 ·refine ZY 5 ?_;refine Zp (Zc1 Ze (Qu1 p t (by rw[w];exact Zno (k:=k+1) Qb) K) ?_);rintro v g rfl;refine ZY 2 (Zv (Za ef ef) (ZY 2 ?_));exact ZX (C-1) (⟨k+1,U9 t,Qb,Qb,by rw[w];rfl,rfl,rfl⟩) Qb
 ·rw[show k=200 by omega]at w;obtain⟨_,e1,e2,e3⟩:=Zge;rw[←w]at e1 e2 e3;refine S.Hh p t fun b ps nv ns rb jb y A s u z r x=>(ZY 7 ?_);refine Zv (Qx (.bool true) Tryz.underlying50 Tryz.underlying31 Tryz.zv4.h rfl rfl rfl (by rw[show Yh 1 (E4 t.done)=some (.bool true) from (Ca t.done 1).trans (Qh e1)];rfl)) (ZY 5 ?_);refine S.Q32 rb t.X4 fun lst D=>?_;obtain⟨c0,B⟩:∃c0,c0=V6 1 t.X4:=⟨_,rfl⟩;have n:=D 1;rw[←B]at e2 n;refine Zvg ef ef ef (Qx (.int .i64 (c0:Int)) Tryz.underlying44 Tryz.underlying31 Tryz.zv3.h rfl rfl rfl (n.symm)) (ZY 3 (Zu 39 true ef ((Zh Qb)) (ZY 4 (Zg ef ef ef (Zc1 Ze (Qod b t.b ps) ?_)))));rintro v g ⟨I,rfl,l,rfl⟩;rw[e3]at l;refine ZY 6 ?_;exact Zf ef Zq (⟨by rw[Zh (show (I.n:Int)=0 by rw[l];rfl)];rfl,rfl⟩)
def noK(k:Nat)(q:List Nt):Prop:=∀x∈q,x.kind≠k
def Lp(k:Nat)(q:List (Nt×List Int)):Prop:=∀x∈q,x.1.kind≠k
def Q7j(g:Nat)(m:List Nat)(q:List Nt):Prop:=∀x∈q,x.kind=5→x.gen=g∧x.Qu∈m
def Re(g:Nat)(m:List Nat)(rk:Rs):Prop:=∀y∈rk,y.2.run=true→y.2.gen=g∧y.1∈m
theorem noK.app{k:Nat}{q e:List Nt}(h:noK k q)(b:noK k e):noK k (q++e):=fun x a=>by
 rcases Xu.1 a with a|a
 ·exact h x a
 ·exact b x a
theorem K8.put{l:Rs}(h:K8 l)(k:Nat){r:Rk}(b:r.run=false):K8 (Wl k r l):=fun y a=>by
 rcases Hk a with rfl|a
 ·exact b
 ·exact h y a
theorem K8.del{l:Rs}(h:K8 l)(k:Nat):K8 (Fe k l):=fun y a=>h y (Ax a)
theorem Re.put{g:Nat}{m:List Nat}{l:Rs}(h:Re g m l)(k:Nat){r:Rk}(c:r.run=true→r.gen=g∧k∈m):Re g m (Wl k r l):=fun y a b=>by
 rcases Hk a with rfl|a
 ·exact c b
 ·exact h y a b
theorem Re.del{g:Nat}{m:List Nat}{l:Rs}(h:Re g m l)(k:Nat):Re g m (Fe k l):=fun y a=>h y (Ax a)
theorem Gm.del{l:Rs}(h:Gm l)(k:Nat):Gm (Fe k l):=fun y b z a=>h y (Ax b) z (Ax a)
theorem Gm.put{l:Rs}(h:Gm l)(k:Nat){r:Rk}(e:r.run=false):Gm (Wl k r l):=fun y b z a d c=>by
 rcases Hk b with rfl|b
 ·rw[show ((k,r):Nat×Rk).2.run=false from e]at d;cases d
 ·rcases Hk a with rfl|a
  ·rw[show ((k,r):Nat×Rk).2.run=false from e]at c;cases c
  ·exact h y b z a d c
theorem K8.Zo2{l:Rs}(h:K8 l)(k:Nat)(r:Rk):Gm (Wl k r l):=fun y b z a d c=>by
 rcases Hk b with rfl|b
 ·rcases Hk a with rfl|a
  ·rfl
  ·rw[h z a]at c;cases c
 ·rw[h y b]at d;cases d
theorem Qfs{l:Rs}(h:Gm l)(f:pos l)(g:(keys l).Nodup){r:Rk}(d:r.run=false):K8 (Wl (Ya l) r l):=by
 intro y a;have i:=Av (Ya l) r g
 by_cases e:y.1=Ya l
 ·have c:=Et (k:=y.1) (v:=y.2) i a;rw[Jf,Qh e]at c;cases c;exact d
 ·rcases Hk a with rfl|a
  ·exact absurd rfl e
  ·cases b:y.2.run with
   | false=>rfl
   | true=>exact absurd (Qgh h f a b).symm e
theorem pos.put{l:Rs}(h:pos l){k:Nat}(b:k≠0)(r:Rk):pos (Wl k r l):=fun y a=>by
 rcases Hk a with rfl|a
 ·exact b
 ·exact h y a
theorem pos.del{l:Rs}(h:pos l)(k:Nat):pos (Fe k l):=fun y a=>h y (Ax a)
inductive Ph (g:Nat) (m:List Nat) (on st:Bool) (rk:Rs) (q:List Nt) (out:List (Nt×List Int)):Prop
 | rest:on=false→noK 5 q→noK 6 q→Lp 7 out→K8 rk→Ph g m on st rk q out
 | go:on=true→st=false→noK 6 q→Lp 7 out→Q7j g m q→Re g m rk→Ph g m on st rk q out
 | stop (a:List Nt) (s:Nt) (c:List Nt):on=true→st=true→q=a++s::c→s.kind=6→s.gen=g→noK 6 a→noK 5 c→noK 6 c→Q7j g m a→Re g m rk→Lp 7 out→Ph g m on st rk q out
 | said (a:List (Nt×List Int)) (s:Nt×List Int) (c:List (Nt×List Int)):on=true→st=true→noK 5 q→noK 6 q→K8 rk→out=a++s::c→s.1.kind=7→s.1.gen=g→Lp 7 a→Lp 7 c→Ph g m on st rk q out
theorem K8.ru{l:Rs}(h:K8 l)(g:Nat)(m:List Nat):Re g m l:=fun y b a=>by rw[h y b]at a;cases a
theorem Ph.ru{g:Nat}{m:List Nat}{on st:Bool}{rk:Rs}{q:List Nt}{out:List (Nt×List Int)}(h:Ph g m on st rk q out):Re g m rk∧(∀y∈rk,y.2.run=true→on=true):=by
 cases h with
 | rest e _ _ _ d=>exact⟨d.ru g m,fun y f b=>by rw[d y f]at b;cases b⟩
 | go e _ _ _ _ i=>exact⟨i,fun _ _ _=>e⟩
 | stop a s c e _ _ _ _ _ _ _ _ i _=>exact⟨i,fun _ _ _=>e⟩
 | said a s c e _ _ _ d _ _ _ _ _=>exact⟨d.ru g m,fun y f b=>by rw[d y f]at b;cases b⟩
theorem Ph.app{g:Nat}{m:List Nat}{on st:Bool}{rk:Rs}{q:List Nt}{out:List (Nt×List Int)}(h:Ph g m on st rk q out){e:List Nt}(p:noK 5 e)(o:noK 6 e):Ph g m on st rk (q++e) out:=by
 cases h with
 | rest k i f d b=>exact .rest k (i.app p) (f.app o) d b
 | go k i f d b n=>exact .go k i (f.app o) d (fun x l w=>by
   rcases Xu.1 l with l|l
   ·exact b x l w
   ·exact absurd w (p x l)) n
 | stop a s c k i f d b n u t r j v=>exact .stop a s (c++e) k i (by rw[f];simp) d b n (u.app p) (t.app o) r j v
 | said a s c k i f d b n u t r j=>exact .said a s c k i (f.app p) (d.app o) b n u t r j
theorem Ph.other{g:Nat}{m:List Nat}{on st:Bool}{rk:Rs}{q:List Nt}{x:Nt×List Int}{out:List (Nt×List Int)}(h:Ph g m on st rk q (x::out))(r:x.1.kind≠7):Ph g m on st rk q out:=by
 have tl:Lp 7 (x::out)→Lp 7 out:=fun h y u=>h y (Ym _ u);cases h with
 | rest k i f e d=>exact .rest k i f (tl e) d
 | go k i f e d b=>exact .go k i f (tl e) d b
 | stop a s c k i f e d b l o n j p=>exact .stop a s c k i f e d b l o n j (tl p)
 | said a s c k i f e d b l o n j=>
  cases a with
  | nil=>rw[Gf,Hw]at b;rw[b.1]at r;exact absurd l r
  | cons y a=>
   rw[Nx,Hw]at b;exact .said a s c k i f e d b.2 l o (fun z t=>n z (Ym _ t)) j
theorem Ph.Qn{g:Nat}{m:List Nat}{on st:Bool}{rk:Rs}{q:List Nt}{x:Nt×List Int}{out:List (Nt×List Int)}(h:Ph g m on st rk q (x::out))(p:x.1.kind=7):on=true∧st=true∧x.1.gen=g∧∀v u l,Ph v u false l rk q out:=by
 have n:Lp 7 (x::out)→False:=fun h=>h x (Z0 ..) p;cases h with
 | rest k j i d f=>exact(n d).elim
 | go k j i d f b=>exact(n d).elim
 | stop a s c k j i d f b w t r e o=>exact(n o).elim
 | said a s c k j i d f b w t r e=>
  cases a with
  | nil=>
   rw[Gf,Hw]at b;obtain⟨e1,e2⟩:=b;subst e1 e2;exact⟨k,j,t,fun _ _ _=>.rest rfl i d e f⟩
  | cons y a=>
   rw[Nx,Hw]at b;exact absurd p (by rw[b.1];exact r y (Z0 ..))
theorem noK.tl{k:Nat}{x:Nt}{q:List Nt}(h:noK k (x::q)):noK k q:=fun y a=>h y (Ym _ a)
theorem Q7j.tl{g:Nat}{m:List Nat}{x:Nt}{q:List Nt}(h:Q7j g m (x::q)):Q7j g m q:=fun y a=>h y (Ym _ a)
structure Quiet(nd nd':Nd):Prop where
 no:K8 nd.rk→K8 nd'.rk
 ru:∀g m,Re g m nd.rk→Re g m nd'.rk
 out:∃o,nd'.out=nd.out++o∧Lp 7 o
theorem Qaj(k:Nat):Lp k []:=fun _ h=>by cases h
theorem Qhe{k:Nat}{x:Nt×List Int}(h:x.1.kind≠k):Lp k [x]:=fun y a=>by rw[Vd.1 a];exact h
theorem Qlo{nd:Nd}{x:Nt}(b:x.kind≠5)(a:x.kind≠6):Quiet nd (Z9 nd x):=by
 unfold Z9
 split
 ·exact⟨fun h=>h.put _ rfl,fun g m h=>h.put _ (fun h=>(by cases h)),_,rfl,Qhe (fun e=>by cases e)⟩
 split
 ·split
  ·exact⟨fun h=>h,fun g m h=>h,[],Q2,Qaj 7⟩
  ·exact⟨fun h=>h,fun g m h=>h,_,rfl,Qhe (fun e=>by cases e)⟩
 split
 ·exact⟨fun h=>h.del _,fun g m h=>h.del _,_,rfl,Qhe (fun e=>by cases e)⟩
 ·exact⟨fun h=>h,fun g m h=>h,[],Q2,Qaj 7⟩
theorem Lp.app{k:Nat}{q e:List (Nt×List Int)}(h:Lp k q)(b:Lp k e):Lp k (q++e):=fun x a=>by
 rcases Xu.1 a with a|a
 ·exact h x a
 ·exact b x a
theorem Ph.act{g:Nat}{m:List Nat}{on st:Bool}{nd:Nd}{x:Nt}{q:List Nt}(h:Ph g m on st nd.rk (x::q) nd.out)(E:Gm nd.rk)(B:pos nd.rk)(C:(keys nd.rk).Nodup):Ph g m on st (Z9 nd x).rk q (Z9 nd x).out:=by
 by_cases k5:x.kind=5
 ·have e:(Z9 nd x).out=nd.out∧(∀g m,Re g m nd.rk→x.gen=g∧x.Qu∈m→Re g m (Z9 nd x).rk):=by
   unfold Z9;rw[Qe Qb,Qh k5]
   split
   ·exact⟨rfl,fun g m h _=>h⟩
   ·exact⟨rfl,fun g m h D=>h.put _ fun _=>D⟩
  rw[e.1];cases h with
  | rest j f b i d=>exact absurd k5 (f x (Z0 ..))
  | go j f b i d l=>exact .go j f b.tl i d.tl (e.2 g m l (d x (Z0 ..) k5))
  | stop a s c j f b i d l t p v k n=>
   cases a with
   | nil=>rw[Gf,Hw]at b;rw[b.1]at k5;omega
   | cons y a=>
    rw[Nx,Hw]at b;obtain⟨e1,e2⟩:=b;subst e1;exact .stop a s c j f e2 i d l.tl t p v.tl (e.2 g m k (v x (Z0 ..) k5)) n
  | said a s c j f b i d l t p v k=>exact absurd k5 (b x (Z0 ..))
 by_cases u:x.kind=6
 ·cases h with
  | rest j f b i d=>exact absurd u (b x (Z0 ..))
  | go j f b i d l=>exact absurd u (b x (Z0 ..))
  | stop a s c j f b i d l t p v k n=>
   cases a with
   | cons y a=>
    rw[Nx,Hw]at b;rw[b.1]at u;exact absurd u (l y (Z0 ..))
   | nil=>
    rw[Gf,Hw]at b;obtain⟨e1,e2⟩:=b;subst e1 e2;unfold Z9;rw[Qe Qb,Qe k5,Qh u]
    by_cases z:Ya nd.rk≠0
    ·rw[Qh z];obtain⟨r,A,F⟩:=Mw z;rw[Et C A];exact .said nd.out _ [] j f t p (Qfs E B C rfl) rfl rfl d n (Qaj 7)
    ·rw[Qe z];exact .said nd.out _ [] j f t p (Sf B (W7 z)) rfl rfl d n (Qaj 7)
  | said a s c j f b i d l t p v k=>exact absurd u (i x (Z0 ..))
 obtain⟨q1,q2,o,q3,w⟩:=Qlo (nd:=nd) k5 u;rw[q3];cases h with
 | rest j f b i d=>exact .rest j f.tl b.tl (i.app w) (q1 d)
 | go j f b i d l=>exact .go j f b.tl (i.app w) d.tl (q2 g m l)
 | stop a s c j f b i d l t p v k n=>
  cases a with
  | nil=>rw[Gf,Hw]at b;rw[b.1]at u;exact absurd i u
  | cons y a=>
   rw[Nx,Hw]at b;exact .stop a s c j f b.2 i d l.tl t p v.tl (q2 g m k) (n.app w)
 | said a s c j f b i d l t p v k=>exact .said a s (c++o) j f b.tl i.tl (q1 d) (by rw[l];simp) t p v (k.app w)
theorem Zeg{nd:Nd}{x:Nt}(h:pos nd.rk)(b:x.kind=3→x.Qu≠0):pos (Z9 nd x).rk:=by
 unfold Z9
 split
 ·exact h.put (b (by assumption)) _
 split
 ·split
  ·exact h
  ·rename_i r a;exact h.put (h _ (Fc a)) _
 split
 ·split
  ·split
   ·exact h
   ·rename_i r a;exact h.put (h _ (Fc a)) _
  ·exact h
 split
 ·split <;> exact h
 split
 ·exact h.del _
 ·exact h
theorem Qis{nd:Nd}{x:Nt}(h:(keys nd.rk).Nodup):(keys (Z9 nd x).rk).Nodup:=by
 unfold Z9
 split
 ·exact Av _ _ h
 split
 ·split
  ·exact h
  ·exact Av _ _ h
 split
 ·split
  ·split
   ·exact h
   ·exact Av _ _ h
  ·exact h
 split
 ·split <;> exact h
 split
 ·exact Q0l _ h
 ·exact h
theorem Zeh{nd:Nd}{x:Nt}(h:Gm nd.rk)(b:pos nd.rk)(e:(keys nd.rk).Nodup)(a:(Z9 nd x).Qj=false):Gm (Z9 nd x).rk:=by
 unfold Z9 at a ⊢
 split
 ·exact h.put _ rfl
 rename_i c;rw[Qe c]at a
 split
 ·rename_i k5;rw[Qh k5]at a
  split
  ·exact h
  ·rename_i r d;rw[d]at a;simp only[Bool.or_eq_false_iff,Af]at a;exact(Sf b (W7 a.2)).Zo2 _ _
 split
 ·split
  ·split
   ·exact h
   ·exact(Qfs h b e rfl).one
  ·exact h
 split
 ·split <;> exact h
 split
 ·exact h.del _
 ·exact h
theorem Q12{nd:Nd}{x:Nt}(h:K8 nd.rk)(b:x.kind≠5):K8 (Z9 nd x).rk:=by
 by_cases a:x.kind=6
 ·unfold Z9;rw[Qe Qb,Qe b,Qh a,Qgg h];exact h
 ·exact(Qlo b a).no h
theorem Qir{q:List Nt}:∀ {nd:Nd},K8 nd.rk→noK 5 q→K8 (q.foldl Z9 nd).rk:=by
 induction q with
 | nil=>exact fun h _=>h
 | cons x q b=>exact fun h a=>b (Q12 h (a x (Z0 ..))) a.tl
theorem Qda{q:List Nt}:∀ {nd:Nd},(keys nd.rk).Nodup→(keys (q.foldl Z9 nd).rk).Nodup:=by
 induction q with
 | nil=>exact fun h=>h
 | cons x q a=>exact fun h=>a (Qis h)
def Pres(b:Br)(i id:Nat):Prop:=∃x,Qk b.js id=some x∧x.Ql=none∧i∈x.at_
def qOf(os:List Od)(i:Nat):List Nt:=(os.filter fun o=>decide (o.1=i)).map (·.2)
theorem Ds(a b:List Od)(i:Nat):qOf (a++b) i=qOf a i++qOf b i:=by rw[qOf,Gu,Vc];rfl
theorem Fg{os:List Od}{i:Nat}{x:Nt}:x∈qOf os i↔(i,x)∈os:=by
 unfold qOf;rw[Qq]
 constructor
 ·rintro ⟨o,d,c⟩;obtain⟨b,a⟩:=Y5.1 d;have a:o.1=i:=by simpa using a
  rw[←a,←c];exact b
 ·exact fun h=>⟨(i,x),Y5.2 ⟨h,Q2⟩,rfl⟩
structure Qiu(b:Br)(bad:Nat→Nat→Prop)(x:Bj):Prop where
 st:x.state≤3
 q:x.state=0→x.at_=[]∧x.Ql=none∧x.Xg=none∧x.X4=none∧look b.m.js x.id=none
 p:x.state≠0→x.at_.length=x.k∧∃y,look b.m.js x.id=some y∧lst y.ns=x.at_
 d:x.state=3↔x.Ql.isSome=true
 u:x.Ql=none→∀n∈x.at_,n∈b.up∨bad x.id n
 du:∀d,x.Ql=some d→∀n∈d,n∈b.up∨bad x.id n
 da:∀d,x.Ql=some d→∀n∈d,n∈x.at_
structure BrI(b:Br)(bad:Nat→Nat→Prop):Prop where
 ok:Yu b
 j:∀x∈b.js,Qiu b bad x
 mj:∀y∈b.m.js,(Qk b.js y.id).isSome=true
 up:∀n:Nat,n∈b.up↔Ji b.m n=true
abbrev never:Nat→Nat→Prop:=fun _ _=>False
structure Js(b:Br)(i:Nat)(n:Nd):Prop where
 kn:(keys n.rk).Nodup
 ps:pos n.rk
 one:Gm n.rk
 wr:n.Qj=false
 right:(fin n.rk (n.Yy++qOf b.Qd i)).Qj=false
 ld:∀x∈n.Yy++qOf b.Qd i,x.kind=3→x.Qu≠0
 here:∀id,(Yt id (fin n.rk (n.Yy++qOf b.Qd i)).rk).isSome=true↔Pres b i id
 ph:Ph b.gen b.members (decide (i∈b.stops.getD [])) b.Qn n.rk (n.Yy++qOf b.Qd i) n.out
structure Eff(b b':Br)(i:Nat)(e:List Nt):Prop where
 go:∀v:Nd,v.Qj=false→(keys v.rk).Nodup→(∀id,(Yt id v.rk).isSome=true↔Pres b i id)→(b.stops=none→K8 v.rk)→(e.foldl Z9 v).Qj=false∧∀id,(Yt id (e.foldl Z9 v).rk).isSome=true↔Pres b' i id
structure Qbg(b b':Br)(E:List Od):Prop where
 nodes:b'.nodes=b.nodes
 up:b'.up=b.up
 gen:b'.gen=b.gen
 mem:b'.members=b.members
 stops:b'.stops=b.stops
 Qn:b'.Qn=b.Qn
 ord:b'.Qd=b.Qd++E
 dst:∀o∈E,o.1∈b.up
 k5:∀o∈E,o.2.kind≠5∧o.2.kind≠6∧(o.2.kind=3→o.2.Qu≠0)∧o.2.Yl≤255
 eff:∀i∈b.up,Eff b b' i (qOf E i)
theorem Qbg.trans{a b c:Br}{E F:List Od}(h:Qbg a b E)(k:Qbg b c F):Qbg a c (E++F) where
 nodes:=k.nodes.trans h.nodes
 up:=k.up.trans h.up
 gen:=k.gen.trans h.gen
 mem:=k.mem.trans h.mem
 stops:=k.stops.trans h.stops
 Qn:=k.Qn.trans h.Qn
 ord:=by rw[k.ord,h.ord,Wb]
 dst:=fun o ho=>by
  rcases Xu.1 ho with ho|ho
  ·exact h.dst o ho
  ·rw[←h.up];exact k.dst o ho
 k5:=fun o ho=>by
  rcases Xu.1 ho with ho|ho
  ·exact h.k5 o ho
  ·exact k.k5 o ho
 eff:=fun i hi=>⟨fun v h1 h2 h3 h4=>by
  obtain⟨q1,q2⟩:=(h.eff i hi).go v h1 h2 h3 h4;rw[Ds,Ha];refine(k.eff i (by rw[h.up];exact hi)).go _ q1 (Qda h2) q2 fun e=>?_;exact Qir (h4 (by rw[←h.stops];exact e)) fun x hx=>(h.k5 _ (Fg.1 hx)).1⟩
theorem Qbg.refl(b:Br):Qbg b b [] where
 nodes:=rfl
 up:=rfl
 gen:=rfl
 mem:=rfl
 stops:=rfl
 Qn:=rfl
 ord:=Q2
 dst:=fun o ho=>by cases ho
 k5:=fun o ho=>by cases ho
 eff:=fun i _=>⟨fun v h1 _ h3 _=>⟨h1,h3⟩⟩
theorem Js.rest{b:Br}{i:Nat}{n:Nd}(h:Js b i n)(d:b.stops=none):K8 n.rk∧noK 5 (n.Yy++qOf b.Qd i)∧noK 6 (n.Yy++qOf b.Qd i)∧Lp 7 n.out:=by
 have c:=h.ph;rw[d]at c;cases c with
 | rest _ j g f e=>exact⟨e,j,g,f⟩
 | go a=>simp at a
 | stop _ _ _ a=>simp at a
 | said _ _ _ a=>simp at a
theorem Js.Q7o{b:Br}{i:Nat}{n:Nd}(h:Js b i n)(a:b.stops=none):K8 (fin n.rk (n.Yy++qOf b.Qd i)).rk:=Qir (nd:=⟨true,n.rk,[],[],false⟩) (h.rest a).1 (h.rest a).2.1
theorem Js.step{b c:Br}{E:List Od}(k:Qbg b c E){i:Nat}(f:i∈b.up){n:Nd}(h:Js b i n):Js c i n:=by
 have d:n.Yy++qOf c.Qd i=(n.Yy++qOf b.Qd i)++qOf E i:=by rw[k.ord,Ds,Wb]
 obtain⟨e1,e2⟩:=(k.eff i f).go (fin n.rk (n.Yy++qOf b.Qd i)) h.right (Qda (nd:=⟨true,n.rk,[],[],false⟩) h.kn) h.here h.Q7o;have e:fin n.rk (n.Yy++qOf c.Qd i)=(qOf E i).foldl Z9 (fin n.rk (n.Yy++qOf b.Qd i)):=by rw[d,fin,Ha];rfl
 refine⟨h.kn,h.ps,h.one,h.wr,by rw[e];exact e1,fun x a=>?_,fun id=>by rw[e];exact e2 id,?_⟩
 ·rw[d]at a
  rcases Xu.1 a with a|a
  ·exact h.ld x a
  ·exact(k.k5 _ (Fg.1 a)).2.2.1
 ·rw[d,k.gen,k.mem,k.stops,k.Qn];exact h.ph.app (fun x a=>(k.k5 _ (Fg.1 a)).1) (fun x a=>(k.k5 _ (Fg.1 a)).2.1)
structure GI(b:Br)(nd:List Nd):Prop where
 bi:BrI b never
 len:nd.length=b.nodes
 dst:∀o∈b.Qd,o.1∈b.up
 up:∀(i:Nat) (n:Nd),nd[i]?=some n→n.up=decide (i∈b.up)
 off:∀(i:Nat) (n:Nd),nd[i]?=some n→n.up=false→n.rk=[]∧n.Yy=[]∧n.out=[]∧n.Qj=false
 node:∀(i:Nat) (n:Nd),nd[i]?=some n→n.up=true→Js b i n
 C4:∀i∈b.stops.getD [],i∈b.up
theorem GI.step{b b':Br}{E:List Od}{nd:List Nd}(h:GI b nd)(k:Qbg b b' E)(hb:BrI b' never):GI b' nd where
 bi:=hb
 len:=h.len.trans k.nodes.symm
 dst:=fun o ho=>by
  rw[k.ord]at ho;rw[k.up]
  rcases Xu.1 ho with ho|ho
  ·exact h.dst o ho
  ·exact k.dst o ho
 up:=fun i n hn=>by rw[k.up];exact h.up i n hn
 off:=h.off
 node:=fun i n hn hu=>(h.node i n hn hu).step k (by
  have:=h.up i n hn;rw[hu]at this;exact U4 this.symm)
 C4:=fun i hi=>by rw[k.up];rw[k.stops]at hi;exact h.C4 i hi
theorem Qyk{js:List Bj}(k id:Nat):Qk (rmJ js k) id=if id=k then none else Qk js id:=by
 by_cases h:id=k
 ·rw[Qh h];cases a:Qk (rmJ js k) id with
  | none=>rfl
  | some x=>
   obtain⟨c,b⟩:=Qi a;have:=(Y5.1 c).2;rw[b,h]at this;simp at this
 ·rw[Qe h];exact Q3u js h
theorem Qaa{b:Br}{x y:Bj}(c:Qk b.js x.id=some x)(a:y.id=x.id)(os:List Od)(m:Mx)(i id:Nat):Pres {b with js:=Xe b.js y,Qd:=os,m:=m} i id↔if id=x.id then (y.Ql=none∧i∈y.at_) else Pres b i id:=by
 have d:=Gb b.js y id;unfold Pres;show (∃z,Qk (Xe b.js y) id=some z∧_)↔_;rw[d,a]
 by_cases e:id=x.id
 ·rw[Qh e,Qh e,e,c];simp
 ·rw[Qe e,Qe e]
theorem Zbm{b:Br}(k:Nat)(os:List Od)(m:Mx)(i id:Nat):Pres {b with js:=rmJ b.js k,Qd:=os,m:=m} i id↔id≠k∧Pres b i id:=by
 unfold Pres;show (∃z,Qk (rmJ b.js k) id=some z∧_)↔_;rw[Qyk]
 by_cases e:id=k
 ·rw[Qh e];simp[e]
 ·rw[Qe e];simp[e]
theorem Q5m{js:List Jb}{j k:Nat}:look (S2 j js) k=if k=j then none else look js k:=by
 unfold look S2;induction js with
 | nil=>simp
 | cons x js a=>
  rw[Eg]
  by_cases e:x.id=j
  ·rw[Qe (by simp[e]),a]
   by_cases e2:k=j
   ·rw[Qh e2,Qh e2]
   ·rw[Qe e2,Qe e2,List.find?_cons];simp only[Q6 (show ¬x.id=k by omega)]
  ·rw[Qh (by simpa using e),List.find?_cons,List.find?_cons,a]
   by_cases e2:x.id=k
   ·simp only[Zh e2,Qe (show ¬k=j by omega)]
   ·simp only[Q6 e2]
theorem Qqk{m:Mx}(g:W6 m){x:Jb}(f:look m.js x.id=none)(k:Nat):look (Mg x m.js) k=if k=x.id then some x else look m.js k:=by
 have c:=Qba g.Y4 (fun y d=>D2 f y d)
 by_cases e:k=x.id
 ·rw[Qh e,e];exact Ci c (Um.2 (.inl rfl))
 ·rw[Qe e];cases h:look m.js k with
  | some y=>
   obtain⟨l,j⟩:=J6 h;rw[←j];exact Ci c (Um.2 (.inr l))
  | none=>
   cases i:look (Mg x m.js) k with
   | none=>rfl
   | some y=>
    obtain⟨a,b⟩:=J6 i
    rcases Um.1 a with a|a
    ·rw[a]at b;exact absurd b.symm e
    ·exact absurd b (D2 h y a)
theorem Lj(m:Mx)(j k:Nat):look (Xj m j).2.js k=if k=j then none else look m.js k:=by
 unfold Xj
 split
 ·exact Q5m
 ·rename_i h;have h:look m.js j=none:=by cases a:look m.js j with|none=>rfl|some x=>rw[a]at h;simp at h
  by_cases e:k=j
  ·rw[Qh e,e];exact h
  ·rw[Qe e]
theorem Qgm{m:Mx}{j:Nat}{y:Jb}(a:W6 m)(h:y∈(Xj m j).2.js):y∈m.js∧y.id≠j:=by
 unfold Xj at h
 split at h
 ·exact U1.1 h
 ·rename_i b;refine⟨h,fun e=>b ?_⟩;have h:y∈m.js:=h;rw[←e,Ci a.Y4 h];rfl
theorem Nc{m a:Mx}(c:a.up=m.up)(b:a.N=m.N)(z:Int):Ji a z=Ji m z:=by simp only[Ji,K7,c,b]
theorem Bi(m:Mx)(j:Nat):(Xj m j).2.up=m.up∧(Xj m j).2.N=m.N:=by unfold Xj;split <;> exact⟨rfl,rfl⟩
theorem Qiu.congr{b c:Br}{a:Nat→Nat→Prop}{x:Bj}(h:Qiu b a x)(g:look c.m.js x.id=look b.m.js x.id)(f:c.up=b.up):Qiu c a x:=
 ⟨h.st,fun e=>by rw[g];exact h.q e,fun e=>by rw[g];exact h.p e,h.d,fun e=>by rw[f];exact h.u e,fun d e=>by rw[f];exact h.du d e,h.da⟩
theorem BrI.same{b b':Br}{a:Nat→Nat→Prop}(h:BrI b a)(ok:Yu b')(g:b'.js=b.js)(c:b'.m=b.m)(f:b'.up=b.up):BrI b' a:=
 ⟨ok,fun x e=>by rw[g]at e;exact(h.j x e).congr (by rw[c]) f,fun y d=>by rw[c]at d;rw[g];exact h.mj y d,fun n=>by rw[f,c];exact h.up n⟩
theorem BrI.ord{b:Br}{a:Nat→Nat→Prop}(h:BrI b a)(os:List Od):BrI {b with Qd:=os} a:=h.same (h.ok.oset os) rfl rfl rfl
theorem BrI.put{b:Br}{bad:Nat→Nat→Prop}(h:BrI b bad){x y:Bj}{m:Mx}(hx:Qk b.js x.id=some x)(hid:y.id=x.id)(ok:Yu {b with m:=m,js:=Xe b.js y})(hl:∀k,k≠x.id→look m.js k=look b.m.js k)(hm:∀z∈m.js,z.id=x.id∨z∈b.m.js)(hu:∀z,Ji m z=Ji b.m z)(hy:Qiu {b with m:=m,js:=Xe b.js y} bad y):BrI {b with m:=m,js:=Xe b.js y} bad where
 ok:=ok
 j:=fun z hz=>by
  obtain⟨w,hw,e⟩:=Qq.1 (show z∈Xe b.js y from hz)
  split at e
  ·subst e;exact hy
  ·rename_i Uh;subst e;exact(h.j w hw).congr (hl w.id (by rw[←hid];exact Uh)) rfl
 mj:=fun z hz=>by
  show (Qk (Xe b.js y) z.id).isSome=true;rw[Gb]
  rcases hm z hz with e|hz
  ·rw[Qh (by rw[hid];exact e),e,hx];rfl
  ·split
   ·rw[Option.isSome_map];exact h.mj z hz
   ·exact h.mj z hz
 up:=fun n=>by rw[show ({b with m:=m,js:=Xe b.js y}:Br).m=m from rfl,hu];exact h.up n
theorem BrI.set{b:Br}{a:Nat→Nat→Prop}(h:BrI b a){x y:Bj}(f:Qk b.js x.id=some x)(c:y.id=x.id)(g:JOk b.nodes y)(e:Qiu b a y):BrI (b.set y) a:=
 h.put (m:=b.m) f c (h.ok.set g) (fun _ _=>rfl) (fun _ d=>.inr d) (fun _=>rfl) (e.congr rfl rfl)
theorem BrI.gone{b:Br}{c:Nat→Nat→Prop}(h:BrI b c){x y:Bj}(q:Qk b.js x.id=some x)(a:y.id=x.id)(i:JOk b.nodes y)(r:y.Ql≠some []→Qiu b c y):BrI (Y6 b y) c:=by
 have ok:=A9 h.ok i;unfold Y6 at ok ⊢
 split
 ·rename_i l;rw[Qh l]at ok
  split
  ·rename_i o;rw[Qh o]at ok
   refine h.put (y:=anew y) q a ok (fun k i=>?_) (fun z f=>.inr (Qgm h.ok.Fu f).1) (fun z=>Nc (Bi _ _).1 (Bi _ _).2 z) ?_
   ·rw[Lj,Qe (by rw[a];exact i)]
   ·refine⟨Xq _,fun _=>⟨rfl,rfl,rfl,rfl,?_⟩,fun e=>absurd rfl e,⟨fun e=>(by cases e),fun e=>(by cases e)⟩,fun _ n s=>(by cases s),fun d e=>(by cases e),fun d e=>(by cases e)⟩;show look (Xj b.m y.id).2.js y.id=none;rw[Lj,Qh rfl]
  ·rename_i o;rw[Qe o]at ok
   exact {
    ok:=ok
    j:=fun z f=>by
     obtain⟨p,g⟩:=Y5.1 (show z∈rmJ b.js y.id from f);have g:z.id≠y.id:=by simpa using g
     refine(h.j z p).congr ?_ rfl;show look (Xj b.m y.id).2.js z.id=_;rw[Lj,Qe g]
    mj:=fun z f=>by
     obtain⟨p,g⟩:=Qgm h.ok.Fu f;show (Qk (rmJ b.js y.id) z.id).isSome=true;rw[Qyk,Qe g];exact h.mj z p
    up:=fun n=>by
     rw[show ({b with m:=(Xj b.m y.id).2,js:=rmJ b.js y.id}:Br).m=(Xj b.m y.id).2 from rfl,Nc (Bi _ _).1 (Bi _ _).2];exact h.up n}
 ·rename_i l;exact h.set q a i (r l)
theorem Q40{b:Br}{x:Bj}(d:Qk b.js x.id=some x)(a:x.Ql.isSome=true)(i:Nat):¬Pres b i x.id:=fun⟨z,c,e,_⟩=>by
 rw[d]at c;cases c;rw[e]at a;cases a
theorem Qkk{b:Br}{x y:Bj}(d:Qk b.js x.id=some x)(a:y.id=x.id)(f:y.Ql.isSome=true)(i id:Nat):Pres (Y6 b y) i id↔id≠x.id∧Pres b i id:=by
 unfold Y6
 split
 ·split
  ·have:=Qaa (b:=b) (y:=anew y) d a b.Qd (Xj b.m y.id).2 i id;refine this.trans ?_
   by_cases e:id=x.id
   ·rw[Qh e];simp[e]
   ·rw[Qe e];simp[e]
  ·have:=Zbm (b:=b) y.id b.Qd (Xj b.m y.id).2 i id;rw[←a];exact this
 ·have:=Qaa (b:=b) (y:=y) d a b.Qd b.m i id;refine this.trans ?_
  by_cases e:id=x.id
  ·rw[Qh e]
   constructor
   ·rintro ⟨c,_⟩;rw[c]at f;cases f
   ·rintro ⟨c,_⟩;exact absurd e c
  ·rw[Qe e];simp[e]
theorem Pw{b:Br}{x y:Bj}(a:Qk b.js x.id=some x)(c:y.id=x.id)(d:y.at_=x.at_)(g:y.Ql=x.Ql)(os:List Od)(m:Mx)(i id:Nat):Pres {b with js:=Xe b.js y,Qd:=os,m:=m} i id↔Pres b i id:=by
 refine(Qaa a c os m i id).trans ?_
 by_cases e:id=x.id
 ·rw[Qh e,d,g,e];exact⟨fun h=>⟨x,a,h.1,h.2⟩,fun⟨z,f,k,j⟩=>by rw[a]at f;cases f;exact⟨k,j⟩⟩
 ·rw[Qe e]
def BS(b a:Br):Prop:=∃E,Qbg b a E
theorem BS.refl(b:Br):BS b b:=⟨[],.refl b⟩
theorem BS.trans{a b c:Br}(h:BS a b)(k:BS b c):BS a c:=by
 obtain⟨E,h⟩:=h;obtain⟨F,k⟩:=k;exact⟨E++F,h.trans k⟩
theorem BS.stops{b a:Br}(h:BS b a):a.stops=b.stops:=by obtain⟨_,h⟩:=h;exact h.stops
theorem Zdx{b a:Br}{i:Nat}(h:∀id,Pres a i id↔Pres b i id):Eff b a i []:=⟨fun _ d _ c _=>⟨d,fun id=>(c id).trans (h id).symm⟩⟩
structure Sam(b b':Br):Prop where
 nodes:b'.nodes=b.nodes
 up:b'.up=b.up
 gen:b'.gen=b.gen
 mem:b'.members=b.members
 stops:b'.stops=b.stops
 Qn:b'.Qn=b.Qn
theorem BS.quiet{b a:Br}(h:Sam b a)(d:a.Qd=b.Qd)(c:∀i id,Pres a i id↔Pres b i id):BS b a:=
 ⟨[],h.nodes,h.up,h.gen,h.mem,h.stops,h.Qn,by rw[d];simp,fun _ h=>(by cases h),fun _ h=>(by cases h),fun i _=>Zdx (c i)⟩
theorem Sam.gone(b:Br)(y:Bj):Sam b (Y6 b y):=by
 unfold Y6
 split
 ·split <;> exact⟨rfl,rfl,rfl,rfl,rfl,rfl⟩
 ·exact⟨rfl,rfl,rfl,rfl,rfl,rfl⟩
theorem Qu4{b:Br}{x y:Bj}(d:Qk b.js x.id=some x)(a:y.id=x.id)(c:y.at_=x.at_)(e:y.Ql=x.Ql):BS b (b.set y):=
 BS.quiet ⟨rfl,rfl,rfl,rfl,rfl,rfl⟩ rfl fun i id=>Pw d a c e b.Qd b.m i id
theorem Qyu{b:Br}{x y:Bj}(c:Qk b.js x.id=some x)(a:y.id=x.id)(f:x.Ql.isSome=true)(d:y.Ql.isSome=true):BS b (Y6 b y):=
 BS.quiet (.gone b y) (Gp b y).1 fun i id=>(Qkk c a d i id).trans ⟨fun h=>h.2,fun h=>⟨fun e=>Q40 c f i (by rw[←e];exact h),h⟩⟩
theorem Ep(f:Nat→Nt)(i:Nat):∀ {l:List Nat},l.Nodup→qOf (l.map fun n=>((n,f n):Od)) i=if i∈l then [f i] else []
 | [],_=>rfl
 | n::l,h=>by
  have b:=Ep f i (Vz.1 h).2;unfold qOf at b ⊢;rw[Z7,Eg]
  by_cases e:n=i
  ·rw[Qh (by simpa using e),List.map_cons,b,if_neg (by rw[←e];exact(Vz.1 h).1),Qh (by rw[e];exact Z0 ..),e]
  ·rw[Qe (by simpa using e),b]
   by_cases a:i∈l
   ·rw[Qh a,Qh (Ym _ a)]
   ·rw[Qe a,Qe (by simp[a,Ne.symm e])]
theorem Qfe{b:Br}{x y:Bj}(m:Qk b.js x.id=some x)(f:y.id=x.id)(p:y.at_=x.at_)(u:y.Ql=x.Ql)(D:JOk b.nodes y)(a:Bool):BS b (Wd b y a):=by
 cases q:x.Ql with
 | some d=>
  rw[Kd (u.trans q)];exact Qyu m f (by rw[q];rfl) rfl
 | none=>
  rw[Vj (u.trans q)];have c:=Sam.gone {b with Qd:=b.Qd++(J0 b y).map (Va y.id)} (W9 y a (J0 b y));obtain⟨l,g⟩:∃l,l=Y6 {b with Qd:=b.Qd++(J0 b y).map (Va y.id)} (W9 y a (J0 b y)):=⟨_,rfl⟩;have r:∀i id,Pres l i id↔id≠x.id∧Pres b i id:=fun i id=>by rw[g];exact Qkk (b:={b with Qd:=b.Qd++(J0 b y).map (Va y.id)}) (y:=W9 y a (J0 b y)) m f rfl i id
  have j:l.Qd=b.Qd++(J0 b y).map (Va y.id):=by rw[g];exact(Gp _ _).1
  have C:∀i,qOf ((J0 b y).map (Va y.id)) i=if i∈J0 b y then [{kind:=10,Qu:=y.id}] else []:=fun i=>Ep (fun _=>{kind:=10,Qu:=y.id}) i (Sb D b)
  rw[←g]at c ⊢
  refine⟨(J0 b y).map (Va y.id),c.nodes,c.up,c.gen,c.mem,c.stops,c.Qn,j,fun o j=>?_,fun o j=>?_,fun i E=>⟨fun v A F w _=>?_⟩⟩
  ·obtain⟨n,s,rfl⟩:=Qq.1 j;exact U4 (Y5.1 s).2
  ·obtain⟨n,s,rfl⟩:=Qq.1 j;exact⟨by show 10≠5;omega,by show 10≠6;omega,fun e=>(by cases e),Xq _⟩
  ·rw[C i]
   have t:i∈J0 b y↔i∈x.at_:=by
    rw[J0,Y5,p];exact⟨fun h=>h.1,fun h=>⟨h,Zh E⟩⟩
   by_cases h:i∈x.at_
   ·rw[Qh (t.2 h),Mi,Pg];unfold Z9;rw[Qe (by show (10:Nat)≠3;omega),Qe (by show (10:Nat)≠5;omega),Qe (by show (10:Nat)≠6;omega),Qe (by show (10:Nat)≠8;omega),Qh rfl];refine⟨A,fun id=>?_⟩;show (Yt id (Fe y.id v.rk)).isSome=true↔_;rw[Qhg y.id F,r i id,f]
    by_cases e:id=x.id
    ·rw[Qh e];simp[e]
    ·rw[Qe e];exact(w id).trans ⟨fun h=>⟨e,h⟩,fun h=>h.2⟩
   ·rw[Qe (fun e=>h (t.1 e)),Pg];refine⟨A,fun id=>(w id).trans ?_⟩;rw[r i id];refine⟨fun k=>⟨fun e=>?_,k⟩,fun k=>k.2⟩;obtain⟨z,k1,_,B⟩:=k;rw[e,m]at k1;cases k1;exact h B
theorem Qn3{b:Br}{c:Nat→Nat→Prop}(h:BrI b c){x y:Bj}(o:Qk b.js x.id=some x)(j:y.id=x.id)(f:y.at_=x.at_)(q:y.Ql=x.Ql)(A:y.k=x.k)(p:JOk b.nodes y)(a:Bool):BrI (Wd b y a) c:=by
 have m:=h.j x (Qi o).1
 have key:∀(g:Br) (d:List Nat),BrI g c→Qk g.js x.id=some x→g.m=b.m→g.up=b.up→g.nodes=b.nodes→d.Nodup→(d≠[]→x.state≠0)→(∀n∈d,n∈b.up∨c x.id n)→(∀n∈d,n∈x.at_)→BrI (Y6 g (W9 y a d)) c:=by
  intro g d C g1 e1 e2 e3 l h0 v B;refine C.gone g1 j (by rw[e3];exact p.W9 a l) fun r=>?_;have w:x.state≠0:=h0 fun e=>r (by show some d=some [];rw[e]);obtain⟨u,z,t,s⟩:=m.p w
  refine⟨Q1 3,fun e=>(by cases e),fun _=>⟨?_,z,?_,?_⟩,⟨fun _=>rfl,fun _=>rfl⟩,fun e=>(by cases e),fun D e=>?_,fun D e=>(by cases e;intro n i;show n∈y.at_;rw[f];exact B n i)⟩
  ·show y.at_.length=y.k;rw[f,A];exact u
  ·show look g.m.js y.id=some z;rw[e1,j];exact t
  ·show lst z.ns=y.at_;rw[f];exact s
  ·cases e;intro n i;show n∈g.up∨c y.id n;rw[e2,j];exact v n i
 cases k:x.Ql with
 | some d=>
  rw[Kd (q.trans k)];exact key b d h o rfl rfl rfl (p.drop d (q.trans k)) (fun _ e=>(by rw[(m.q e).2.1]at k;cases k)) (m.du d k) (m.da d k)
 | none=>
  rw[Vj (q.trans k)];refine key _ _ (h.ord _) o rfl rfl rfl (Sb p b) (fun r e=>r ?_) (fun n l=>.inl (U4 (Y5.1 l).2)) fun n l=>by have:=(Y5.1 l).1;rwa [f]at this
  rw[J0,f,(m.q e).1];rfl
theorem Zd8{b:Br}(a:List Nat):BS b {b with done:=a}:=BS.quiet ⟨rfl,rfl,rfl,rfl,rfl,rfl⟩ rfl fun _ _=>Iff.rfl
theorem Q1m{b:Br}{e:Nat→Nat→Prop}(h:BrI b e){x y:Bj}(g:Qk b.js x.id=some x)(c:y.id=x.id)(d:y.at_=x.at_)(i:y.Ql=x.Ql)(k:y.k=x.k)(a:JOk b.nodes y)(j:Qiu b e y):BS b (Yj b y)∧BrI (Yj b y) e:=by
 unfold Yj
 split
 ·exact⟨Qu4 g c d i,h.set g c a j⟩
 ·have f:JOk b.nodes {y with done:=true}:=⟨a.P3,a.Rx,a.tier,a.k1,a.kn,a.w,a.cr,a.wk,a.Uy,a.at_,a.drop,a.lod,a.X4,a.ld,a.svl⟩;refine⟨(Zd8 _).trans (Qfe (b:={b with done:=b.done++[y.id]}) (x:=x) (y:={y with done:=true}) g c d i f false),?_⟩;exact Qn3 (b:={b with done:=b.done++[y.id]}) (h.same (h.ok.dset _) rfl rfl rfl) (x:=x) (y:={y with done:=true}) g c d i k f false
end BN
end Go.Proofs.YtdackcibfkkniaaGreatDoor
