/- BrainCredit: nobody is credited what did not run. -/
import Derived.Test.YtdackcibfkkniaaGreatDoorMC5
set_option maxRecDepth 20000
set_option synthInstance.maxSize 9999
set_option synthInstance.maxHeartbeats 400000
namespace Go.Proofs.YtdackcibfkkniaaGreatDoor
open Go.RowKit
namespace BN
section
variable {c:Cx}{E8:Nat→Nat→Nat→Prop}{E9:Nat→Nat→Nat→List Int→Prop}{im0:List Im}{b:Br}{x y:Bj}
theorem Qou{b:Br}(h:∀o∈b.Qa,o.2.kind≠5)(y:Bj):∀o∈(Z6 b y).Qa,o.2.kind≠5:=by
 unfold Z6
 split
 ·split
  ·exact h
  ·exact h
 ·exact h
theorem Qf0{b:Br}(h:∀o∈b.Qa,o.2.kind≠5){E:List Od}(hE:∀o∈E,o.2.kind≠5):∀o∈b.Qa++E,o.2.kind≠5:=fun o ho=>by
 rcases List.mem_append.1 ho with ho|ho
 ·exact h o ho
 ·exact hE o ho
theorem Q1n{b:Br}(h:∀o∈b.Qa,o.2.kind≠5)(y:Bj)(a:Bool):∀o∈(Y9 b y a).Qa,o.2.kind≠5:=by
 cases hd:y.Qi with
 | some d=>rw[X5 hd];exact Qou h _
 | none=>
  rw[Xm hd]
  exact Qou (b:={b with Qa:=b.Qa++(V7 b y).map (Xp y.id)}) (Qf0 h fun o ho=>by
   obtain⟨i,_,rfl⟩:=List.mem_map.1 ho;show ¬(10:Nat)=5;decide) _
theorem Q1m{b:Br}(h:∀o∈b.Qa,o.2.kind≠5)(y:Bj):∀o∈(Yy b y).Qa,o.2.kind≠5:=by
 by_cases hc:y.work=y.Qb∨y.Yt.isSome∨y.Qi.isSome∨y.state≠2
 ·rw[Wb hc];exact h
 ·rw[We hc]
  exact Qf0 h fun o ho=>by
   obtain⟨i,_,rfl⟩:=List.mem_map.1 ho;show ¬(8:Nat)=5;decide
theorem Qiq:∀(zs:List (Nat×PL.St)) (b:Br),(∀o∈b.Qa,o.2.kind≠5)→∀o∈(Yp b zs).Qa,o.2.kind≠5
 | [],_,h=>h
 | p::zs,b,h=>by
  have e:Yp b (p::zs)=Yp (Vg b p) zs:=by rw[Xq,Xq];rfl
  rw[e];refine Qiq zs _ ?_;unfold Vg
  split
  ·cases hg:Qg b.js p.1 with
   | none=>exact h
   | some x=>
    show ∀o∈(V3 b x p.2).Qa,o.2.kind≠5
    by_cases hp:(X7 b.m x.id p.2.row p.2.nodes).1≠0
    ·rw[U5 hp];exact h
    ·rw[V2 hp]
     exact Qf0 h fun o ho=>by
      obtain⟨i,_,rfl⟩:=List.mem_mapIdx.1 ho;show ¬(3:Nat)=5;decide
  ·exact h
theorem Qlu{b:Br}(h:∀o∈b.Qa,o.2.kind≠5):∀o∈(Qs b).Qa,o.2.kind≠5:=by
 unfold Qs
 split
 ·exact h
 split
 ·exact h
 split
 ·exact h
 ·exact Vr (P:=fun t=>∀o∈t.Qa,o.2.kind≠5) (f:=Vv) (fun t x k _=>Qf0 k fun o ho=>by
   obtain⟨i,_,rfl⟩:=List.mem_map.1 ho;show ¬(12:Nat)=5;decide) _ _ h
theorem Qyi(h:CB c E8 E9 im0 b)(hx:Qg b.js x.id=some x):CB c E8 E9 im0 (Qx b x)∧VM b (Qx b x)∧(NR b→NR (Qx b x)):=by
 unfold Qx
 split
 ·exact⟨Th h hx (.refl x) (h.j x (Qd hx).1) true,Sw hx rfl true,fun k=>Ny k (k x (Qd hx).1) true⟩
 ·exact⟨h,.refl b,fun k=>k⟩
theorem Q3o(h:CB c E8 E9 im0 b)(hn:NR b)(hx:Qg b.js x.id=some x)(hs:x.Yt=none)(s:PL.St):CB c E8 E9 im0 (V3 b x s)∧VM b (V3 b x s)∧NR (V3 b x s):=by
 have Js:=(Qd hx).1;have hj:=h.j x Js
 by_cases hp:(X7 b.m x.id s.row s.nodes).1≠0
 ·rw[U5 hp];exact⟨h.keep rfl rfl rfl rfl,.same rfl,hn⟩
 ·rw[V2 hp]
  have h2:CB c E8 E9 im0 {b with m:=(X7 b.m x.id s.row s.nodes).2,Qa:=b.Qa++Wk x (nats s.nodes)}:=h.same rfl (fun o ho=>by
   rcases List.mem_append.1 ho with ho|ho
   ·exact .inl ho
   ·obtain⟨i,hi,rfl⟩:=List.mem_mapIdx.1 ho;exact .inr ⟨by show ¬(3:Nat)=8;decide,by show ¬(3:Nat)=5;decide⟩) rfl rfl
  refine⟨K8 (y:=N4 x (nats s.nodes)) h2 hx (.same rfl rfl rfl rfl) ⟨hj.k,hj.w,hj.cw,hj.ww,hj.wr,hj.ver,fun r hr=>?_,fun t ht=>?_⟩,(VM.same (b:=b) (b':={b with m:=(X7 b.m x.id s.row s.nodes).2,Qa:=b.Qa++Wk x (nats s.nodes)}) rfl).trans (Hq (b:={b with m:=(X7 b.m x.id s.row s.nodes).2,Qa:=b.Qa++Wk x (nats s.nodes)}) (y:=N4 x (nats s.nodes)) hx rfl),Jn (b:={b with m:=(X7 b.m x.id s.row s.nodes).2,Qa:=b.Qa++Wk x (nats s.nodes)}) (y:=N4 x (nats s.nodes)) hn (hn x Js)⟩
  ·have hr:x.ran=some r:=hr;rw[hn x Js]at hr;cases hr
  ·have ht:x.Yt=some t:=ht;rw[hs]at ht;cases ht
theorem Qci:∀(zs:List (Nat×PL.St)) (b:Br),CB c E8 E9 im0 b→NR b→(zs.map (·.1)).Nodup→(∀p∈zs,∃x,Qg b.js p.1=some x∧x.Yt=none)→CB c E8 E9 im0 (Yp b zs)∧VM b (Yp b zs)∧NR (Yp b zs)
 | [],b,h,hn,_,_=>⟨h,.refl b,hn⟩
 | p::zs,b,h,hn,hd,hz=>by
  have e:Yp b (p::zs)=Yp (Vg b p) zs:=by rw[Xq,Xq];rfl
  rw[e];obtain⟨n1,n2⟩:=List.nodup_cons.1 (show (p.1::zs.map (·.1)).Nodup from hd);obtain⟨x,g1,g2⟩:=hz p (List.mem_cons_self ..);have K0:=(Qd g1).2
  by_cases hy:p.2.ok=true∧p.2.at_=0
  ·rw[Db hy g1];obtain⟨k1,k2,k3⟩:=Q3o h hn (x:=x) (by rw[K0];exact g1) g2 p.2
   obtain⟨l1,l2,l3⟩:=Qci zs (V3 b x p.2) k1 k3 n2 fun q hq=>by
    obtain⟨z,m1,m2⟩:=hz q (List.mem_cons_of_mem _ hq);refine⟨z,?_,m2⟩;rw[Qbi b p.2 fun e=>n1 (List.mem_map.2 ⟨q,hq,by rw[e,K0]⟩)];exact m1
   exact⟨l1,k2.trans l2,l3⟩
  ·rw[F9 hy];exact Qci zs b h hn n2 fun q hq=>hz q (List.mem_cons_of_mem _ hq)
theorem Qm1(h:CB c E8 E9 im0 b)(hn:NR b):CB c E8 E9 im0 (Qs b)∧VM b (Qs b)∧NR (Qs b):=by
 have h0:CB c E8 E9 im0 b∧VM b b∧NR b:=⟨h,.refl b,hn⟩;unfold Qs
 split
 ·exact h0
 split
 ·exact h0
 split
 ·exact h0
 ·refine Vr (P:=fun t=>CB c E8 E9 im0 t∧VM b t∧NR t) (f:=Vv) (fun t x k hx=>?_) _ _ h0;have Js:=(Qd hx).1;have hj:=k.1.j x Js
  have h2:CB c E8 E9 im0 {t with Qa:=t.Qa++x.at_.map fun n=>((n,{kind:=12,Qm:=x.id,tick:=Ys t.now t.Xe}):Od)}:=k.1.same rfl (fun o ho=>by
   rcases List.mem_append.1 ho with ho|ho
   ·exact .inl ho
   ·obtain⟨i,hi,rfl⟩:=List.mem_map.1 ho;exact .inr ⟨by show ¬(12:Nat)=8;decide,by show ¬(12:Nat)=5;decide⟩) rfl rfl
  exact⟨K8 (y:={x with Vo:=true,F1:=Ys t.now t.Xe}) h2 hx (.same rfl rfl rfl rfl) ⟨hj.k,hj.w,hj.cw,hj.ww,hj.wr,hj.ver,hj.ran,hj.Yt⟩,k.2.1.trans ((VM.same (b:=t) (b':={t with Qa:=t.Qa++x.at_.map fun n=>((n,{kind:=12,Qm:=x.id,tick:=Ys t.now t.Xe}):Od)}) rfl).trans (Hq (b:={t with Qa:=t.Qa++x.at_.map fun n=>((n,{kind:=12,Qm:=x.id,tick:=Ys t.now t.Xe}):Od)}) (y:={x with Vo:=true,F1:=Ys t.now t.Xe}) hx rfl)),Jn (b:={t with Qa:=t.Qa++x.at_.map fun n=>((n,{kind:=12,Qm:=x.id,tick:=Ys t.now t.Xe}):Od)}) (y:={x with Vo:=true,F1:=Ys t.now t.Xe}) k.2.2 (k.2.2 x Js)⟩
abbrev c0(c:Cx)(g:Nat→Nat→Prop):Cx:={c with s:=fun _ _=>(0,0),g:=g}
def no5(b:Br):Prop:=∀o∈b.Qa,o.2.kind≠5
theorem Qyf(h:CB c E8 E9 im0 b)(hn:NR b)(h5:no5 b)(g:Nat→Nat→Prop):CB (c0 c g) E8 E9 im0 b:=
 ⟨fun x hx=>by
  have hj:=h.j x hx;exact⟨hj.k,hj.w,hj.cw,hj.ww,hj.wr,hj.ver,fun r hr=>(by rw[hn x hx]at hr;cases hr),hj.Yt⟩,h.o8,fun o ho k=>absurd k (h5 o ho),h.e8,h.e9,fun i hi=>⟨(h.im i hi).len,(h.im i hi).ran,(h.im i hi).bs,(h.im i hi).j⟩,h.ord,h.dn⟩
theorem Qmp{P:Br→Prop}{f:Br→Bj→Br}{L:List Nat}(hf:∀b x,x.id∈L→P b→Qg b.js x.id=some x→P (f b x)):∀(l:List Nat),(∀i∈l,i∈L)→∀b:Br,P b→P (each f b l)
 | [],_,_,h=>h
 | id::l,hl,b,h=>by
  have e:each f b (id::l)=each f (match Qg b.js id with|none=>b|some x=>f b x) l:=rfl;rw[e];have Gq:∀i∈l,i∈L:=fun i hi=>hl i (List.mem_cons_of_mem _ hi);cases hg:Qg b.js id with
  | none=>exact Qmp hf l Gq b h
  | some x=>exact Qmp hf l Gq _ (hf b x (by rw[(Qd hg).2];exact hl id (List.mem_cons_self ..)) h (by rw[(Qd hg).2];exact hg))
theorem Zcw{g:Nat→Nat→Prop}(h:CB (c0 c g) E8 E9 im0 b)(hx:Qg b.js x.id=some x)(ha:x.at_≠[])(hg:∀i,g x.id i↔i∈x.at_):CB (c0 c g) E8 E9 im0 (W6 b x)∧VM b (W6 b x)∧(W6 b x).stops.isSome=true:=by
 have Js:=(Qd hx).1;have hj:=h.j x Js
 have h1:=K8 (y:={x with ran:=some []}) h hx (.same rfl rfl rfl rfl) ⟨hj.k,hj.w,hj.cw,hj.ww,hj.wr,hj.ver,fun r hr=>by
  cases hr
  refine⟨ha,List.nodup_nil,fun e he=>(by cases he),fun F T k=>?_,?_⟩
  ·obtain⟨i,hi⟩:=List.exists_mem_of_ne_nil _ ha;exact absurd (k i hi).1 (by show ¬0<0;omega)
  ·exact fun i hi=>(hg i).1 hi,hj.Yt⟩
 refine⟨⟨h1.j,fun o ho k8=>?_,fun o ho k5=>?_,h1.e8,h1.e9,fun i hi=>(h1.im i hi).re rfl,h1.ord,h1.dn⟩,?_,rfl⟩
 ·rcases List.mem_append.1 (show o∈b.Qa++x.at_.map (fun n=>((n,{kind:=5,gen:=b.gen,Qm:=x.id}):Od)) from ho) with ho|ho
  ·exact h1.o8 o ho k8
  ·obtain⟨i,hi,rfl⟩:=List.mem_map.1 ho;exact absurd k8 (by show ¬(5:Nat)=8;decide)
 ·rcases List.mem_append.1 (show o∈b.Qa++x.at_.map (fun n=>((n,{kind:=5,gen:=b.gen,Qm:=x.id}):Od)) from ho) with ho|ho
  ·exact h1.o5 o ho k5
  ·obtain⟨i,hi,rfl⟩:=List.mem_map.1 ho;exact(hg i).2 hi
 ·exact Hq (b:=b) (y:={x with ran:=some []}) hx rfl
theorem Qj1(h:CB c E8 E9 im0 b)(hn:NR b)(hs:b.stops=none)(h5:no5 b)(hsr:Kp b.js)(ha:∀x∈b.js,x.state=2→x.at_≠[]):∀(i:Nat) (row:Int),((CB c E8 E9 im0 (Y1 b row i)∧NR (Y1 b row i)∧(Y1 b row i).stops=none)∨(∃g,CB (c0 c g) E8 E9 im0 (Y1 b row i)∧(Y1 b row i).stops.isSome=true))∧VM b (Y1 b row i)
 | 0,_=>⟨.inl ⟨h,hn,hs⟩,.refl b⟩
 | i+1,row=>by
  rw[Y1]
  split
  ·exact⟨.inl ⟨h,hn,hs⟩,.refl b⟩
  split
  ·rw[Bi];obtain⟨L,hL⟩:∃L,L=Wl b (Z9 b.m (Yh b.m row).1++Yq b.m (Yh b.m row).1):=⟨_,rfl⟩;rw[←hL]
   have hat:∀x∈b.js,x.id∈U0 L→x.at_≠[]:=fun x hx hid=>by
    have h2:=(List.mem_filter.1 (hL ▸ (H7 L).mem_iff.1 hid)).2;rw[X3 hsr hx]at h2;simp only[Bool.and_eq_true,decide_eq_true_eq]at h2;exact ha x hx h2.1.1
   obtain⟨g,hg⟩:∃g:Nat→Nat→Prop,g=fun id i=>∃x∈b.js,x.id=id∧i∈x.at_:=⟨_,rfl⟩;have hr:CB (c0 c g) E8 E9 im0 (D0 {b with row:=(Yh b.m row).1} L):=(Qyf h hn h5 g).keep rfl rfl rfl rfl
   have hgb:∀x∈b.js,∀i,g x.id i↔i∈x.at_:=fun x hx i=>by
    rw[hg];refine⟨fun⟨y,hy,e,hi⟩=>?_,fun hi=>⟨x,hx,rfl,hi⟩⟩;have e1:=X3 hsr hx;have e2:=X3 hsr hy;rw[e,e1]at e2;cases e2;exact hi
   obtain⟨k1,k2,k3,_⟩:=Qmp (P:=fun t=>CB (c0 c g) E8 E9 im0 t∧VM b t∧t.stops.isSome=true∧∀x∈t.js,(x.id∈U0 L→x.at_≠[])∧∀i,g x.id i↔i∈x.at_) (f:=W6) (L:=U0 L) (fun t x hid k hx=>by
    have Js:=(Qd hx).1;obtain⟨a1,a2,a3⟩:=Zcw k.1 hx ((k.2.2.2 x Js).1 hid) (k.2.2.2 x Js).2;refine⟨a1,k.2.1.trans a2,a3,fun z hz=>?_⟩
    rcases Xh (show z∈Yo t.js {x with ran:=some []} from hz) with rfl|⟨q,_⟩
    ·exact k.2.2.2 x Js
    ·exact k.2.2.2 z q) (U0 L) (fun i hi=>hi) (D0 {b with row:=(Yh b.m row).1} L) ⟨hr,.same rfl,rfl,fun x hx=>⟨hat x hx,hgb x hx⟩⟩
   exact⟨.inr ⟨g,k1,k3⟩,k2⟩
  ·exact Qj1 h hn hs h5 hsr ha i _
theorem Zcz(h:BrI b never):∀x∈b.js,x.state=2→x.at_≠[]:=fun x hx h2 e=>by
 have h1:=((h.j x hx).p (by omega)).1;have h3:=(h.ok.Qm x hx).k1;rw[e,List.length_nil]at h1;omega
theorem Q3l{v:Nat}(hv:v+1≤c.v)(Cb:c.v≤4294967295)(hb:BrI b never)(hs:b.stops=none)(h:CB c E8 E9 im0 b)(k:VL v b)(hn:NR b)(h5:no5 b):((CB c E8 E9 im0 (Ga b)∧NR (Ga b)∧(Ga b).stops=none)∨(∃g,CB (c0 c g) E8 E9 im0 (Ga b)∧(Ga b).stops.isSome=true))∧VL (v+1) (Ga b):=by
 obtain⟨a1,a2⟩:=Qd6 hb b.ids;have s1:=a1.stops.trans hs
 obtain⟨p1,p2,p3⟩:=Vr (P:=fun t=>CB c E8 E9 im0 t∧VM b t∧NR t) (f:=Qx) (fun t x k hx=>by
  obtain⟨q1,q2,q3⟩:=Qyi k.1 hx;exact⟨q1,k.2.1.trans q2,q3 k.2.2⟩) b.ids b ⟨h,.refl b,hn⟩
 obtain⟨c1,c2⟩:=Rm a2;have s2:=c1.stops.trans s1
 obtain⟨q1,q2,q3⟩:=Qci (zsR (each Qx b b.ids)) _ p1 p3 (by rw[Ba];exact Cf a2.ok.Yz) fun p hp=>by
  have h1:p.1∈Xd (each Qx b b.ids):=by rw[←Ba];exact List.mem_map.2 ⟨p,hp,rfl⟩
  obtain⟨x,g1,g2⟩:=Hb a2.ok.Yz h1;simp only[quB,Bool.and_eq_true,decide_eq_true_eq]at g2;exact⟨x,g1,((a2.j x (Qd g1).1).q g2.1).2.2.1⟩
 rw[←Ff]at q1 q2 q3;obtain⟨d1,d2⟩:=Qax c2;have s3:=d1.stops.trans s2;obtain⟨r1,r2,r3⟩:=Qm1 q1 q3;obtain⟨e1,e2⟩:=Qug d2;have s4:=e1.stops.trans s3;have t1:CB c E8 E9 im0 (rep (Qs (Ya (each Qx b b.ids)))):=r1.keep rfl rfl rfl rfl;have t3:NR (rep (Qs (Ya (each Qx b b.ids)))):=r3;have t2:VL v (rep (Qs (Ya (each Qx b b.ids)))):=((p2.trans q2).trans r2).vl k;obtain⟨f1,f2⟩:=Qhx e2 s4 (rep (Qs (Ya (each Qx b b.ids)))).ids;obtain⟨u1,u2⟩:=Qyd hv Cb t1 t2.vb (rep (Qs (Ya (each Qx b b.ids)))).ids;have u3:NR (each Yy (rep (Qs (Ya (each Qx b b.ids)))) (rep (Qs (Ya (each Qx b b.ids)))).ids):=Vr (P:=NR) (f:=Yy) (fun t x k hx=>Qoq k (k x (Qd hx).1)) _ _ t3
 have v1:=Vr (P:=fun t=>∀o∈t.Qa,o.2.kind≠5) (f:=Qx) (fun t x k _=>by
  unfold Qx
  split
  ·exact Q1n k x true
  ·exact k) b.ids b h5
 have v2:=Qlu (Qiq (zsR (each Qx b b.ids)) _ v1);rw[←Ff]at v2;have v3:no5 (each Yy (rep (Qs (Ya (each Qx b b.ids)))) (rep (Qs (Ya (each Qx b b.ids)))).ids):=Vr (P:=fun t=>∀o∈t.Qa,o.2.kind≠5) (f:=Yy) (fun t x k _=>Q1m k x) _ (rep (Qs (Ya (each Qx b b.ids)))) v2;obtain⟨w1,w2⟩:=Qj1 u1 u3 (f1.stops.trans s4) v3 f2.ok.Yz (Zcz f2) (each Yy (rep (Qs (Ya (each Qx b b.ids)))) (rep (Qs (Ya (each Qx b b.ids)))).ids).rows (each Yy (rep (Qs (Ya (each Qx b b.ids)))) (rep (Qs (Ya (each Qx b b.ids)))).ids).row;exact⟨w1,w2.vl u2.vl⟩
theorem Q3m{v:Nat}(hv:v+1≤c.v)(Cb:c.v≤4294967295)(hb:BrI b never)(h:CB c E8 E9 im0 b)(k:VL v b)(hn:b.stops=none→NR b)(h5:no5 b){now:Nat}(Ql6:now≤4294967295) :
  ((CB c E8 E9 im0 (Y3 b now).2∧((Y3 b now).2.stops=none→NR (Y3 b now).2))∨(∃g,CB (c0 c g) E8 E9 im0 (Y3 b now).2∧b.stops=none∧(Y3 b now).2.stops.isSome=true))∧VL (v+1) (Y3 b now).2:=by
 have kv:∀t:Br,VL v t→VL (v+1) t:=fun t h x hx=>Nat.le_succ_of_le (h x hx);unfold Y3
 split
 ·exact⟨.inl ⟨h,hn⟩,kv b k⟩
 split
 ·exact⟨.inl ⟨h.keep rfl rfl rfl rfl,hn⟩,kv _ k⟩
 split
 ·rename_i hs
  split
  ·refine⟨.inl ⟨h.same rfl (fun o ho=>?_) rfl rfl,fun e=>?_⟩,kv _ k⟩
   ·rcases List.mem_append.1 ho with ho|ho
    ·exact .inl ho
    ·obtain⟨i,hi,rfl⟩:=List.mem_map.1 ho;exact .inr ⟨by show ¬(6:Nat)=8;decide,by show ¬(6:Nat)=5;decide⟩
   ·have e:b.stops=none:=e;have hs:b.stops.isSome=true:=hs;rw[e]at hs;cases hs
  ·exact⟨.inl ⟨h.keep rfl rfl rfl rfl,hn⟩,kv _ k⟩
 ·rename_i hs
  have Jz:b.stops=none:=by
   cases e:b.stops with
   | none=>rfl
   | some s=>exact absurd (show b.stops.isSome=true by rw[e];rfl) hs
  have hok:Q7 {b with now:=now}:=⟨hb.ok.R,hb.ok.N,hb.ok.Hu,hb.ok.Yz,fun x hx=>hb.ok.Qm x hx,hb.ok.Ev,hb.ok.q1,hb.ok.q2,hb.ok.g1,hb.ok.g2,Ql6,hb.ok.fin,hb.ok.mem,hb.ok.Eu⟩;obtain⟨q1,q2⟩:=Q3l (b:={b with now:=now}) hv Cb (hb.same hok rfl rfl rfl) Jz (h.keep rfl rfl rfl rfl) k (hn Jz) h5;refine⟨?_,q2⟩
  rcases q1 with ⟨a1,a2,_⟩|⟨g,a1,a2⟩
  ·exact .inl ⟨a1,fun _=>a2⟩
  ·exact .inr ⟨g,a1,Jz,a2⟩
theorem Md(b:Br)(y:Bj):(Z6 b y).stops=b.stops:=(Sam.gone b y).stops
theorem Mj(b:Br)(y:Bj)(a:Bool):(Y9 b y a).stops=b.stops:=by
 cases hd:y.Qi with
 | some d=>rw[X5 hd];exact Md _ _
 | none=>rw[Xm hd];exact Md _ _
theorem Rr(n:Nat)(b:Br)(x:Bj):(Yk n b x).stops=b.stops:=by
 unfold Yk
 split
 ·split
  ·exact Mj _ _ _
  ·exact Md _ _
 ·rfl
theorem Q3n{v:Nat}(hv:v+1≤c.v)(Cb:c.v≤4294967295)(h:CB c E8 E9 im0 b)(k:VL v b)(hn:b.stops=none→NR b)(n:Int) :
  CB c E8 E9 im0 (V1 b n).2∧((V1 b n).2.stops=none→NR (V1 b n).2)∧VL (if b.stops.isSome=(V1 b n).2.stops.isSome then v else v+1) (V1 b n).2:=by
 unfold V1
 split
 ·exact⟨h,hn,by rw[if_pos rfl];exact k⟩
 ·obtain⟨b0,hb0⟩:∃b0:Br,b0={b with up:=Vx b.up n.toNat,m:=(upR b.m n false).2,Qa:=b.Qa.filter fun o=>decide (o.1≠n.toNat)}:=⟨_,rfl⟩
  have h0:CB c E8 E9 im0 b0:=by
   rw[hb0];exact h.same rfl (fun o ho=>.inl (List.mem_filter.1 ho).1) rfl rfl
  have j0:b0.js=b.js:=by rw[hb0]
  have s0:b0.stops=b.stops:=by rw[hb0]
  have i0:b0.ids=b.ids:=by rw[hb0]
  obtain⟨a1,a2,a3⟩:=Qyg h0 n.toNat b.ids;have a4:(each (Yk n.toNat) b0 b.ids).stops=b.stops:=Vr (P:=fun t=>t.stops=b.stops) (f:=Yk n.toNat) (fun t x ht _=>(Rr _ t x).trans ht) b.ids b0 s0;have:=Lm hv Cb a1 (a2.vl (by rw[VL,j0];exact k)) (fun e=>a3 (by rw[NR,j0];exact hn (a4 ▸ e))) n.toNat;rw[a4]at this;rw[hb0]at this;exact this
theorem Q3p{v:Nat}(hv:v+1≤c.v)(Cb:c.v≤4294967295)(hb:BrI b never)(h:CB c E8 E9 im0 b)(k:VL v b)(hn:b.stops=none→NR b)(i:Nat)(t:Nt)(bl:List Int)(ht:t.kind=7→t.Qm≠0→(t.W7,t.Un)=c.s t.Qm i)(hf:t.kind=9→Qg7 c b t.Qm t.ver t.Qt bl) :
  CB c E8 E9 im0 (X6 b i t bl).2∧((X6 b i t bl).2.stops=none→NR (X6 b i t bl).2)∧VL (if b.stops.isSome=(X6 b i t bl).2.stops.isSome then v else v+1) (X6 b i t bl).2:=by
 have h0:CB c E8 E9 im0 b∧(b.stops=none→NR b)∧VL (if b.stops.isSome=b.stops.isSome then v else v+1) b:=⟨h,hn,by rw[if_pos rfl];exact k⟩;unfold X6
 split
 ·exact h0
 split
 ·rename_i h7;exact Qyj hv Cb h k hn i t (ht h7) fun x hx=>by have:=(hb.ok.Qm x hx).B6;omega
 ·cases hg:Qg b.js t.Qm with
  | none=>exact h0
  | some x=>
   obtain⟨Js,K0⟩:=Qd hg;have hx:Qg b.js x.id=some x:=by rw[K0];exact hg
   simp only
   split
   ·have hj:=hb.j x Js;obtain⟨q1,q2,q3⟩:=Qyk h hx (hb.ok.Qm x Js).Jy (fun e=>(hj.p (fun e0=>by rw[(hj.q e0).2.2.1]at e;cases e)).1) i t bl (fun h9=>by rw[K0];exact hf h9);have hs:=(Qbx hb hx i t bl).1.stops;refine⟨q1,fun e=>q3 (hn (hs ▸ e)),?_⟩;show VL (if b.stops.isSome=(Wt b x i t bl).stops.isSome then v else v+1) (Wt b x i t bl);rw[hs,if_pos rfl];exact q2.vl k
   ·exact h0
end
def RM(b b':Br):Prop:=(∀z∈b'.js,z.ran=none∨∃x∈b.js,z.ran=x.ran)∧∀n,n∈b'.stops.getD []→n∈b.stops.getD []
theorem RM.refl(b:Br):RM b b:=⟨fun z hz=>.inr ⟨z,hz,rfl⟩,fun _ h=>h⟩
theorem RM.trans{a b c:Br}(h:RM a b)(k:RM b c):RM a c:=⟨fun z hz=>by
 rcases k.1 z hz with e|⟨y,hy,e⟩
 ·exact .inl e
 ·rcases h.1 y hy with e2|⟨x,hx,e2⟩
  ·exact .inl (e.trans e2)
  ·exact .inr ⟨x,hx,e.trans e2⟩,fun n hn=>h.2 n (k.2 n hn)⟩
theorem RM.same{b b':Br}(h:b'.js=b.js)(hs:b'.stops=b.stops):RM b b':=⟨fun z hz=>.inr ⟨z,h ▸ hz,rfl⟩,fun n hn=>hs ▸ hn⟩
theorem A3{b:Br}{x y:Bj}(hx:Qg b.js x.id=some x)(hr:y.ran=none∨y.ran=x.ran):RM b (b.set y):=⟨fun z hz=>by
 rcases Xh (show z∈Yo b.js y from hz) with rfl|⟨k,_⟩
 ·rcases hr with e|e
  ·exact .inl e
  ·exact .inr ⟨x,(Qd hx).1,e⟩
 ·exact .inr ⟨z,k,rfl⟩,fun _ h=>h⟩
theorem S3{b:Br}{x y:Bj}(hx:Qg b.js x.id=some x)(hr:y.ran=none∨y.ran=x.ran):RM b (Z6 b y):=by
 unfold Z6
 split
 ·split
  ·exact(RM.same (b:=b) (b':={b with m:=(Z0 b.m y.id).2}) rfl rfl).trans (A3 (b:={b with m:=(Z0 b.m y.id).2}) (y:=anew y) hx (.inl rfl))
  ·exact⟨fun z hz=>.inr ⟨z,(List.mem_filter.1 (show z∈rmJ b.js y.id from hz)).1,rfl⟩,fun _ h=>h⟩
 ·exact A3 hx hr
theorem Qfl{b:Br}{x y:Bj}(hx:Qg b.js x.id=some x)(hr:y.ran=none∨y.ran=x.ran)(a:Bool):RM b (Y9 b y a):=by
 cases hd:y.Qi with
 | some d=>rw[X5 hd];exact S3 hx hr
 | none=>
  rw[Xm hd];exact(RM.same (b:=b) (b':={b with Qa:=b.Qa++(V7 b y).map (Xp y.id)}) rfl rfl).trans (S3 (b:={b with Qa:=b.Qa++(V7 b y).map (Xp y.id)}) (y:=Vf y a (V7 b y)) hx hr)
theorem Qqk{b:Br}{x y:Bj}(hx:Qg b.js x.id=some x)(hr:y.ran=none∨y.ran=x.ran):RM b (Q0 b y):=by
 unfold Q0
 split
 ·exact A3 hx hr
 ·exact(RM.same (b:=b) (b':={b with done:=b.done++[y.id]}) rfl rfl).trans (Qfl (b:={b with done:=b.done++[y.id]}) (y:={y with done:=true}) hx hr false)
theorem Qn4{f:Br→Bj→Br}(hf:∀b x,Qg b.js x.id=some x→RM b (f b x))(l:List Nat)(b:Br):RM b (each f b l):=
 Vr (P:=RM b) (fun t x k hx=>k.trans (hf t x hx)) l b (.refl b)
theorem Qud{b:Br}{x:Bj}:RM b (Zz b x):=⟨fun z hz=>by
 rcases Qjx b x z hz with e|⟨k,_⟩
 ·exact .inl e
 ·exact .inr ⟨z,k,rfl⟩,fun n hn=>by rw[C6]at hn;exact hn⟩
theorem Nc(b:Br)(n:Nat):RM b (Qw b n):=by
 unfold Qw
 split
 ·exact .refl b
 ·rename_i s e
  split
  ·refine⟨fun z hz=>.inr ⟨z,hz,rfl⟩,fun i hi=>?_⟩;rw[e];exact(U1.1 (show i∈Vx s n from hi)).1
  ·refine RM.trans (b:={b with stops:=none,Qo:=false}) ⟨fun z hz=>.inr ⟨z,hz,rfl⟩,fun i hi=>(by cases hi)⟩ (Qn4 (fun _ _ _=>Qud) _ _)
theorem Q0o(b:Br)(n:Int):RM b (V1 b n).2:=by
 unfold V1
 split
 ·exact .refl b
 ·refine RM.trans (b:=each (Yk n.toNat) {b with up:=Vx b.up n.toNat,m:=(upR b.m n false).2,Qa:=b.Qa.filter fun o=>decide (o.1≠n.toNat)} b.ids) ?_ (Nc _ _);refine(RM.same (b:=b) (b':={b with up:=Vx b.up n.toNat,m:=(upR b.m n false).2,Qa:=b.Qa.filter fun o=>decide (o.1≠n.toNat)}) rfl rfl).trans (Qn4 (fun c x hx=>?_) _ _);unfold Yk
  split
  ·split
   ·exact Qfl hx (.inr rfl) true
   ·exact S3 hx (.inr rfl)
  ·exact .refl c
theorem Qql(b:Br)(id:Nat):RM b (Yr b id).2:=by
 unfold Yr;cases hg:Qg b.js id with
 | none=>exact .refl b
 | some x=>
  have hx:Qg b.js x.id=some x:=by rw[(Qd hg).2];exact hg
  simp only
  split
  ·exact Qfl hx (.inr rfl) false
  ·split
   ·exact A3 hx (.inr rfl)
   ·exact .refl b
theorem Qfk(b:Br)(id ver:Nat)(ok:Bool):RM b (Qr b id ver ok).2:=by
 unfold Qr;cases hg:Qg b.js id with
 | none=>exact .refl b
 | some x=>
  simp only
  split
  ·exact .refl b
  ·split
   ·exact .refl b
   ·exact Qqk (x:=x) (by rw[(Qd hg).2];exact hg) (.inr rfl)
theorem Qua{b:Br}{x:Bj}(hx:Qg b.js x.id=some x)(n:Nat)(t:Nt)(bl:List Int):RM b (Wy b x n t bl):=by
 unfold Wy;cases hs:x.Yt with
 | none=>exact .refl b
 | some s=>
  cases hr:Uf x.at_ n with
  | none=>exact .refl b
  | some Qt=>
   simp only
   split
   ·exact .refl b
   ·split
    ·exact(A3 (b:=b) (y:={x with Yt:=some {s with bs:=s.bs.set Qt bl,have_:=Yj s.have_ n,told:=true}}) hx (.inr rfl)).trans (.same rfl rfl)
    ·exact A3 (y:={x with Yt:=some {s with bs:=s.bs.set Qt bl,have_:=Yj s.have_ n}}) hx (.inr rfl)
theorem Quc{b:Br}{x:Bj}(hx:Qg b.js x.id=some x)(n:Nat)(t:Nt)(bl:List Int):RM b (Wt b x n t bl):=by
 unfold Wt
 split
 ·split
  ·exact A3 hx (.inr rfl)
  ·exact .refl b
 split
 ·exact Qua hx n t bl
 split
 ·split
  ·exact .refl b
  ·rename_i d _;exact S3 (y:={x with Qi:=some (Vx d n)}) hx (.inr rfl)
 ·exact .refl b
def RE(b:Br):Prop:=∀x∈b.js,∀r,x.ran=some r→∀e∈r,e.1∉b.stops.getD []
theorem RE.rm{b b':Br}(h:RE b)(k:RM b b'):RE b':=fun z hz r hr e he hm=>by
 rcases k.1 z hz with e1|⟨x,hx,e1⟩
 ·rw[e1]at hr;cases hr
 ·exact h x hx r (e1 ▸ hr) e he (k.2 _ hm)
theorem NR.re{b:Br}(h:NR b):RE b:=fun x hx r hr=>by rw[h x hx]at hr;cases hr
theorem Qui{b:Br}(h:RE b)(n:Nat)(t:Nt):RE (W4 b n t):=by
 unfold W4
 split
 ·rename_i hc
  have Xf:∃s,b.stops=some s:=by
   simp only[Bool.and_eq_true,decide_eq_true_eq]at hc;cases hs:b.stops with
   | none=>rw[hs]at hc;cases hc.1.1
   | some s=>exact⟨s,rfl⟩
  obtain⟨s,hs⟩:=Xf
  have key:∀b2:Br,b2.stops=b.stops→(∀x∈b2.js,∀r,x.ran=some r→∀e∈r,e.1≠n→e.1∉b.stops.getD [])→RE (Qw b2 n):=fun b2 h1 h2=>by
   intro z hz r hr e he hm;have Ld:=Nc b2 n
   rcases Ld.1 z hz with e1|⟨x,hx,e1⟩
   ·rw[e1]at hr;cases hr
   ·rw[e1]at hr;have hin:=Ld.2 _ hm;rw[h1]at hin
    by_cases hen:e.1=n
    ·have:n∉(Qw b2 n).stops.getD []:=by
      unfold Qw;rw[h1,hs];simp only
      split
      ·show n∉Vx s n;intro k;exact(U1.1 k).2 rfl
      ·have e9:(each Zz {b2 with stops:=none,Qo:=false} b2.ids).stops=none:=Vr (P:=fun t=>t.stops=none) (f:=Zz) (fun t x ht _=>(C6 t x).trans ht) _ _ rfl;rw[e9];exact fun k=>by cases k
     exact this (hen ▸ hm)
    ·exact h2 x hx r hr e he hen hin
  cases hg:Qg b.js t.Qm with
  | none=>exact key b rfl fun x hx r hr e he _=>h x hx r hr e he
  | some y=>
   simp only
   split
   ·exact key b rfl fun x hx r hr e he _=>h x hx r hr e he
   ·rename_i r0 hr0
    split
    ·refine key _ rfl fun x hx r hr e he Uk=>?_
     rcases Xh (show x∈Yo b.js {y with ran:=some (Wz r0 n (t.W7,t.Un))} from hx) with rfl|⟨k,_⟩
     ·cases hr
      rcases Qan he with rfl|he
      ·exact absurd rfl Uk
      ·exact h y (Qd hg).1 r0 hr0 e he
     ·exact h x k r hr e he
    ·exact key b rfl fun x hx r hr e he _=>h x hx r hr e he
 ·exact h
theorem Q0t{b:Br}(h:RE b)(n:Int)(t:Nt)(bl:List Int):RE (X6 b n t bl).2:=by
 unfold X6
 split
 ·exact h
 split
 ·exact Qui h n.toNat t
 ·cases hg:Qg b.js t.Qm with
  | none=>exact h
  | some x=>
   simp only
   split
   ·exact h.rm (Quc (by rw[(Qd hg).2];exact hg) _ _ _)
   ·exact h
theorem Qin:∀(zs:List (Nat×PL.St)) (b:Br),NR b→NR (Yp b zs)
 | [],_,h=>h
 | p::zs,b,h=>by
  have e:Yp b (p::zs)=Yp (Vg b p) zs:=by rw[Xq,Xq];rfl
  rw[e];refine Qin zs _ ?_;unfold Vg
  split
  ·cases hg:Qg b.js p.1 with
   | none=>exact h
   | some x=>
    have Js:=(Qd hg).1;show NR (V3 b x p.2)
    by_cases hp:(X7 b.m x.id p.2.row p.2.nodes).1≠0
    ·rw[U5 hp];exact h
    ·rw[V2 hp];exact Jn (b:={b with m:=(X7 b.m x.id p.2.row p.2.nodes).2,Qa:=b.Qa++Wk x (nats p.2.nodes)}) (y:=N4 x (nats p.2.nodes)) h (h x Js)
  ·exact h
theorem Qhi{b:Br}(h:NR b):∀(i:Nat) (row:Int),RE (Y1 b row i)
 | 0,_=>h.re
 | i+1,row=>by
  rw[Y1]
  split
  ·exact h.re
  split
  ·rw[Bi]
   have:=Vr (P:=fun t=>∀x∈t.js,x.ran=none∨x.ran=some []) (f:=W6) (fun t x k hx z hz=>by
    rcases Xh (show z∈Yo t.js {x with ran:=some []} from hz) with rfl|⟨q,_⟩
    ·exact .inr rfl
    ·exact k z q) (U0 (Wl b (Z9 b.m (Yh b.m row).1++Yq b.m (Yh b.m row).1))) (D0 {b with row:=(Yh b.m row).1} (Wl b (Z9 b.m (Yh b.m row).1++Yq b.m (Yh b.m row).1))) (fun x hx=>.inl (h x hx))
   intro z hz r hr e he
   rcases this z hz with e1|e1
   ·rw[e1]at hr;cases hr
   ·rw[e1]at hr;cases hr;cases he
  ·exact Qhi h i _
theorem Qzt{b:Br}(h:NR b):RE (Ga b):=by
 have h1:=Vr (P:=NR) (f:=Qx) (fun c x k hx=>by
  unfold Qx
  split
  ·exact Ny k (k x (Qd hx).1) true
  ·exact k) b.ids b h
 have h2:=Qin (zsR (each Qx b b.ids)) _ h1
 have h3:NR (Qs (Yp (each Qx b b.ids) (zsR (each Qx b b.ids)))):=by
  generalize Yp (each Qx b b.ids) (zsR (each Qx b b.ids))=t at h2 ⊢
  unfold Qs
  split
  ·exact h2
  split
  ·exact h2
  split
  ·exact h2
  ·exact Vr (P:=NR) (f:=Vv) (fun c x k hx=>Jn (b:={c with Qa:=c.Qa++x.at_.map fun n=>((n,{kind:=12,Qm:=x.id,tick:=Ys c.now c.Xe}):Od)}) (y:={x with Vo:=true,F1:=Ys c.now c.Xe}) k (k x (Qd hx).1)) _ _ h2
 have h4:NR (rep (Qs (Ya (each Qx b b.ids)))):=h3;have h5:=Vr (P:=NR) (f:=Yy) (fun t x k hx=>Qoq k (k x (Qd hx).1)) (rep (Qs (Ya (each Qx b b.ids)))).ids _ h4;exact Qhi h5 _ _
theorem Q0s{b:Br}(h:RE b)(hn:b.stops=none→NR b)(now:Nat):RE (Y3 b now).2:=by
 unfold Y3
 split
 ·exact h
 split
 ·exact h
 split
 ·split
  ·exact h
  ·exact h
 ·rename_i hs
  have Jz:b.stops=none:=by
   cases e:b.stops with
   | none=>rfl
   | some s=>exact absurd (show b.stops.isSome=true by rw[e];rfl) hs
  exact Qzt (b:={b with now:=now}) (hn Jz)
def kOf(js:List Jo)(id:Nat):Nat:=match Uv js id with
 | some j=>j.k
 | none=>0
def wOf(js:List Jo)(id:Nat):Nat:=match Uv js id with
 | some j=>j.w
 | none=>0
structure Gh where
 s:Nat→Nat→Nat×Nat
 g:Nat→Nat→Prop
 m:Nat→Nat
abbrev Sq(js:List Jo)(ran:List (Nat×Nat))(x:Gh):Cx:=⟨kOf js,wOf js,fun id=>Yn id ran,x.s,4294967295,x.g,x.m⟩
def E8(nd:List Nd)(i v r:Nat):Prop:=∃n∈nd,∃x∈n.Yi,x.kind=8∧x.Qm=i∧x.ver=v∧x.Qb=r
def E9(nd:List Nd)(i v rk:Nat)(l:List Int):Prop:=∃n∈nd,∃y∈n.out,y.1.kind=9∧y.1.Qm=i∧y.1.ver=v∧y.1.Qt=rk∧y.2=l
structure NC(x:Gh)(now i:Nat)(n:Nd):Prop where
 ru:∀y∈n.rk,y.2.run=true→(y.2.W7,y.2.Un)=x.s y.1 i∧(y.2.W7=0∨y.2.Un=now)∧x.g y.1 i
 st:∀y∈n.out,y.1.kind=7→y.1.Qm≠0→(y.1.W7,y.1.Un)=x.s y.1.Qm i
 go:∀y∈n.Yi,y.kind=5→x.g y.Qm i
structure CS(x:Gh)(s:Sm):Prop where
 cb:CB (Sq s.Ym s.ran x) (E8 s.nd) (E9 s.nd) s.Qe s.b
 vl:VL (2*s.now+if s.b.stops.isSome then 0 else 1) s.b
 nr:s.b.stops=none→NR s.b
 re:RE s.b
 nc:∀(i:Nat) (n:Nd),s.nd[i]?=some n→NC x s.now i n
 le:∀id i,(x.s id i).2≤s.now
 dn:∀id∈s.done,wOf s.Ym id≤Yn id s.ran
theorem CS.same{x:Gh}{s t:Sm}(h:CS x s)(h1:t.b=s.b)(h2:t.nd=s.nd)(h3:t.Qe=s.Qe)(h4:t.Ym=s.Ym)(h5:t.ran=s.ran)(h6:t.now=s.now)(h7:t.done=s.done):CS x t:=
 ⟨by rw[h1,h2,h3,h4,h5];exact h.cb,by rw[h1,h6];exact h.vl,by rw[h1];exact h.nr,by rw[h1];exact h.re,by rw[h2,h6];exact h.nc,by rw[h6];exact h.le,by rw[h4,h5,h7];exact h.dn⟩
theorem CB.env{c:Cx}{e8 e8':Nat→Nat→Nat→Prop}{e9 e9':Nat→Nat→Nat→List Int→Prop}{im im':List Im}{b b':Br}(h:CB c e8 e9 im b)(hj:b'.js=b.js)(ho:∀o∈b'.Qa,o∈b.Qa)(h8:∀i v r,e8' i v r→Fit c b i v r)(h9:∀i v r l,e9' i v r l→Qg7 c b i v r l)(hi:(im'++b'.Qe).Sublist (im++b.Qe))(hd:∀id∈b'.done,id∈b.done):CB c e8' e9' im' b' where
 j:=fun z hz=>h.j z (hj ▸ hz)
 o8:=fun o k1 k2=>(h.o8 o (ho o k1) k2).bm (BM.same hj).z
 o5:=fun o k1 k2=>h.o5 o (ho o k1) k2
 e8:=fun i v r k=>(h8 i v r k).bm (BM.same hj).z
 e9:=fun i v r l k=>(h9 i v r l k).bm (BM.same hj).z
 im:=fun i k=>(h.im i (hi.mem k)).re hj
 ord:=h.ord.sublist hi
 dn:=fun id k=>h.dn id (hd id k)
theorem Qir{os:List Od}{i:Nat}{x:Nt}(h:x∈qOf os i):∃o∈os,o.1=i∧o.2=x:=by
 unfold qOf at h;obtain⟨o,ho,rfl⟩:=List.mem_map.1 h;obtain⟨h1,h2⟩:=List.mem_filter.1 ho;exact⟨o,h1,of_decide_eq_true h2,rfl⟩
theorem Hy{x:Gh}{s:Sm}(h:CS x s)(hg:GJ s.b s.nd)(G2:(s.done++s.b.done).Nodup):CS x (Vd s):=by
 have hdt:=P4 s.b.done (Vz s.nd s.b.Qa) s.done G2
 have hup:∀o∈s.b.Qa,∃n,s.nd[o.1]?=some n∧n.up=true:=fun o ho=>by
  have hi:=hg.gi.dst o ho;have Wq:=Qdb hg.gi.bi hi;obtain⟨n,hn⟩:=Yv (show o.1<s.nd.length by rw[hg.gi.len];exact Wq);exact⟨n,hn,(hg.gi.Qim hn).2 hi⟩
 obtain⟨k1,k2⟩:=S5 s.b.Qa s.nd hup
 have key:∀(i:Nat) (m:Nd),(Vz s.nd s.b.Qa)[i]?=some m→∃n,s.nd[i]?=some n∧m={n with Yi:=n.Yi++qOf s.b.Qa i}:=fun i m hm=>by
  obtain⟨n,hn⟩:=Yv (show i<s.nd.length by rw[←k1];exact(List.getElem?_eq_some_iff.1 hm).1);rw[k2 i n hn]at hm;cases hm;exact⟨n,hn,rfl⟩
 obtain⟨b',hb'⟩:∃b':Br,b'={s.b with Qa:=[],Qe:=[],done:=[]}:=⟨_,rfl⟩
 have hcb:CB (Sq s.Ym s.ran x) (E8 (Vz s.nd s.b.Qa)) (E9 (Vz s.nd s.b.Qa)) (s.Qe++(Wa s.b).1) b':=by
  rw[hb']
  refine h.cb.env rfl (fun o ho=>(by cases ho)) (fun i v r ⟨m,hm,y,hy,y1,y2,y3,y4⟩=>?_) (fun i v r l ⟨m,hm,y,hy,y1⟩=>?_) ?_ (fun id hid=>(by cases hid))
  ·obtain⟨j,hj⟩:=List.getElem?_of_mem hm;obtain⟨n,hn,rfl⟩:=key j m hj
   rcases List.mem_append.1 hy with hy|hy
   ·exact h.cb.e8 i v r ⟨n,List.mem_of_getElem? hn,y,hy,y1,y2,y3,y4⟩
   ·obtain⟨o,ho,_,rfl⟩:=Qir hy;have:=h.cb.o8 o ho y1;rw[y2,y3,y4]at this;exact this
  ·obtain⟨j,hj⟩:=List.getElem?_of_mem hm;obtain⟨n,hn,rfl⟩:=key j m hj;exact h.cb.e9 i v r l ⟨n,List.mem_of_getElem? hn,y,hy,y1⟩
  ·show (s.Qe++(Wa s.b).1++[]).Sublist _;rw[List.append_nil,Qbr];exact List.Sublist.append (List.Sublist.refl _) (List.filter_sublist ..)
 have e:Vd s={s with b:=b',nd:=Vz s.nd s.b.Qa,done:=s.done++s.b.done,Qe:=s.Qe++(Wa s.b).1,fu:=s.fu+s.b.Qa.length+s.b.Qe.length+s.b.done.length}:=by
  unfold Vd;dsimp only;rw[hdt,hb']
 rw[e]
 refine⟨hcb,by rw[hb'];exact h.vl,by rw[hb'];exact h.nr,by rw[hb'];exact h.re,fun i m hm=>?_,h.le,fun id hid=>?_⟩
 ·obtain⟨n,hn,rfl⟩:=key i m hm;have hN:=h.nc i n hn;refine⟨hN.ru,hN.st,fun y hy h5=>?_⟩
  rcases List.mem_append.1 hy with hy|hy
  ·exact hN.go y hy h5
  ·obtain⟨o,ho,rfl,rfl⟩:=Qir hy;exact h.cb.o5 o ho h5
 ·rcases List.mem_append.1 hid with hid|hid
  ·exact h.dn id hid
  ·exact h.cb.dn id hid
theorem Qg0(nd:Nd)(x:Nt):(Q8 nd x).out=nd.out∨∃y,(Q8 nd x).out=nd.out++[y]∧(y.1.kind=9→x.kind=8∧y.1.Qm=x.Qm∧y.1.ver=x.ver∧y.2=Ds y.1.Qt x.Qb)∧(y.1.kind=7→x.kind=6∧(y.1.Qm≠0→Qz nd.rk=y.1.Qm∧∃r,Yg y.1.Qm nd.rk=some r∧y.1.W7=r.W7∧y.1.Un=r.Un)):=by
 unfold Q8
 split
 ·exact .inr ⟨_,rfl,fun e=>absurd e (by show ¬(4:Nat)=9;decide),fun e=>absurd e (by show ¬(4:Nat)=7;decide)⟩
 split
 ·split <;> exact .inl rfl
 split
 ·rename_i h6
  split
  ·split
   ·exact .inl rfl
   ·rename_i r hr;exact .inr ⟨_,rfl,fun e=>absurd e (by show ¬(7:Nat)=9;decide),fun _=>⟨h6,fun _=>⟨rfl,r,hr,rfl,rfl⟩⟩⟩
  ·exact .inr ⟨_,rfl,fun e=>absurd e (by show ¬(7:Nat)=9;decide),fun _=>⟨h6,fun e=>absurd rfl e⟩⟩
 split
 ·rename_i h8
  split
  ·exact .inl rfl
  ·exact .inr ⟨_,rfl,fun _=>⟨h8,rfl,rfl,rfl⟩,fun e=>absurd e (by show ¬(9:Nat)=7;decide)⟩
 split
 ·exact .inr ⟨_,rfl,fun e=>absurd e (by show ¬(11:Nat)=9;decide),fun e=>absurd e (by show ¬(11:Nat)=7;decide)⟩
 ·exact .inl rfl
theorem Q83{nd:Nd}(hk:(keys nd.rk).Nodup)(x:Nt):∀y∈(Q8 nd x).rk,y.2.run=true→(y∈nd.rk∧(x.kind=5→y.1≠x.Qm))∨(x.kind=5∧y.1=x.Qm∧y.2.W7=0∧y.2.Un=0):=by
 intro y hy hr;unfold Q8 at hy
 split at hy
 ·rename_i h3
  rcases Va hy with rfl|hy
  ·cases hr
  ·exact .inl ⟨hy,fun e=>by omega⟩
 split at hy
 ·rename_i h5
  split at hy
  ·rename_i hn;refine .inl ⟨hy,fun _ e=>Je.1 hn ?_⟩;rw[←e];exact List.mem_map_of_mem hy
  ·rename_i r hn
   by_cases e:y.1=x.Qm
   ·have h1:=U3 (k:=y.1) (v:=y.2) (J9 x.Qm _ hk) hy;rw[Jp,if_pos e]at h1;have h1:=Option.some.inj h1;exact .inr ⟨h5,e,by rw[←h1],by rw[←h1]⟩
   ·rcases Va hy with rfl|hy
    ·exact absurd rfl e
    ·exact .inl ⟨hy,fun _=>e⟩
 rename_i h5
 split at hy
 ·split at hy
  ·split at hy
   ·exact .inl ⟨hy,fun e=>absurd e h5⟩
   ·rcases Va hy with rfl|hy
    ·cases hr
    ·exact .inl ⟨hy,fun e=>absurd e h5⟩
  ·exact .inl ⟨hy,fun e=>absurd e h5⟩
 split at hy
 ·split at hy
  ·exact .inl ⟨hy,fun e=>absurd e h5⟩
  ·exact .inl ⟨hy,fun e=>absurd e h5⟩
 split at hy
 ·exact .inl ⟨Gm hy,fun e=>absurd e h5⟩
 ·exact .inl ⟨hy,fun e=>absurd e h5⟩
theorem Q08{g:Nat}{m:List Nat}{on st:Bool}{rk:Rs}{q:List Nt}{out:List (Nt×List Int)}(h:Ph g m on st rk q out){y:Nt}(hy:y∈q)(h5:y.kind=5):on=true∧Cr 7 out:=by
 cases h with
 | rest a1 a2 a3 a4 a5=>exact absurd h5 (a2 y hy)
 | go a1 a2 a3 a4 a5 a6=>exact⟨a1,a4⟩
 | stop a s c a1 a2 a3 a4 a5 a6 a7 a8 a9 a10 a11=>exact⟨a1,a11⟩
 | said a s c a1 a2 a3 a4 a5 a6 a7 a8 a9 a10=>exact absurd h5 (a3 y hy)
def goG(x:Gh)(id i:Nat):Gh:=⟨fun k j=>if k=id∧j=i then (0,0) else x.s k j,x.g,x.m⟩
theorem Q85{x:Gh}{s:Sm}(h:CS x s)(hG:GJ s.b s.nd){i:Nat}{n:Nd}(hn:s.nd[i]?=some n)(hu:n.up=true){y:Nt}{l:List Nt}(hi:n.Yi=y::l):∃x',x'.m=x.m∧CS x' {s with nd:=s.nd.set i (Q8 {n with Yi:=l} y)}:=by
 have hN:=hG.gi.node i n hn hu;have hC:=h.nc i n hn;have hnm:=List.mem_of_getElem? hn;have Wq:=(List.getElem?_eq_some_iff.1 hn).1;have hinn:(Q8 {n with Yi:=l} y).Yi=l:=(Qg1 {n with Yi:=l} y).2;have hym:y∈n.Yi:=by rw[hi];exact List.mem_cons_self ..
 have hl:∀z∈l,z∈n.Yi:=fun z hz=>by rw[hi];exact List.mem_cons_of_mem _ hz
 have h8:∀i' v r,E8 (s.nd.set i (Q8 {n with Yi:=l} y)) i' v r→Fit (Sq s.Ym s.ran x) s.b i' v r:=fun i' v r ⟨m,hm,z,hz,hzz⟩=>by
  rcases Kq hm with rfl|hm
  ·rw[hinn]at hz;exact h.cb.e8 i' v r ⟨n,hnm,z,hl z hz,hzz⟩
  ·exact h.cb.e8 i' v r ⟨m,hm,z,hz,hzz⟩
 have h9:∀i' v r q,E9 (s.nd.set i (Q8 {n with Yi:=l} y)) i' v r q→Qg7 (Sq s.Ym s.ran x) s.b i' v r q:=fun i' v r q ⟨m,hm,z,hz,z1,z2,z3,z4,z5⟩=>by
  rcases Kq hm with rfl|hm
  ·rcases Qg0 {n with Yi:=l} y with ho|⟨w,ho,ho9,_⟩
   ·rw[ho]at hz;exact h.cb.e9 i' v r q ⟨n,hnm,z,hz,z1,z2,z3,z4,z5⟩
   ·rw[ho]at hz
    rcases List.mem_append.1 hz with hz|hz
    ·exact h.cb.e9 i' v r q ⟨n,hnm,z,hz,z1,z2,z3,z4,z5⟩
    ·have hz:=List.mem_singleton.1 hz;subst hz;obtain⟨w1,w2,w3,w4⟩:=ho9 z1;have hf:=h.cb.e8 y.Qm y.ver y.Qb ⟨n,hnm,y,hym,w1,rfl,rfl,rfl⟩;refine⟨by rw[←z2,w2];exact hf.1,fun b hb hbi=>?_⟩;obtain⟨f1,f2⟩:=hf.2 b hb (hbi.trans (z2.symm.trans w2));refine⟨by rw[←z3,w3];exact f1,fun t ht hv=>?_⟩;have:=f2 t ht (by rw[hv,←z3,w3]);rw[←z5,w4,z4,this]
  ·exact h.cb.e9 i' v r q ⟨m,hm,z,hz,z1,z2,z3,z4,z5⟩
 have Rw:=Q83 (nd:={n with Yi:=l}) hN.kn y
 by_cases h5:y.kind=5
 ·obtain⟨on,ko⟩:=Q08 hN.ph (List.mem_append_left _ hym) h5;have hon:i∈s.b.stops.getD []:=of_decide_eq_true on
  have hcb:CB (Sq s.Ym s.ran (goG x y.Qm i)) (E8 s.nd) (E9 s.nd) s.Qe s.b:=
   ⟨fun z hz=>by
    have hj:=h.cb.j z hz;refine⟨hj.k,hj.w,hj.cw,hj.ww,hj.wr,hj.ver,fun r hr=>?_,hj.Yt⟩;have hR:=hj.ran r hr;have hre:=h.re z hz r hr
    refine⟨hR.ne,hR.nd,fun e he=>?_,fun F T k=>?_,hR.g⟩
    ·obtain⟨e1,e2,e3⟩:=hR.e e he;refine⟨?_,e2,e3⟩;show e.2=if z.id=y.Qm∧e.1=i then (0,0) else x.s z.id e.1
     rw[if_neg fun q:z.id=y.Qm∧e.1=i=>hre e he (by rw[q.2];exact hon)];exact e1
    ·by_cases hz2:z.id=y.Qm∧i∈z.at_
     ·have:=(k i hz2.2).1;exact absurd this (by show ¬0<(if z.id=y.Qm∧i=i then ((0,0):Nat×Nat) else x.s z.id i).1;rw[if_pos ⟨hz2.1,rfl⟩];decide)
     ·refine hR.ov F T fun j hj=>?_;have:=k j hj;have e9:(goG x y.Qm i).s z.id j=x.s z.id j:=if_neg fun q:z.id=y.Qm∧j=i=>hz2 ⟨q.1,by rw[←q.2];exact hj⟩;rw[show (Sq s.Ym s.ran (goG x y.Qm i)).s z.id j=x.s z.id j from e9]at this;exact this,h.cb.o8,h.cb.o5,h.cb.e8,h.cb.e9,fun q hq=>⟨(h.cb.im q hq).len,(h.cb.im q hq).ran,(h.cb.im q hq).bs,(h.cb.im q hq).j⟩,h.cb.ord,h.cb.dn⟩
  refine⟨goG x y.Qm i,rfl,⟨hcb.env rfl (fun o ho=>ho) h8 h9 (List.Sublist.refl _) (fun _ k=>k),h.vl,h.nr,h.re,fun j m hm=>?_,fun id j=>?_,h.dn⟩⟩
  ·rcases Hg hn j m hm with ⟨rfl,rfl⟩|⟨hj,hm⟩
   ·refine⟨fun z hz hr=>?_,fun z hz h7=>?_,fun z hz k5=>?_⟩
    ·rcases Rw z hz hr with ⟨k1,k2⟩|⟨_,k2,k3,k4⟩
     ·obtain⟨q1,q2,q3⟩:=hC.ru z k1 hr;refine⟨?_,q2,q3⟩;show _=if z.1=y.Qm∧j=j then _ else _
      rw[if_neg fun q=>k2 h5 q.1];exact q1
     ·refine⟨?_,.inl k3,?_⟩
      ·show _=if z.1=y.Qm∧j=j then _ else _
       rw[if_pos ⟨k2,rfl⟩,k3,k4]
      ·show x.g z.1 j;rw[k2];exact hC.go y hym h5
    ·rcases Qg0 {n with Yi:=l} y with ho|⟨w,ho,_,ho7⟩
     ·rw[ho]at hz;exact absurd h7 (ko z hz)
     ·rw[ho]at hz
      rcases List.mem_append.1 hz with hz|hz
      ·exact absurd h7 (ko z hz)
      ·rw[List.mem_singleton.1 hz]at h7;have:=(ho7 h7).1;omega
    ·rw[hinn]at hz;exact hC.go z (hl z hz) k5
   ·have hM:=h.nc j m hm;have e:∀k,(goG x y.Qm i).s k j=x.s k j:=fun k=>if_neg fun q=>hj q.2;exact⟨fun z hz hr=>by rw[e];exact hM.ru z hz hr,fun z hz h7 h0=>by rw[e];exact hM.st z hz h7 h0,hM.go⟩
  ·show (if id=y.Qm∧j=i then ((0,0):Nat×Nat) else x.s id j).2≤s.now
   split
   ·exact Nat.zero_le _
   ·exact h.le id j
 ·refine⟨x,rfl,⟨h.cb.env rfl (fun o ho=>ho) h8 h9 (List.Sublist.refl _) (fun _ k=>k),h.vl,h.nr,h.re,fun j m hm=>?_,h.le,h.dn⟩⟩
  rcases Hg hn j m hm with ⟨rfl,rfl⟩|⟨hj,hm⟩
  ·refine⟨fun z hz hr=>?_,fun z hz h7 h0=>?_,fun z hz k5=>?_⟩
   ·rcases Rw z hz hr with ⟨k1,_⟩|⟨k1,_⟩
    ·exact hC.ru z k1 hr
    ·exact absurd k1 h5
   ·rcases Qg0 {n with Yi:=l} y with ho|⟨w,ho,_,ho7⟩
    ·rw[ho]at hz;exact hC.st z hz h7 h0
    ·rw[ho]at hz
     rcases List.mem_append.1 hz with hz|hz
     ·exact hC.st z hz h7 h0
     ·have hz:=List.mem_singleton.1 hz;subst hz;obtain⟨w1,r,w2,w3,w4⟩:=(ho7 h7).2 h0;have w1:Qz n.rk=z.1.Qm:=w1;obtain⟨r2,r3,r4⟩:=Kv (l:=n.rk) (by rw[w1];exact h0);rw[w1]at r3;have r5:=U3 hN.kn r3;have w2:Yg z.1.Qm n.rk=some r:=w2;rw[w2]at r5;cases r5;rw[w3,w4];exact(hC.ru _ r3 r4).1
   ·rw[hinn]at hz;exact hC.go z (hl z hz) k5
  ·exact h.nc j m hm
theorem Tz{b:Br}(h:b.stops=none)(n:Nat):Qw b n=b:=by
 unfold Qw;rw[h]
theorem Qrx{b:Br}(hb:BrI b never)(h:b.stops=none)(i:Nat)(t:Nt)(bl:List Int):(X6 b i t bl).2.stops=none:=by
 unfold X6
 split
 ·exact h
 split
 ·show (W4 b _ t).stops=none;unfold W4;rw[if_neg (by rw[h];simp)];exact h
 ·cases hg:Qg b.js t.Qm with
  | none=>exact h
  | some x=>
   simp only
   split
   ·exact(Qbx hb (by rw[(Qd hg).2];exact hg) _ _ _).1.stops.trans h
   ·exact h
theorem Qrc{b:Br}(h:b.stops=none)(n:Int):(V1 b n).2.stops=none:=by
 unfold V1
 split
 ·exact h
 ·have a4:(each (Yk n.toNat) {b with up:=Vx b.up n.toNat,m:=(upR b.m n false).2,Qa:=b.Qa.filter fun o=>decide (o.1≠n.toNat)} b.ids).stops=none:=Vr (P:=fun t=>t.stops=none) (f:=Yk n.toNat) (fun t x ht _=>(Rr _ t x).trans ht) b.ids _ h;show (Qw _ _).stops=none;rw[Tz a4];exact a4
theorem Lh(b:Br)(y:Bj):(Q0 b y).stops=b.stops:=by
 unfold Q0
 split
 ·rfl
 ·exact Mj _ _ _
theorem Dw(b:Br)(id ver:Nat)(ok:Bool):(Qr b id ver ok).2.stops=b.stops:=by
 unfold Qr;cases hg:Qg b.js id with
 | none=>rfl
 | some x=>
  simp only
  split
  ·rfl
  ·split
   ·rfl
   ·exact Lh _ _
theorem Ln(b:Br)(id:Nat):(Yr b id).2.stops=b.stops:=by
 unfold Yr;cases hg:Qg b.js id with
 | none=>rfl
 | some x=>
  simp only
  split
  ·exact Mj _ _ _
  ·split <;> rfl
theorem Qnl{now:Nat}{b b':Br}(h:VL (if b.stops.isSome=b'.stops.isSome then 2*now+(if b.stops.isSome then 0 else 1) else 2*now+(if b.stops.isSome then 0 else 1)+1) b')(hn:b.stops=none→b'.stops=none):VL (2*now+if b'.stops.isSome then 0 else 1) b':=by
 cases e:b.stops with
 | none=>rw[e,hn e]at h;rw[hn e];exact h
 | some d=>
  rw[e]at h;cases e':b'.stops with
  | none=>rw[e']at h;exact h
  | some d'=>rw[e']at h;exact h
theorem Qe2{now:Nat}{b b':Br}(h:VL (2*now+if b.stops.isSome then 0 else 1) b)(k:VM b b')(hs:b'.stops=b.stops):VL (2*now+if b'.stops.isSome then 0 else 1) b':=by
 rw[hs];exact k.vl h
theorem Qmr{nd:List Nd}{i:Nat}{n n':Nd}(hn:nd[i]?=some n)(h:∀z∈n'.Yi,z∈n.Yi){j v r:Nat}(k:E8 (nd.set i n') j v r):E8 nd j v r:=by
 obtain⟨m,hm,z,hz,hzz⟩:=k
 rcases Kq hm with rfl|hm
 ·exact⟨n,List.mem_of_getElem? hn,z,h z hz,hzz⟩
 ·exact⟨m,hm,z,hz,hzz⟩
theorem Qmq{nd:List Nd}{i:Nat}{n n':Nd}(hn:nd[i]?=some n)(h:∀z∈n'.out,z∈n.out){j v r:Nat}{q:List Int}(k:E9 (nd.set i n') j v r q):E9 nd j v r q:=by
 obtain⟨m,hm,z,hz,hzz⟩:=k
 rcases Kq hm with rfl|hm
 ·exact⟨n,List.mem_of_getElem? hn,z,h z hz,hzz⟩
 ·exact⟨m,hm,z,hz,hzz⟩
theorem Qlt{x:Gh}{s:Sm}(h:CS x s){i:Nat}{n n':Nd}(hn:s.nd[i]?=some n)(h1:∀y∈n'.rk,y∈n.rk)(h2:∀y∈n'.out,y∈n.out)(h3:∀y∈n'.Yi,y∈n.Yi):∀(j:Nat) (m:Nd),(s.nd.set i n')[j]?=some m→NC x s.now j m:=fun j m hm=>by
 rcases Hg hn j m hm with ⟨rfl,rfl⟩|⟨_,hm⟩
 ·have hC:=h.nc j n hn;exact⟨fun y hy=>hC.ru y (h1 y hy),fun y hy=>hC.st y (h2 y hy),fun y hy=>hC.go y (h3 y hy)⟩
 ·exact h.nc j m hm
theorem Q26{x:Gh}{s:Sm}(h:CS x s)(hG:GJ s.b s.nd)(Ql6:s.now≤1000000){i:Nat}{n:Nd}(hn:s.nd[i]?=some n){y:Nt×List Int}{l:List (Nt×List Int)}(ho:n.out=y::l):CS x {s with nd:=s.nd.set i {n with out:=l},b:=(X6 s.b i y.1 y.2).2}:=by
 have hym:y∈n.out:=by rw[ho];exact List.mem_cons_self ..
 have hl:∀z∈l,z∈n.out:=fun z hz=>by rw[ho];exact List.mem_cons_of_mem _ hz
 obtain⟨c1,c2,c3⟩:=Q3p (v:=2*s.now+if s.b.stops.isSome then 0 else 1) (by show _≤(4294967295:Nat);split <;> omega) (Nat.le_refl _) hG.gi.bi h.cb h.vl h.nr i y.1 y.2 (fun h7 h0=>(h.nc i n hn).st y hym h7 h0) (fun h9=>h.cb.e9 _ _ _ _ ⟨n,List.mem_of_getElem? hn,y,hym,h9,rfl,rfl,rfl,rfl⟩);exact⟨c1.env rfl (fun o ho=>ho) (fun j v r k=>c1.e8 j v r (Qmr (n':={n with out:=l}) hn (fun z hz=>hz) k)) (fun j v r q k=>c1.e9 j v r q (Qmq (n':={n with out:=l}) hn hl k)) (List.Sublist.refl _) (fun _ k=>k),Qnl c3 (fun e=>Qrx hG.gi.bi e _ _ _),c2,Q0t h.re _ _ _,Qlt h hn (fun _ k=>k) hl (fun _ k=>k),h.le,h.dn⟩
theorem Qlm{x:Gh}{s:Sm}(h:CS x s){y:Im}{l:List Im}(hi:s.Qe=y::l)(ok:Bool):CS x {s with Qe:=l,b:=(Qr s.b y.Qm y.ver ok).2}:=by
 have h0:=h.cb;rw[hi]at h0;obtain⟨c1,c2,c3⟩:=Qgw h0 ok;exact⟨c1,Qe2 h.vl c2 (Dw _ _ _ _),fun e=>c3 (h.nr ((Dw _ _ _ _) ▸ e)),h.re.rm (Qfk _ _ _ _),h.nc,h.le,h.dn⟩
theorem Qsh{x:Gh}{s:Sm}(h:CS x s)(id:Nat):CS x {s with b:=(Yr s.b id).2}:=by
 obtain⟨c1,c2,c3⟩:=Qsg h.cb id;exact⟨c1,Qe2 h.vl c2 (Ln _ _),fun e=>c3 (h.nr ((Ln _ _) ▸ e)),h.re.rm (Qql _ _),h.nc,h.le,h.dn⟩
theorem Q1u{x:Gh}{s:Sm}(h:CS x s)(Ql6:s.now≤1000000){i:Nat}{n:Nd}(hn:s.nd[i]?=some n):CS x {s with nd:=s.nd.set i {up:=false,rk:=[],Yi:=[],out:=[],Qf:=n.Qf},b:=(V1 s.b i).2}:=by
 obtain⟨c1,c2,c3⟩:=Q3n (v:=2*s.now+if s.b.stops.isSome then 0 else 1) (by show _≤(4294967295:Nat);split <;> omega) (Nat.le_refl _) h.cb h.vl h.nr i;exact⟨c1.env rfl (fun o ho=>ho) (fun j v r k=>c1.e8 j v r (Qmr hn (fun z hz=>(by cases hz)) k)) (fun j v r q k=>c1.e9 j v r q (Qmq hn (fun z hz=>(by cases hz)) k)) (List.Sublist.refl _) (fun _ k=>k),Qnl c3 (fun e=>Qrc e _),c2,h.re.rm (Q0o _ _),Qlt h hn (fun _ k=>(by cases k)) (fun _ k=>(by cases k)) (fun _ k=>(by cases k)),h.le,h.dn⟩
theorem Q4f(b:Br)(n:Int):(Ke b n).2.js=b.js∧(Ke b n).2.Qa=b.Qa∧(Ke b n).2.Qe=b.Qe∧(Ke b n).2.done=b.done∧(Ke b n).2.stops=b.stops:=by
 unfold Ke;split <;> exact⟨rfl,rfl,rfl,rfl,rfl⟩
theorem Zaa{x:Gh}{s:Sm}(h:CS x s){i:Nat}{n:Nd}(hn:s.nd[i]?=some n):CS x {s with nd:=s.nd.set i {n with up:=true},b:=(Ke s.b i).2}:=by
 obtain⟨u1,u2,u3,u4,u5⟩:=Q4f s.b i
 refine⟨h.cb.env u1 (fun o ho=>by rw[u2]at ho;exact ho) (fun j v r k=>h.cb.e8 j v r (Qmr (n':={n with up:=true}) hn (fun z hz=>hz) k)) (fun j v r q k=>h.cb.e9 j v r q (Qmq (n':={n with up:=true}) hn (fun z hz=>hz) k)) (by show (s.Qe++(Ke s.b i).2.Qe).Sublist _;rw[u3];exact List.Sublist.refl _) (fun id k=>by rw[u4]at k;exact k),?_,fun e=>?_,h.re.rm (.same u1 u5),Qlt h hn (fun _ k=>k) (fun _ k=>k) (fun _ k=>k),h.le,h.dn⟩
 ·exact Qe2 h.vl (.same u1) u5
 ·intro z hz;exact h.nr (u5 ▸ e) z (u1 ▸ hz)
theorem Qbp{js:List Jo}{j:Jo}{id:Nat}(h:id≠j.id):Uv (js++[j]) id=Uv js id:=by
 unfold Uv;rw[List.find?_append];cases js.find? fun j=>decide (j.id=id) with
 | some x=>rfl
 | none=>
  rw[Option.none_or,List.find?_cons_of_neg (by simpa using fun e:j.id=id=>h e.symm)];rfl
theorem Qre{js:List Jo}{j:Jo}(h:∀x∈js,x.id≠j.id):Uv js j.id=none∧Uv (js++[j]) j.id=some j:=by
 have h1:Uv js j.id=none:=List.find?_eq_none.2 fun x hx=>by simpa using h x hx
 refine⟨h1,?_⟩;unfold Uv at h1 ⊢;rw[List.find?_append,h1,Option.none_or,List.find?_cons_of_pos (by simp)]
theorem Q81{x:Gh}{s:Sm}(h:CS x s){j:Jo}(hj:∀z∈s.Ym,z.id≠j.id)(ho:s.b.Qa=[])(hd:s.b.done=[])(hold:∀id∈s.done,id≠j.id)(hm0:x.m j.id=0):CS x (Ho s j):=by
 unfold Ho;unfold Fx
 by_cases h1:Fm s.b (U9 j.id j.tier j.k j.w 0 0)=false
 ·rw[if_pos h1,if_neg (by show ¬(1:Int)=0;decide)];exact h.same rfl rfl rfl rfl rfl rfl rfl
 rw[if_neg h1]
 by_cases h2:(Qg s.b.js (U9 j.id j.tier j.k j.w 0 0).id).isSome=true
 ·rw[if_pos h2,if_neg (by show ¬(7:Int)=0;decide)];exact h.same rfl rfl rfl rfl rfl rfl rfl
 rw[if_neg h2,if_pos rfl]
 have Vb:Qg s.b.js (U9 j.id j.tier j.k j.w 0 0).id=none:=by
  cases hg:Qg s.b.js (U9 j.id j.tier j.k j.w 0 0).id with
  | none=>rfl
  | some y=>rw[hg]at h2;exact absurd rfl h2
 have h1:Fm s.b (U9 j.id j.tier j.k j.w 0 0)=true:=by simpa using h1
 simp only[Fm,Bool.and_eq_true,decide_eq_true_eq]at h1;obtain⟨n1,n2⟩:=Qre hj;obtain⟨y,hy⟩:∃y,y=U9 j.id j.tier j.k j.w 0 0:=⟨_,rfl⟩;have y0:y.id=j.id∧y.k=j.k∧y.w=j.w∧y.Qb=0∧y.work=0∧y.ver=0∧y.ran=none∧y.Yt=none:=by rw[hy];exact⟨rfl,rfl,rfl,rfl,rfl,rfl,rfl,rfl⟩
 rw[←hy]at Vb ⊢;obtain⟨y1,y2,y3,y4,y5,y6,y7,y8⟩:=y0
 have hyj:JC (Sq (s.Ym++[j]) s.ran x) y:=by
  refine⟨⟨?_,by rw[y2];exact h1.1.1.1.1.1.2⟩,?_,⟨by show x.m y.id≤_;rw[y1,hm0];exact Nat.zero_le _,by omega⟩,by omega,by omega,by omega,fun r hr=>(by rw[y7]at hr;cases hr),fun t ht=>(by rw[y8]at ht;cases ht)⟩
  ·show y.k=kOf (s.Ym++[j]) y.id;rw[y1,y2,kOf,n2]
  ·show y.w=wOf (s.Ym++[j]) y.id;rw[y1,y3,wOf,n2]
 have hk0:(Sq s.Ym s.ran x).k y.id=0:=by
  show kOf s.Ym y.id=0;rw[y1,kOf,n1]
 have hins:CB (Sq (s.Ym++[j]) s.ran x) (E8 s.nd) (E9 s.nd) s.Qe (Ug s.b y):=Q8u h.cb hk0 (fun i hi=>by
  have e:=Qbp (js:=s.Ym) (j:=j) (id:=i) (by rw[←y1];exact hi);exact⟨by show kOf (s.Ym++[j]) i=kOf s.Ym i;rw[kOf,e];rfl,by show wOf (s.Ym++[j]) i=wOf s.Ym i;rw[wOf,e];rfl⟩) rfl rfl rfl rfl rfl hyj y8 Vb ho hd
 have Vt:∀z∈(Ug s.b y).js,z=y∨z∈s.b.js:=fun z hz=>V0.1 (show z∈Kl y s.b.js from hz);have hw:y.Qb<y.w:=by rw[y4];omega
 have Xi:Q0 (Ug s.b y) y=Br.set (Ug s.b y) y:=by
  unfold Q0;rw[if_pos (.inl hw)]
 have Q5:∀z∈(Q0 (Ug s.b y) y).js,z=y∨z∈s.b.js:=fun z hz=>by
  rw[Xi]at hz
  rcases Xh (show z∈Yo (Ug s.b y).js y from hz) with e|⟨k,_⟩
  ·exact .inl e
  ·exact Vt z k
 have Xf:(Q0 (Ug s.b y) y).stops=s.b.stops:=Lh _ _
 have hcb:CB (Sq (s.Ym++[j]) s.ran x) (E8 s.nd) (E9 s.nd) s.Qe (Q0 (Ug s.b y) y):=by
  rw[Xi]
  refine hins.go (fun z hz=>?_) (fun z hz=>?_) (fun o k=>.inl k) rfl rfl
  ·rcases Xh (show z∈Yo (Ug s.b y).js y from hz) with rfl|⟨k,_⟩
   ·exact⟨z,V0.2 (.inl rfl),.refl z⟩
   ·exact⟨z,k,.refl z⟩
  ·rcases Xh (show z∈Yo (Ug s.b y).js y from hz) with rfl|⟨k,_⟩
   ·exact hyj
   ·exact hins.j z k
 refine⟨hcb,fun z hz=>?_,fun e z hz=>?_,fun z hz r hr e he=>?_,h.nc,h.le,fun id hid=>?_⟩
 ·rw[Xf]
  rcases Q5 z hz with rfl|hz
  ·omega
  ·exact h.vl z hz
 ·rcases Q5 z hz with rfl|hz
  ·exact y7
  ·exact h.nr (Xf ▸ e) z hz
 ·rw[Xf]
  rcases Q5 z hz with rfl|hz
  ·rw[y7]at hr;cases hr
  ·exact h.re z hz r hr e he
 ·have:=h.dn id hid;show wOf (s.Ym++[j]) id≤Yn id s.ran;rw[wOf,Qbp (hold id hid)];exact this
def Tw(x:Gh)(nd:List Nd)(now:Nat):Gh:=⟨fun id i=>match nd[i]? with
 | none=>x.s id i
 | some n=>if Qz n.rk=id∧id≠0 then (if (x.s id i).1=0 then now else (x.s id i).1,now) else x.s id i,x.g,x.m⟩
theorem Qdg(x:Gh){nd:List Nd}(now:Nat){id i:Nat}{n:Nd}(hn:nd[i]?=some n)(h:Qz n.rk=id)(h0:id≠0):(Tw x nd now).s id i=(if (x.s id i).1=0 then now else (x.s id i).1,now):=by
 show (match nd[i]? with|none=>_|some n=>_)=_;rw[hn];exact if_pos ⟨h,h0⟩
theorem Tv(x:Gh){nd:List Nd}(now:Nat){id i:Nat}(h:∀n,nd[i]?=some n→¬(Qz n.rk=id∧id≠0)):(Tw x nd now).s id i=x.s id i:=by
 show (match nd[i]? with|none=>_|some n=>_)=_;cases hn:nd[i]? with
 | none=>rfl
 | some n=>exact if_neg (h n hn)
theorem Qz2{n:Nd}(kn:(keys n.rk).Nodup)(ps:pos n.rk)(one:U2 n.rk)(now:Nat):∀y∈(Q2 now n).rk,y.2.run=true→Qz n.rk=y.1∧y.1≠0∧∃r,(y.1,r)∈n.rk∧r.run=true∧y.2.Un=now∧y.2.W7=if r.W7=0 then now else r.W7:=by
 intro y hy hr;unfold Q2 at hy
 split at hy
 ·rename_i h0;obtain⟨r,r1,r2⟩:=Kv h0;rw[U3 kn r1]at hy;have hy:y∈Xl (Qz n.rk) {r with Un:=now,W7:=if r.W7=0 then now else r.W7} n.rk:=hy
  by_cases e:y.1=Qz n.rk
  ·have h1:=U3 (k:=y.1) (v:=y.2) (J9 (Qz n.rk) _ kn) hy;rw[Jp,if_pos e]at h1;have h1:=Option.some.inj h1;exact⟨e.symm,by rw[e];exact h0,r,by rw[e];exact r1,r2,by rw[←h1],by rw[←h1]⟩
  ·rcases Va hy with rfl|hy
   ·exact absurd rfl e
   ·exact absurd (Qh6 one ps hy hr).symm e
 ·rename_i h0;have h0:Qz n.rk=0:=Classical.byContradiction h0;have:=E2 ps h0 y hy;rw[this]at hr;cases hr
theorem Qt6(now:Nat)(n:Nd):Qz (Q2 now n).rk=Qz n.rk:=by
 obtain⟨rk,e,h⟩:=Qhf now n;rw[e];exact Qny h
theorem Q8s{α:Type}{l:List α}{p:α→Bool}{at_:List Nat}(G2:at_.Nodup)(h:∀i n,l[i]?=some n→(p n=true↔i∈at_))(Wq:∀i∈at_,i<l.length):(l.filter p).length=at_.length:=by
 have e:(l.filter p).length=((l.zipIdx.filter fun x=>p x.1).map (·.2)).length:=by
  rw[List.length_map];have:=List.filter_map (f:=Prod.fst) (p:=p) (l:=l.zipIdx);rw[List.zipIdx_map_fst]at this;rw[this,List.length_map];rfl
 have Vt:∀i,i∈((l.zipIdx.filter fun x=>p x.1).map (·.2))↔i∈at_:=fun i=>by
  rw[List.mem_map]
  constructor
  ·rintro ⟨⟨n,j⟩,hx,rfl⟩;obtain⟨h1,h2⟩:=List.mem_filter.1 hx;exact(h j n (List.mem_zipIdx_iff_getElem?.1 h1)).1 h2
  ·intro hi;obtain⟨n,hn⟩:=Yv (Wq i hi);exact⟨(n,i),List.mem_filter.2 ⟨List.mem_zipIdx_iff_getElem?.2 hn,(h i n hn).2 hi⟩,rfl⟩
 have Zfw:((l.zipIdx.filter fun x=>p x.1).map (·.2)).Nodup:=by
  refine List.Nodup.sublist (l₂:=l.zipIdx.map (·.2)) ((List.filter_sublist ..).map _) ?_;rw[List.zipIdx_map_snd];exact List.nodup_range'
 rw[e];exact Nat.le_antisymm (Sy _ _ Zfw fun i hi=>(Vt i).1 hi) (Sy _ _ G2 fun i hi=>(Vt i).2 hi)
theorem Q1c{at_:List Nat}{σ σ':Nat→Nat×Nat}{run:Nat→Prop}{now work ran ran':Nat}(Px:∀i∈at_,run i→σ' i=(if (σ i).1=0 then now+1 else (σ i).1,now+1)∧((σ i).1=0∨(σ i).2=now))(Vb:∀i∈at_,¬run i→σ' i=σ i)(hle:∀i,(σ i).2≤now)(hall:(∀i∈at_,run i)→ran'=ran+1)(Rx:ran≤ran')(hw:work≤ran)
  (ov:∀F T,(∀i∈at_,0<(σ i).1∧(σ i).1≤F∧T≤(σ i).2)→work+(T+1-F)≤ran) (F T:Nat) (k:∀i∈at_,0<(σ' i).1∧(σ' i).1≤F∧T≤(σ' i).2):work+(T+1-F)≤ran':=by
 by_cases hz:∃i∈at_,run i∧(σ i).1=0
 ·obtain⟨i,hi,hr,h0⟩:=hz;obtain⟨k1,k2,k3⟩:=k i hi;rw[(Px i hi hr).1,if_pos h0]at k2 k3;have k2:now+1≤F:=k2;have k3:T≤now+1:=k3
  by_cases ha:∀i∈at_,run i
  ·have:=hall ha;omega
  ·obtain⟨j,hj⟩:=Classical.not_forall.1 ha;obtain⟨hj,hjr⟩:=Classical.not_imp.1 hj;have:=(k j hj).2.2;rw[Vb j hj hjr]at this;have:=hle j;omega
 ·have hnz:∀i∈at_,run i→(σ i).1≠0:=fun i hi hr e=>hz ⟨i,hi,hr,e⟩
  have h1:∀i∈at_,(σ' i).1=(σ i).1:=fun i hi=>by
   by_cases hr:run i
   ·rw[(Px i hi hr).1,if_neg (hnz i hi hr)]
   ·rw[Vb i hi hr]
  by_cases ha:∀i∈at_,run i
  ·have hA:=hall ha
   by_cases hT:T=0
   ·omega
   ·have:=ov F (T-1) fun i hi=>by
     obtain⟨k1,k2,k3⟩:=k i hi;rw[h1 i hi]at k1 k2;have h2:=(Px i hi (ha i hi)).2;rw[(Px i hi (ha i hi)).1]at k3;have k3:T≤now+1:=k3;have:=hnz i hi (ha i hi);exact⟨k1,k2,by omega⟩
    omega
  ·obtain⟨j,hj⟩:=Classical.not_forall.1 ha;obtain⟨hj,hjr⟩:=Classical.not_imp.1 hj;have hTj:=(k j hj).2.2;rw[Vb j hj hjr]at hTj;have hlj:=hle j
   have:=ov F T fun i hi=>by
    obtain⟨k1,k2,k3⟩:=k i hi;rw[h1 i hi]at k1 k2;refine⟨k1,k2,?_⟩
    by_cases hr:run i
    ·have h2:=(Px i hi hr).2;have:=hnz i hi hr;omega
    ·rw[Vb i hi hr]at k3;exact k3
   omega
theorem Qi7{js:List Jo}{id:Nat}(h:1≤kOf js id):∃j,Uv js id=some j∧j.k=kOf js id∧j.id=id:=by
 unfold kOf at h ⊢;cases hj:Uv js id with
 | none=>rw[hj]at h;exact absurd h (by decide)
 | some j=>exact⟨j,rfl,rfl,by simpa using List.find?_some hj⟩
theorem Qtr{x:Gh}{s:Sm}(h:CS x s)(hG:GJ s.b s.nd)(hjn:(s.Ym.map (·.id)).Nodup) :
  CB (Sq s.Ym (Cn s (s.nd.map (Q2 (s.now+1)))) (Tw x s.nd (s.now+1))) (E8 s.nd) (E9 s.nd) s.Qe s.b ∧
  (∀(i:Nat) (n:Nd),(s.nd.map (Q2 (s.now+1)))[i]?=some n→NC (Tw x s.nd (s.now+1)) (s.now+1) i n) ∧
  (∀id i,((Tw x s.nd (s.now+1)).s id i).2≤s.now+1)∧∀id,Yn id s.ran≤Yn id (Cn s (s.nd.map (Q2 (s.now+1)))):=by
 have Q48:∀id,Yn id (Cn s (s.nd.map (Q2 (s.now+1))))=Yn id s.ran+if hit s (s.nd.map (Q2 (s.now+1))) id then 1 else 0:=fun id=>Qdp s _ hjn id
 have Rx:∀id,Yn id s.ran≤Yn id (Cn s (s.nd.map (Q2 (s.now+1)))):=fun id=>by rw[Q48];exact Nat.le_add_right ..
 have hnr:∀(i:Nat) (n:Nd),s.nd[i]?=some n→i∉s.b.stops.getD []→Vk n.rk:=fun i n hn hi=>by
  cases hu:n.up with
  | false=>
   rw[(hG.gi.off i n hn hu).1];exact fun _ k=>(by cases k)
  | true=>
   intro y hy;cases hr:y.2.run with
   | false=>rfl
   | true=>exact absurd (of_decide_eq_true ((hG.gi.node i n hn hu).ph.ru.2 y hy hr)) hi
 have hpk:∀(i:Nat) (n:Nd),s.nd[i]?=some n→(keys n.rk).Nodup∧pos n.rk∧U2 n.rk:=fun i n hn=>by
  cases hu:n.up with
  | false=>
   rw[(hG.gi.off i n hn hu).1];exact⟨List.nodup_nil,fun _ k=>(by cases k),fun _ k=>(by cases k)⟩
  | true=>
   have hN:=hG.gi.node i n hn hu;exact⟨hN.kn,hN.ps,hN.one⟩
 refine⟨⟨fun z hz=>?_,h.cb.o8,h.cb.o5,h.cb.e8,h.cb.e9,fun q hq=>?_,h.cb.ord,fun id hid=>Nat.le_trans (h.cb.dn id hid) (Rx id)⟩,fun i m hm=>?_,fun id i=>?_,Rx⟩
 ·have hj:=h.cb.j z hz;have hok:=hG.gi.bi.ok.Qm z hz;refine⟨hj.k,hj.w,hj.cw,hj.ww,Nat.le_trans hj.wr (Rx z.id),hj.ver,fun r hr=>?_,hj.Yt⟩;have hR:=hj.ran r hr;have hre:=h.re z hz r hr
  refine⟨hR.ne,hR.nd,fun e he=>?_,?_,hR.g⟩
  ·obtain⟨e1,e2,e3⟩:=hR.e e he;refine⟨?_,e2,e3⟩;show e.2=(Tw x s.nd (s.now+1)).s z.id e.1;rw[Tv x _ fun n hn k=>k.2 (by rw[←k.1,E3 (hnr e.1 n hn (hre e he))])];exact e1
  ·have Q2y:z.id≠0:=by have:=hok.B6;omega
   refine Q1c (σ:=x.s z.id) (run:=fun i=>∃n,s.nd[i]?=some n∧Qz n.rk=z.id) (now:=s.now) (ran:=Yn z.id s.ran) (fun i hi ⟨n,hn,hrn⟩=>?_) (fun i hi Vb=>?_) (h.le z.id) (fun hall=>?_) (Rx z.id) hj.wr hR.ov
   ·refine⟨Qdg x _ hn hrn Q2y,?_⟩;obtain⟨r2,r3,r4⟩:=Kv (l:=n.rk) (by rw[hrn];exact Q2y);rw[hrn]at r3;obtain⟨q1,q2,_⟩:=(h.nc i n hn).ru _ r3 r4;rw[show x.s z.id i=(r2.W7,r2.Un) from q1.symm];exact q2
   ·exact Tv x _ fun n hn k=>Vb ⟨n,hn,k.1⟩
   ·show Yn z.id (Cn s (s.nd.map (Q2 (s.now+1))))=Yn z.id s.ran+1;rw[Q48]
    have hk1:1≤kOf s.Ym z.id:=by
     have:=hj.k.2;rw[hj.k.1]at this;exact this
    obtain⟨j,j1,j2,j3⟩:=Qi7 hk1
    have Zgn:Kd (s.nd.map (Q2 (s.now+1))) z.id=z.at_.length:=by
     refine Q8s (Gg hok.Jy) (fun i m hm=>?_) fun i hi=>?_
     ·rw[List.getElem?_map]at hm;cases hn:s.nd[i]? with
      | none=>rw[hn]at hm;cases hm
      | some n=>
       rw[hn]at hm;cases hm;rw[decide_eq_true_iff,Qt6]
       constructor
       ·intro e;obtain⟨r2,r3,r4⟩:=Kv (l:=n.rk) (by rw[e];exact Q2y);rw[e]at r3;exact hR.g i ((h.nc i n hn).ru _ r3 r4).2.2
       ·intro hi;obtain⟨n',hn',e⟩:=hall i hi;rw[hn]at hn';cases hn';exact e
     ·rw[List.length_map,hG.gi.len];exact hok.at_ i hi
    have Zfg:z.state≠0:=fun e0=>by
     have:=((hG.gi.bi.j z hz).q e0).2.2.2.1;rw[this]at hr;cases hr
    have hlen:=((hG.gi.bi.j z hz).p Zfg).1
    have Qc2:hit s (s.nd.map (Q2 (s.now+1))) z.id=true:=by
     unfold hit;rw[j1];unfold A5;have hjk:j.k=z.k:=by rw[j2];exact hj.k.1.symm
     have:=hj.k.2;simp only[j3,Zgn,hlen,hjk,Bool.and_eq_true,decide_eq_true_eq];exact⟨⟨Q2y,trivial⟩,by omega⟩
    rw[Qc2,if_pos rfl]
 ·have f:=h.cb.im q hq;exact⟨f.len,Nat.le_trans f.ran (Rx q.Qm),f.bs,f.j⟩
 ·rw[List.getElem?_map]at hm;cases hn:s.nd[i]? with
  | none=>rw[hn]at hm;cases hm
  | some n=>
   rw[hn]at hm;cases hm;obtain⟨p1,p2,p3⟩:=hpk i n hn;have hC:=h.nc i n hn;obtain⟨_,t2,t3,_⟩:=Jd (s.now+1) n
   refine⟨fun y hy hr=>?_,fun y hy h7 h0=>?_,fun y hy k5=>?_⟩
   ·obtain⟨a1,a2,r,a3,a4,a5,a6⟩:=Qz2 p1 p2 p3 (s.now+1) y hy hr;obtain⟨q1,q2,q3⟩:=hC.ru _ a3 a4;have q1:(r.W7,r.Un)=x.s y.1 i:=q1;refine⟨?_,.inr a5,q3⟩;rw[Qdg x _ hn a1 a2,←q1,a5,a6]
   ·rw[t3]at hy
    rw[Tv x _ fun n' hn' k=>?_]
    ·exact hC.st y hy h7 h0
    ·rw[hn]at hn';cases hn';cases hu:n.up with
     | false=>rw[(hG.gi.off i n hn hu).2.2.1]at hy;cases hy
     | true=>
      have hph:=(hG.gi.node i n hn hu).ph;cases hph with
      | rest a1 a2 a3 a4 a5=>exact absurd h7 (a4 y hy)
      | go a1 a2 a3 a4 a5 a6=>exact absurd h7 (a4 y hy)
      | stop a s2 c a1 a2 a3 a4 a5 a6 a7 a8 a9 a10 a11=>exact absurd h7 (a11 y hy)
      | said a s2 c a1 a2 a3 a4 a5 a6 a7 a8 a9 a10=>exact k.2 (by rw[←k.1,E3 a5])
   ·rw[t2]at hy;exact hC.go y hy k5
 ·show (match s.nd[i]? with|none=>x.s id i|some n=>if Qz n.rk=id∧id≠0 then (if (x.s id i).1=0 then s.now+1 else (x.s id i).1,s.now+1) else x.s id i).2≤s.now+1;have:=h.le id i;cases s.nd[i]? with
  | none=>show (x.s id i).2≤_;omega
  | some n=>
   show (if Qz n.rk=id∧id≠0 then (if (x.s id i).1=0 then s.now+1 else (x.s id i).1,s.now+1) else x.s id i).2≤s.now+1
   split
   ·exact Nat.le_refl _
   ·omega
def CX(s:Sm)(M:Nat→Nat):Prop:=∃x:Gh,x.m=M∧CS x s
theorem VL.mono{v w:Nat}{b:Br}(h:VL v b)(hw:v≤w):VL w b:=fun x hx=>Nat.le_trans (h x hx) hw
theorem Qpr{nd:List Nd}{now i v r:Nat}(k:E8 (nd.map (Q2 now)) i v r):E8 nd i v r:=by
 obtain⟨m,hm,z,hz,hzz⟩:=k;obtain⟨n,hn,rfl⟩:=List.mem_map.1 hm;rw[(Jd now n).2.1]at hz;exact⟨n,hn,z,hz,hzz⟩
theorem Qpq{nd:List Nd}{now i v r:Nat}{l:List Int}(k:E9 (nd.map (Q2 now)) i v r l):E9 nd i v r l:=by
 obtain⟨m,hm,z,hz,hzz⟩:=k;obtain⟨n,hn,rfl⟩:=List.mem_map.1 hm;rw[(Jd now n).2.2.1]at hz;exact⟨n,hn,z,hz,hzz⟩
theorem Qhh{s:Sm}{F T:Nat}{M:Nat→Nat}(h:CX s M)(hI:SI s F T)(hT:T+1≤1000000):CX (Ku s) M:=by
 obtain⟨x,hm,hC⟩:=h;have hB:=hI.sb;have htm:=hB.tm;have hgt:=Pj hB.gj (s.now+1);have hg:=Qnp hgt (now:=s.now+1) (by omega);obtain⟨d1,d2,d3⟩:=Qnq hB.di (now:=s.now+1) (by rw[hB.now];omega) hg.gi.bi.ok.Yz;obtain⟨a1,a2,a3,a4⟩:=Qtr hC hB.gj hB.jn;have h5:no5 s.b:=fun o ho=>by rw[hI.e1]at ho;cases ho
 obtain⟨c1,c2⟩:=Q3m (v:=2*s.now+if s.b.stops.isSome then 0 else 1) (by show _≤(4294967295:Nat);split <;> omega) (Nat.le_refl _) hB.gj.gi.bi a1 hC.vl hC.nr h5 (now:=s.now+1) (by omega)
 have hvl:VL (2*(s.now+1)+if (Y3 s.b (s.now+1)).2.stops.isSome then 0 else 1) (Y3 s.b (s.now+1)).2:=c2.mono (by
  have q1:(if s.b.stops.isSome then 0 else 1)≤1:=by split <;> decide
  omega)
 have hre:=Q0s hC.re hC.nr (s.now+1);obtain⟨t,ht⟩:∃t:Sm,t={s with now:=s.now+1,ran:=Cn s (s.nd.map (Q2 (s.now+1))),b:=(Y3 s.b (s.now+1)).2,nd:=s.nd.map (Q2 (s.now+1)),ok:=s.ok&&stB s}:=⟨_,rfl⟩
 have e:Ku s=Vd t:=by
  rw[ht];unfold Ku;dsimp only;rw[if_neg (by rw[d3];exact fun e=>e rfl)]
 have G2:(t.done++t.b.done).Nodup:=by rw[ht];exact d1.nd
 have Zcc:GJ t.b t.nd:=by rw[ht];exact hg
 have D7:∀id∈s.done,wOf s.Ym id≤Yn id (Cn s (s.nd.map (Q2 (s.now+1)))):=fun id hid=>Nat.le_trans (hC.dn id hid) (a4 id);rw[e]
 rcases c1 with ⟨c3,c4⟩|⟨g,c3,c4,c5⟩
 ·refine⟨Tw x s.nd (s.now+1),hm,Hy ?_ Zcc G2⟩;rw[ht];exact⟨c3.env rfl (fun o ho=>ho) (fun j v r k=>c3.e8 j v r (Qpr k)) (fun j v r q k=>c3.e9 j v r q (Qpq k)) (List.Sublist.refl _) (fun _ k=>k),hvl,c4,hre,a2,a3,D7⟩
 ·refine⟨⟨fun _ _=>(0,0),g,x.m⟩,hm,Hy ?_ Zcc G2⟩;rw[ht]
  refine⟨CB.env (c:=Sq s.Ym (Cn s (s.nd.map (Q2 (s.now+1)))) ⟨fun _ _=>(0,0),g,x.m⟩) c3 rfl (fun o ho=>ho) (fun j v r k=>c3.e8 j v r (Qpr k)) (fun j v r q k=>c3.e9 j v r q (Qpq k)) (List.Sublist.refl _) (fun _ k=>k),hvl,fun e=>?_,hre,fun i n hn=>?_,fun _ _=>Nat.zero_le _,D7⟩
  ·have e:(Y3 s.b (s.now+1)).2.stops=none:=e;rw[e]at c5;cases c5
  ·have hn:(s.nd.map (Q2 (s.now+1)))[i]?=some n:=hn;cases hu:n.up with
   | false=>
    obtain⟨o1,o2,o3,_⟩:=hgt.gi.off i n hn hu;exact⟨fun y hy=>(by rw[o1]at hy;cases hy),fun y hy=>(by rw[o3]at hy;cases hy),fun y hy=>(by rw[o2]at hy;cases hy)⟩
   | true=>
    have hph:=(hgt.gi.node i n hn hu).ph;have hon:decide (i∈s.b.stops.getD [])=false:=by rw[c4];simp
    rw[hon]at hph;cases hph with
    | rest b1 b2 b3 b4 b5=>exact⟨fun y hy hr=>(by rw[b5 y hy]at hr;cases hr),fun y hy h7=>absurd h7 (b4 y hy),fun y hy k5=>absurd k5 (b2 y (List.mem_append_left _ hy))⟩
    | go b1 _ _ _ _ _=>cases b1
    | stop _ _ _ b1 _ _ _ _ _ _ _ _ _ _=>cases b1
    | said _ _ _ b1 _ _ _ _ _ _ _ _ _=>cases b1
theorem Mk{s:Sm}{F T:Nat}{M:Nat→Nat}(h:CX s M)(hI:SI s F T)(hT:T≤1000000)(i:Nat)(back:Bool):CX (Zt s i back).2 M:=by
 obtain⟨x,hm,hC⟩:=h;have hB:=hI.sb;have htm:=hB.tm;unfold Zt;cases hn:s.nd[i]? with
 | none=>exact⟨x,hm,hC⟩
 | some n=>
  simp only
  by_cases hu0:n.up=false
  ·rw[if_pos hu0];exact⟨x,hm,hC⟩
  ·have hu:n.up=true:=by simpa using hu0
   rw[if_neg hu0];cases back with
   | true=>
    rw[if_pos rfl]
    split
    ·exact⟨x,hm,hC⟩
    ·rename_i y l ho;have hx:=(hB.nb n (List.mem_of_getElem? hn)).o y (by rw[ho];exact List.mem_cons_self ..);have Cb:y.1.W7≤4294967295∧y.1.Un≤4294967295:=⟨by omega,by omega⟩;have hg:=Qpj hB.gj hn hu ho Cb;have hj:=Qo6 s.b i y.1 y.2;exact⟨x,hm,Hy ((Q26 hC hB.gj (by omega) hn ho).same rfl rfl rfl rfl rfl rfl rfl) hg (hB.di.jr hj hg.gi.bi.ok.Yz).nd⟩
   | false=>
    rw[if_neg (by decide)]
    split
    ·exact⟨x,hm,hC⟩
    ·rename_i y l hi;obtain⟨x',hm',hC'⟩:=Q85 hC hB.gj hn hu hi;exact⟨x',hm'.trans hm,hC'.same rfl rfl rfl rfl rfl rfl rfl⟩
theorem Qat{s:Sm}{F T:Nat}{M:Nat→Nat}(h:CX s M)(hI:SI s F T)(o:Bool):CX (Z5 s o).2 M:=by
 obtain⟨x,hm,hC⟩:=h;have hB:=hI.sb;unfold Z5
 split
 ·exact⟨x,hm,hC⟩
 ·rename_i y l hi;have hg:=Np hB.gj y.Qm y.ver o;exact⟨x,hm,Hy ((Qlm hC hi o).same rfl rfl rfl rfl rfl rfl rfl) hg (Nq hB.di _ _ _ hg.gi.bi.ok.Yz).nd⟩
theorem Qh8{F T:Nat}{s:Sm}{M:Nat→Nat}(hI:SI s F T)(h:CX s M)(o:Bool)(hT:T≤1000000):∀i,F+2000*i≤99999000000→CX (roundUp s o i).2 M
 | 0,_=>h
 | i+1,hF=>by
  have h0:=Qh8 hI h o hT i (by omega);have h1:=Nb hI o (by omega) i (by omega);have h2:=Dp h1 (by omega) (by omega) i false;exact Mk (Mk h0 h1 hT i false) h2 hT i true
theorem Qeq{T:Nat}{M:Nat→Nat}(hT:T≤1000000):∀(k:Nat) {F:Nat} {s:Sm},SI s F T→CX s M→F+33000*k≤99999000000→CX (Ju s k) M
 | 0,_,_,_,hc,_=>hc
 | k+1,F,s,h,hc,hF=>by
  have h1:=A7 h (by omega) true;have hl:(Z5 s true).2.nd.length≤16:=by rw[h1.sb.len];exact h1.sb.c16
  have h2:=Nb h1 (Z5 s true).1 (by omega) (Z5 s true).2.nd.length (by omega);have c2:=Qh8 h1 (Qat hc h true) (Z5 s true).1 hT (Z5 s true).2.nd.length (by omega);rw[Ju]
  split
  ·exact Qeq hT k (h2.mono (F':=F+33000) (by omega) (Nat.le_refl _)) c2 (by omega)
  ·exact c2
theorem Qy4(b:Br)(id t k w:Nat)(hw:1≤w):(Fx b (U9 id t k w 0 0)).2.done=b.done:=by
 unfold Fx
 split
 ·rfl
 split
 ·rfl
 ·show (Q0 _ (U9 id t k w 0 0)).done=b.done;unfold Q0;rw[if_pos (.inl (by show 0<w;omega))]
theorem Q82(s:Sm)(j:Jo):(Ho s j).b=(Fx s.b (U9 j.id j.tier j.k j.w 0 0)).2∧(Ho s j).nd=s.nd∧(Ho s j).done=s.done:=by
 unfold Ho;split <;> exact⟨rfl,rfl,rfl⟩
theorem Q0l{s:Sm}{F T:Nat}{M:Nat→Nat}(h:CX s M)(hI:SI s F T)(hF:F≤99000000000)(hT:T+1≤1000000)(hM:∀id,s.next≤id→M id=0)(a:Ac):CX (Vw s a) M:=by
 have hB:=hI.sb;have htm:=hB.tm
 by_cases d0:a.Yu=0∨a.Yu=1
 ·rw[Be d0];exact Qhh h hI hT
 by_cases d2:a.Yu=2
 ·have Ql9:s.done.Nodup:=(List.nodup_append.1 hB.di.nd).1
  by_cases hj:s.Ym.length<20
  ·rw[M8 d2 hj];obtain⟨x,hm,hC⟩:=h;obtain⟨j,hj⟩:∃j:Jo,j=⟨s.next,a.tier % 4,1+a.k % s.cn,1+a.w % 20⟩:=⟨_,rfl⟩;rw[←hj];have j1:j.id=s.next:=by rw[hj]
   have j4:1≤j.w:=by rw[hj];exact Nat.le_add_right _ _
   have hjb:=hB.jb;have hjl:=hB.jl;have B8:=hB.Ev;have hC2:=Q81 hC (j:=j) (fun z hz e=>by have:=hB.jid z hz;omega) hI.e1 hI.e3 (fun id hid e=>by have:=hB.di.ltd id (List.mem_append_left _ hid);omega) (by rw[hm];exact hM _ (Nat.le_of_eq j1.symm));have Hi:=Qy3 hB.gj (id:=j.id) (tier:=j.tier) (k:=j.k) (w:=j.w) (by omega) (by omega);obtain⟨b1,b2,b3⟩:=Q82 s j;refine⟨x,hm,Hy (hC2.same rfl rfl rfl rfl rfl rfl rfl) (by show GJ (Ho s j).b (Ho s j).nd;rw[b1,b2];exact Hi) ?_⟩;show ((Ho s j).done++(Ho s j).b.done).Nodup;rw[b1,b3,Qy4 _ _ _ _ _ j4];exact hB.di.nd
  ·rw[Bh d2 hj];obtain⟨x,hm,hC⟩:=h;exact⟨x,hm,Hy (hC.same rfl rfl rfl rfl rfl rfl rfl) hB.gj hB.di.nd⟩
 by_cases d3:a.Yu=3
 ·rw[M7 d3];obtain⟨x,hm,hC⟩:=h;have hg:=Qeo hB.gj (1+a.n % max s.next 1);exact⟨x,hm,Hy ((Qsh hC _).same rfl rfl rfl rfl rfl rfl rfl) hg (hB.di.jr (Qd8 s.b _) hg.gi.bi.ok.Yz).nd⟩
 by_cases d4:a.Yu=4
 ·rw[Bf d4];unfold Ck
  split
  ·exact h
  ·rename_i n hn
   split
   ·rename_i hu;obtain⟨x,hm,hC⟩:=h;have hg:=Qo1 hB.gj hn hu;exact⟨x,hm,Hy ((Q1u hC (by omega) hn).same rfl rfl rfl rfl rfl rfl rfl) hg (hB.di.jr (Qo5 s.b _) hg.gi.bi.ok.Yz).nd⟩
   ·exact h
 by_cases d5:a.Yu=5
 ·rw[S0 d5];unfold Qh3
  split
  ·exact h
  ·rename_i n hn
   split
   ·exact h
   ·rename_i hu;obtain⟨x,hm,hC⟩:=h;have hg:=Qtm hB.gj hn (by simpa using hu);obtain⟨u1,u2,u3,u4,u5⟩:=Qk2 s.b (a.n % s.nd.length:Nat);exact⟨x,hm,Hy ((Zaa hC hn).same rfl rfl rfl rfl rfl rfl rfl) hg (hB.di.jr (.same u1 u2 u3) hg.gi.bi.ok.Yz).nd⟩
 by_cases d6:a.Yu=6∨a.Yu=7∨a.Yu=8∨a.Yu=9
 ·rw[M6 d6];exact Mk h hI (by omega) _ _
 by_cases d10:a.Yu=10
 ·rw[M5 d10];exact Qat h hI _
 by_cases d11:a.Yu=11
 ·rw[Bg d11];exact Qeq hT 3000 (Qe6 hI (by omega) (by omega)) (Qhh h hI hT) (by omega)
 ·rw[S1 (by omega)];exact h
theorem Qyv{N R Q G:Nat}(hI:SI (Ut N R Q G) 0 0)(hj:(Ut N R Q G).b.js=[]):CX (Ut N R Q G) fun _=>0:=by
 obtain⟨s,hs⟩:∃s,s=Ut N R Q G:=⟨_,rfl⟩;have e:s.nd=List.replicate N ⟨true,[],[],[],false⟩∧s.Qe=[]∧s.done=[]:=by rw[hs];exact⟨rfl,rfl,rfl⟩
 rw[←hs]at hI hj ⊢;obtain⟨e1,e2,e3⟩:=e;have G2:∀n∈s.nd,n=⟨true,[],[],[],false⟩:=fun n hn=>by rw[e1]at hn;exact List.eq_of_mem_replicate hn
 refine⟨⟨fun _ _=>(0,0),fun _ _=>False,fun _=>0⟩,rfl,⟨⟨fun z hz=>(by rw[hj]at hz;cases hz),fun o ho=>(by rw[hI.e1]at ho;cases ho),fun o ho=>(by rw[hI.e1]at ho;cases ho),fun i v r ⟨n,hn,y,hy,_⟩=>(by rw[G2 n hn]at hy;cases hy),fun i v r l ⟨n,hn,y,hy,_⟩=>(by rw[G2 n hn]at hy;cases hy),fun i hi=>(by rw[e2,hI.e2]at hi;cases hi),(by rw[e2,hI.e2];exact List.Pairwise.nil),fun id hid=>(by rw[hI.e3]at hid;cases hid)⟩,fun z hz=>(by rw[hj]at hz;cases hz),fun _ z hz=>(by rw[hj]at hz;cases hz),fun z hz=>(by rw[hj]at hz;cases hz),fun i n hn=>?_,fun _ _=>Nat.zero_le _,fun id hid=>(by rw[e3]at hid;cases hid)⟩⟩;have:=G2 n (List.mem_of_getElem? hn);rw[this];exact⟨fun y hy=>(by cases hy),fun y hy=>(by cases hy),fun y hy=>(by cases hy)⟩
theorem CX.setm{s:Sm}{M M':Nat→Nat}(h:CX s M)(h2:∀x∈s.b.js,M' x.id≤x.Qb):CX s M':=by
 obtain⟨x,_,hC⟩:=h;refine⟨⟨x.s,x.g,M'⟩,rfl,⟨⟨fun z hz=>?_,hC.cb.o8,hC.cb.o5,hC.cb.e8,hC.cb.e9,fun i hi=>⟨(hC.cb.im i hi).len,(hC.cb.im i hi).ran,(hC.cb.im i hi).bs,(hC.cb.im i hi).j⟩,hC.cb.ord,hC.cb.dn⟩,hC.vl,hC.nr,hC.re,fun i n hn=>⟨(hC.nc i n hn).ru,(hC.nc i n hn).st,(hC.nc i n hn).go⟩,hC.le,hC.dn⟩⟩;have hj:=hC.cb.j z hz;exact⟨hj.k,hj.w,⟨h2 z hz,hj.cw.2⟩,hj.ww,hj.wr,hj.ver,fun r hr=>⟨(hj.ran r hr).ne,(hj.ran r hr).nd,(hj.ran r hr).e,(hj.ran r hr).ov,(hj.ran r hr).g⟩,hj.Yt⟩
theorem Qd9{js:List Jo}(hn:(js.map (·.id)).Nodup){j:Jo}(hj:j∈js):Uv js j.id=some j:=by
 unfold Uv;induction js with
 | nil=>cases hj
 | cons a js ih=>
  rw[List.map_cons,List.nodup_cons]at hn
  rcases List.mem_cons.1 hj with rfl|hj
  ·rw[List.find?_cons_of_pos (by simp)]
  ·rw[List.find?_cons_of_neg ?_]
   ·exact ih hn.2 hj
   ·simp only[decide_eq_true_eq];exact fun e=>hn.1 (by rw[e];exact List.mem_map_of_mem hj)
theorem CX.le{s:Sm}{M:Nat→Nat}(h:CX s M):∀x∈s.b.js,M x.id≤x.Qb:=fun x hx=>by
 obtain⟨g,hm,hC⟩:=h;rw[←hm];exact(hC.cb.j x hx).cw.1
theorem Zaz{s:Sm}{M:Nat→Nat}(h:CX s M)(hn:(s.Ym.map (·.id)).Nodup){j:Jo}(hj:j∈s.Ym){x:Bj}(hx:Qg s.b.js j.id=some x):x.Qb≤Yn j.id s.ran∧x.Qb≤j.w∧x.k=j.k∧x.w=j.w:=by
 obtain⟨g,_,hC⟩:=h;obtain⟨Js,K0⟩:=Qd hx;have hJ:=hC.cb.j x Js;have e:=Qd9 hn hj
 have k1:x.k=j.k:=by
  have:=hJ.k.1;rw[K0]at this;rw[this];show kOf s.Ym j.id=j.k;rw[kOf,e]
 have k2:x.w=j.w:=by
  have:=hJ.w;rw[K0]at this;rw[this];show wOf s.Ym j.id=j.w;rw[wOf,e]
 have k3:x.work≤Yn j.id s.ran:=by
  have:=hJ.wr;rw[K0]at this;exact this
 have:=hJ.cw.2;have:=hJ.ww;exact⟨by omega,by omega,k1,k2⟩
theorem Q8o{s:Sm}{M:Nat→Nat}(h:CX s M)(hn:(s.Ym.map (·.id)).Nodup){j:Jo}(hj:j∈s.Ym)(hd:j.id∈s.done):j.w≤Yn j.id s.ran:=by
 obtain⟨g,_,hC⟩:=h;have:=hC.dn j.id hd;rw[wOf,Qd9 hn hj]at this;exact this
theorem Za6{s:Sm}{M:Nat→Nat}(h:CX s M){i:Im}(hi:i∈s.Qe):∃j,Uv s.Ym i.Qm=some j∧i.bs.length=j.k∧i.Qb≤Yn i.Qm s.ran∧(∀u,u<i.bs.length→i.bs[u]?=some (Ds u i.Qb))∧∀x,Qg s.b.js i.Qm=some x→x.Qb≤i.Qb:=by
 obtain⟨g,_,hC⟩:=h;have f:=hC.cb.im i (List.mem_append_left _ hi);have h0:1≤kOf s.Ym i.Qm:=f.len.2;obtain⟨j,j1,j2,_⟩:=Qi7 h0;refine⟨j,j1,by rw[j2];exact f.len.1,f.ran,f.bs,fun x hx=>?_⟩;obtain⟨Js,K0⟩:=Qd hx;exact(f.j x Js K0).1
theorem Qx4{cl:List (Int×Value)}{M:Nat→Nat}(h:∀id:Nat,(Q1 (id:Int) cl).getD (.int .i64 0)=.int .i64 (M id:Nat))(k v:Nat)(id:Nat):(Q1 (id:Int) (Yd (k:Int) (.int .i64 (v:Int)) cl)).getD (.int .i64 0)=.int .i64 ((if id=k then v else M id:Nat):Int):=by
 rw[Qcl]
 by_cases e:id=k
 ·rw[if_pos (by omega),if_pos e];rfl
 ·rw[if_neg (by omega),if_neg e];exact h id
theorem Dn(s:Sm)(i:Nat)(back:Bool):(Zt s i back).2.next=s.next:=by
 unfold Zt
 split
 ·rfl
 ·split
  ·rfl
  ·split
   ·split <;> rfl
   ·split <;> rfl
theorem E7(s:Sm)(o:Bool):(Z5 s o).2.next=s.next:=by
 unfold Z5;split <;> rfl
theorem A2(s:Sm)(o:Bool):∀i,(roundUp s o i).2.next=s.next
 | 0=>rfl
 | i+1=>by
  show (Zt (Zt (roundUp s o i).2 i false).2 i true).2.next=s.next;rw[Dn,Dn,A2 s o i]
theorem R3:∀(k:Nat) (s:Sm),(Ju s k).next=s.next
 | 0,_=>rfl
 | k+1,s=>by
  rw[Ju]
  split
  ·rw[R3 k,A2,E7]
  ·rw[A2,E7]
theorem Qqh(s:Sm)(a:Ac):s.next≤(Vw s a).next:=by
 have r:s.next≤s.next:=Nat.le_refl _
 by_cases d0:a.Yu=0∨a.Yu=1
 ·rw[Be d0];exact r
 by_cases d2:a.Yu=2
 ·by_cases hj:s.Ym.length<20
  ·rw[M8 d2 hj];show s.next≤(Ho s _).next;unfold Ho
   split
   ·exact Nat.le_succ _
   ·exact r
  ·rw[Bh d2 hj];exact r
 by_cases d3:a.Yu=3
 ·rw[M7 d3];exact r
 by_cases d4:a.Yu=4
 ·rw[Bf d4];unfold Ck
  split
  ·exact r
  ·split <;> exact r
 by_cases d5:a.Yu=5
 ·rw[S0 d5];unfold Qh3
  split
  ·exact r
  ·split <;> exact r
 by_cases d6:a.Yu=6∨a.Yu=7∨a.Yu=8∨a.Yu=9
 ·rw[M6 d6,Dn];exact r
 by_cases d10:a.Yu=10
 ·rw[M5 d10,E7];exact r
 by_cases d11:a.Yu=11
 ·rw[Bg d11];show s.next≤(Ju (Ku s) 3000).next;rw[R3];exact r
 ·rw[S1 (by omega)];exact r
theorem Qtk:∀(l:List Nat) (b:Br),(l.foldl (fun b (i:Nat)=>(Ke b i).2) b).js=b.js
 | [],_=>rfl
 | i::l,b=>by
  rw[List.foldl_cons,Qtk l];exact(Q4f b i).1
theorem Qyt(N R Q G:Nat):(Ut N R Q G).b.js=[]:=Qtk (List.range N) (Sb N R Q G 0)
instance:Inhabited Ac:=⟨⟨0,0,0,0,0,false,false⟩⟩
abbrev Q4h:TS:=.cat 1 (.int .u8) (.cat 1 (.int .u8) (.cat 1 (.int .u8) (.cat 1 (.int .u8) (.cat 1 (.int .u8) (.cat 1 .bool (.cat 1 .bool .nil))))))
theorem Q6i{W:World}{cs:List Value}(h:Rd W Q4h cs):∃a:Ac,cs=acC a∧Q4d a:=by
 obtain⟨_,_,rfl,_,⟨d,rfl,hd⟩,_,_,rfl,_,⟨n,rfl,hn⟩,_,_,rfl,_,⟨t,rfl,ht⟩,_,_,rfl,_,⟨k,rfl,hk⟩,_,_,rfl,_,⟨w,rfl,hw⟩,_,_,rfl,_,⟨bk,rfl⟩,_,_,rfl,_,⟨fl,rfl⟩,rfl⟩:=h;have hd:=Ey hd;have hn:=Ey hn;have ht:=Ey ht;have hk:=Ey hk;have hw:=Ey hw;obtain⟨d,rfl⟩:∃m:Nat,d=m:=⟨d.toNat,by omega⟩;obtain⟨n,rfl⟩:∃m:Nat,n=m:=⟨n.toNat,by omega⟩;obtain⟨t,rfl⟩:∃m:Nat,t=m:=⟨t.toNat,by omega⟩;obtain⟨k,rfl⟩:∃m:Nat,k=m:=⟨k.toNat,by omega⟩;obtain⟨w,rfl⟩:∃m:Nat,w=m:=⟨w.toNat,by omega⟩;exact⟨⟨d,n,t,k,w,bk,fl⟩,rfl,⟨by show d≤255;omega,by show n≤255;omega,by show t≤255;omega,by show k≤255;omega,by show w≤255;omega⟩⟩
structure AcW(W:World)(s:SV)(l:List Ac):Prop where
 at_:Hp W s.v l.length 7 (l.flatMap acC)
 len:s.n=l.length
 each:∀x∈l,Q4d x
theorem Q0u{W:World}{cs:List Value}(h:Rd W (.slice 7 Q4h) cs):∃(s:SV) (l:List Ac),cs=[s.v]∧AcW W s l:=by
 obtain⟨s,l,h1,h2,h3,h4,_⟩:=Qul (α:=Ac) (encA:=acC) (p:=Q4d) (fun cs hr _=>Q6i hr) h (by omega);exact⟨s,l,h1,h3,h2,h4⟩
abbrev smK(p:Nat)(s:Sm)(b:Nat)(ps:Nat→Nat)(nv:SV)(ns:List No)(rb:Nat)(rl:List (Int×Value))(jb gb db wb:Nat)(iv dv wv:SV)(Γ:List Assn):List Assn:=
 Qk rb .u32 rl::blk p 55 (smC s b nv rb jb gb db wb iv dv wv).toArray::BP b s.b ps::own nv 103 1 (ns.map noV)::alls ns noB::Qk gb .u32 (F4 s.gone)::Qk db .u32 (F4 s.done)::Qe1 wb::Uz dv s.fu::Uz wv s.fu::Γ
abbrev bj0:Bj:={id:=0,tier:=0,k:=0,w:=0,state:=0,Qb:=0,work:=0,ver:=0}
theorem Qlz(o:Option Bj):Za0 o=.tuple #[.agg (jbC (o.getD bj0)).toArray,.bool o.isSome]:=by cases o <;> rfl
theorem known{o:Option Bj}{x:Bj}(hx:x=o.getD bj0)(h:o.isSome=true):o=some x:=by
 cases o with
 | none=>cases h
 | some y=>rw[hx];rfl
set_option maxHeartbeats 8000000 in
theorem Qc7(n r q g:Nat)(l:List Ac)(s:SV)(hn:n≤255)(hr:r≤255)(hq:q≤255)(hg:g≤255){W:World}(hW:H6 W)(hs:AcW W s l):Zc6 4 [.int .u8 (n:Int),.int .u8 (r:Int),.int .u8 (q:Int),.int .u8 (g:Int),s.v] W:=by
 refine Zbd Tryz.func4 rfl Tryz.ntmps4 fun w0 Γ=>Zsh ?_;have hRs:RdS (Xa W) s s.n 7 (l.flatMap acC):=by rw[hs.len];exact RdS.Xa hs.at_
 have hsl:=hs.len;refine S.Nk hRs fun _ hc1 hc2=>?_;have hmx:maxLen≤9223372036854775807:=by unfold maxLen;omega
 obtain⟨N,hN⟩:∃N,N=1+n % 6:=⟨_,rfl⟩;obtain⟨R,hR⟩:∃R,R=1+r % 4:=⟨_,rfl⟩;obtain⟨Q,hQ⟩:∃Q,Q=1+q % 6:=⟨_,rfl⟩;obtain⟨G,hG⟩:∃G,G=1+g % 9:=⟨_,rfl⟩;refine ZY 7 (Zp (Zcp Ze (Q3v hW) (ZY 2 (ZF ef (ZY 7 (Zp (Zcp Ze (Qx7 n r q g hn hr hq hg) ?_)))))));rw[←hN,←hR,←hQ,←hG];refine Zp (Zc1 Ze (Qpz N R Q G (by omega) (by omega) (by omega) (by omega) (by omega) (by omega) (by omega) (by omega)) ?_);rintro v Θ ⟨p,rfl,rfl⟩;have hI0:SI (Ut N R Q G) 0 0:=Qyu (by omega) (by omega) (by omega) (by omega) (by omega) (by omega) (by omega) (by omega);have hC0:=Qyv hI0 (Qyt N R Q G);obtain⟨s0,hs0⟩:∃s0,s0=Ut N R Q G:=⟨_,rfl⟩;rw[←hs0]at hI0 hC0 ⊢;refine ZY 8 (ZF ef (ZY 3 (Zp (S.makeMap .u32 rfl ?_))));intro b35;refine ZY 5 ?_;refine S.conv (Qk b35 .u32 []) (show Ent _ (Qao b35 (fun _=>0)::_) from Ent.Nj (fun id=>rfl) _) (ZY 5 ?_);refine Zl (fun fz ρ' Γ'=>∃(i:Nat) (m:Sm) (M:Nat→Nat),fz=l.length-i∧i≤l.length∧i≤150∧SI m (i*100000000) i∧CX m M∧(∀id,m.next≤id→M id=0)∧ρ'=[(11,pt p),(12,.map (some b35)),(36,s.v),(37,.int .i64 (s.n:Int)),(38,.int .i64 (i:Int))]∧Γ'=Qao b35 M::SP p m::Xa W::Γ) (m:=_) (⟨0,s0,fun _=>0,rfl,by omega,by omega,hI0.mono (by omega) (by omega),hC0,fun _ _=>rfl,rfl,rfl⟩) ?_;rintro fz ρ' Γ' ⟨i,m,M,hfz,hi,D6,hI,hC,hM0,rfl,rfl⟩;refine ZY 5 ?_
 refine Zj ef (fun h3=>?_) (fun h3=>?_)
 ·refine S.F6 hRs (by omega) fun sb so Q4=>?_;obtain⟨a,ha⟩:=Yv (show i<l.length by omega);have hak:=hs.each a (List.mem_of_getElem? ha);refine ZY 6 (Zv (Zx (i) ef (Q4) ef (by omega)) ?_);refine Zv (Co hRs (i*7) (acC a) Eo.h rfl Q4 (by omega) rfl rfl (Y8 (enc:=acC) (sz:=7) (fun _=>rfl) ha)) (Zp (S.alloc Tryz.z46.h rfl ?_));intro b14;refine Zy (Zp (Zs ef ef (cs':=[_,_,_,_,_,_,_]) ef (ZY 7 ?_)))
  refine Zj ef (fun h4=>?_) (fun h4=>?_)
  ·refine ZY 6 ?_;exact Zf ef Zq (⟨rfl,rfl⟩)
  ·have hI2:=Q0k hI (by omega) (by omega) a;have hlen:=hI.sb.len;have hc1:=hI.sb.c1;have An:=hI2.sb.len;have hc2:=hI2.sb.c16;have hC2:=Q0l hC hI (by omega) (by omega) hM0 a;have hnx:=Qqh m a;obtain⟨m2,hm2⟩:∃m2,m2=Vw m a:=⟨_,rfl⟩;refine ZY 5 (Zp (Zc1 Ze (Q6a p m a hak (by omega) hc1 hI.sb.c16 hI2.ok hW) ?_));rintro v Θ rfl;rw[←hm2]at hI2 An hc2 hC2 hnx ⊢;have hjn:=hI2.sb.jn;have Qw5:=hI2.sb.jid;have Zgy:=hC2.le;refine ZY 4 ?_;refine S.J4 p m2 fun b ps nv ns rb jb gb db wb iv dv wv hF=>?_;refine S.conv (Sa rb m2.ran) (Ent.Qao (g:=fun id=>Yn id m2.ran) (fun _=>rfl) _) ?_;refine S.Qfo rb (fun id=>Yn id m2.ran) fun rl hrl=>?_;refine S.Qfo b35 M fun cl hcl=>(ZY 4 (Zp (S.range Tryz.underlying49 rfl rfl ?_)));intro r52;refine ZY 2 ?_;refine Zl (fun fy ρ' Γ'=>∃(left:List (Int×Value)) (cur:Option (Int×Value)) (M2:Nat→Nat) (cl2:List (Int×Value)),fy=left.length∧(∀e∈left,∃j∈m2.Ym,e=joE j)∧(∀id:Nat,(Q1 (id:Int) cl2).getD (.int .i64 0)=.int .i64 (M2 id:Nat))∧(∀x∈m2.b.js,M2 x.id≤x.Qb)∧(∀id,m2.next≤id→M2 id=0)∧ρ'=[(11,pt p),(12,.map (some b35)),(36,s.v),(37,.int .i64 (s.n:Int)),(38,.int .i64 (i:Int)),(52,.pointer (some ⟨r52,0,none⟩))]∧Γ'=Kj r52 jb .u32 (m2.Ym.map joE) left cur::Qk b35 .u32 cl2::imgs iv m2.Qe::smK p m2 b ps nv ns rb rl jb gb db wb iv dv wv (Xa W::Γ)) (m:=_) (⟨m2.Ym.map joE,none,M,cl,rfl,fun e he=>(by obtain⟨j,hj,rfl⟩:=List.mem_map.1 he;exact⟨j,hj,rfl⟩),hcl,Zgy,fun id hid=>hM0 id (by omega),rfl,rfl⟩) ?_;rintro fy ρ' Γ' ⟨left,cur,M2,cl2,hfy,hLf,Qjk,hMx,hMn,rfl,rfl⟩;refine ZY 2 ?_
   refine Zp (S.Yh rfl rfl (fun Zkc=>?_) (fun i53 z53 v53 Zb9=>?_))
   ·refine S.Qh (Ent.Kj _) ?_;refine S.Eh iv m2.Qe fun os hos=>?_;have hol:os.length=m2.Qe.length:=by rw[←hos,List.length_map]
    have hin:iv.n=os.length:=by rw[hol];exact hF.im
    refine S.Yf iv fun hw1 hw2 hw3=>(ZY 8 (ZY 7 ?_));refine Zl (fun fx ρ' Γ'=>∃(e:Nat),fx=os.length-e∧e≤os.length∧ρ'=[(11,pt p),(12,.map (some b35)),(36,s.v),(37,.int .i64 (s.n:Int)),(38,.int .i64 (i:Int)),(136,iv.v),(137,.int .i64 (iv.n:Int)),(138,.int .i64 (e:Int))]∧Γ'=own iv 60 4 (os.flatMap igC)::alls os igB::Qk jb .u32 (m2.Ym.map joE)::Qk b35 .u32 cl2::smK p m2 b ps nv ns rb rl jb gb db wb iv dv wv (Xa W::Γ)) (m:=_) (⟨0,rfl,by omega,rfl,rfl⟩) ?_;rintro fx ρ' Γ' ⟨e,hfx,he,rfl,rfl⟩;refine ZY 5 ?_
    refine Zj ef (fun h8=>?_) (fun h8=>?_)
    ·refine S.Qp iv (by omega) fun ib io hia _ _ _=>?_;obtain⟨o,ho⟩:=Yv (show e<os.length by omega);have hoi:o.2∈m2.Qe:=by rw[←hos];exact List.mem_map_of_mem (List.mem_of_getElem? ho)
     obtain⟨j,hjo,k1,k2,k3,k4⟩:=Za6 hC2 hoi;refine S.conv (alls os igB) (Ent.Wp igB ho _) ?_;refine S.Qer o.1 o.2.bs fun bb hbb=>?_;have hbl:bb.length=o.2.bs.length:=by rw[←hbb,List.length_map]
     refine S.Yf o.1 fun Z4 hx2 hx3=>?_;rw[List.length_map,Nat.mul_one]at Z4;have hon:o.1.n=j.k:=by omega
     refine ZY 5 (Zv (Zx (e) ef (hia) ef (by omega)) ?_);refine Zv (X4 (iv) (e*4) [_,_,_,_] Eo.h rfl hia (by first|rfl|exact Nat.add_assoc _ _ _|omega) rfl (Y8 (enc:=igC) (sz:=4) (fun _=>rfl) ho)) (Zp (S.alloc Tryz.z60.h rfl ?_));intro b20;refine Zp (Zs ef ef (cs':=[_,_,_,_]) ef (ZY 2 ?_));refine Zd ([blk p 55 (smC m2 b nv rb jb gb db wb iv dv wv).toArray,blk b20 60 (igC o).toArray]) [] (Zra 0 6) (ZY 6 ?_)
     refine Z2 (i:=6) (j:=10) ef ef ef ?_ ?_
     ·refine  (Zcp Ze (Qzd b m2.b ps o.2.Qm) ?_);rw[Qlz];obtain⟨y,hy⟩:∃x,x=(Qg m2.b.js o.2.Qm).getD bj0:=⟨_,rfl⟩;obtain⟨kq,hkq⟩:∃kn,kn=(Qg m2.b.js o.2.Qm).isSome:=⟨_,rfl⟩;rw[←hy,←hkq];refine Zk [7,8,9] (ZY 3 ?_);refine Z1 (i:=10) ef ef ?_;refine(S.alloc Tryz.z35.h rfl ?_);intro b21;refine Zk [] ?_;refine Z1 (i:=11) ef ef ?_;refine  (Zs ef ef (cs':=[_,_,_,_,_,_]) ef ?_);refine Zk [12] (Zy ?_);refine ZD (ZY 2 ?_)
      refine Zc (fun ρ' Γ'=>ρ'=[(11,pt p),(12,.map (some b35)),(20,pt b20),(36,s.v),(37,.int .i64 (s.n:Int)),(38,.int .i64 (i:Int)),(136,iv.v),(137,.int .i64 (iv.n:Int)),(138,.int .i64 (e:Int)),(185,.bool false)]∧Γ'=blk b20 60 (igC o).toArray::own o.1 22 1 (bb.map bbV)::alls bb bbB::own iv 60 4 (os.flatMap igC)::alls (os.take e) igB::alls (os.drop (e+1)) igB::Qk jb .u32 (m2.Ym.map joE)::Qk b35 .u32 cl2::smK p m2 b ps nv ns rb rl jb gb db wb iv dv wv (Xa W::Γ)) ?_ ?_
      ·refine Zd ([blk b20 60 (igC o).toArray,blk p 55 (smC m2 b nv rb jb gb db wb iv dv wv).toArray,Qk jb .u32 (m2.Ym.map joE),Qk rb .u32 rl,blk b21 35 (jbC y).toArray]) [] (Zra 0 13) (ZY 8 (Zy ?_));refine Zw ef (Qj (.agg (joC j).toArray) Tryz.underlying49 Tryz.underlying31 Tryz.Qtb.h rfl rfl rfl (by rw[Qgb,hjo];rfl)) (ZY 3 ?_);refine Zu 164 false ef ((by rw[hon];simp)) ?_;refine Zr (Zra 13 12) (ZY 8 ?_);refine Zwg ef ef ef ef (Qj (.int .i64 (Yn o.2.Qm m2.ran:Nat)) Tryz.underlying44 Tryz.underlying31 Tryz.zv3.h rfl rfl rfl ((hrl o.2.Qm).symm)) (ZY 3 (Zu 176 false ef ((decide_eq_false (by omega))) ?_));refine Zr [25,26] (ZY 2 ?_)
       refine Zbb 178 ef (fun hg25_26=>?_) (fun hg25_26=>?_)
       ·have k5:=k4 y (known hy (hkq ▸ hg25_26));refine Zr (Zra 27 7) (ZY 7 ?_);refine ZD ?_;first|exact S.meet ⟨rfl,rfl⟩ ⟨rfl,rfl,rfl,rfl,rfl,rfl,rfl,rfl,rfl,rfl,trivial⟩ Sub.Qh|(rw[show decide ((o.2.Qb:Int)<(y.Qb:Int))=false from decide_eq_false (by omega)];exact S.meet ⟨rfl,rfl⟩ ⟨rfl,rfl,rfl,rfl,rfl,rfl,rfl,rfl,rfl,rfl,trivial⟩ Sub.Qh)
       ·refine Zr (Zra 27 7) (ZY 7 ?_);refine ZD ?_;first|exact S.meet ⟨rfl,rfl⟩ ⟨rfl,rfl,rfl,rfl,rfl,rfl,rfl,rfl,rfl,rfl,trivial⟩ Sub.Qh|(rw[show decide ((o.2.Qb:Int)<(y.Qb:Int))=false from decide_eq_false (by omega)];exact S.meet ⟨rfl,rfl⟩ ⟨rfl,rfl,rfl,rfl,rfl,rfl,rfl,rfl,rfl,rfl,trivial⟩ Sub.Qh)
      ·rintro ρ' Γ' ⟨rfl,rfl⟩;refine ZF ef (ZY 8 (Zy ?_));refine Zl (fun fw ρ' Γ'=>∃(z:Nat),fw=bb.length-z∧z≤bb.length∧ρ'=[(11,pt p),(12,.map (some b35)),(20,pt b20),(36,s.v),(37,.int .i64 (s.n:Int)),(38,.int .i64 (i:Int)),(136,iv.v),(137,.int .i64 (iv.n:Int)),(138,.int .i64 (e:Int)),(187,o.1.v),(188,.int .i64 (o.1.n:Int)),(189,.int .i64 (z:Int))]∧Γ'=blk b20 60 (igC o).toArray::own o.1 22 1 (bb.map bbV)::alls bb bbB::own iv 60 4 (os.flatMap igC)::alls (os.take e) igB::alls (os.drop (e+1)) igB::Qk jb .u32 (m2.Ym.map joE)::Qk b35 .u32 cl2::smK p m2 b ps nv ns rb rl jb gb db wb iv dv wv (Xa W::Γ)) (m:=_) (⟨0,rfl,by omega,rfl,rfl⟩) ?_;rintro fw ρ' Γ' ⟨z,hfw,hz,rfl,rfl⟩;refine ZY 5 ?_
       refine Zj ef (fun h10=>?_) (fun h10=>?_)
       ·refine S.Qp o.1 (by omega) fun xb xo hoa _ _ _=>?_;obtain⟨bq,hbq⟩:=Yv (show z<bb.length by omega)
        have Sk:bq.2=Ds z o.2.Qb:=by
         have h9:=k3 z (by omega);rw[←hbb,List.getElem?_map,hbq]at h9;exact Option.some.inj h9
        refine S.conv (alls bb bbB) (Ent.Wp bbB hbq _) ?_;refine S.Yf bq.1 fun Ru _ _=>?_
        have hbn:bq.1.n=2:=by
         rw[Sk]at Ru;have Ru:2=bq.1.n*1:=Ru;omega
        refine S.Qp bq.1 (by omega) fun yb yo hqa _ _ _=>(ZY 6 (Zv (Zx (z) ef (hoa) ef (by omega)) ?_));refine Zv (Zo (o.1) (z) ef (hoa) (by rw[List.getElem?_map,hbq];rfl)) ?_;refine ZY 4 ?_;refine Zd ([own bq.1 5 1 (bcells bq.2),blk b20 60 (igC o).toArray]) [] (Zra 0 4) (ZY 4 ?_);refine Zu 197 false ef ((by rw[hbn];simp)) ?_;refine Zr (Zra 4 8) (Zy ?_);refine Zwg ef ef ef ef (Zx (0) ef (hqa) ef (by omega)) ?_;refine Zwg ef ef ef ef (Zo (bq.1) (0) ef (hqa) (by rw[Sk];rfl)) ?_;refine Zwg ef ef ef ef (Xw Tryz.it3.h (by rw[Tryz.underlying5];rfl) rfl (Y0 (by omega) (by omega))) (ZY 4 (Zu 205 false ef ((by simp)) ?_));refine Zr (Zra 12 8) (Zy ?_);refine Zwg ef ef ef ef (Zx (1) ef (hqa) ef (by omega)) ?_;refine Zwg ef ef ef ef (Zo (bq.1) (1) ef (hqa) (by rw[Sk];rfl)) (ZY 2 ?_);refine Zwg ef ef ef ef (S4 Tryz.it5.h (by rw[Tryz.underlying3];rfl) rfl) (ZY 2 ?_);refine ZD ?_
        refine Zj ef (fun h11=>?_) (fun h11=>?_)
        ·exact absurd (Qnh o.2.Qb).symm h11
        ·refine S.Xb (own bq.1 5 1 (bcells bq.2)) (alls (bb.take z) bbB) (alls (bb.drop (z+1)) bbB) (Ent.Xc bbB hbq _) (ZY 2 (Zv (Za ef ef) (ZY 2 ?_)));exact ZX (fw-1) (⟨z+1,by omega,by omega,rfl,rfl⟩) (by omega)
       ·refine S.Wj (own o.1 22 1 (bb.map bbV)) (alls bb bbB) (Ent.Qe5 o.1 bb _) ?_;rw[hbb];refine S.Xb (blobs o.1 o.2.bs) (alls (os.take e) igB) (alls (os.drop (e+1)) igB) (Ent.Xc igB ho _) (ZY 2 (Zv (Za ef ef) (ZY 2 ?_)));exact ZX (fx-1) (⟨e+1,by omega,by omega,rfl,rfl⟩) (by omega)
     ·refine(S.alloc Tryz.z35.h rfl ?_);intro b21;refine Zk [] ?_;refine Z1 (i:=6) ef ef ?_;refine  (Zcp Ze (Qzd b m2.b ps o.2.Qm) ?_);rw[Qlz];obtain⟨y,hy⟩:∃x,x=(Qg m2.b.js o.2.Qm).getD bj0:=⟨_,rfl⟩;obtain⟨kq,hkq⟩:∃kn,kn=(Qg m2.b.js o.2.Qm).isSome:=⟨_,rfl⟩;rw[←hy,←hkq];refine Zk [7,8,9] (ZY 3 ?_);refine Z1 (i:=11) ef ef ?_;refine  (Zs ef ef (cs':=[_,_,_,_,_,_]) ef ?_);refine Zk [12] (Zy ?_);refine ZD (ZY 2 ?_)
      refine Zc (fun ρ' Γ'=>ρ'=[(11,pt p),(12,.map (some b35)),(20,pt b20),(36,s.v),(37,.int .i64 (s.n:Int)),(38,.int .i64 (i:Int)),(136,iv.v),(137,.int .i64 (iv.n:Int)),(138,.int .i64 (e:Int)),(185,.bool false)]∧Γ'=blk b20 60 (igC o).toArray::own o.1 22 1 (bb.map bbV)::alls bb bbB::own iv 60 4 (os.flatMap igC)::alls (os.take e) igB::alls (os.drop (e+1)) igB::Qk jb .u32 (m2.Ym.map joE)::Qk b35 .u32 cl2::smK p m2 b ps nv ns rb rl jb gb db wb iv dv wv (Xa W::Γ)) ?_ ?_
      ·refine Zd ([blk b20 60 (igC o).toArray,blk p 55 (smC m2 b nv rb jb gb db wb iv dv wv).toArray,Qk jb .u32 (m2.Ym.map joE),Qk rb .u32 rl,blk b21 35 (jbC y).toArray]) [] (Zra 0 13) (ZY 8 (Zy ?_));refine Zw ef (Qj (.agg (joC j).toArray) Tryz.underlying49 Tryz.underlying31 Tryz.Qtb.h rfl rfl rfl (by rw[Qgb,hjo];rfl)) (ZY 3 ?_);refine Zu 164 false ef ((by rw[hon];simp)) ?_;refine Zr (Zra 13 12) (ZY 8 ?_);refine Zwg ef ef ef ef (Qj (.int .i64 (Yn o.2.Qm m2.ran:Nat)) Tryz.underlying44 Tryz.underlying31 Tryz.zv3.h rfl rfl rfl ((hrl o.2.Qm).symm)) (ZY 3 (Zu 176 false ef ((decide_eq_false (by omega))) ?_));refine Zr [25,26] (ZY 2 ?_)
       refine Zbb 178 ef (fun hg25_26=>?_) (fun hg25_26=>?_)
       ·have k5:=k4 y (known hy (hkq ▸ hg25_26));refine Zr (Zra 27 7) (ZY 7 ?_);refine ZD ?_;first|exact S.meet ⟨rfl,rfl⟩ ⟨rfl,rfl,rfl,rfl,rfl,rfl,rfl,rfl,rfl,rfl,trivial⟩ Sub.Qh|(rw[show decide ((o.2.Qb:Int)<(y.Qb:Int))=false from decide_eq_false (by omega)];exact S.meet ⟨rfl,rfl⟩ ⟨rfl,rfl,rfl,rfl,rfl,rfl,rfl,rfl,rfl,rfl,trivial⟩ Sub.Qh)
       ·refine Zr (Zra 27 7) (ZY 7 ?_);refine ZD ?_;first|exact S.meet ⟨rfl,rfl⟩ ⟨rfl,rfl,rfl,rfl,rfl,rfl,rfl,rfl,rfl,rfl,trivial⟩ Sub.Qh|(rw[show decide ((o.2.Qb:Int)<(y.Qb:Int))=false from decide_eq_false (by omega)];exact S.meet ⟨rfl,rfl⟩ ⟨rfl,rfl,rfl,rfl,rfl,rfl,rfl,rfl,rfl,rfl,trivial⟩ Sub.Qh)
      ·rintro ρ' Γ' ⟨rfl,rfl⟩;refine ZF ef (ZY 8 (Zy ?_));refine Zl (fun fw ρ' Γ'=>∃(z:Nat),fw=bb.length-z∧z≤bb.length∧ρ'=[(11,pt p),(12,.map (some b35)),(20,pt b20),(36,s.v),(37,.int .i64 (s.n:Int)),(38,.int .i64 (i:Int)),(136,iv.v),(137,.int .i64 (iv.n:Int)),(138,.int .i64 (e:Int)),(187,o.1.v),(188,.int .i64 (o.1.n:Int)),(189,.int .i64 (z:Int))]∧Γ'=blk b20 60 (igC o).toArray::own o.1 22 1 (bb.map bbV)::alls bb bbB::own iv 60 4 (os.flatMap igC)::alls (os.take e) igB::alls (os.drop (e+1)) igB::Qk jb .u32 (m2.Ym.map joE)::Qk b35 .u32 cl2::smK p m2 b ps nv ns rb rl jb gb db wb iv dv wv (Xa W::Γ)) (m:=_) (⟨0,rfl,by omega,rfl,rfl⟩) ?_;rintro fw ρ' Γ' ⟨z,hfw,hz,rfl,rfl⟩;refine ZY 5 ?_
       refine Zj ef (fun h10=>?_) (fun h10=>?_)
       ·refine S.Qp o.1 (by omega) fun xb xo hoa _ _ _=>?_;obtain⟨bq,hbq⟩:=Yv (show z<bb.length by omega)
        have Sk:bq.2=Ds z o.2.Qb:=by
         have h9:=k3 z (by omega);rw[←hbb,List.getElem?_map,hbq]at h9;exact Option.some.inj h9
        refine S.conv (alls bb bbB) (Ent.Wp bbB hbq _) ?_;refine S.Yf bq.1 fun Ru _ _=>?_
        have hbn:bq.1.n=2:=by
         rw[Sk]at Ru;have Ru:2=bq.1.n*1:=Ru;omega
        refine S.Qp bq.1 (by omega) fun yb yo hqa _ _ _=>(ZY 6 (Zv (Zx (z) ef (hoa) ef (by omega)) ?_));refine Zv (Zo (o.1) (z) ef (hoa) (by rw[List.getElem?_map,hbq];rfl)) ?_;refine ZY 4 ?_;refine Zd ([own bq.1 5 1 (bcells bq.2),blk b20 60 (igC o).toArray]) [] (Zra 0 4) (ZY 4 ?_);refine Zu 197 false ef ((by rw[hbn];simp)) ?_;refine Zr (Zra 4 8) (Zy ?_);refine Zwg ef ef ef ef (Zx (0) ef (hqa) ef (by omega)) ?_;refine Zwg ef ef ef ef (Zo (bq.1) (0) ef (hqa) (by rw[Sk];rfl)) ?_;refine Zwg ef ef ef ef (Xw Tryz.it3.h (by rw[Tryz.underlying5];rfl) rfl (Y0 (by omega) (by omega))) (ZY 4 (Zu 205 false ef ((by simp)) ?_));refine Zr (Zra 12 8) (Zy ?_);refine Zwg ef ef ef ef (Zx (1) ef (hqa) ef (by omega)) ?_;refine Zwg ef ef ef ef (Zo (bq.1) (1) ef (hqa) (by rw[Sk];rfl)) (ZY 2 ?_);refine Zwg ef ef ef ef (S4 Tryz.it5.h (by rw[Tryz.underlying3];rfl) rfl) (ZY 2 ?_);refine ZD ?_
        refine Zj ef (fun h11=>?_) (fun h11=>?_)
        ·exact absurd (Qnh o.2.Qb).symm h11
        ·refine S.Xb (own bq.1 5 1 (bcells bq.2)) (alls (bb.take z) bbB) (alls (bb.drop (z+1)) bbB) (Ent.Xc bbB hbq _) (ZY 2 (Zv (Za ef ef) (ZY 2 ?_)));exact ZX (fw-1) (⟨z+1,by omega,by omega,rfl,rfl⟩) (by omega)
       ·refine S.Wj (own o.1 22 1 (bb.map bbV)) (alls bb bbB) (Ent.Qe5 o.1 bb _) ?_;rw[hbb];refine S.Xb (blobs o.1 o.2.bs) (alls (os.take e) igB) (alls (os.drop (e+1)) igB) (Ent.Xc igB ho _) (ZY 2 (Zv (Za ef ef) (ZY 2 ?_)));exact ZX (fx-1) (⟨e+1,by omega,by omega,rfl,rfl⟩) (by omega)
    ·refine S.Wj (own iv 60 4 (os.flatMap igC)) (alls os igB) (Ent.Ts iv os _) ?_;rw[hos];refine S.conv (Qk rb .u32 rl) (show Ent _ (Sa rb m2.ran::_) from (Ent.Nj hrl _).trans (Ent.Zae (fun _=>rfl) _)) (S.Xo p m2 b ps nv ns rb jb gb db wb iv dv wv hF (S.conv (Qk b35 .u32 cl2) (Ent.Nj Qjk _) (ZY 2 (Zv (Za ef ef) (ZY 2 ?_)))));exact ZX (fz-1) (⟨i+1,m2,M2,by omega,by omega,by omega,hI2.mono (by omega) (by omega),hC2.setm hMx,hMn,rfl,rfl⟩) (by omega)
   ·obtain⟨j,hjm,hje⟩:=hLf _ (List.mem_of_getElem? Zb9);obtain⟨rfl,rfl⟩:z53=(j.id:Int)∧v53=.agg (joC j).toArray:=Prod.mk.inj hje;have hel:=(Dm Zb9).length_eq;rw[List.length_cons]at hel;have Zkh:=Qw5 j hjm;have hdF:=Q8o hC2 hjn hjm;refine ZY 8 (Zv (Gl rfl) (ZY 2 (Zp (S.alloc Tryz.z35.h rfl ?_))));intro b16;refine Zy (Zp (Zs ef ef (cs':=[_,_,_,_,_,_]) ef (ZY 8 (Zp (Zcp Ze (Qzd b m2.b ps j.id) ?_)))));rw[Qlz];obtain⟨x,hx⟩:∃x,x=(Qg m2.b.js j.id).getD bj0:=⟨_,rfl⟩;obtain⟨kn,hkn⟩:∃kn,kn=(Qg m2.b.js j.id).isSome:=⟨_,rfl⟩;rw[←hx,←hkn]
    have Zgx:∀y∈m2.b.js,(if y.id=j.id then max (M2 j.id) x.Qb else M2 y.id)≤y.Qb:=fun y hy=>by
     have h7:=hMx y hy
     split
     ·rename_i e9;have h8:=X3 hI2.sb.gj.gi.bi.ok.Yz hy;rw[e9]at h8 h7;rw[hx,h8];show max (M2 j.id) y.Qb≤y.Qb;omega
     ·exact h7
    have Zg0:∀id,m2.next≤id→(if id=j.id then max (M2 j.id) x.Qb else M2 id)=0:=fun id hid=>by
     rw[if_neg (by omega)];exact hMn id hid
    refine ZY 3 (Zp (S.alloc Tryz.z35.h rfl ?_));intro b17;refine Zp (Zs ef ef (cs':=[_,_,_,_,_,_]) ef (ZY 4 ?_))
    refine Zc (fun ρ' Γ'=>ρ'=[(11,pt p),(12,.map (some b35)),(15,.int .u32 (j.id:Int)),(16,pt b16),(17,pt b17),(36,s.v),(37,.int .i64 (s.n:Int)),(38,.int .i64 (i:Int)),(52,.pointer (some ⟨r52,0,none⟩)),(107,.bool false)]∧Γ'=blk b17 35 (jbC x).toArray::blk b16 35 (joC j).toArray::Kj r52 jb .u32 (m2.Ym.map joE) (left.eraseIdx i53) (some ((j.id:Int),.agg (joC j).toArray))::Qk b35 .u32 cl2::imgs iv m2.Qe::smK p m2 b ps nv ns rb rl jb gb db wb iv dv wv (Xa W::Γ)) ?_ ?_
    ·refine Zd ([blk b17 35 (jbC x).toArray,blk b16 35 (joC j).toArray,blk p 55 (smC m2 b nv rb jb gb db wb iv dv wv).toArray,Qk rb .u32 rl,Qk b35 .u32 cl2]) [] [0,1] (ZY 2 ?_)
     refine Zbb 68 ef (fun hg16_1=>?_) (fun hg16_1=>?_)
     ·have Hi:=known hx (hkn ▸ hg16_1);obtain⟨f1,f2,f4,f5⟩:=Zaz hC2 hjn hjm Hi;obtain⟨Js,K0⟩:=Qd Hi;have f3:M2 j.id≤x.Qb:=by rw[←K0];exact hMx x Js
      refine Zr (Zra 2 10) (ZY 7 ?_);refine Zwg ef ef ef ef (Qj (.int .i64 (Yn j.id m2.ran:Nat)) Tryz.underlying44 Tryz.underlying31 Tryz.zv3.h rfl rfl rfl ((hrl j.id).symm)) (ZY 2 (Zu 78 false ef ((decide_eq_false (by omega))) ?_));refine Zr (Zra 12 7) (ZY 7 (Zu 85 false ef ((decide_eq_false (by omega))) ?_));refine Zr (Zra 19 8) (ZY 4 ?_);refine Zwg ef ef ef ef (Qj (.int .i64 (M2 j.id:Nat)) Tryz.underlying44 Tryz.underlying31 Tryz.zv3.h rfl rfl rfl ((Qjk j.id).symm)) (ZY 3 (Zu 93 false ef ((decide_eq_false (by omega))) ?_));refine Zr (Zra 27 7) (ZY 7 ?_);refine Zu 100 false ef ((by rw[f4];simp)) ?_;refine Zr (Zra 34 7) (ZY 7 ?_);refine ZD ?_;first|exact S.meet ⟨rfl,rfl⟩ ⟨rfl,rfl,rfl,rfl,rfl,rfl,rfl,rfl,rfl,rfl,trivial⟩ Sub.Qh|(rw[show decide ((x.w:Int)≠(j.w:Int))=false from decide_eq_false (by omega)];exact S.meet ⟨rfl,rfl⟩ ⟨rfl,rfl,rfl,rfl,rfl,rfl,rfl,rfl,rfl,rfl,trivial⟩ Sub.Qh)
     ·refine Zr (Zra 2 39) (ZY 8 (ZY 8 (ZY 8 (ZY 8 (ZY 7 ?_)))));refine ZD ?_;first|exact S.meet ⟨rfl,rfl⟩ ⟨rfl,rfl,rfl,rfl,rfl,rfl,rfl,rfl,rfl,rfl,trivial⟩ Sub.Qh|(rw[show decide ((x.w:Int)≠(j.w:Int))=false from decide_eq_false (by omega)];exact S.meet ⟨rfl,rfl⟩ ⟨rfl,rfl,rfl,rfl,rfl,rfl,rfl,rfl,rfl,rfl,trivial⟩ Sub.Qh)
    ·rintro ρ' Γ' ⟨rfl,rfl⟩;refine ZF ef (ZY 7 (Zv (Qj (.int .i64 (M2 j.id:Nat)) Tryz.underlying44 Tryz.underlying31 Tryz.zv3.h rfl rfl rfl ((Qjk j.id).symm)) (ZY 2 (Zv (Nl (((max (M2 j.id) x.Qb:Nat):Int)) rfl rfl (by omega)) (Zp (S.mapUpdate Tryz.underlying44 Tryz.underlying31 rfl rfl rfl rfl (ZY 2 ?_)))))))
     refine Zc (fun ρ' Γ'=>ρ'=[(11,pt p),(12,.map (some b35)),(36,s.v),(37,.int .i64 (s.n:Int)),(38,.int .i64 (i:Int)),(52,.pointer (some ⟨r52,0,none⟩)),(132,.bool false)]∧Γ'=Qk b35 .u32 (Yd (j.id:Int) (.int .i64 ((max (M2 j.id) x.Qb:Nat):Int)) cl2)::Kj r52 jb .u32 (m2.Ym.map joE) (left.eraseIdx i53) (some ((j.id:Int),.agg (joC j).toArray))::imgs iv m2.Qe::smK p m2 b ps nv ns rb rl jb gb db wb iv dv wv (Xa W::Γ)) ?_ ?_
     ·refine Zd ([blk p 55 (smC m2 b nv rb jb gb db wb iv dv wv).toArray,Qk db .u32 (F4 m2.done),Qk rb .u32 rl,blk b16 35 (joC j).toArray]) [] (Zra 0 7) (ZY 5 ?_);refine Zw ef (Qj (.bool (decide (j.id∈m2.done))) Tryz.underlying50 Tryz.underlying31 Tryz.zv4.h rfl rfl rfl (by rw[Qab];by_cases hm:j.id∈m2.done;(rw[if_pos hm,decide_eq_true hm];rfl);(rw[if_neg hm,decide_eq_false hm];rfl))) (Zy ?_)
      refine Zb 122 ef (fun hg19_6=>?_) (fun hg19_6=>?_)
      ·refine Zr (Zra 7 10) (ZY 5 ?_);refine Zwg ef ef ef ef (Qj (.int .i64 (Yn j.id m2.ran:Nat)) Tryz.underlying44 Tryz.underlying31 Tryz.zv3.h rfl rfl rfl ((hrl j.id).symm)) (ZY 4 ?_);refine ZD ?_;first|exact S.meet ⟨rfl,rfl⟩ ⟨rfl,rfl,rfl,rfl,rfl,rfl,rfl,trivial⟩ Sub.Qh|(rw[show decide ((Yn j.id m2.ran:Int)<(j.w:Int))=false from decide_eq_false (by have:=hdF hg19_6;omega)];exact S.meet ⟨rfl,rfl⟩ ⟨rfl,rfl,rfl,rfl,rfl,rfl,rfl,trivial⟩ Sub.Qh)
      ·refine Zr (Zra 7 10) (ZY 8 (ZY 2 ?_));refine ZD ?_;first|exact S.meet ⟨rfl,rfl⟩ ⟨rfl,rfl,rfl,rfl,rfl,rfl,rfl,trivial⟩ Sub.Qh|(rw[show decide ((Yn j.id m2.ran:Int)<(j.w:Int))=false from decide_eq_false (by have:=hdF hg19_6;omega)];exact S.meet ⟨rfl,rfl⟩ ⟨rfl,rfl,rfl,rfl,rfl,rfl,rfl,trivial⟩ Sub.Qh)
     ·rintro ρ' Γ' ⟨rfl,rfl⟩;refine ZF ef (Zy ?_);exact ZX ((left.eraseIdx i53).length) (⟨left.eraseIdx i53,some ((j.id:Int),.agg (joC j).toArray),fun id=>if id=j.id then max (M2 j.id) x.Qb else M2 id,Yd (j.id:Int) (.int .i64 ((max (M2 j.id) x.Qb:Nat):Int)) cl2,rfl,fun e he=>hLf e (List.mem_of_mem_eraseIdx he),Qx4 Qjk j.id _,Zgx,Zg0,rfl,rfl⟩) (by omega)
 ·refine ZY 6 ?_;exact Zf ef Zq (⟨rfl,rfl⟩)
end BN
open Go.ChangeShapes Go.WideShapes Go.ChangeAt
theorem Ss{H:Type}(enc:TypeId×Value→H):Qkk enc Rows.brainCreditRow.laid 4 Tryz.f4:=by
 intro W base args ds before Sf hA _ _ hL;rw[Tryz.params4]at hA Sf;obtain⟨v0,vs0,d0,ds0,p0,q0,hargs,rfl,rfl,h0,r0⟩:=trodAll_cons hA;obtain⟨v1,vs1,d1,ds1,p1,q1,rfl,rfl,rfl,h1,r1⟩:=trodAll_cons r0;obtain⟨v2,vs2,d2,ds2,p2,q2,rfl,rfl,rfl,h2,r2⟩:=trodAll_cons r1;obtain⟨v3,vs3,d3,ds3,p3,q3,rfl,rfl,rfl,h3,r3⟩:=trodAll_cons r2;obtain⟨v4,vs4,d4,ds4,p4,q4,rfl,rfl,rfl,h4,r4⟩:=trodAll_cons r3;obtain⟨rfl,rfl,rfl⟩:=trodAll_nil r4;obtain rfl:args=#[v0,v1,v2,v3,v4]:=by cases args;simp_all
 obtain⟨n,rfl,hn⟩:=Tj Tryz.underlying5 (Sf 0 5 v0 rfl rfl) h0;obtain⟨r,rfl,hr⟩:=Tj Tryz.underlying5 (Sf 1 5 v1 rfl rfl) h1;obtain⟨q,rfl,hq⟩:=Tj Tryz.underlying5 (Sf 2 5 v2 rfl rfl) h2;obtain⟨g,rfl,hg⟩:=Tj Tryz.underlying5 (Sf 3 5 v3 rfl rfl) h3;obtain⟨s,l,e2,hs⟩:=BN.Q0u (Qsj 12 Tryz.underlying41 (by kernel_rfl) (Sf 4 41 v4 rfl rfl) h4);simp only[List.cons.injEq,and_true]at e2;subst e2;have hn:=Ey hn;have hr:=Ey hr;have hq:=Ey hq;have hg:=Ey hg;obtain⟨n,rfl⟩:∃m:Nat,n=m:=⟨n.toNat,by omega⟩;obtain⟨r,rfl⟩:∃m:Nat,r=m:=⟨r.toNat,by omega⟩;obtain⟨q,rfl⟩:∃m:Nat,q=m:=⟨q.toNat,by omega⟩;obtain⟨g,rfl⟩:∃m:Nat,g=m:=⟨g.toNat,by omega⟩;exact Q11 (BN.Qc7 n r q g l s (by omega) (by omega) (by omega) (by omega) (Qz4 rfl hL) hs)
set_option maxRecDepth 100000 in
theorem Sr(os:Os)(args:Array Value):laidMetH Tryz.prog Rows.brainCreditRow.laid ((World.doorLaid Tryz.prog 14 os).forCall (fun _ _=>0) ⟨#[],args,[]⟩).memory:=
 laidMetH_of_parts3 (fuel:=8) (laidMet_of_run' 8 (by kernel_rfl) (by kernel_rfl)) (by kernel_rfl) (by kernel_rfl)
set_option maxRecDepth 100000 in
theorem Mt(os:Os)(started:os.Started)(H:Type)(enc:TypeId×Value→H) :
  ReturnsInHanded {} Tryz.checked os 4 .any (fun w args=>(Rows.brainCreditSpec.pre enc Tryz.prog Tryz.f4 [] false w args∧laidMetH Tryz.prog Rows.brainCreditRow.laid w)∧sizedMet enc Tryz.prog Tryz.f4 (OpenSpec.ofChange Rows.brainCreditSpec) false w args) (Rows.brainCreditSpec.post enc Tryz.prog Tryz.f4 false true false false):=
 Qlx started Tryz.func4 (by kernel_rfl)
  (ChangeSpec.witness_shaped (enc:=enc) (C:=Tryz.checked) (os:=os) (X:=fun w _=>laidMetH Tryz.prog Rows.brainCreditRow.laid w) false (World.doorLaid Tryz.prog 14 os) #[.int .u8 0,.int .u8 0,.int .u8 0,.int .u8 0,.slice none 0 0] 8 rfl (World.shaped_of_RefB (by kernel_rfl) (by kernel_rfl)) (by kernel_rfl) (by kernel_rfl) (by kernel_rfl) (Sr os _))
  rfl rfl (by kernel_rfl) (fun ds h=>by match ds,h with|[a0,a1,a2,a3,a4],_=>rfl) (Ss enc)
theorem P9:Rows.brainCreditRow.holds Tryz.pinned (OpenSpec.ofChange Rows.brainCreditSpec):=
 OpenClaim.holds_of_wide 4 Tryz.f4 rfl rfl rfl rfl rfl rfl rfl ⟨rfl,rfl,rfl,rfl,rfl⟩ rfl rfl rfl rfl rfl (by kernel_rfl) Tryz.func4 (by kernel_rfl)
  (of_decide_eq_true (by kernel_rfl)) (by unfold Func.isWrapper;first|(rw[if_pos (by decide +kernel)];kernel_rfl)|(rw[if_neg (by decide +kernel)];exact⟨rfl,rfl⟩))
  (fun os started H enc _=>Mt os started H enc)
theorem BrainCredit_holds:Rows.BrainCreditCardSaid:=
 Claim7.holds_tied_plain_at .later [] [.data] true (true,"4872c1f8a3b510e83d0b533b5dde514eb1aba5b287cb337591b3ec3084a339dd") true
  P9 (fun _ h=>by cases h) (by kernel_rfl) (fun _ h=>by cases h) brainCredit_row_tie rfl ⟨rfl,rfl⟩ (by kernel_rfl) rfl
  (fun f fn hf hfn=>by
   obtain rfl:f=4:=Option.some.inj ((show Tryz.prog.funcNamed "quadrille/quadrillelaw19.BrainCredit" = some 4 by kernel_rfl).symm.trans hf) |>.symm
   obtain rfl:fn=Tryz.f4:=(Option.some.inj (Tryz.func4.symm.trans hfn)).symm
   exact⟨by kernel_rfl,fun j t ht=>by
    rw[Tryz.params4]at ht;have hm:t∈[5,5,5,5,41]:=by simpa using Array.mem_of_getElem? ht
    have hall:([5,5,5,5,41].all fun u=>!Tryz.prog.wantsStandIn u)=true:=by kernel_rfl
    exact(show Tryz.prog.wantsStandIn t=false by simpa using List.all_eq_true.1 hall t hm)⟩)
  (by kernel_rfl)
#print axioms BrainCredit_holds
end Go.Proofs.YtdackcibfkkniaaGreatDoor
