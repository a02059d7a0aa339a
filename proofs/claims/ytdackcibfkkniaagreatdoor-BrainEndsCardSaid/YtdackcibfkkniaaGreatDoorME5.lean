/- Texts put together. -/
import Derived.Test.YtdackcibfkkniaaGreatDoorME4
set_option maxRecDepth 20000
set_option synthInstance.maxSize 9999
set_option synthInstance.maxHeartbeats 400000
namespace Go.Proofs.YtdackcibfkkniaaGreatDoor
open Go.RowKit
namespace BN
structure Agr(x y:Bj):Prop where
 id:y.id=x.id
 at_:y.at_=x.at_
 dr:y.Ql=x.Ql
 st:y.state=x.state
 k:y.k=x.k
theorem Qiu.agr{b:Br}{c:Nat→Nat→Prop}{x y:Bj}(h:Qiu b c x)(a:Agr x y)(h0:x.state=0→y.Xg=none∧y.X4=none):Qiu b c y:=by
 refine⟨by rw[a.st];exact h.st,fun e=>?_,fun e=>?_,by rw[a.st,a.dr];exact h.d,by rw[a.dr,a.at_,a.id];exact h.u,by rw[a.dr,a.id];exact h.du,by rw[a.dr,a.at_];exact h.da⟩
 ·rw[a.st]at e;obtain⟨q1,q2,_,_,d⟩:=h.q e;exact⟨by rw[a.at_];exact q1,by rw[a.dr];exact q2,(h0 e).1,(h0 e).2,by rw[a.id];exact d⟩
 ·rw[a.st]at e;obtain⟨i,z,g,f⟩:=h.p e;exact⟨by rw[a.at_,a.k];exact i,z,by rw[a.id];exact g,by rw[a.at_];exact f⟩
theorem Qbu{b:Br}{c:Nat→Nat→Prop}(h:BrI b c){x y:Bj}(d:Qk b.js x.id=some x)(a:Agr x y)(e:JOk b.nodes y)(h0:x.state=0→y.Xg=none∧y.X4=none):BS b (b.set y)∧BrI (b.set y) c:=
 ⟨Qu4 d a.id a.at_ a.dr,h.set d a.id e ((h.j x (Qi d).1).agr a h0)⟩
theorem Vs{l:List Nat}(h:l.Pairwise (· < ·)):l.Nodup:=h.imp fun h=>Qdn h
theorem Qww{b:Br}(h:BrI b never)(z:b.stops=none){x y:Bj}(c:Qk b.js x.id=some x)(a:Agr x y)(m:JOk b.nodes y)(h0:x.state=0→y.Xg=none∧y.X4=none):BS b (Xv b y)∧BrI (Xv b y) never:=by
 by_cases g:y.work=y.Qg∨y.Xg.isSome∨y.Ql.isSome∨y.state≠2
 ·rw[V3 g];exact Qbu h c a m h0
 ·rw[Ua g]
  have w:y.Ql=none:=by
   cases B:y.Ql with
   | none=>rfl
   | some d=>exact absurd (.inr (.inr (.inl (by rw[B];rfl)))) g
  have E:y.state=2:=W7 fun e=>g (.inr (.inr (.inr e)));have C:=h.j x (Qi c).1;have j:∀n∈y.at_,n∈b.up:=fun n f=>(C.u (by rw[←a.dr];exact w) n (by rw[←a.at_];exact f)).resolve_right fun h=>h;have F:y.state=0→(Wt y).Xg=none∧(Wt y).X4=none:=fun e=>(by rw[E]at e;cases e)
  refine⟨⟨y.at_.map (W8 (Wt y)),rfl,rfl,rfl,rfl,rfl,rfl,rfl,fun o k=>?_,fun o k=>?_,fun i G=>⟨fun v u H p D=>?_⟩⟩,?_⟩
  ·obtain⟨n,f,rfl⟩:=Qq.1 k;exact j n f
  ·obtain⟨n,f,rfl⟩:=Qq.1 k;exact⟨by show 8≠5;omega,by show 8≠6;omega,fun e=>(by cases e),Xq _⟩
  ·have s:∀id,Pres (Br.set {b with Qd:=b.Qd++y.at_.map (W8 (Wt y))} (Wt y)) i id↔Pres b i id:=fun id=>Pw (y:=Wt y) c a.id a.at_ a.dr _ b.m i id;have A:qOf (y.at_.map (W8 (Wt y))) i=if i∈y.at_ then [{kind:=8,Qu:=y.id,ver:=u32 (y.ver+1),Qg:=y.work}] else []:=Ep (fun _=>{kind:=8,Qu:=y.id,ver:=u32 (y.ver+1),Qg:=y.work}) i (Vs m.Uy)
   rw[A]
   by_cases l:i∈y.at_
   ·rw[Qh l,Mi,Pg];obtain⟨r,q⟩:=B2.1 ((p y.id).2 ⟨x,by rw[a.id];exact c,by rw[←a.dr];exact w,by rw[←a.at_];exact l⟩);unfold Z9;rw[Qe (by show (8:Nat)≠3;omega),Qe (by show (8:Nat)≠5;omega),Qe (by show (8:Nat)≠6;omega),Qh rfl];simp only[q];refine⟨?_,fun id=>(p id).trans (s id).symm⟩;rw[u,D z (y.id,r) (Fc q)];rfl
   ·rw[Qe l,Pg];exact⟨u,fun id=>(p id).trans (s id).symm⟩
  ·have t:=h.ord (b.Qd++y.at_.map (W8 (Wt y)));exact t.set (y:=Wt y) c a.id m.Wt ((t.j x (Qi c).1).agr (y:=Wt y) ⟨a.id,a.at_,a.dr,a.st,a.k⟩ fun e=>F (by rw[a.st];exact e))
theorem Qij{b:Br}(h:BrI b never)(f:b.stops=none){x:Bj}(a:Qk b.js x.id=some x):BS b (Y9 b x)∧BrI (Y9 b x) never:=by
 have d:=h.ok.at_ a;have c:=h.j x (Qi a).1;unfold Y9
 split
 ·exact Qbu h a ⟨rfl,rfl,rfl,rfl,rfl⟩ d fun e=>⟨(c.q e).2.2.1,(c.q e).2.2.2.1⟩
 ·split
  ·exact Qbu h (y:=Em x) a ⟨rfl,rfl,rfl,rfl,rfl⟩ d.Em fun e=>⟨(c.q e).2.2.1,rfl⟩
  ·exact Qww h f (y:=Dw x _) a ⟨rfl,rfl,rfl,rfl,rfl⟩ (d.Dw _) fun e=>⟨(c.q e).2.2.1,rfl⟩
theorem P8{f:Br→Bj→Br}{C:Br→Prop}{a:Nat→Nat→Prop}(d:∀b x,BrI b a→C b→Qk b.js x.id=some x→BS b (f b x)∧BrI (f b x) a∧C (f b x)):∀(l:List Nat) (b:Br),BrI b a→C b→BS b (each f b l)∧BrI (each f b l) a∧C (each f b l)
 | [],b,h,c=>⟨.refl b,h,c⟩
 | id::l,b,h,c=>by
  have e:each f b (id::l)=each f (match Qk b.js id with|none=>b|some x=>f b x) l:=rfl;rw[e];cases g:Qk b.js id with
  | none=>exact P8 d l b h c
  | some x=>
   obtain⟨n,m,k⟩:=d b x h c (by rw[(Qi g).2];exact g);obtain⟨k1,j,i⟩:=P8 d l (f b x) m k;exact⟨n.trans k1,j,i⟩
theorem Q1p{b:Br}(h:BrI b never)(a:b.stops=none)(l:List Nat):BS b (each Y9 b l)∧BrI (each Y9 b l) never:=
 let ⟨e,d,_⟩:=P8 (C:=fun b=>b.stops=none) (fun _ _ h a c=>⟨(Qij h a c).1,(Qij h a c).2,(Qij h a c).1.stops.trans a⟩) l b h a
 ⟨e,d⟩
theorem Lh{b:Br}(h:BrI b never)(a:b.stops=none)(l:List Nat):BS b (each Xv b l)∧BrI (each Xv b l) never:=
 let ⟨i,g,_⟩:=P8 (f:=Xv) (C:=fun b=>b.stops=none) (fun _ x h a c=>
  have d:=h.j x (Qi c).1;have k:=Qww h a (y:=x) c ⟨rfl,rfl,rfl,rfl,rfl⟩ (h.ok.at_ c) fun e=>⟨(d.q e).2.2.1,(d.q e).2.2.2.1⟩
  ⟨k.1,k.2,k.1.stops.trans a⟩) l b h a
 ⟨i,g⟩
theorem Qqr{b:Br}{a:Nat→Nat→Prop}(h:BrI b a){x:Bj}(c:Qk b.js x.id=some x):BS b (Q4 b x)∧BrI (Q4 b x) a:=by
 unfold Q4
 split
 ·exact⟨Qfe c rfl rfl rfl (h.ok.at_ c) true,Qn3 h c rfl rfl rfl rfl (h.ok.at_ c) true⟩
 ·exact⟨.refl b,h⟩
theorem A2{b:Br}{a:Nat→Nat→Prop}(h:BrI b a)(l:List Nat):BS b (each Q4 b l)∧BrI (each Q4 b l) a:=
 let ⟨e,d,_⟩:=P8 (f:=Q4) (C:=fun _=>True) (fun _ _ h _ c=>⟨(Qqr h c).1,(Qqr h c).2,trivial⟩) l b h trivial
 ⟨e,d⟩
theorem Qgl{b:Br}{d:Nat→Nat→Prop}(h:BrI b d):BS b (rep b)∧BrI (rep b) d:=by
 have g:=Keep.repack h.ok.Fu
 refine⟨BS.quiet ⟨rfl,rfl,rfl,rfl,rfl,rfl⟩ rfl fun _ _=>Iff.rfl,Qs9 h.ok,fun x p=>?_,fun z o=>?_,fun n=>?_⟩
 ·have c:=h.j x p;have a:=Q0t g.js x.id
  refine⟨c.st,fun e=>?_,fun e=>?_,c.d,c.u,c.du,c.da⟩
  ·obtain⟨q1,q2,q3,j,i⟩:=c.q e;refine⟨q1,q2,q3,j,?_⟩;rw[i]at a;show look (Hc b.m).1.js x.id=none;cases f:look (Hc b.m).1.js x.id with
   | none=>rfl
   | some y=>rw[f]at a;cases a
  ·obtain⟨m,z,l,k⟩:=c.p e;rw[l]at a
   rcases f:look (Hc b.m).1.js x.id with _|y
   ·rw[f]at a;cases a
   ·rw[f]at a;simp only[U3,Km]at a;exact⟨m,y,rfl,by rw[show y.ns=z.ns from Z3 Prod.snd a];exact k⟩
 ·have:z.id∈b.m.js.map (·.id):=by rw[←g.ids];exact Qq.2 ⟨z,o,rfl⟩
  obtain⟨w,q,e⟩:=Qq.1 this;rw[←e];exact h.mj w q
 ·rw[show (rep b).m=(Hc b.m).1 from rfl,Nc g.up g.N];exact h.up n
theorem Qwf{b:Br}(h:BrI b never){x:Bj}(c:Qk b.js x.id=some x)(s:x.Ql=none):BS b (Ur b x)∧BrI (Ur b x) never:=by
 have g:=h.j x (Qi c).1;have a:=h.ok.at_ c;have f:JOk b.nodes {x with Wp:=true,C5:=Xi b.now b.Wu}:=⟨a.P3,a.Rx,a.tier,a.k1,a.kn,a.w,a.cr,a.wk,a.Uy,a.at_,a.drop,a.lod,a.X4,a.ld,a.svl⟩;have h0:x.state=0→({x with Wp:=true,C5:=Xi b.now b.Wu}:Bj).Xg=none∧({x with Wp:=true,C5:=Xi b.now b.Wu}:Bj).X4=none:=fun e=>⟨(g.q e).2.2.1,(g.q e).2.2.2.1⟩
 refine⟨⟨x.at_.map fun n=>((n,{kind:=12,Qu:=x.id,tick:=Xi b.now b.Wu}):Od),rfl,rfl,rfl,rfl,rfl,rfl,rfl,fun o d=>?_,fun o d=>?_,fun i t=>⟨fun v q w p u=>?_⟩⟩,?_⟩
 ·obtain⟨n,k,rfl⟩:=Qq.1 d;exact(g.u s n k).resolve_right fun h=>h
 ·obtain⟨n,k,rfl⟩:=Qq.1 d;exact⟨by show 12≠5;omega,by show 12≠6;omega,fun e=>(by cases e),Xq _⟩
 ·have j:∀id,Pres (Ur b x) i id↔Pres b i id:=fun id=>Pw (y:={x with Wp:=true,C5:=Xi b.now b.Wu}) c rfl rfl rfl _ b.m i id;have r:qOf (x.at_.map fun n=>((n,{kind:=12,Qu:=x.id,tick:=Xi b.now b.Wu}):Od)) i=if i∈x.at_ then [{kind:=12,Qu:=x.id,tick:=Xi b.now b.Wu}] else []:=Ep (fun _=>{kind:=12,Qu:=x.id,tick:=Xi b.now b.Wu}) i (Vs a.Uy)
  rw[r]
  by_cases l:i∈x.at_
  ·rw[Qh l,Mi,Pg];unfold Z9;rw[Qe (by show (12:Nat)≠3;omega),Qe (by show (12:Nat)≠5;omega),Qe (by show (12:Nat)≠6;omega),Qe (by show (12:Nat)≠8;omega),Qe (by show (12:Nat)≠10;omega)];exact⟨q,fun id=>(p id).trans (j id).symm⟩
  ·rw[Qe l,Pg];exact⟨q,fun id=>(p id).trans (j id).symm⟩
 ·have m:=h.ord (b.Qd++x.at_.map fun n=>((n,{kind:=12,Qu:=x.id,tick:=Xi b.now b.Wu}):Od));exact m.set (y:={x with Wp:=true,C5:=Xi b.now b.Wu}) c rfl f ((m.j x (Qi c).1).agr (y:={x with Wp:=true,C5:=Xi b.now b.Wu}) ⟨rfl,rfl,rfl,rfl,rfl⟩ h0)
def Q41(b:Br):Prop:=∀x∈b.js,x.Ql=none
theorem Q41.warn{b:Br}(h:Q41 b)(x:Bj)(d:x.Ql=none):Q41 (Ur b x):=fun z a=>by
 obtain⟨w,c,e⟩:=Qq.1 (show z∈Xe b.js {x with Wp:=true,C5:=Xi b.now b.Wu} from a)
 split at e
 ·subst e;exact d
 ·subst e;exact h w c
theorem Cg{b:Br}(h:BrI b never):BS b (Qy b)∧BrI (Qy b) never:=by
 unfold Qy
 split
 ·exact⟨.refl b,h⟩
 split
 ·exact⟨.refl b,h⟩
 rename_i e
 split
 ·exact⟨.refl b,h⟩
 ·have g:Q41 b:=fun x a=>by
   cases c:x.Ql with
   | none=>rfl
   | some d=>exact absurd (Pm.2 ⟨x,a,by rw[c];simp⟩) e
  obtain⟨j,i,_⟩:=P8 (f:=Ur) (C:=Q41) (fun b x h g a=>by
   have c:=g x (Qi a).1;exact⟨(Qwf h a c).1,(Qwf h a c).2,g.warn x c⟩) _ b h g
  exact⟨j,i⟩
end BN
namespace PL
theorem Qio{D:List (List Int)}{k:Nat}:∀ {n:Nat} {v:Int} {i:Nat},Fj k D n=some (v,i)→∃row,D[i]?=some row∧kth row k=some v
 | 0,_,_,h=>by cases h
 | n+1,v,i,h=>by
  unfold Fj comb at h;cases a:(D[n]?).bind fun row=>kth row k with
  | none=>rw[a]at h;exact Qio h
  | some w=>
   rw[a]at h
   have c:∃row,D[n]?=some row∧kth row k=some w:=by
    cases d:D[n]? with
    | none=>rw[d]at a;cases a
    | some row=>rw[d]at a;exact⟨row,rfl,a⟩
   cases b:Fj k D n with
   | none=>rw[b]at h;cases h;exact c
   | some p=>
    obtain⟨u,j⟩:=p;rw[b]at h;simp only at h
    split at h
    ·cases h;exact c
    ·cases h;exact Qio b
theorem Qle{D:List (List Int)}{k:Int}(a:(V1 D k).ok=true)(h0:(V1 D k).at_=0):(V1 D k).nodes.length=k.toNat∧∀n∈(V1 D k).nodes,∃row∈D,∃(i:Nat) (x:Int),n=i∧row[i]?=some x∧x≤0:=by
 unfold V1 at a h0 ⊢
 split at a
 ·cases a
 rename_i u;rw[Qe u]at h0 ⊢;cases m:Fj k.toNat D D.length with
 | none=>rw[m]at a;cases a
 | some p=>
  obtain⟨v,i⟩:=p;rw[m]at h0;have t:v=0:=h0;subst t;obtain⟨row,o,b⟩:=Qio m;simp only[o,Tf];unfold kth at b;split at b
  case isFalse=>cases b
  rename_i B;obtain⟨c,z,l⟩:=Df.1 b;have r:=F0 row
  refine⟨?_,fun n q=>⟨row,Yn o,?_⟩⟩
  ·rw[chosen,(Dy _).length_eq,Qo,V9];omega
  ·rw[chosen,(Dy _).mem_iff]at q;obtain⟨d,y,rfl⟩:=Qq.1 q;obtain⟨j,w,e⟩:=Qvp.1 y;rw[V9]at w;rw[List.getElem_take]at e;have g:d∈Y4 row:=by rw[←e];exact Qdf _
   have f:d.2≤0:=by
    obtain⟨q1,q2⟩:=Yz.1 z
    by_cases A:j=k.toNat-1
    ·subst A;rw[←e,q2,l];exact Int.le_refl _
    ·have:=Jy.1 (Qwr row) j (k.toNat-1) Qb q1 Qb;rw[e,q2]at this;simp only[ltC,Zz]at this;omega
   obtain⟨i,x,s,h⟩:=Qkw.1 ((Ld row).mem_iff.1 g);subst h;refine⟨i,x,rfl,s,?_⟩;simp only[inI]at f
   split at f
   ·omega
   split at f <;> omega
def Fr(D:List (List Int))(U:Nat→Prop):Prop:=∀row∈D,∀(i:Nat) (x:Int),row[i]?=some x→x≤0→U i
theorem Zjg{D:List (List Int)}{U:Nat→Prop}(h:Fr D U){v:Int}(g:1≤v)(r:Int)(ns:List Int):Fr (Sh D r ns v) U:=by
 unfold Sh
 split
 ·have key:∀(ns:List Int) (row:List Int),(∀(i:Nat) (x:Int),row[i]?=some x→x≤0→U i)→∀(i:Nat) (x:Int),(F2 v row ns)[i]?=some x→x≤0→U i:=by
   intro ns;induction ns with
   | nil=>exact fun _ h=>h
   | cons n ns e=>
    intro row d;show ∀(i:Nat) (x:Int),(F2 v (Qeg v row n) ns)[i]?=some x→x≤0→U i;refine e _ fun i x a h0=>?_;unfold Qeg at a
    split at a
    ·rw[Fq]at a
     split at a
     ·split at a
      ·cases a;omega
      ·cases a
     ·exact d i x a h0
    ·exact d i x a h0
  intro row f i x a h0
  rcases Qvt f with b|b
  ·exact h row b i x a h0
  ·subst b;refine key ns _ (fun i x a h0=>?_) i x a h0;cases c:D[r.toNat]? with
   | none=>rw[c]at a;simp at a
   | some row=>rw[c]at a;exact h row (Yn c) i x a h0
 ·exact h
theorem Qab{U:Nat→Prop}:∀ {l:List Ak} {D:List (List Int)} (_:Fr D U) {i:Nat} {s:St},(Ch D l)[i]?=some s→s.ok=true→s.at_=0→∃a,l[i]?=some a∧s.nodes.length=a.k.toNat∧∀n∈s.nodes,∃i:Nat,n=i∧U i
 | [],_,_,_,_,h,_,_=>by cases h
 | a::l,D,b,0,s,h,d,c=>by
  have e:V1 D a.k=s:=Hb h;subst e;obtain⟨k1,f⟩:=Qle d c;refine⟨a,rfl,k1,fun n k=>?_⟩;obtain⟨row,j,i,x,e,g,h0⟩:=f n k;exact⟨i,e,b row j i x g h0⟩
 | a::l,D,b,i+1,s,h,d,c=>by
  refine Qab (D:=Sg D (V1 D a.k) a.len) ?_ (i:=i) h d c;unfold Sg
  split
  ·refine Zjg b ?_ _ _;unfold Qr1;have q:=(Qhw (V1 D a.k).at_).1;have p:1≤inI (max a.len 1):=by unfold inI;split <;> (try split) <;> omega
   have m:∀z:Int,1≤z→1≤inI z:=fun z o=>by unfold inI;split <;> (try split) <;> omega
   exact m _ Qb
  ·exact b
end PL
namespace BN
theorem Qmx(i:Nat):∀(l:List Nat) (f:Nat→Nt),l.Nodup→(i∉l→qOf (l.mapIdx fun r n=>((n,f r):Od)) i=[])∧(i∈l→∃r,qOf (l.mapIdx fun r n=>((n,f r):Od)) i=[f r])
 | [],_,_=>⟨fun _=>rfl,fun h=>(by cases h)⟩
 | n::l,f,h=>by
  obtain⟨j,g⟩:=Vz.1 h;obtain⟨k1,c⟩:=Qmx i l (fun r=>f (r+1)) g;rw[List.mapIdx_cons];unfold qOf at k1 c ⊢;rw[Eg]
  by_cases e:n=i
  ·rw[Qh (by simpa using e),List.map_cons];refine⟨fun a=>absurd (by rw[e];exact Z0 ..) a,fun _=>⟨0,?_⟩⟩;rw[k1 (by rw[←e];exact j)]
  ·rw[Qe (by simpa using e)]
   exact⟨fun a=>k1 fun b=>a (Ym _ b),fun b=>by
    obtain⟨r,d⟩:=c ((Yf.1 b).resolve_left (Qee e));exact⟨r+1,d⟩⟩
theorem Zbl{m:Mx}{j:Nat}{z:Int}{l:List Int}(h:(Uc m j z l).1≠0):(Uc m j z l).2=m:=by
 unfold Uc at h ⊢
 split
 ·rfl
 rename_i c;rw[Qe c]at h
 split
 ·rfl
 rename_i b;rw[Qe b]at h
 split
 ·rfl
 rename_i a;rw[Qe a]at h;exact absurd rfl h
theorem Zcd{b:Br}(h:BrI b never){x:Bj}{s:PL.St}(t:Qk b.js x.id=some x)(h0:x.state=0)(u:∀n∈nats s.nodes,n∈b.up)(A:(nats s.nodes).length=x.k):BS b (Jh b x s)∧BrI (Jh b x s) never:=by
 by_cases p:(Uc b.m x.id s.row s.nodes).1≠0
 ·rw[H6 p,Zbl p];exact⟨.refl b,h⟩
 have Y:=h.j x (Qi t).1;have N:=h.ok.at_ t;obtain⟨q1,q2,q3,q4,q5⟩:=Y.q h0;have ok:=Qql h.ok (s:=s) N q3;have p:=W7 p;obtain⟨K,T,J,S⟩:=Ap p;obtain⟨I,R⟩:=D0 K;obtain⟨U,o2,_⟩:=Qtj h.ok.Fu T K;have F:¬(Uc b.m x.id s.row s.nodes).1≠0:=fun e=>e p;rw[Jg F,S]at ok ⊢;obtain⟨y,l⟩:∃y,y=C6 x (nats s.nodes):=⟨_,rfl⟩;have j:y.id=x.id:=by rw[l]
 have a:y.at_=nats s.nodes:=by rw[l]
 have c:y.Ql=none:=by rw[l];exact q2
 have D:y.k=x.k:=by rw[l]
 have g:y.state=1:=by rw[l]
 rw[←l]at ok ⊢;have B:=fun i=>Qmx i (nats s.nodes) (fun r=>{kind:=3,Qu:=x.id,ver:=x.ver,Yl:=r,Qg:=x.Qg}) (Vs I);obtain⟨E,H⟩:∃E,E=Vk x (nats s.nodes):=⟨_,rfl⟩;rw[←H]at ok ⊢;have B:∀i,(i∉nats s.nodes→qOf E i=[])∧(i∈nats s.nodes→∃r,qOf E i=[{kind:=3,Qu:=x.id,ver:=x.ver,Yl:=r,Qg:=x.Qg}]):=fun i=>by rw[H];exact B i
 have M:∀o∈E,o.1∈nats s.nodes∧o.2.kind=3∧o.2.Qu=x.id∧o.2.Yl≤255:=fun o q=>by
  rw[H,Vk]at q;obtain⟨r,hr,e⟩:=List.mem_mapIdx.1 q;rw[←e];have a0:=An I R;have hN:=h.ok.Fu.Ra;exact⟨Qdf _,rfl,rfl,by show r≤255;omega⟩
 have O:∀i id,Pres (Br.set {b with m:=b.m.add ⟨x.id,s.row.toNat,ofL (nats s.nodes)⟩,Qd:=b.Qd++E} y) i id↔if id=x.id then (y.Ql=none∧i∈y.at_) else Pres b i id:=fun i id=>Qaa t j (b.Qd++E) _ i id
 refine⟨⟨E,rfl,rfl,rfl,rfl,rfl,rfl,rfl,fun o q=>u _ (M o q).1,fun o q=>?_,fun i hi=>⟨fun v P h2 C h4=>?_⟩⟩,?_⟩
 ·obtain⟨_,e1,e2,e3⟩:=M o q;exact⟨Qb,Qb,fun _=>by rw[e2];have:=N.P3;omega,e3⟩
 ·have Q:¬Pres b i x.id:=fun⟨z,k1,_,L⟩=>by
   rw[t]at k1;cases k1;rw[q1]at L;cases L
  by_cases f:i∈nats s.nodes
  ·obtain⟨r,e⟩:=(B i).2 f;rw[e,Mi,Pg];unfold Z9;rw[Qh rfl]
   have G:(Yt x.id v.rk).isSome=false:=by
    cases X:Yt x.id v.rk with
    | none=>rfl
    | some w=>exact absurd ((C x.id).1 (by rw[X];rfl)) Q
   refine⟨by show (v.Qj || (Yt x.id v.rk).isSome)=false;rw[P,G];rfl,fun id=>?_⟩;show (Yt id (Wl x.id _ v.rk)).isSome=true↔_;rw[Jf,O i id]
   by_cases e:id=x.id
   ·rw[Qh e,Qh e,c,a];exact⟨fun _=>⟨rfl,f⟩,fun _=>rfl⟩
   ·rw[Qe e,Qe e];exact C id
  ·rw[(B i).1 f,Pg];refine⟨P,fun id=>?_⟩;rw[O i id]
   by_cases e:id=x.id
   ·rw[Qh e,e,a];exact⟨fun k=>absurd ((C x.id).1 k) Q,fun k=>absurd k.2 f⟩
   ·rw[Qe e];exact C id
 ·have Z:=h.ord (b.Qd++E)
  refine Z.put (x:=x) (y:=y) (m:=b.m.add ⟨x.id,s.row.toNat,ofL (nats s.nodes)⟩) t j ok (fun k W=>?_) (fun z V=>?_) (fun z=>Nc rfl rfl z) ?_
  ·show look (Mg _ b.m.js) k=_;rw[Qqk h.ok.Fu J,Qe W]
  ·rcases Um.1 (show z∈Mg _ b.m.js from V) with e|e
   ·exact .inl (by rw[e])
   ·exact .inr e
  ·refine⟨by rw[g];omega,fun e=>(by rw[g]at e;cases e),fun _=>⟨by rw[a,D];exact A,⟨x.id,s.row.toNat,ofL (nats s.nodes)⟩,?_,by rw[a];exact U⟩,?_,fun _ n G=>.inl (u n (by rw[←a];exact G)),fun d e=>(by rw[c]at e;cases e),fun d e=>(by rw[c]at e;cases e)⟩
   ·show look (Mg _ b.m.js) y.id=_;rw[Qqk h.ok.Fu J,j,Qh rfl]
   ·rw[g,c];exact⟨fun e=>(by cases e),fun e=>(by cases e)⟩
theorem Zcc(b:Br)(x:Bj)(s:PL.St):(Jh b x s).up=b.up:=by
 by_cases a:(Uc b.m x.id s.row s.nodes).1≠0
 ·rw[H6 a]
 ·rw[Jg a]
theorem Qg2:∀(a:List (Nat×PL.St)) (b:Br),BrI b never→(a.map (·.1)).Nodup→(∀p∈a,∃x,Qk b.js p.1=some x∧x.state=0∧(p.2.ok=true→p.2.at_=0→(∀n∈nats p.2.nodes,n∈b.up)∧(nats p.2.nodes).length=x.k))→BS b (Xp b a)∧BrI (Xp b a) never
 | [],b,h,_,_=>⟨.refl b,h⟩
 | p::a,b,h,m,f=>by
  have e:Xp b (p::a)=Xp (Ud b p) a:=by rw[X9,X9];rfl
  rw[e];obtain⟨n1,g⟩:=Vz.1 (show (p.1::a.map (·.1)).Nodup from m);obtain⟨x,g1,g2,t⟩:=f p (Z0 ..);have i:=(Qi g1).2
  by_cases c:p.2.ok=true∧p.2.at_=0
  ·rw[Si c g1];obtain⟨r,o⟩:=t c.1 c.2;obtain⟨k1,l⟩:=Zcd h (s:=p.2) (by rw[i];exact g1) g2 r o
   obtain⟨k,j⟩:=Qg2 a (Jh b x p.2) l g fun q d=>by
    obtain⟨z,m1,m2,m3⟩:=f q (Ym _ d);refine⟨z,?_,m2,by rw[Zcc];exact m3⟩;rw[Lw b p.2 fun e=>n1 (Qq.2 ⟨q,d,by rw[e,i]⟩)];exact m1
   exact⟨k1.trans k,j⟩
  ·rw[Py c];exact Qg2 a b h g fun q d=>f q (Ym _ d)
theorem Qm1{b:Br}(h:BrI b never):PL.Fr (Bn b) (·∈b.up):=by
 intro row d i x a h0;obtain⟨r,_,rfl⟩:=Qq.1 d;rw[Q8]at a;obtain⟨n,f,e⟩:=Df.1 a;obtain⟨_,rfl⟩:=Yz.1 f;rw[List.getElem_range]at e;rw[h.up];cases c:Ji b.m i with
 | true=>rfl
 | false=>
  rw[V5,c]at e;rw[Qe Qp]at e;omega
theorem Er{b:Br}(h:BrI b never):BS b (Q9 b)∧BrI (Q9 b) never:=by
 rw[Gx];refine Qg2 (zsR b) b h (by rw[Eh];exact El h.ok.Y4) fun p c=>?_;have l:p.1∈Wf b:=by rw[←Eh];exact Qq.2 ⟨p,c,rfl⟩
 obtain⟨x,g1,g2⟩:=Gy h.ok.Y4 l;simp only[quB,Z5,Zz]at g2;refine⟨x,g1,g2.1,fun k1 d=>?_⟩;obtain⟨i,k⟩:=Dg c;obtain⟨o,m⟩:=Qok.1 k;obtain⟨a,m1,m2,m3⟩:=PL.Qab (Qm1 h) m k1 d;rw[Cs,Q8,o]at m1;simp only[U3,Km]at m1;rw[Pd g1]at m1
 refine⟨fun n f=>?_,?_⟩
 ·obtain⟨z,e,rfl⟩:=Qq.1 f;obtain⟨j,rfl,g⟩:=m3 z e;exact g
 ·rw[Qo,m2,←m1];rfl
end BN
def Apart(x y:Jb):Prop:=∀i,x.ns.getLsbD i=true→y.ns.getLsbD i=true→False
structure R0(m:Mx)(k o:Nat)(a:Bs×List Jb):Prop where
 bits:∀i,a.1.getLsbD i=true↔∃x∈Hy m k++a.2,x.ns.getLsbD i=true
 pw:(Hy m k++a.2).Pairwise Apart
 mem:∀x∈a.2,x∈m.js∧x.row≠k∧x.row<o
theorem and_zero{s t:Bs}:s &&& t=0#16↔∀i,s.getLsbD i=true→t.getLsbD i=true→False:=by
 constructor
 ·intro h i b a;have:=Z3 (fun q=>q.getLsbD i) h;simp[b,a]at this
 ·intro h;refine Qdm fun i _=>?_;rw[C2];cases b:s.getLsbD i with
  | false=>simp
  | true=>
   cases a:t.getLsbD i with
   | false=>simp
   | true=>exact(h i b a).elim
theorem R0.step{m:Mx}{k o:Nat}{a:Bs×List Jb}(h:R0 m k o a){x:Jb}(l:x∈m.js)(g:x.row≠k)(f:x.row<o):R0 m k o (W4 a x)∧(∀i,a.1.getLsbD i=true→(W4 a x).1.getLsbD i=true)∧(∀y∈a.2,y∈(W4 a x).2)∧(x∈(W4 a x).2∨x.ns &&& (W4 a x).1≠0#16):=by
 unfold W4
 by_cases d:x.ns &&& a.1=0#16
 ·rw[Qh d];have d:=and_zero.1 d
  refine⟨⟨fun i=>?_,?_,fun y b=>?_⟩,fun i j=>?_,fun y b=>C1 _ b,.inl (Ef _ (Vd.2 rfl))⟩
  ·show (a.1 ||| x.ns).getLsbD i=true↔_;rw[Qdk,E2,h.bits];simp only[Xu,Vd]
   constructor
   ·rintro (⟨y,b,c⟩|c)
    ·rcases b with b|b
     ·exact⟨y,.inl b,c⟩
     ·exact⟨y,.inr (.inl b),c⟩
    ·exact⟨x,.inr (.inr rfl),c⟩
   ·rintro ⟨y,b,c⟩
    rcases b with b|b|rfl
    ·exact .inl ⟨y,.inl b,c⟩
    ·exact .inl ⟨y,.inr b,c⟩
    ·exact .inr c
  ·show (Hy m k++(a.2++[x])).Pairwise Apart;rw[←Wb];refine Qjc.2 ⟨h.pw,Qdj _ _,fun y b z e i c n=>?_⟩;rw[Vd]at e;subst e;exact d i n ((h.bits i).2 ⟨y,b,c⟩)
  ·rcases Xu.1 b with b|b
   ·exact h.mem y b
   ·rw[Vd]at b;subst b;exact⟨l,g,f⟩
  ·show (a.1 ||| x.ns).getLsbD i=true;rw[Qdk,j,Bool.true_or]
 ·rw[Qe d];exact⟨h,fun i j=>j,fun y b=>b,.inr d⟩
theorem R0.fold{m:Mx}{k o:Nat}:∀(l:List Jb) {a:Bs×List Jb},R0 m k o a→(∀x∈l,x∈m.js∧x.row≠k∧x.row<o)→R0 m k o (l.foldl W4 a)∧(∀i,a.1.getLsbD i=true→(l.foldl W4 a).1.getLsbD i=true)∧(∀y∈a.2,y∈(l.foldl W4 a).2)∧∀x∈l,x∈(l.foldl W4 a).2∨x.ns &&& (l.foldl W4 a).1≠0#16
 | [],a,h,_=>⟨h,fun _ d=>d,fun _ b=>b,fun x p=>by cases p⟩
 | x::l,a,h,f=>by
  obtain⟨u,t,s⟩:=f x (Z0 ..);obtain⟨s1,s2,n,c⟩:=h.step u t s;obtain⟨w,j,g,v⟩:=R0.fold l s1 fun y b=>f y (Ym _ b);refine⟨w,fun i d=>j i (s2 i d),fun y b=>g y (n y b),fun y b=>?_⟩
  rcases Yf.1 b with rfl|b
  ·rcases c with c|c
   ·exact .inl (g _ c)
   ·refine .inr fun e=>c (and_zero.2 fun i r q=>and_zero.1 e i r (j i q))
  ·exact v y b
theorem Qic{m:Mx}(f:W6 m){k:Nat}:∀o,R0 m k o (J9 m k o)∧∀x∈m.js,x.row<o→x.row≠k→x∈(J9 m k o).2∨x.ns &&& (J9 m k o).1≠0#16
 | 0=>by
  refine⟨⟨fun i=>?_,?_,fun x d=>by cases d⟩,fun x _ h=>Qb⟩
  ·show (tk m.js k).getLsbD i=true↔∃x∈Hy m k++[],x.ns.getLsbD i=true;rw[Lb,X3]
   constructor
   ·rintro ⟨x,g,l,j⟩;exact⟨x,(Wx f).2 ⟨g,l⟩,j⟩
   ·rintro ⟨x,g,j⟩;exact⟨x,((Wx f).1 g).1,((Wx f).1 g).2,j⟩
  ·show (Hy m k++[]).Pairwise Apart;rw[X3];refine Tx.imp_of_mem fun {x y} d u F i g l=>?_;obtain⟨r,t⟩:=(Wx f).1 d;obtain⟨q,s⟩:=(Wx f).1 u;exact f.dis x r y q (fun e=>by rw[Ng f.Y4 r q e]at F;omega) (t.trans s.symm) i g l
 | o+1=>by
  obtain⟨g,l⟩:=Qic f o;have n:R0 m k (o+1) (J9 m k o):=⟨g.bits,g.pw,fun x d=>by obtain⟨a,b,c⟩:=g.mem x d;exact⟨a,b,Qb⟩⟩;rw[J9]
  by_cases e:o=k
  ·rw[Qh e];exact⟨n,fun x d v p=>l x d Qb p⟩
  ·rw[Qe e];obtain⟨D,C,B,A⟩:=R0.fold (Hy m o) n fun x d=>⟨((Wx f).1 d).1,by rw[((Wx f).1 d).2];exact e,by rw[((Wx f).1 d).2];omega⟩;refine⟨D,fun x d v p=>?_⟩
   by_cases E:x.row=o
   ·exact A x ((Wx f).2 ⟨d,E⟩)
   ·rcases l x d Qb p with j|j
    ·exact .inl (B x j)
    ·exact .inr fun e2=>j (and_zero.2 fun i z w=>and_zero.1 e2 i z (C i w))
def goJ(m:Mx)(k:Nat):List Jb:=Hy m k++(J9 m k m.R).2
theorem Zdr{m:Mx}{k:Nat}(a:k<m.R):Yq m k++Xc m k=(goJ m k).map (·.id):=by
 rw[Yq,Xc,Qh (Uk.2 ⟨Qb,Qb⟩),Qh (Uk.2 ⟨Qb,Qb⟩),K0,goJ,Vc]
theorem Qfc{m:Mx}(a:W6 m){k:Nat}{x:Jb}(h:x∈goJ m k):x∈m.js:=by
 rcases Xu.1 h with h|h
 ·exact((Wx a).1 h).1
 ·exact((Qic a m.R).1.mem x h).1
theorem Q7k{m:Mx}(a:W6 m)(k:Nat):(goJ m k).Pairwise Apart:=(Qic a m.R).1.pw
namespace BN
theorem Qcg(x:Nat):∀(l a:List Nat),x∈l.foldl Xm a↔x∈a∨x∈l
 | [],a=>by simp
 | y::l,a=>by
  rw[Mi,Qcg x l (Xm a y)]
  have h:x∈Xm a y↔x∈a∨x=y:=by
   unfold Xm
   split
   ·exact⟨fun h=>.inl h,fun h=>h.elim id fun e=>by subst e;assumption⟩
   ·simp
  rw[h,Yf]
  constructor
  ·rintro ((h|h)|h)
   ·exact .inl h
   ·exact .inr (.inl h)
   ·exact .inr (.inr h)
  ·rintro (h|h|h)
   ·exact .inl (.inl h)
   ·exact .inl (.inr h)
   ·exact .inr h
theorem three{p q:Prop}:¬p∨(p∧¬q)∨(p∧q):=by
 by_cases h:p
 ·by_cases a:q
  ·exact .inr (.inr ⟨h,a⟩)
  ·exact .inr (.inl ⟨h,a⟩)
 ·exact .inl h
theorem Tz{s:Sm}{n:Nd}{i:Nat}(h:s.nd[i]?=some n)(a:Vg s.b n=false):Qgk s=false:=by
 rw[Qgk,List.all_eq_false];exact⟨n,Yn h,by rw[a];decide⟩
theorem Qpb{s:Sm}{n:Nd}{i:Nat}(h:s.nd[i]?=some n)(b:(s.nd.take i).all (Vg s.b)=true)(a:Vg s.b n=true):(s.nd.take (i+1)).all (Vg s.b)=true:=by
 rw[X2,h,List.all_append,b];simp[a]
set_option maxHeartbeats 4000000 in
theorem Za4(p:Nat)(s:Sm)(W:Qlk s.nd=true)(a7:s.nd.length≤16):Spec Tryz.prog 22 [pt p] [SP p s] fun Q v Z=>v=.bool (Qgk s)∧Z=SP p s::Q:=by
 refine Zbd Tryz.func22 rfl Tryz.ntmps22 fun w0 Q=>Zsh ?_;refine S.Hh p s fun b ps nv ns rb jb t y l o w k K=>?_;have a5:=K.nn;refine ZY 6 (Zp (S.makeMap .u32 rfl ?_));intro G;refine ZY 8 (Zy (Zp (Zc1 Ze (Q19 b s.b ps) ?_)));rintro v Z ⟨u,rfl,hu,rfl⟩;refine S.Qkx G (E4 []) rfl ?_;refine S.Xn u fun a4 a3 a2=>?_;have a6:maxLen≤9223372036854775807:=by unfold maxLen;omega
 refine ZY 4 ?_;refine Zl (fun F f g=>∃(i:Nat) (B:List Nat),F=s.b.members.length-i∧i≤s.b.members.length∧B=(s.b.members.take i).foldl Xm []∧f=[(0,pt p),(3,.map (some G)),(14,u.v),(15,.int .i64 (u.n:Int)),(16,.int .i64 (i:Int))]∧g=Qz G .u32 (E4 B)::own u 31 1 (Yp s.b.members)::smX p s b ps nv ns rb jb t y l o w k Q) (m:=_) (⟨0,[],rfl,Qb,rfl,rfl,rfl⟩) ?_;rintro F f g ⟨i,B,V,hi,J,rfl,rfl⟩;refine ZY 5 ?_
 refine Zj ef (fun h1=>?_) (fun h1=>?_)
 ·refine S.Q7 u Qb fun ub a0 M _ _ _=>?_;obtain⟨x,hx⟩:=Xs (show i<s.b.members.length by omega);refine ZY 5 (Zv (Zx (i) ef (M) ef Qb) ?_);refine Zv (Zo (u) (i) ef (M) (by rw[Q8,hx];rfl)) ?_;refine ZY 5 (Zp (S.mapUpdate Tryz.underlying50 Tryz.underlying31 rfl rfl rfl rfl ?_));rw[Tr];refine ZY 2 (Zv (Za ef ef) (ZY 2 ?_));exact ZX (F-1) (⟨i+1,Xm B x,Qb,Qb,by rw[X2,hx,J];show _=List.foldl Xm [] (_++[x]);rw[Ha];rfl,rfl,rfl⟩) Qb
 ·rw[show i=s.b.members.length by omega,Wh]at J;have Hl:∀x,x∈B↔x∈s.b.members:=fun x=>by rw[J,Qcg];simp
  refine ZY 8 (ZY 4 ?_);refine Zl (fun F f g=>∃i:Nat,F=s.nd.length-i∧i≤s.nd.length∧(s.nd.take i).all (Vg s.b)=true∧f=[(0,pt p),(3,.map (some G)),(26,nv.v),(27,.int .i64 (nv.n:Int)),(28,.int .i64 (i:Int))]∧g=Qz G .u32 (E4 B)::smX p s b ps nv ns rb jb t y l o w k Q) (m:=_) (⟨0,rfl,Qb,rfl,rfl,rfl⟩) ?_;rintro F f g ⟨i,V,hi,e,rfl,rfl⟩;refine ZY 5 ?_
  refine Zj ef (fun h2=>?_) (fun h2=>?_)
  ·refine S.Q7 nv Qb fun nb a1 L2 _ _ _=>?_;obtain⟨n,D⟩:=Xs (show i<s.nd.length by omega);have O:amB n.rk=true:=Kn.1 W n (Yn D);obtain⟨q,C⟩:=Qah K.nd D;refine S.conv (alls ns noB) (Ent.U5 noB C _) (ZY 6 (Zv (Zx (i) ef (L2) ef Qb) ?_));refine Zv (Zo (nv) (i) ef (L2) (by rw[Q8,C];rfl)) ?_;refine ZY 6 ?_;refine S.E7 q n fun a d c rs os E=>(ZY 5 ?_)
   refine Zi ef (fun X=>?_) (fun X=>?_)
   ·have j:Vg s.b n=false:=by rw[Vg,show n.Qj=true from X];rfl
    refine S.Yw q n a d c rs os E (S.X0 (noB ((q,n):No)) (alls (ns.take i) noB) (alls (ns.drop (i+1)) noB) (Ent.Xk noB C _) (S.Xz p s b ps nv ns rb jb t y l o w k K (ZY 5 ?_)));exact Zf ef Zq (⟨by rw[Tz D j];rfl,rfl⟩)
   ·have hw:n.Qj=false:=by simpa using X
    refine S.Yw q n a d c rs os E (ZY 4 (Zp (Zcp Ze (Qb2 q n O) ?_)));obtain⟨z,I⟩:∃z,z=Ya n.rk:=⟨_,rfl⟩;rw[←I];refine ZY 8 ?_
    refine Zj ef (fun h4=>?_) (fun h4=>?_)
    ·have j:Vg s.b n=true:=by rw[Vg,hw,Zh (show Ya n.rk=0 by omega)];rfl
     have L:=Qpb D e j;refine S.X0 (noB ((q,n):No)) (alls (ns.take i) noB) (alls (ns.drop (i+1)) noB) (Ent.Xk noB C _) (ZY 2 (Zv (Za ef ef) (ZY 2 ?_)));exact ZX (F-1) (⟨i+1,Qb,Qb,L,rfl,rfl⟩) Qb
    ·obtain⟨r,H⟩:=Ps (rs:=n.rk) Qb
     have A:Vg s.b n=(decide (r.gen=s.b.gen)&&decide (z∈s.b.members)&&s.b.stops.isSome):=by
      rw[Vg,hw,Q6 (show ¬Ya n.rk=0 by omega),H,I];simp
     rw[←I]at H;refine S.E7 q n fun a d c rs os E=>?_;obtain⟨i1,q1,k1,T,k3,k4,_⟩:=Tw (rs:=rs) (id:=z) (r:=r) (by rw[E.rk];exact H);refine S.conv (alls rs roB) (Ent.Qmq k1 _) (ZY 3 ?_)
     rcases three (p:=r.gen=s.b.gen) (q:=z∈s.b.members) with R|⟨R,N⟩|⟨R,N⟩
     ·have j:Vg s.b n=false:=by rw[A];simp[R]
      refine Zd ([blk q 107 #[.bool n.up,.map (some a),d.v,c.v,.bool n.Qj],blk p 55 (smC s b nv rb jb t y l o w k).toArray,blk q1 111 (rkC r).toArray,Qz a .u32 (rs.map roE),Qz G .u32 (E4 B)]) [] (Zra 0 13) (ZY 5 ?_);refine Zw ef (Qx (pt q1) Tryz.underlying104 Tryz.underlying31 Tryz.Qdr.h rfl rfl rfl (by rw[T];rfl)) (ZY 7 ?_);refine Z1 (i:=13) ef ef ?_;refine  (Zcp Ze (Q82 b s.b ps) ?_);refine Zk [14,15] (ZY 2 (Zu 56 true ef ((Zh Qb)) ?_));refine Zr (Zra 16 12) (ZY 8 (ZY 4 ?_));refine ZD (ZY 6 (S.X0 (roB ((z,r,q1):Ro)) (alls (rs.take i1) roB) (alls (rs.drop (i1+1)) roB) (Ent.Xk roB k1 _) (S.Yw q n a d c rs os E (S.X0 (noB ((q,n):No)) (alls (ns.take i) noB) (alls (ns.drop (i+1)) noB) (Ent.Xk noB C _) (S.Xz p s b ps nv ns rb jb t y l o w k K ?_)))));exact Zf ef Zq (⟨by rw[Tz D j];rfl,rfl⟩)
     ·have j:Vg s.b n=false:=by rw[A];simp[N]
      refine Zd ([blk q 107 #[.bool n.up,.map (some a),d.v,c.v,.bool n.Qj],blk p 55 (smC s b nv rb jb t y l o w k).toArray,blk q1 111 (rkC r).toArray,Qz a .u32 (rs.map roE),Qz G .u32 (E4 B)]) [] (Zra 0 13) (ZY 5 ?_);refine Zw ef (Qx (pt q1) Tryz.underlying104 Tryz.underlying31 Tryz.Qdr.h rfl rfl rfl (by rw[T];rfl)) (ZY 7 ?_);refine Z1 (i:=13) ef ef ?_;refine  (Zcp Ze (Q82 b s.b ps) ?_);refine Zk [14,15] (ZY 2 (Zu 56 false ef ((Q6 Qb)) ?_));refine Zr (Zra 16 6) (ZY 2 ?_);refine Zwg ef ef ef ef (Qx (.bool false) Tryz.underlying50 Tryz.underlying31 Tryz.zv4.h rfl rfl rfl (by rw[Ca,Qe (fun h=>N ((Hl _).1 h))];rfl)) (ZY 3 ?_);refine Zr (Zra 22 6) (ZY 6 ?_);refine ZD (ZY 6 (S.X0 (roB ((z,r,q1):Ro)) (alls (rs.take i1) roB) (alls (rs.drop (i1+1)) roB) (Ent.Xk roB k1 _) (S.Yw q n a d c rs os E (S.X0 (noB ((q,n):No)) (alls (ns.take i) noB) (alls (ns.drop (i+1)) noB) (Ent.Xk noB C _) (S.Xz p s b ps nv ns rb jb t y l o w k K ?_)))));exact Zf ef Zq (⟨by rw[Tz D j];rfl,rfl⟩)
     ·skip
      refine Zd ([blk q 107 #[.bool n.up,.map (some a),d.v,c.v,.bool n.Qj],blk p 55 (smC s b nv rb jb t y l o w k).toArray,blk q1 111 (rkC r).toArray,Qz a .u32 (rs.map roE),Qz G .u32 (E4 B)]) [] (Zra 0 13) (ZY 5 ?_);refine Zw ef (Qx (pt q1) Tryz.underlying104 Tryz.underlying31 Tryz.Qdr.h rfl rfl rfl (by rw[T];rfl)) (ZY 7 ?_);refine Z1 (i:=13) ef ef ?_;refine  (Zcp Ze (Q82 b s.b ps) ?_);refine Zk [14,15] (ZY 2 (Zu 56 false ef ((Q6 Qb)) ?_));refine Zr (Zra 16 6) (ZY 2 ?_);refine Zwg ef ef ef ef (Qx (.bool true) Tryz.underlying50 Tryz.underlying31 Tryz.zv4.h rfl rfl rfl (by rw[Ca,Qh ((Hl _).2 N)];rfl)) (ZY 3 ?_);refine Zr (Zra 22 4) (ZY 4 ?_);refine Z1g (i:=26) ef ef ef ef ef (rfl) ?_;refine  (Zcp Ze (Q17 b s.b ps) ?_);refine Zk [27] (Zy ?_);refine ZD ?_
      refine Zi ef (fun P=>?_) (fun P=>?_)
      ·have j:Vg s.b n=false:=by
        rw[A];cases Y:s.b.stops with
        | none=>simp
        | some _=>rw[Y]at P;cases P
       refine ZY 5 (S.X0 (roB ((z,r,q1):Ro)) (alls (rs.take i1) roB) (alls (rs.drop (i1+1)) roB) (Ent.Xk roB k1 _) (S.Yw q n a d c rs os E (S.X0 (noB ((q,n):No)) (alls (ns.take i) noB) (alls (ns.drop (i+1)) noB) (Ent.Xk noB C _) (S.Xz p s b ps nv ns rb jb t y l o w k K ?_))));exact Zf ef Zq (⟨by rw[Tz D j];rfl,rfl⟩)
      ·have j:Vg s.b n=true:=by
        rw[A];cases Y:s.b.stops with
        | none=>rw[Y]at P;cases P
        | some _=>simp[N,R]
       have L:=Qpb D e j;refine S.X0 (roB ((z,r,q1):Ro)) (alls (rs.take i1) roB) (alls (rs.drop (i1+1)) roB) (Ent.Xk roB k1 _) (S.Yw q n a d c rs os E (S.X0 (noB ((q,n):No)) (alls (ns.take i) noB) (alls (ns.drop (i+1)) noB) (Ent.Xk noB C _) (ZY 6 ?_)))
       refine Zj ef (fun h6=>?_) (fun h6=>?_)
       ·exact absurd h6 Qb
       ·refine ZY 2 (Zv (Za ef ef) (ZY 2 ?_));exact ZX (F-1) (⟨i+1,Qb,Qb,L,rfl,rfl⟩) Qb
  ·have U:Qgk s=true:=by rw[show i=s.nd.length by omega,Wh]at e;exact e
   refine ZY 6 (S.Xz p s b ps nv ns rb jb t y l o w k K ?_);exact Zf ef Zq (⟨by rw[U];rfl,rfl⟩)
end BN
theorem Q1h{m:Mx}(a:W6 m)(k:Nat):((goJ m k).map (·.id)).Nodup:=by
 rw[Pk,Ww];refine(Q7k a k).imp_of_mem fun {x y} b c d e=>?_;have:=Ng a.Y4 (Qfc a b) (Qfc a c) e;subst this;refine a.some x (Qfc a b) (Qe7 fun i=>?_);rw[show (0#16:Bs).getLsbD i=false by simp];exact⟨fun h=>(d i h h).elim,fun h=>(by cases h)⟩
theorem Q1i{m:Mx}(n:W6 m){k:Nat}{x y:Jb}(l:x∈goJ m k)(g:y∈goJ m k)(h:x≠y):Apart x y:=by
 obtain⟨i,f,c⟩:=Qvp.1 l;obtain⟨j,e,b⟩:=Qvp.1 g;have d:=Jy.1 (Q7k n k)
 rcases Nat.lt_trichotomy i j with a|a|a
 ·have:=d i j f e a
  rwa [c,b]at this
 ·subst a;exact absurd (c.symm.trans b) h
 ·have:=d j i e f a;rw[c,b]at this;exact fun q p o=>this q o p
namespace BN
def Nk(b:Br)(id:Nat):List Nat:=match Qk b.js id with
 | none=>[]
 | some x=>x.at_
theorem G0{b:Br}{id:Nat}{x:Bj}(h:Qk b.js id=some x):Nk b id=x.at_:=by rw[Nk,h]
def Qrf(g id:Nat):Nt:={kind:=5,gen:=g,Qu:=id}
def Qet(b:Br)(g:Nat)(l:List Nat):List Od:=l.flatMap fun id=>(Nk b id).map fun n=>((n,Qrf g id):Od)
structure GoL(b:Br)(l:List Nat):Prop where
 nd:l.Nodup
 Qu:∀id∈l,∃x,Qk b.js id=some x∧x.state=2∧x.Ql=none
 dis:∀id∈l,∀id'∈l,id≠id'→∀i,i∈Nk b id→i∈Nk b id'→False
theorem Zng{b:Br}(m:∀id,(Nk b id).Nodup)(g i:Nat):∀ {l:List Nat},l.Nodup→(∀id∈l,∀j∈l,id≠j→i∈Nk b id→i∈Nk b j→False)→((∀id∈l,i∉Nk b id)∧qOf (Qet b g l) i=[])∨∃id∈l,i∈Nk b id∧qOf (Qet b g l) i=[Qrf g id]
 | [],_,_=>.inl ⟨fun _ h=>(by cases h),rfl⟩
 | id::l,h,n=>by
  obtain⟨r,q⟩:=Vz.1 h
  have o:qOf (Qet b g (id::l)) i=(if i∈Nk b id then [Qrf g id] else [])++qOf (Qet b g l) i:=by
   rw[Qet,G2,Ds];exact Z3 (·++qOf (Qet b g l) i) (Ep (fun _=>Qrf g id) i (m id))
  rw[o]
  rcases Zng m g i q fun a p c d=>n a (Ym _ p) c (Ym _ d) with ⟨k1,k⟩|⟨c,d,k1,k⟩
  ·by_cases f:i∈Nk b id
   ·exact .inr ⟨id,Z0 ..,f,by rw[Qh f,k];rfl⟩
   ·refine .inl ⟨fun c d=>?_,by rw[Qe f,k];rfl⟩
    rcases Yf.1 d with rfl|d
    ·exact f
    ·exact k1 c d
  ·have f:i∉Nk b id:=fun f=>n id (Z0 ..) c (Ym _ d) (fun e=>r (by rw[e];exact d)) f k1;exact .inr ⟨c,Ym _ d,k1,by rw[Qe f,k];rfl⟩
structure Qvi(b t:Br)(l:List Nat):Prop where
 bi:BrI t never
 ord:t.Qd=b.Qd++Qet b b.gen l
 C4:∀i,i∈t.stops.getD []↔∃id∈l,i∈Nk b id
 som:t.stops.isSome=true
 gen:t.gen=b.gen
 mem:t.members=b.members
 Qn:t.Qn=b.Qn
 up:t.up=b.up
 nodes:t.nodes=b.nodes
 Zhk:∀i id,Pres t i id↔Pres b i id
 Qu:∀id x,Qk b.js id=some x→∃y,Qk t.js id=some y∧y.at_=x.at_∧y.Ql=x.Ql∧y.state=x.state
theorem Qvi.step{b t:Br}{l:List Nat}(h:Qvi b t l){id:Nat}{x:Bj}(u:Qk b.js id=some x)(h0:x.state=2):Qvi b (match Qk t.js id with|none=>t|some x=>V8 t x) (l++[id]):=by
 obtain⟨y,k1,s,E,w⟩:=h.Qu id x u;rw[k1];have o:=(Qi k1).2;have f:Qk t.js y.id=some y:=by rw[o];exact k1
 have D:=h.bi.j y (Qi k1).1;have d:=h.bi.ok.at_ f;have q:Yu (V8 t y):=goE.ok t y h.bi.ok f;have k:=G0 u
 refine⟨?_,?_,fun i=>?_,rfl,h.gen,h.mem,h.Qn,h.up,h.nodes,fun i a=>?_,fun a v p=>?_⟩
 ·have C:=h.bi.put (x:=y) (y:={y with X4:=some []}) (m:=t.m) f rfl (h.bi.ok.set (x:={y with X4:=some []}) ⟨d.P3,d.Rx,d.tier,d.k1,d.kn,d.w,d.cr,d.wk,d.Uy,d.at_,d.drop,d.lod,fun r e=>(by cases e;intro y B;cases B),d.ld,d.svl⟩) (fun _ _=>rfl) (fun z A=>.inr A) (fun _=>rfl) ((D.agr (y:={y with X4:=some []}) ⟨rfl,rfl,rfl,rfl,rfl⟩ fun e=>(by rw[w,h0]at e;cases e)).congr rfl rfl);exact C.same q rfl rfl rfl
 ·show t.Qd++y.at_.map (fun n=>((n,{kind:=5,gen:=t.gen,Qu:=y.id}):Od))=_;rw[h.ord,Qet,Qet,Qja,Wb,h.gen,o,s];simp only[G2,List.flatMap_nil,X3,k];rfl
 ·show i∈(y.at_.foldl Xm (t.stops.getD []))↔_;rw[Qcg,h.C4,s]
  constructor
  ·rintro (⟨c,j,g⟩|g)
   ·exact⟨c,C1 _ j,g⟩
   ·exact⟨id,Ef _ (Vd.2 rfl),by rw[k];exact g⟩
  ·rintro ⟨c,j,g⟩
   rcases Xu.1 j with j|j
   ·exact .inl ⟨c,j,g⟩
   ·rw[Vd.1 j,k]at g;exact .inr g
 ·exact(Pw (y:={y with X4:=some []}) f rfl rfl rfl t.Qd t.m i a).trans (h.Zhk i a)
 ·obtain⟨z,m1,m2⟩:=h.Qu a v p
  by_cases e:a=y.id
  ·refine⟨{y with X4:=some []},?_,?_⟩
   ·show Qk (Xe t.js {y with X4:=some []}) a=_;rw[Gb,Qh e,e,f];rfl
   ·rw[e,f]at m1;cases m1;exact m2
  ·refine⟨z,?_,m2⟩;show Qk (Xe t.js {y with X4:=some []}) a=_;rw[Gb,Qe e];exact m1
theorem Q3p{b:Br}:∀(l:List Nat) {t:Br} {d:List Nat},Qvi b t d→(∀id∈l,∃x,Qk b.js id=some x∧x.state=2)→Qvi b (each V8 t l) (d++l)
 | [],_,_,h,_=>by rw[X3];exact h
 | id::l,t,d,h,a=>by
  obtain⟨x,g,f⟩:=a id (Z0 ..);have:=Q3p l (h.step g f) fun c e=>a c (Ym _ e);rw[Wb]at this;exact this
structure GJ(b:Br)(nd:List Nd):Prop where
 gi:GI b nd
 sf:b.stops=none→b.Qn=false
 ork:∀o∈b.Qd,o.2.Yl≤255
theorem GJ.step{b c:Br}{nd:List Nd}(h:GJ b nd)(k:BS b c)(d:BrI c never):GJ c nd:=by
 obtain⟨E,k⟩:=k;refine⟨h.gi.step k d,by rw[k.stops,k.Qn];exact h.sf,fun o a=>?_⟩;rw[k.ord]at a
 rcases Xu.1 a with a|a
 ·exact h.ork o a
 ·exact(k.k5 o a).2.2.2
theorem GJ.quiet{b a:Br}{nd:List Nd}(h:GJ b nd)(ok:Yu a)(c:Sam b a)(d:a.js=b.js)(f:a.m=b.m)(e:a.Qd=b.Qd):GJ a nd:=
 h.step (BS.quiet c e fun i id=>by unfold Pres;rw[d]) (h.gi.bi.same ok d f c.up)
theorem GI.Au{b:Br}{nd:List Nd}(h:GI b nd){i:Nat}{n:Nd}(a:nd[i]?=some n):n.up=true↔i∈b.up:=by
 rw[h.up i n a];exact Qvr
theorem Q3s{b:Br}{l:List Nat}(h:BrI b never)(hl:l.length≤1000):Qvi (F4 b l) (F4 b l) [] where
 bi:=h.same (Qmp h.ok hl) rfl rfl rfl
 ord:=by simp[Qet]
 C4:=fun i=>⟨fun h=>(by cases h),fun⟨_,h,_⟩=>(by cases h)⟩
 som:=rfl
 gen:=rfl
 mem:=rfl
 Qn:=rfl
 up:=rfl
 nodes:=rfl
 Zhk:=fun _ _=>Iff.rfl
 Qu:=fun id x hx=>⟨x,hx,rfl,rfl,rfl⟩
theorem Zg0{b:Br}{nd:List Nd}(h:GJ b nd)(D:b.stops=none){l:List Nat}(S:l.length≤1000)(E:GoL b l):GJ (Tv b l) nd:=by
 have B:=Jc l;have q:GoL b (Jm l):=⟨B.nodup_iff.2 E.nd,fun id a=>E.Qu id (B.mem_iff.1 a),fun id a v m=>E.dis id (B.mem_iff.1 a) v (B.mem_iff.1 m)⟩;have g:=Q3p (Jm l) (Q3s h.gi.bi S) fun id a=>(q.Qu id a).imp fun x k=>⟨k.1,k.2.1⟩;rw[Gf,←Bh]at g;obtain⟨t,P⟩:∃t,t=Tv b l:=⟨_,rfl⟩;rw[←P]at g ⊢
 have R:∀id,(Nk b id).Nodup:=fun id=>by
  unfold Nk;cases N:Qk b.js id with
  | none=>exact Fo
  | some x=>exact Vs (h.gi.bi.ok.Qu x (Qi N).1).Uy
 have w:∀id∈Jm l,∀i∈Nk b id,i∈b.up:=fun id a i p=>by
  obtain⟨x,k1,M,A⟩:=q.Qu id a;rw[G0 k1]at p;exact((h.gi.bi.j x (Qi k1).1).u A i p).resolve_right fun e=>e
 have C:=h.sf D;have G:t.Qd=b.Qd++Qet b (u32 (b.gen+1)) (Jm l):=g.ord
 refine⟨⟨g.bi,h.gi.len.trans g.nodes.symm,fun o d=>?_,fun i n k=>by rw[g.up];exact h.gi.up i n k,h.gi.off,fun i n k O=>?_,fun i p=>?_⟩,fun e=>(by have:=g.som;rw[e]at this;cases this),fun o d=>?_⟩
 ·rw[g.up];rw[G]at d
  rcases Xu.1 d with d|d
  ·exact h.gi.dst o d
  ·obtain⟨id,a,d⟩:=Qde.1 d;obtain⟨i,p,rfl⟩:=Qq.1 d;exact w id a i p
 ·have f:=h.gi.node i n k O;obtain⟨K,J,I,H⟩:=f.rest D;have F:=f.Q7o D;have s:n.Yy++qOf t.Qd i=(n.Yy++qOf b.Qd i)++qOf (Qet b (u32 (b.gen+1)) (Jm l)) i:=by rw[G,Ds,Wb]
  have z:∀id,Pres t i id↔Pres b i id:=fun id=>g.Zhk i id
  rcases Zng R (u32 (b.gen+1)) i q.nd (fun id a v m T=>q.dis id a v m T i) with ⟨g1,g2⟩|⟨id,a,g1,g2⟩
  ·rw[g2,X3]at s;refine⟨f.kn,f.ps,f.one,f.wr,by rw[s];exact f.right,by rw[s];exact f.ld,fun id=>by rw[s];exact(f.here id).trans (z id).symm,?_⟩;rw[s];exact .rest (Q6 fun e=>by obtain⟨id,a,p⟩:=(g.C4 i).1 e;exact g1 id a p) J I H K
  ·rw[g2]at s;obtain⟨x,k1,M,A⟩:=q.Qu id a;have p:i∈x.at_:=by rw[←G0 k1];exact g1
   obtain⟨r,Q⟩:=B2.1 ((f.here id).2 ⟨x,k1,A,p⟩);have L:fin n.rk (n.Yy++qOf t.Qd i)=Z9 (fin n.rk (n.Yy++qOf b.Qd i)) (Qrf (u32 (b.gen+1)) id):=by rw[s,Qri]
   have u:Z9 (fin n.rk (n.Yy++qOf b.Qd i)) (Qrf (u32 (b.gen+1)) id)={fin n.rk (n.Yy++qOf b.Qd i) with Qj:=(fin n.rk (n.Yy++qOf b.Qd i)).Qj || decide (Ya (fin n.rk (n.Yy++qOf b.Qd i)).rk≠0),rk:=Wl id {r with run:=true,gen:=u32 (b.gen+1),Kc:=0,Jz:=0} (fin n.rk (n.Yy++qOf b.Qd i)).rk}:=by
    exact Q8s (nd:=fin n.rk (n.Yy++qOf b.Qd i)) (x:=Qrf (u32 (b.gen+1)) id) rfl Q
   refine⟨f.kn,f.ps,f.one,f.wr,?_,fun y j=>?_,fun c=>?_,?_⟩
   ·rw[L,u];show ((fin n.rk (n.Yy++qOf b.Qd i)).Qj || decide (Ya (fin n.rk (n.Yy++qOf b.Qd i)).rk≠0))=false;rw[f.right,Qgg F];rfl
   ·rw[s]at j
    rcases Xu.1 j with j|j
    ·exact f.ld y j
    ·rw[Vd.1 j];exact fun e=>(by cases e)
   ·rw[L,u];show (Yt c (Wl id _ (fin n.rk (n.Yy++qOf b.Qd i)).rk)).isSome=true↔_;rw[Jf,z c]
    by_cases e:c=id
    ·rw[Qh e,e];exact⟨fun _=>⟨x,k1,A,p⟩,fun _=>rfl⟩
    ·rw[Qe e];exact f.here c
   ·rw[s]
    refine .go (Zh ((g.C4 i).2 ⟨id,a,g1⟩)) (g.Qn.trans C) (I.app fun y j=>?_) H (fun y j U=>?_) (K.ru _ _)
    ·rw[Vd.1 j];show 5≠6;omega
    ·rcases Xu.1 j with j|j
     ·exact absurd U (J y j)
     ·rw[Vd.1 j,g.gen,g.mem];exact⟨rfl,a⟩
 ·rw[g.up];obtain⟨id,a,k⟩:=(g.C4 i).1 p;exact w id a i k
 ·rw[G]at d
  rcases Xu.1 d with d|d
  ·exact h.ork o d
  ·obtain⟨id,_,d⟩:=Qde.1 d;obtain⟨i,_,rfl⟩:=Qq.1 d;exact Xq _
theorem Lk{b:Br}(h:BrI b never){z:Int}(v:Ko b.m z=true):GoL b (X1 b (Yq b.m z++Xc b.m z)):=by
 obtain⟨D,C⟩:=Uk.1 v
 have f:Yq b.m z++Xc b.m z=(goJ b.m z.toNat).map (·.id):=by
  rw[←Zdr (show z.toNat<b.m.R by omega),show ((z.toNat:Nat):Int)=z by omega]
 have m:∀id∈X1 b (Yq b.m z++Xc b.m z),∃x,Qk b.js id=some x∧x.state=2∧x.Ql=none:=fun id h=>by
  have a:=(Y5.1 h).2;cases r:Qk b.js id with
  | none=>rw[r]at a;cases a
  | some x=>
   rw[r]at a;simp only[Z5,Zz,Qef]at a;exact⟨x,rfl,a.1.1,a.1.2⟩
 refine⟨(by rw[X1,f];exact(Q1h h.ok.Fu _).filter _),m,fun id q u g B i k1 l=>?_⟩;have p:=(Y5.1 q).1;have d:=(Y5.1 g).1;rw[f]at p d;obtain⟨y,k,rfl⟩:=Qq.1 p;obtain⟨s,c,rfl⟩:=Qq.1 d;obtain⟨x,g1,g2,F⟩:=m y.id q;obtain⟨E,j,n,A⟩:=m s.id g;rw[G0 g1]at k1;rw[G0 j]at l
 have key:∀ {y:Jb} {x:Bj},y∈goJ b.m z.toNat→Qk b.js y.id=some x→x.state=2→lst y.ns=x.at_:=fun {y x} k g1 g2=>by
  obtain⟨_,w,o,t⟩:=(h.j x (Qi g1).1).p Qb;rw[(Qi g1).2,Ci h.ok.Fu.Y4 (Qfc h.ok.Fu k)]at o;cases o;exact t
 rw[←key k g1 g2]at k1;rw[←key c j n]at l;exact Q1i h.ok.Fu k c (fun e=>B (by rw[e])) i (Vw.1 k1) (Vw.1 l)
theorem Qpf{b:Br}{nd:List Nd}(h:GJ b nd)(f:b.stops=none):∀(i:Nat) (row:Int),GJ (Xx b row i) nd
 | 0,_=>by rw[Mo];exact h
 | i+1,row=>by
  cases d:(Xh b.m row).2 with
  | false=>rw[Mp d];exact h
  | true=>
   by_cases a:0<(X1 b (Yq b.m (Xh b.m row).1)).length
   ·rw[D9 d a]
    have c:Ko b.m (Xh b.m row).1=true:=by
     cases c:Ko b.m (Xh b.m row).1 with
     | true=>rfl
     | false=>rw[Yq,c]at a;simp[X1]at a
    have e:=Lk h.gi.bi c
    have j:(X1 b (Yq b.m (Xh b.m row).1++Xc b.m (Xh b.m row).1)).length≤256:=by
     have:=Pu b (Yq b.m (Xh b.m row).1++Xc b.m (Xh b.m row).1);rw[Yd]at this;have:=F5 h.gi.bi.ok.Fu (Xh b.m row).1;have:=Bx h.gi.bi.ok.Fu (Xh b.m row).1;omega
    have g:GJ {b with row:=(Xh b.m row).1} nd:=h.quiet (h.gi.bi.ok.rset _) ⟨rfl,rfl,rfl,rfl,rfl,rfl⟩ rfl rfl rfl;exact Zg0 g f Qb ⟨e.nd,e.Qu,e.dis⟩
   ·rw[D8 d a];exact Qpf h f i _
theorem Q91{b:Br}{nd:List Nd}(h:GJ b nd)(k:b.stops=none):GJ (V0 b) nd:=by
 obtain⟨i,g⟩:=A2 h.gi.bi b.ids;have o:=h.step i g;have s1:=i.stops.trans k;obtain⟨c1,f⟩:=Er g;have n:=o.step c1 f;have s2:=c1.stops.trans s1;obtain⟨e,d⟩:=Cg f;have m:=n.step e d;have j:=e.stops.trans s2;obtain⟨e1,e2⟩:=Qgl d;have l:=m.step e1 e2;have a:=e1.stops.trans j;obtain⟨c,p⟩:=Lh e2 a (rep (Qy (Q9 (each Q4 b b.ids)))).ids;exact Qpf (l.step c p) (c.stops.trans a) _ _
theorem Qhc{b:Br}{nd:List Nd}(h:GJ b nd){now:Nat}(c:now≤4294967295):GJ {b with now:=now} nd:=
 h.quiet ⟨h.gi.bi.ok.R,h.gi.bi.ok.N,h.gi.bi.ok.Fu,h.gi.bi.ok.Y4,fun x a=>h.gi.bi.ok.Qu x a,h.gi.bi.ok.Dk,h.gi.bi.ok.q1,h.gi.bi.ok.q2,h.gi.bi.ok.g1,h.gi.bi.ok.g2,c,h.gi.bi.ok.fin,h.gi.bi.ok.mem,h.gi.bi.ok.C4⟩ ⟨rfl,rfl,rfl,rfl,rfl,rfl⟩ rfl rfl rfl
theorem Nq{b:Br}(h:BrI b never){i:Nat}(a:i∈b.up):i<b.nodes:=by
 have:=(h.up i).1 a
 have c:K7 b.m i=true:=by
  unfold Ji at this;simp only[Z5]at this;exact this.1
 have:=(Ue.1 c).2;rw[h.ok.N]at this;omega
theorem Zah{b:Br}{nd:List Nd}(h:GJ b nd)(A:b.stops.isSome=true)(J:b.Qn=false):GJ (Di b) nd:=by
 obtain⟨E,s⟩:∃E:List Od,E=(((List.range b.nodes).filter fun n=>decide (n∈b.stops.getD [])).map fun n=>((n,{kind:=6,gen:=b.gen}):Od)):=⟨_,rfl⟩;have ok:Yu (Di b):=⟨h.gi.bi.ok.R,h.gi.bi.ok.N,h.gi.bi.ok.Fu,h.gi.bi.ok.Y4,fun x D=>h.gi.bi.ok.Qu x D,h.gi.bi.ok.Dk,h.gi.bi.ok.q1,h.gi.bi.ok.q2,h.gi.bi.ok.g1,h.gi.bi.ok.g2,h.gi.bi.ok.now,h.gi.bi.ok.fin,h.gi.bi.ok.mem,h.gi.bi.ok.C4⟩
 have B:∀i,qOf E i=if i∈b.stops.getD [] then [{kind:=6,gen:=b.gen}] else []:=fun i=>by
  rw[s];refine(Ep (fun _=>{kind:=6,gen:=b.gen}) i (List.nodup_range.filter _)).trans ?_
  by_cases f:i∈b.stops.getD []
  ·rw[Qh f,Qh (Y5.2 ⟨C3.2 (Nq h.gi.bi (h.gi.C4 i f)),Zh f⟩)]
  ·rw[Qe f];exact Qe fun e=>f (by simpa using (List.mem_filter.1 e).2)
 have t:(Di b).Qd=b.Qd++E:=by rw[s];rfl
 refine⟨⟨h.gi.bi.same ok rfl rfl rfl,h.gi.len,fun o k=>?_,h.gi.up,h.gi.off,fun i n k F=>?_,h.gi.C4⟩,fun e=>(by rw[show (Di b).stops=b.stops from rfl]at e;rw[e]at A;cases A),fun o k=>?_⟩
 ·rw[t]at k
  rcases Xu.1 k with k|k
  ·exact h.gi.dst o k
  ·rw[s]at k;obtain⟨n,G,rfl⟩:=Qq.1 k;exact h.gi.C4 n (U4 (Y5.1 G).2)
 ·have d:=h.gi.node i n k F;have a:n.Yy++qOf (Di b).Qd i=(n.Yy++qOf b.Qd i)++qOf E i:=by rw[t,Ds,Wb]
  by_cases f:i∈b.stops.getD []
  ·rw[B i,Qh f]at a;have u:fin n.rk (n.Yy++qOf (Di b).Qd i)=Z9 (fin n.rk (n.Yy++qOf b.Qd i)) {kind:=6,gen:=b.gen}:=by rw[a,Qri]
   obtain⟨V,H⟩:∃V,V=fin n.rk (n.Yy++qOf b.Qd i):=⟨_,rfl⟩;have q:=d.right;have C:=d.here;rw[←H]at u q C
   have j:(Z9 V {kind:=6,gen:=b.gen}).Qj=V.Qj∧∀c,(Yt c (Z9 V {kind:=6,gen:=b.gen}).rk).isSome=(Yt c V.rk).isSome:=by
    unfold Z9;rw[Qe (by show (6:Nat)≠3;omega),Qe (by show (6:Nat)≠5;omega),Qh rfl]
    split
    ·split
     ·exact⟨rfl,fun _=>rfl⟩
     ·rename_i r q;refine⟨rfl,fun c=>?_⟩;show (Yt c (Wl (Ya V.rk) _ V.rk)).isSome=_;rw[Jf]
      split
      ·rename_i e;rw[e,q];rfl
      ·rfl
    ·exact⟨rfl,fun _=>rfl⟩
   refine⟨d.kn,d.ps,d.one,d.wr,by rw[u,j.1];exact q,fun y l=>?_,fun c=>by rw[u,j.2];exact C c,?_⟩
   ·rw[a]at l
    rcases Xu.1 l with l|l
    ·exact d.ld y l
    ·rw[Vd.1 l];exact fun e=>(by cases e)
   ·rw[a];have m:=d.ph;rw[Zh f,J]at m;show Ph b.gen b.members (decide (i∈b.stops.getD [])) true n.rk _ n.out;rw[Zh f];cases m with
    | rest g=>cases g
    | go _ _ z w v I=>exact .stop _ _ [] rfl rfl rfl rfl rfl z (fun _ k=>(by cases k)) (fun _ k=>(by cases k)) v I w
    | stop _ _ _ _ p=>cases p
    | said _ _ _ _ p=>cases p
  ·rw[B i,Qe f,X3]at a;refine⟨d.kn,d.ps,d.one,d.wr,by rw[a];exact d.right,by rw[a];exact d.ld,fun c=>by rw[a];exact d.here c,?_⟩;rw[a];have m:=d.ph;show Ph b.gen b.members (decide (i∈b.stops.getD [])) true n.rk _ n.out;rw[Q6 f]at m ⊢;cases m with
   | rest g p z w v=>exact .rest g p z w v
   | go g=>cases g
   | stop _ _ _ g=>cases g
   | said _ _ _ g=>cases g
 ·rw[t]at k
  rcases Xu.1 k with k|k
  ·exact h.ork o k
  ·rw[s]at k;obtain⟨n,_,rfl⟩:=Qq.1 k;exact Xq _
theorem Qex{b:Br}{nd:List Nd}(h:GJ b nd){now:Nat}(c:now≤4294967295):GJ (Y7 b now).2 nd:=by
 unfold Y7
 split
 ·exact h
 split
 ·exact Qhc h c
 split
 ·rename_i a
  split
  ·rename_i k;exact Zah (Qhc h c) a k.1
  ·exact Qhc h c
 ·rename_i a;exact Q91 (Qhc h c) (by cases e:b.stops with|none=>rfl|some d=>rw[e]at a;exact absurd rfl a)
theorem S6(nd:Nd)(x:Nt):(Z9 nd x).up=nd.up∧(Z9 nd x).Yy=nd.Yy:=by
 unfold Z9
 split
 ·exact⟨rfl,rfl⟩
 split
 ·split <;> exact⟨rfl,rfl⟩
 split
 ·split
  ·split <;> exact⟨rfl,rfl⟩
  ·exact⟨rfl,rfl⟩
 split
 ·split <;> exact⟨rfl,rfl⟩
 split <;> exact⟨rfl,rfl⟩
theorem GI.Qeg{b:Br}{nd:List Nd}(h:GI b nd){i:Nat}{n c:Nd}(g:nd[i]?=some n)(f:n.up=true)(d:c.up=true)(l:Js b i c):GI b (nd.set i c):=by
 have key:∀(j:Nat) (m:Nd),(nd.set i c)[j]?=some m→(j=i∧m=c)∨nd[j]?=some m:=fun j m a=>by
  rw[Fq]at a
  split at a
  ·rename_i e
   split at a
   ·cases a;exact .inl ⟨e.symm,rfl⟩
   ·cases a
  ·exact .inr a
 refine⟨h.bi,by rw[Xf];exact h.len,h.dst,fun j m a=>?_,fun j m a k=>?_,fun j m a k=>?_,h.C4⟩
 ·rcases key j m a with ⟨rfl,rfl⟩|a
  ·rw[d,←f];exact h.up _ n g
  ·exact h.up j m a
 ·rcases key j m a with ⟨rfl,rfl⟩|a
  ·rw[d]at k;cases k
  ·exact h.off j m a k
 ·rcases key j m a with ⟨rfl,rfl⟩|a
  ·exact l
  ·exact h.node j m a k
theorem Js.act{b:Br}{i:Nat}{n:Nd}(h:Js b i n){x:Nt}{l:List Nt}(r:n.Yy=x::l):Js b i (Z9 {n with Yy:=l} x):=by
 obtain⟨q,o⟩:∃q,q=l++qOf b.Qd i:=⟨_,rfl⟩;have e:n.Yy++qOf b.Qd i=x::q:=by rw[r,o];rfl
 have t:core ({n with Yy:=l}:Nd)=core ⟨true,n.rk,[],[],false⟩:=by rw[core,core,h.wr]
 have j:=h.right;rw[e]at j;have f:(Z9 ⟨true,n.rk,[],[],false⟩ x).Qj=false:=Qiq (l:=[x]) (m:=q) j;have d:=Qit t x;have g:(Z9 {n with Yy:=l} x).Qj=false:=(Gr d).2.trans f;have s:core (fin (Z9 {n with Yy:=l} x).rk q)=core (fin n.rk (x::q)):=(Qrj {n with Yy:=l} x q g).trans (Qlm d);obtain⟨v,u⟩:=Gr s;have a:(Z9 {n with Yy:=l} x).Yy++qOf b.Qd i=q:=by rw[(S6 _ _).2,o]
 have c:=h.ld;rw[e]at c
 refine⟨Qis (nd:={n with Yy:=l}) h.kn,Zeg (nd:={n with Yy:=l}) h.ps (c x (Z0 ..)),Zeh (nd:={n with Yy:=l}) h.one h.ps h.kn g,g,by rw[a,u];exact j,fun y k=>c y (Ym _ (by rw[a]at k;exact k)),fun id=>?_,?_⟩
 ·rw[a,v];have:=h.here id;rw[e]at this;exact this
 ·rw[a];have p:=h.ph;rw[e]at p;exact Ph.act (nd:={n with Yy:=l}) p h.one h.ps h.kn
theorem Zjv{b:Br}{nd:List Nd}(h:GJ b nd){i:Nat}{n:Nd}(c:nd[i]?=some n)(a:n.up=true){x:Nt}{l:List Nt}(d:n.Yy=x::l):GJ b (nd.set i (Z9 {n with Yy:=l} x)):=
 ⟨h.gi.Qeg c a ((S6 _ _).1.trans a) ((h.gi.node i n c a).act d),h.sf,h.ork⟩
abbrev sk(r:Rk):Nat×Bool×Nat:=(r.place,r.run,r.gen)
abbrev skl(l:Rs):List (Nat×Nat×Bool×Nat):=l.map fun y=>(y.1,sk y.2)
theorem Qmh{a c:Rs}(h:skl a=skl c)(k:Nat):(Yt k a).map sk=(Yt k c).map sk:=by
 induction a generalizing c with
 | nil=>rw[Fs.1 h.symm]
 | cons x a d=>
  cases c with
  | nil=>cases h
  | cons y c=>
   rw[skl,skl,Z7,Z7,Hw]at h;obtain⟨b,e⟩:=h;have e1:x.1=y.1:=(Gr b).1;simp only[Yt,e1]
   split
   ·exact Z3 some (Gr b).2
   ·exact d e
theorem Zat{a c:Rs}(h:skl a=skl c):Ya a=Ya c:=by
 unfold Ya
 have:(a.find? (·.2.run)).map (·.1)=(c.find? (·.2.run)).map (·.1):=by
  induction a generalizing c with
  | nil=>rw[Fs.1 h.symm]
  | cons x a e=>
   cases c with
   | nil=>cases h
   | cons y c=>
    rw[skl,skl,Z7,Z7,Hw]at h;obtain⟨d,b⟩:=h;have e1:x.1=y.1:=(Gr d).1;have e2:x.2.run=y.2.run:=Z3 (fun q:Nat×Bool×Nat=>q.2.1) (Gr d).2;rw[List.find?_cons,List.find?_cons,e2]
    split
    ·simp[e1]
    ·exact e b
 rcases d:a.find? (·.2.run) with _|u
 ·rcases b:c.find? (·.2.run) with _|v
  ·rw[d,b]
  ·rw[d,b]at this;cases this
 ·rcases b:c.find? (·.2.run) with _|v
  ·rw[d,b]at this;cases this
  ·rw[d,b]at this ⊢;exact Hb this
theorem Qe3{a c:Rs}(h:skl a=skl c)(k:Nat){r s:Rk}(b:sk r=sk s):skl (Wl k r a)=skl (Wl k s c):=by
 induction a generalizing c with
 | nil=>
  rw[Fs.1 h.symm];show [(k,sk r)]=[(k,sk s)];rw[b]
 | cons x a f=>
  cases c with
  | nil=>cases h
  | cons y c=>
   rw[skl,skl,Z7,Z7,Hw]at h;obtain⟨e,d⟩:=h;have e1:x.1=y.1:=(Gr e).1;unfold Wl;rw[e1]
   split
   ·rw[skl,skl,Z7,Z7,b,d]
   ·rw[skl,skl,Z7,Z7,e];exact Z3 _ (f d)
theorem Zav{a c:Rs}(h:skl a=skl c)(k:Nat):skl (Fe k a)=skl (Fe k c):=by
 induction a generalizing c with
 | nil=>rw[Fs.1 h.symm]
 | cons x a e=>
  cases c with
  | nil=>cases h
  | cons y c=>
   rw[skl,skl,Z7,Z7,Hw]at h;obtain⟨d,b⟩:=h;have e1:x.1=y.1:=(Gr d).1;unfold Fe;rw[e1]
   split
   ·exact b
   ·rw[skl,skl,Z7,Z7,d];exact Z3 _ (e b)
theorem Q4v{a c:Option Rk}(h:a.map sk=c.map sk):(a=none∧c=none)∨∃r s,a=some r∧c=some s∧sk r=sk s:=by
 cases a <;> cases c <;> simp at h
 ·exact .inl ⟨rfl,rfl⟩
 ·exact .inr ⟨_,_,rfl,rfl,by simp[h]⟩
theorem Qwu{a c:Nd}(h:skl a.rk=skl c.rk)(d:a.Qj=c.Qj)(x:Nt):skl (Z9 a x).rk=skl (Z9 c x).rk∧(Z9 a x).Qj=(Z9 c x).Qj:=by
 have j:=fun k=>Q4v (Qmh h k);have l:=Zat h;unfold Z9
 by_cases g:x.kind=3
 ·rw[Qh g,Qh g];refine⟨Qe3 h _ rfl,?_⟩;show (a.Qj || (Yt x.Qu a.rk).isSome)=(c.Qj || (Yt x.Qu c.rk).isSome);rcases j x.Qu with ⟨e1,e2⟩|⟨r,s,e1,e2,_⟩ <;> rw[e1,e2,d] <;> rfl
 rw[Qe g,Qe g]
 by_cases k5:x.kind=5
 ·rw[Qh k5,Qh k5]
  rcases j x.Qu with ⟨e1,e2⟩|⟨r,s,e1,e2,e3⟩ <;> rw[e1,e2]
  ·exact⟨h,rfl⟩
  ·refine⟨Qe3 h _ (by show (r.place,_,_)=(s.place,_,_);rw[show r.place=s.place from Z3 (·.1) e3]),?_⟩;show (a.Qj || decide (Ya a.rk≠0))=(c.Qj || decide (Ya c.rk≠0));rw[d,l]
 rw[Qe k5,Qe k5]
 by_cases f:x.kind=6
 ·rw[Qh f,Qh f,l]
  by_cases i:Ya c.rk≠0
  ·rw[Qh i,Qh i]
   rcases j (Ya c.rk) with ⟨e1,e2⟩|⟨r,s,e1,e2,e3⟩ <;> rw[e1,e2]
   ·exact⟨h,d⟩
   ·exact⟨Qe3 h _ (by show (r.place,_,r.gen)=(s.place,_,s.gen);rw[show r.place=s.place from Z3 (·.1) e3,show r.gen=s.gen from Z3 (·.2.2) e3]),d⟩
  ·rw[Qe i,Qe i];exact⟨h,d⟩
 rw[Qe f,Qe f]
 by_cases e:x.kind=8
 ·rw[Qh e,Qh e]
  rcases j x.Qu with ⟨e1,e2⟩|⟨r,s,e1,e2,e3⟩ <;> rw[e1,e2]
  ·exact⟨h,rfl⟩
  ·refine⟨h,?_⟩;show (a.Qj || r.run)=(c.Qj || s.run);rw[d,show r.run=s.run from Z3 (·.2.1) e3]
 rw[Qe e,Qe e]
 by_cases b:x.kind=10
 ·rw[Qh b,Qh b];exact⟨Zav h _,d⟩
 ·rw[Qe b,Qe b];exact⟨h,d⟩
theorem Q3h{q:List Nt}:∀ {a c:Nd},skl a.rk=skl c.rk→a.Qj=c.Qj→skl (q.foldl Z9 a).rk=skl (q.foldl Z9 c).rk∧(q.foldl Z9 a).Qj=(q.foldl Z9 c).Qj:=by
 induction q with
 | nil=>exact fun d b=>⟨d,b⟩
 | cons x q e=>exact fun d b=>e (Qwu d b x).1 (Qwu d b x).2
theorem Zau{a c:Rs}(h:skl a=skl c){y:Nat×Rk}(d:y∈a):∃z∈c,z.1=y.1∧sk z.2=sk y.2:=by
 have:(y.1,sk y.2)∈skl c:=by rw[←h];exact Qq.2 ⟨y,d,rfl⟩
 obtain⟨z,b,e⟩:=Qq.1 this;exact⟨z,b,(Gr e).1,(Gr e).2⟩
theorem Q3g{a c:Rs}(h:skl a=skl c):keys a=keys c:=by
 have:=Z3 (List.map Prod.fst) h;rw[skl,skl,Kk,Kk]at this;exact this
theorem Js.skel{b:Br}{i:Nat}{n:Nd}(h:Js b i n){rk:Rs}(e:skl rk=skl n.rk):Js b i {n with rk:=rk}:=by
 obtain⟨K,J⟩:=Q3h (q:=n.Yy++qOf b.Qd i) (a:=⟨true,rk,[],[],false⟩) (c:=⟨true,n.rk,[],[],false⟩) e rfl
 have run:∀ {y:Nat×Rk},y∈rk→∃z∈n.rk,z.1=y.1∧z.2.run=y.2.run∧z.2.gen=y.2.gen:=fun {y} d=>by
  obtain⟨z,f,t,p⟩:=Zau e d;simp only[sk,Hx]at p;exact⟨z,f,t,p.2.1,p.2.2⟩
 have nr:K8 n.rk→K8 rk:=fun k y d=>by
  obtain⟨z,f,_,p,_⟩:=run d;rw[←p];exact k z f
 have ru:∀ {g m},Re g m n.rk→Re g m rk:=fun k y d H=>by
  obtain⟨z,f,t,p,I⟩:=run d;have:=k z f (by rw[p];exact H);rw[I,t]at this;exact this
 refine⟨by rw[Q3g e];exact h.kn,fun y d=>?_,fun y d z G f t=>?_,h.wr,J.trans h.right,h.ld,fun id=>?_,?_⟩
 ·obtain⟨z,f,t,_⟩:=run d;rw[←t];exact h.ps z f
 ·obtain⟨F,o,l,j,_⟩:=run d;obtain⟨E,c1,M,L,_⟩:=run G;rw[←l,←M];exact h.one F o E c1 (by rw[j];exact f) (by rw[L];exact t)
 ·have k:=Qmh K id
  have:(Yt id (fin rk (n.Yy++qOf b.Qd i)).rk).isSome=(Yt id (fin n.rk (n.Yy++qOf b.Qd i)).rk).isSome:=by
   rcases Q4v k with ⟨e1,e2⟩|⟨r,s,e1,e2,_⟩
   ·unfold fin;rw[e1,e2]
   ·unfold fin;rw[e1,e2];rfl
  show (Yt id (fin rk (n.Yy++qOf b.Qd i)).rk).isSome=true↔_;rw[this];exact h.here id
 ·show Ph b.gen b.members (decide (i∈b.stops.getD [])) b.Qn rk (n.Yy++qOf b.Qd i) n.out;cases h.ph with
  | rest o l j v u=>exact .rest o l j v (nr u)
  | go o l j v u x=>exact .go o l j v u (ru x)
  | stop a s c o l j v u x C B A w D=>exact .stop a s c o l j v u x C B A (ru w) D
  | said a s c o l j v u x C B A w=>exact .said a s c o l j v (nr u) x C B A w
theorem Qo9(now:Nat)(n:Nd):∃rk,Yg now n={n with rk:=rk}∧skl rk=skl n.rk:=by
 unfold Yg
 split
 ·split
  ·exact⟨n.rk,rfl,rfl⟩
  ·rename_i r d;refine⟨_,rfl,?_⟩
   have self:∀ {l:Rs} {k:Nat} {r:Rk},Yt k l=some r→Wl k r l=l:=by
    intro l;induction l with
    | nil=>intro k r h;cases h
    | cons x l b=>
     intro k r h;simp only[Yt]at h;unfold Wl
     split
     ·rename_i e;rw[Qh e]at h;cases h;rw[←e]
     ·rename_i e;rw[Qe e]at h;rw[b h]
   have:=Qe3 (a:=n.rk) (c:=n.rk) rfl (Ya n.rk) (r:={r with Jz:=now,Kc:=if r.Kc=0 then now else r.Kc}) (s:=r) rfl;rw[self d]at this;exact this
 ·exact⟨n.rk,rfl,rfl⟩
theorem Kq(now:Nat)(n:Nd):(Yg now n).up=n.up∧(Yg now n).Yy=n.Yy∧(Yg now n).out=n.out∧(Yg now n).Qj=n.Qj:=by
 unfold Yg
 split
 ·split <;> exact⟨rfl,rfl,rfl,rfl⟩
 ·exact⟨rfl,rfl,rfl,rfl⟩
theorem D1{b:Br}{nd:List Nd}(h:GJ b nd)(now:Nat):GJ b (nd.map (Yg now)):=by
 have key:∀(i:Nat) (m:Nd),(nd.map (Yg now))[i]?=some m→∃n,nd[i]?=some n∧m=Yg now n:=fun i m a=>by
  rw[Q8]at a;obtain⟨n,c,l⟩:=Df.1 a;exact⟨n,c,l.symm⟩
 refine⟨⟨h.gi.bi,by rw[Qo];exact h.gi.len,h.gi.dst,fun i m a=>?_,fun i m a k=>?_,fun i m a k=>?_,h.gi.C4⟩,h.sf,h.ork⟩
 ·obtain⟨n,c,rfl⟩:=key i m a;rw[(Kq now n).1];exact h.gi.up i n c
 ·obtain⟨n,c,rfl⟩:=key i m a;rw[(Kq now n).1]at k;obtain⟨k1,g,f,d⟩:=h.gi.off i n c k;obtain⟨_,e2,e3,o⟩:=Kq now n;refine⟨?_,e2.trans g,e3.trans f,o.trans d⟩;unfold Yg;rw[Qe (by rw[k1];exact fun e=>e rfl)];exact k1
 ·obtain⟨n,c,rfl⟩:=key i m a;rw[(Kq now n).1]at k;have j:=h.gi.node i n c k;obtain⟨rk,e1,e2⟩:=Qo9 now n;rw[e1];exact j.skel e2
theorem Ph.same{g:Nat}{m:List Nat}{on st l k:Bool}{rk:Rs}{q:List Nt}{out:List (Nt×List Int)}(h:Ph g m on st rk q out)(v:l=on)(o:on=true→k=st):Ph g m l k rk q out:=by
 subst v;cases h with
 | rest b i f e d=>exact .rest b i f e d
 | go b i f e d n=>exact .go b ((o b).trans i) f e d n
 | stop a s c b i f e d n t r p j u=>exact .stop a s c b ((o b).trans i) f e d n t r p j u
 | said a s c b i f e d n t r p j=>exact .said a s c b ((o b).trans i) f e d n t r p j
structure GX(b:Br)(nd:List Nd)(n:Nat):Prop where
 bi:BrI b never
 len:nd.length=b.nodes
 dst:∀o∈b.Qd,o.1∈b.up
 up:∀(i:Nat) (m:Nd),nd[i]?=some m→m.up=decide (i∈b.up)
 off:∀(i:Nat) (m:Nd),nd[i]?=some m→m.up=false→m.rk=[]∧m.Yy=[]∧m.out=[]∧m.Qj=false
 node:∀(i:Nat) (m:Nd),nd[i]?=some m→m.up=true→i≠n→Js b i m
 here:∀(m:Nd),nd[n]?=some m→m.up=true→∀b':Br,b'.js=b.js→b'.Qd=b.Qd→n∉b'.stops.getD []→Js b' n m
 C4:∀i∈b.stops.getD [],i≠n→i∈b.up
 sf:b.stops=none→b.Qn=false
 ork:∀o∈b.Qd,o.2.Yl≤255
theorem V4{s:List Nat}{n i:Nat}:i∈Jd s n↔i∈s∧i≠n:=by unfold Jd;rw[Y5];simp
theorem Js.stops{b a:Br}{i:Nat}{m:Nd}(h:Js b i m)(e:a.js=b.js)(c:a.Qd=b.Qd)(f:a.gen=b.gen)(d:a.members=b.members)(j:decide (i∈a.stops.getD [])=decide (i∈b.stops.getD []))(g:decide (i∈b.stops.getD [])=true→a.Qn=b.Qn):Js a i m:=by
 refine⟨h.kn,h.ps,h.one,h.wr,by rw[c];exact h.right,by rw[c];exact h.ld,fun id=>?_,by rw[c,f,d];exact h.ph.same j g⟩;rw[c];refine(h.here id).trans ?_;unfold Pres;rw[e]
theorem Yu.Q29{b:Br}(h:Yu b){s:Option (List Nat)}(c:∀d,s=some d→d.Nodup)(st:Bool):Yu {b with stops:=s,Qn:=st}:=⟨h.R,h.N,h.Fu,h.Y4,fun x a=>h.Qu x a,h.Dk,h.q1,h.q2,h.g1,h.g2,h.now,h.fin,h.mem,c⟩
theorem Qj6{b:Br}{nd:List Nd}{n:Nat}(h:GX b nd n):GJ (Zt b n) nd:=by
 unfold Zt
 split
 ·rename_i g;refine⟨⟨h.bi,h.len,h.dst,h.up,h.off,fun i m f c=>?_,fun i a=>(by rw[g]at a;cases a)⟩,h.sf,h.ork⟩
  by_cases e:i=n
  ·subst e;exact h.here m f c b rfl rfl (by rw[g];exact fun k=>(by cases k))
  ·exact h.node i m f c e
 ·rename_i s g;have q:=h.bi.ok.C4 s g
  split
  ·refine⟨⟨h.bi.same (h.bi.ok.Q29 (fun d e=>(by cases e;exact q.filter _)) b.Qn) rfl rfl rfl,h.len,h.dst,h.up,h.off,fun i m f c=>?_,fun i a=>?_⟩,fun e=>(by cases e),h.ork⟩
   ·by_cases e:i=n
    ·subst e;exact h.here m f c _ rfl rfl fun k=>(V4.1 k).2 rfl
    ·refine(h.node i m f c e).stops rfl rfl rfl rfl ?_ fun _=>rfl;rw[g];exact Wn.2 ⟨fun k=>(V4.1 k).1,fun k=>V4.2 ⟨k,e⟩⟩
   ·obtain⟨p,o⟩:=V4.1 a;exact h.C4 i (by rw[g];exact p) o
  ·rename_i j;have j:Jd s n=[]:=W7 j
   have h0:GJ {b with stops:=none,Qn:=false} nd:=by
    refine⟨⟨h.bi.same (h.bi.ok.Q29 (fun d e=>(by cases e)) false) rfl rfl rfl,h.len,h.dst,h.up,h.off,fun i m f c=>?_,fun i a=>(by cases a)⟩,fun _=>rfl,h.ork⟩
    by_cases e:i=n
    ·subst e;exact h.here m f c _ rfl rfl fun k=>(by cases k)
    ·have a:i∉b.stops.getD []:=fun k=>by
      rw[g]at k;have:i∈Jd s n:=V4.2 ⟨k,e⟩;rw[j]at this;cases this
     refine(h.node i m f c e).stops rfl rfl rfl rfl ?_ fun k=>absurd (U4 k) a;rw[Q6 a];exact Q6 fun k=>(by cases k)
   obtain⟨k1,l⟩:=Q1p h0.gi.bi rfl b.ids;exact h0.step k1 l
theorem Js.out{b:Br}{i:Nat}{n:Nd}(h:Js b i n){x:Nt×List Int}{l:List (Nt×List Int)}(d:n.out=x::l)(c:x.1.kind≠7):Js b i {n with out:=l}:=by
 have a:=h.ph;rw[d]at a;exact⟨h.kn,h.ps,h.one,h.wr,h.right,h.ld,h.here,a.other c⟩
theorem GJ.out{b:Br}{nd:List Nd}(h:GJ b nd){i:Nat}{n:Nd}(c:nd[i]?=some n)(a:n.up=true){x:Nt×List Int}{l:List (Nt×List Int)}(e:n.out=x::l)(d:x.1.kind≠7):GJ b (nd.set i {n with out:=l}):=
 ⟨h.gi.Qeg c a a ((h.gi.node i n c a).out e d),h.sf,h.ork⟩
theorem Q6z{b:Br}{nd:List Nd}(h:GJ b nd){i:Nat}{n:Nd}(s:nd[i]?=some n)(A:n.up=true){x:Nt×List Int}{l:List (Nt×List Int)}(F:n.out=x::l)(E:x.1.kind=7)(u:x.1.Kc≤4294967295∧x.1.Jz≤4294967295):GJ (Ut b i x.1) (nd.set i {n with out:=l}):=by
 have Q:=h.gi.node i n s A;have J:=Q.ph;rw[F]at J;obtain⟨M,L,K,T⟩:=J.Qn E;have I:(decide (i∈b.stops.getD [])&&b.Qn&&decide (x.1.gen=b.gen))=true:=by rw[M,L,Zh K];rfl
 rw[Ut,Qh I]
 have B:∀c:Br,BS b c→BrI c never→GJ (Zt c i) (nd.set i {n with out:=l}):=fun c k1 v=>by
  have p:=h.step k1 v;refine Qj6 (n:=i) ?_
  have key:∀(j:Nat) (m:Nd),(nd.set i {n with out:=l})[j]?=some m→(j=i∧m={n with out:=l})∨nd[j]?=some m:=fun j m a=>by
   rw[Fq]at a
   split at a
   ·rename_i e
    split at a
    ·cases a;exact .inl ⟨e.symm,rfl⟩
    ·cases a
   ·exact .inr a
  refine⟨v,by rw[Xf];exact p.gi.len,p.gi.dst,fun j m a=>?_,fun j m a k=>?_,fun j m a k e=>?_,fun m a k U e1 e2 e3=>?_,fun j d _=>p.gi.C4 j d,p.sf,p.ork⟩
  ·rcases key j m a with ⟨rfl,rfl⟩|a
   ·exact p.gi.up _ n s
   ·exact p.gi.up j m a
  ·rcases key j m a with ⟨rfl,rfl⟩|a
   ·exact absurd (A.symm.trans k) Qp
   ·exact p.gi.off j m a k
  ·rcases key j m a with ⟨rfl,rfl⟩|a
   ·exact absurd rfl e
   ·exact p.gi.node j m a k
  ·rcases key i m a with ⟨_,rfl⟩|O
   ·have f:=p.gi.node i n s A;have o:=f.ph;rw[F]at o;obtain⟨_,_,_,C⟩:=o.Qn E
    refine⟨f.kn,f.ps,f.one,f.wr,by rw[e2];exact f.right,by rw[e2];exact f.ld,fun id=>?_,?_⟩
    ·rw[e2];refine(f.here id).trans ?_;unfold Pres;rw[e1]
    ·rw[e2,Q6 e3];exact C _ _ _
   ·have R:i<nd.length:=(Yz.1 s).1;rw[Pp R]at a;cases a;have f:=p.gi.node i n s A;have o:=f.ph;rw[F]at o;obtain⟨_,_,_,C⟩:=o.Qn E
    refine⟨f.kn,f.ps,f.one,f.wr,by rw[e2];exact f.right,by rw[e2];exact f.ld,fun id=>?_,?_⟩
    ·rw[e2];refine(f.here id).trans ?_;unfold Pres;rw[e1]
    ·rw[e2,Q6 e3];exact C _ _ _
 cases H:Qk b.js x.1.Qu with
 | none=>exact B b (.refl b) h.gi.bi
 | some y=>
  cases q:y.X4 with
  | none=>simp only[q];exact B b (.refl b) h.gi.bi
  | some r=>
   simp only[q]
   split
   ·have D:=(Qi H).2;have t:Qk b.js y.id=some y:=by rw[D];exact H
    have P:=h.gi.bi.j y (Qi H).1;have d:=h.gi.bi.ok.at_ t
    obtain⟨k1,v⟩:=Qbu h.gi.bi (y:={y with X4:=some (Vn r i (x.1.Kc,x.1.Jz))}) t ⟨rfl,rfl,rfl,rfl,rfl⟩ ⟨d.P3,d.Rx,d.tier,d.k1,d.kn,d.w,d.cr,d.wk,d.Uy,d.at_,d.drop,d.lod,fun S e=>(by
     cases e
     have key:∀l:List (Nat×Nat×Nat),(∀z∈l,z.2.1≤4294967295∧z.2.2≤4294967295)→∀z∈Vn l i (x.1.Kc,x.1.Jz),z.2.1≤4294967295∧z.2.2≤4294967295:=by
      intro l;induction l with
      | nil=>intro _ z g;rw[Vd.1 g];exact u
      | cons w l N=>
       intro G z g;unfold Vn at g
       split at g
       ·rcases Yf.1 g with e|g
        ·rw[e];exact u
        ·exact G z (Ym _ g)
       ·rcases Yf.1 g with e|g
        ·rw[e];exact G w (Z0 ..)
        ·exact N (fun z g=>G z (Ym _ g)) z g
     exact key r (d.X4 r q)),d.ld,d.svl⟩ fun e=>(by rw[(P.q e).2.2.2.1]at q;cases q)
    exact B _ k1 v
   ·exact B b (.refl b) h.gi.bi
theorem Q3l{b:Br}{c:Nat→Nat→Prop}(h:BrI b c){x:Bj}(g:Qk b.js x.id=some x)(n:Nat)(t:Nt)(f:List Int):BS b (Ky b x n t f)∧BrI (Ky b x n t f) c:=by
 have l:=h.j x (Qi g).1;have k:=h.ok.at_ g;unfold Ky;cases i:x.Xg with
 | none=>exact⟨.refl b,h⟩
 | some s=>
  cases p:Kp x.at_ n with
  | none=>exact⟨.refl b,h⟩
  | some Yl=>
   simp only
   have key:∀d:Sv,d.bs.length=x.at_.length→d.Qg≤x.w→BS b (b.set {x with Xg:=some d })∧BrI (b.set {x with Xg:=some d }) c:=fun d o m=>
    Qbu h (y:={x with Xg:=some d }) g ⟨rfl,rfl,rfl,rfl,rfl⟩ (k.sset o m) fun e=>(by rw[(l.q e).2.2.1]at i;cases i)
   obtain⟨v1,j⟩:=k.svl s i
   split
   ·exact⟨.refl b,h⟩
   ·split
    ·obtain⟨k1,a⟩:=key {s with bs:=s.bs.set Yl f,have_:=Xm s.have_ n,told:=true} (by show (s.bs.set Yl f).length=_;rw[Xf];exact v1) j;refine⟨k1.trans (BS.quiet ⟨rfl,rfl,rfl,rfl,rfl,rfl⟩ rfl fun _ _=>Iff.rfl),a.same ?_ rfl rfl rfl⟩;exact⟨a.ok.R,a.ok.N,a.ok.Fu,a.ok.Y4,fun x g=>a.ok.Qu x g,a.ok.Dk,a.ok.q1,a.ok.q2,a.ok.g1,a.ok.g2,a.ok.now,a.ok.fin,a.ok.mem,a.ok.C4⟩
    ·exact key {s with bs:=s.bs.set Yl f,have_:=Xm s.have_ n} (by show (s.bs.set Yl f).length=_;rw[Xf];exact v1) j
theorem Q7v{b:Br}{c:Nat→Nat→Prop}(h:BrI b c){x:Bj}(f:Qk b.js x.id=some x){d:List Nat}(a:x.Ql=some d)(n:Nat):BS b (Y6 b (Cq x d n))∧BrI (Y6 b (Cq x d n)) c:=by
 have g:=h.j x (Qi f).1;have k:=h.ok.at_ f;refine⟨Qyu f rfl (by rw[a];rfl) rfl,h.gone f rfl (k.Cq (k.drop d a) n) fun _=>?_⟩;have j:x.state=3:=g.d.2 (by rw[a];rfl)
 refine⟨by show x.state≤3;omega,fun e=>(by rw[show x.state=0 from e]at j;cases j),g.p,⟨fun _=>rfl,fun _=>j⟩,fun e=>(by cases e),fun l e m i=>?_,fun l e m i=>?_⟩
 ·cases e;exact g.du d a m (V4.1 i).1
 ·cases e;exact g.da d a m (V4.1 i).1
theorem Qq9{b:Br}{f:Nat→Nat→Prop}(h:BrI b f){x:Bj}(a:Qk b.js x.id=some x)(n:Nat)(t:Nt)(i:List Int):BS b (U8 b x n t i)∧BrI (U8 b x n t i) f:=by
 have c:=h.j x (Qi a).1;have j:=h.ok.at_ a;unfold U8
 split
 ·split
  ·rename_i o
   have m:x.Ql=none:=by
    cases g:x.Ql with
    | none=>rfl
    | some d=>have:=c.d.2 (by rw[g];rfl);omega
   have l:(Xm (x.Xt.getD []) n).Nodup:=by
    cases k:x.Xt with
    | none=>exact F3 Fo n
    | some d=>exact F3 (j.lod d k) n
   refine⟨Qu4 (y:=N2 x (x.Xt.getD []) n) a rfl rfl rfl,h.set (y:=N2 x (x.Xt.getD []) n) a rfl (j.N2 l) ?_⟩
   have p:(N2 x (x.Xt.getD []) n).state=1∨(N2 x (x.Xt.getD []) n).state=2:=by
    show (if _ then 2 else 1)=1∨(if _ then 2 else 1)=2;split <;> simp
   refine⟨Qb,fun e=>(by omega),fun _=>c.p Qb,⟨fun e=>(by omega),fun e=>?_⟩,c.u,c.du,c.da⟩;rw[show (N2 x (x.Xt.getD []) n).Ql=x.Ql from rfl,m]at e;cases e
  ·exact⟨.refl b,h⟩
 split
 ·exact Q3l h a n t i
 split
 ·cases g:x.Ql with
  | none=>exact⟨.refl b,h⟩
  | some d=>exact Q7v h a g n
 ·exact⟨.refl b,h⟩
theorem Qyf{b:Br}{nd:List Nd}(h:GJ b nd){i:Nat}{n:Nd}(f:nd[i]?=some n)(d:n.up=true){x:Nt×List Int}{l:List (Nt×List Int)}(k:n.out=x::l)(j:x.1.Kc≤4294967295∧x.1.Jz≤4294967295):GJ (X6 b i x.1 x.2).2 (nd.set i {n with out:=l}):=by
 have m:i∈b.up:=(h.gi.Au f).1 d
 have q:Vh b i true=0:=by
  unfold Vh;have:=Nq h.gi.bi m;rw[Qe Qb,(h.gi.bi.up i).1 m];rfl
 unfold X6;rw[Qe (fun e=>e q)]
 by_cases a:x.1.kind=7
 ·rw[Qh a];exact Q6z h f d k a j
 ·rw[Qe a];have c:=h.out f d k a;cases o:Qk b.js x.1.Qu with
  | none=>exact c
  | some y=>
   simp only
   split
   ·have g:Qk b.js y.id=some y:=by rw[(Qi o).2];exact o
    obtain⟨k1,p⟩:=Qq9 c.gi.bi g i x.1 x.2;exact c.step k1 p
   ·exact c
theorem T7{b:Br}{nd:List Nd}(h:GJ b nd)(id ver:Nat)(ok:Bool):GJ (Q5 b id ver ok).2 nd:=by
 unfold Q5;cases g:Qk b.js id with
 | none=>exact h
 | some x=>
  simp only;cases d:x.Xg with
  | none=>exact h
  | some s=>
   simp only
   split
   ·exact h
   ·have c:Qk b.js x.id=some x:=by rw[(Qi g).2];exact g
    have i:=h.gi.bi.j x (Qi g).1;have a:=h.gi.bi.ok.at_ c;have f:JOk b.nodes {x with Qg:=if ok then s.Qg else x.Qg,Xg:=none}:=⟨a.P3,a.Rx,a.tier,a.k1,a.kn,a.w,by show (if ok then s.Qg else x.Qg)≤x.w;split;exact(a.svl s d).2;exact a.cr,a.wk,a.Uy,a.at_,a.drop,a.lod,a.X4,a.ld,fun _ e=>(by cases e)⟩;obtain⟨k1,j⟩:=Q1m h.gi.bi (y:={x with Qg:=if ok then s.Qg else x.Qg,Xg:=none}) c rfl rfl rfl rfl f (i.agr ⟨rfl,rfl,rfl,rfl,rfl⟩ fun e=>(by rw[(i.q e).2.2.1]at d;cases d));exact h.step k1 j
theorem Qli{b:Br}{nd:List Nd}(h:GJ b nd)(id:Nat):GJ (Xd b id).2 nd:=by
 unfold Xd;cases d:Qk b.js id with
 | none=>exact h
 | some x=>
  have a:Qk b.js x.id=some x:=by rw[(Qi d).2];exact d
  have f:=h.gi.bi.j x (Qi d).1;have c:=h.gi.bi.ok.at_ a;simp only
  split
  ·exact h.step (Qfe a rfl rfl rfl c false) (Qn3 h.gi.bi a rfl rfl rfl rfl c false)
  ·split
   ·obtain⟨k1,g⟩:=Qbu h.gi.bi (y:=agX x) a ⟨rfl,rfl,rfl,rfl,rfl⟩ c.agX fun e=>⟨(f.q e).2.2.1,(f.q e).2.2.2.1⟩;exact h.step k1 g
   ·exact h
theorem Qcx{x:Bj}{js:List Bj}(f:Wm js)(g:Qk js x.id=none)(id:Nat):Qk (Hg x js) id=if id=x.id then some x else Qk js id:=by
 have b:=P2 f (Kb g)
 by_cases e:id=x.id
 ·rw[Qh e,e];exact Ys b (Ks.2 (.inl rfl))
 ·rw[Qe e];cases d:Qk js id with
  | some y=>
   obtain⟨a,c⟩:=Qi d;have:=Ys b (Ks.2 (.inr a))
   rwa [c]at this
  | none=>
   cases h:Qk (Hg x js) id with
   | none=>rfl
   | some y=>
    obtain⟨a,c⟩:=Qi h
    rcases Ks.1 a with a|a
    ·rw[a]at c;exact absurd c.symm e
    ·exact absurd c (Kb d y a)
theorem Q8p{b:Br}{nd:List Nd}(h:GJ b nd){id tier k w:Nat}(q:id≤4294967295)(o:b.js.length≤999):GJ (Ex b (Kl id tier k w 0 0)).2 nd:=by
 unfold Ex
 split
 ·exact h
 rename_i a;have a:Ey b (Kl id tier k w 0 0)=true:=by simpa using a
 split
 ·exact h
 rename_i c
 have c:Qk b.js (Kl id tier k w 0 0).id=none:=by
  cases p:Qk b.js (Kl id tier k w 0 0).id with
  | none=>rfl
  | some y=>rw[p]at c;exact absurd rfl c
 have u:=Qxq q a;have ok:=Qx5 h.gi.bi.ok u c o;obtain⟨x,s⟩:∃x,x=Kl id tier k w 0 0:=⟨_,rfl⟩;have m:x.state=0∧x.at_=[]∧x.Ql=none∧x.Xg=none∧x.X4=none∧x.Qg=0:=by rw[s];exact⟨rfl,rfl,rfl,rfl,rfl,rfl⟩
 rw[←s]at a c u ok ⊢;obtain⟨D,l,j,C,B,A⟩:=m;have f:=Qcx (x:=x) h.gi.bi.ok.Y4 c
 have G:x.Qg<x.w:=by
  rw[A];simp only[Ey,Z5,Zz]at a;omega
 have I:BrI (H8 b x) never:=by
  refine⟨ok,fun z g=>?_,fun z g=>?_,h.gi.bi.up⟩
  ·rcases Ks.1 (show z∈Hg x b.js from g) with e|g
   ·subst e;refine⟨Qb,fun _=>⟨l,j,C,B,?_⟩,fun e=>absurd D e,⟨fun e=>(by omega),fun e=>(by rw[j]at e;cases e)⟩,fun _ n t=>(by rw[l]at t;cases t),fun d e=>(by rw[j]at e;cases e),fun d e=>(by rw[j]at e;cases e)⟩
    rcases o:look b.m.js z.id with _|y
    ·rfl
    ·obtain⟨F,E⟩:=J6 o;have:=h.gi.bi.mj y F;rw[E,c]at this;cases this
   ·exact(h.gi.bi.j z g).congr rfl rfl
  ·show (Qk (Hg x b.js) z.id).isSome=true;rw[f]
   split
   ·rfl
   ·exact h.gi.bi.mj z g
 have J:BS b (H8 b x):=BS.quiet ⟨rfl,rfl,rfl,rfl,rfl,rfl⟩ rfl fun i id=>by
  unfold Pres;show (∃z,Qk (Hg x b.js) id=some z∧_)↔_;rw[f]
  split
  ·rename_i e;rw[e,c]
   constructor
   ·rintro ⟨z,r,_,v⟩;cases r;rw[l]at v;cases v
   ·rintro ⟨z,r,_⟩;cases r
  ·exact Iff.rfl
 have p:Qk (H8 b x).js x.id=some x:=by rw[show (H8 b x).js=Hg x b.js from rfl,f,Qh rfl]
 have H:Yj (H8 b x) x=H8 b x:=by rw[Yj,Qh (.inl G)];exact Z4 ok p
 show GJ (Yj (H8 b x) x) nd;rw[H];exact h.step J I
theorem Q0u{m:Mx}{i j:Nat}(h:K7 m i=true):Ji (upR m i false).2 j=true↔Ji m j=true∧j≠i:=by
 rw[upR,Qh h];show (K7 m j&&(m.up &&& ~~~BitVec.twoPow 16 i).getLsbD (j:Int).toNat)=true↔(K7 m j&&m.up.getLsbD (j:Int).toNat)=true∧j≠i;rw[K0,C2,Qdl,Te,Z5,Z5,Z5,Z5]
 constructor
 ·rintro ⟨d,b,c,a⟩;refine⟨⟨d,b⟩,fun e=>?_⟩;subst e;simp only[Qi0,Bool.and_eq_false_iff,Af]at a;have:=U4 c;rcases a with a|a <;> exact a (by first|exact this|trivial)
 ·rintro ⟨⟨d,b⟩,c⟩
  have f:j<16:=by
   rcases Nz j 16 with h|h
   ·exact h
   ·rw[BitVec.getLsbD_of_ge _ _ h]at b;cases b
  exact⟨d,b,Zh f,by simp[Ne.symm c]⟩
theorem Zcl{m:Mx}(c:W6 m){i j:Nat}(h:K7 m i=true):Ji (upR m i true).2 j=true↔Ji m j=true∨j=i:=by
 have d:=(Ue.1 h).2;have:=c.Ra;rw[upR,Qh h];show (K7 m j&&(m.up ||| BitVec.twoPow 16 i).getLsbD (j:Int).toNat)=true↔(K7 m j&&m.up.getLsbD (j:Int).toNat)=true∨j=i;rw[K0,Qdk,Te,Z5,Z5,E2,Z5,Zz,Zz]
 constructor
 ·rintro ⟨b,a|⟨_,a⟩⟩
  ·exact .inl ⟨b,a⟩
  ·exact .inr a.symm
 ·rintro (⟨b,a⟩|a)
  ·exact⟨b,.inl a⟩
  ·subst a;exact⟨h,.inr ⟨Qb,rfl⟩⟩
def Off(n:Nat)(x:Bj):Prop:=(x.Ql=none→n∉x.at_)∧∀d,x.Ql=some d→n∉d
abbrev only(n:Nat):Nat→Nat→Prop:=fun _ k=>k=n
theorem Qa0{b:Br}{x:Bj}{z:Bj}(a:z∈(Y6 b x).js):z=x∨z=anew x∨(z∈b.js∧z.id≠x.id):=by
 unfold Y6 at a
 have key:∀y:Bj,y.id=x.id→z∈Xe b.js y→z=y∨(z∈b.js∧z.id≠x.id):=fun y c a=>by
  obtain⟨w,d,e⟩:=Qq.1 a
  split at e
  ·exact .inl e.symm
  ·rename_i i;subst e;exact .inr ⟨d,by rw[←c];exact i⟩
 split at a
 ·split at a
  ·rcases key (anew x) rfl a with h|h
   ·exact .inr (.inl h)
   ·exact .inr (.inr h)
  ·obtain⟨g,f⟩:=Y5.1 (show z∈rmJ b.js x.id from a);exact .inr (.inr ⟨g,by simpa using f⟩)
 ·rcases key x rfl a with h|h
  ·exact .inl h
  ·exact .inr (.inr h)
theorem Q4x(n:Nat)(x:Bj):Off n (anew x):=⟨fun _ h=>(by cases h),fun _ e=>(by cases e)⟩
theorem Q5k{n:Nat}{b:Br}(h:BrI b (only n))(p:n∉b.up){x:Bj}(c:Qk b.js x.id=some x){D:List Nat}(m:∀z∈b.js,z.id∈D→Off n z):BS b (Xw n b x)∧BrI (Xw n b x) (only n)∧(Xw n b x).up=b.up∧∀z∈(Xw n b x).js,z.id∈x.id::D→Off n z:=by
 have l:=h.ok.at_ c;have q:=h.j x (Qi c).1
 have fin:∀(j:Br) (y:Bj),j.js=b.js→y.id=x.id→Off n y→∀z∈(Y6 j y).js,z.id∈x.id::D→Off n z:=fun j y e1 e2 o z f a=>by
  rcases Qa0 f with rfl|rfl|⟨k1,i⟩
  ·exact o
  ·exact Q4x n y
  ·rw[e1]at k1
   rcases Yf.1 a with e|a
   ·exact absurd (e.trans e2.symm) i
   ·exact m z k1 a
 unfold Xw
 by_cases g:n∈x.at_
 ·rw[Qh g]
  split
  ·rename_i a;refine⟨Qfe c rfl rfl rfl l true,Qn3 h c rfl rfl rfl rfl l true,(Co b x true).2.2.2.2,?_⟩;rw[Vj a];refine fin {b with Qd:=b.Qd++(J0 b x).map (Va x.id)} (W9 x true (J0 b x)) rfl rfl ⟨fun e=>(by cases e),fun d e k=>?_⟩;cases e;exact p (U4 (Y5.1 k).2)
  ·rename_i d a;obtain⟨k1,i⟩:=Q7v h c a n;refine⟨k1,i,(Gp b _).2.2.2.2,?_⟩;refine fin b (Cq x d n) rfl rfl ⟨fun e=>(by cases e),fun r e k=>?_⟩;cases e;exact(V4.1 k).2 rfl
 ·rw[Qe g];refine⟨.refl b,h,rfl,fun z f a=>?_⟩
  rcases Yf.1 a with e|a
  ·have:=Ys h.ok.Y4 f;rw[e,c]at this;cases this;exact⟨fun _=>g,fun d e k=>g (q.da d e n k)⟩
  ·exact m z f a
theorem Q46{i j:Nat}{l m:List Nat}(h:i∈(j::l)++m):i∈l++(j::m):=by
 rcases Xu.1 h with h|h
 ·rcases Yf.1 h with h|h
  ·exact Ef _ (Yf.2 (.inl h))
  ·exact C1 _ h
 ·exact Ef _ (Ym _ h)
theorem Qho{n:Nat}:∀(l:List Nat) {b:Br} (_:BrI b (only n)) (_:n∉b.up) {D:List Nat} (_:∀z∈b.js,z.id∈D→Off n z),BS b (each (Xw n) b l)∧BrI (each (Xw n) b l) (only n)∧(each (Xw n) b l).up=b.up∧∀z∈(each (Xw n) b l).js,z.id∈l++D→Off n z
 | [],b,h,_,_,d=>⟨.refl b,h,rfl,d⟩
 | id::l,b,h,j,D,d=>by
  have e:each (Xw n) b (id::l)=each (Xw n) (match Qk b.js id with|none=>b|some x=>Xw n b x) l:=rfl;rw[e];cases k:Qk b.js id with
  | none=>
   obtain⟨k1,i,g,f⟩:=Qho l h j (D:=id::D) fun z c a=>by
    rcases Yf.1 a with e|a
    ·exact absurd e (Kb k z c)
    ·exact d z c a
   exact⟨k1,i,g,fun z c a=>f z c (Q46 a)⟩
  | some x=>
   have m:=(Qi k).2;obtain⟨q1,q2,q3,o⟩:=Q5k h j (by rw[m];exact k) d;obtain⟨k1,i,g,f⟩:=Qho l q2 (by rw[q3];exact j) o;exact⟨q1.trans k1,i,g.trans q3,fun z c a=>f z c (by rw[m];exact Q46 a)⟩
theorem Mq{nd:List Nd}{i:Nat}{n b:Nd}(_:nd[i]?=some n)(j:Nat)(m:Nd)(a:(nd.set i b)[j]?=some m):(j=i∧m=b)∨(j≠i∧nd[j]?=some m):=by
 rw[Fq]at a
 split at a
 ·rename_i e
  split at a
  ·cases a;exact .inl ⟨e.symm,rfl⟩
  ·cases a
 ·rename_i e;exact .inr ⟨Qee e,a⟩
theorem Qxm{b:Br}(h:BrI b never){i:Nat}(a:i<b.nodes):K7 b.m i=true:=Ue.2 ⟨Qb,by rw[h.ok.N];omega⟩
theorem Qni{b:Br}{nd:List Nd}(h:GJ b nd){i:Nat}{n:Nd}(w:nd[i]?=some n)(M:n.up=true):GJ (Kh b i).2 (nd.set i {up:=false,rk:=[],Yy:=[],out:=[],Qj:=n.Qj}):=by
 have P:i∈b.up:=(h.gi.Au w).1 M;have Uj:=Nq h.gi.bi P;have v:=Qxm h.gi.bi Uj
 have Us:¬Vh b i true≠0:=by
  unfold Vh;rw[Qe Qb,(h.gi.bi.up i).1 P];exact fun e=>e rfl
 rw[M9 Us];have U:=(h.gi.node i n w M).wr;have r:∀j,j∈(Wq b i).up↔j∈b.up∧j≠i:=fun j=>V4
 have K:BrI (Wq b i) (only i):=by
  refine⟨Qhp h.gi.bi.ok i,fun x s=>?_,fun z q=>?_,fun j=>?_⟩
  ·have a:=h.gi.bi.j x s
   have B:∀ {k},k∈b.up∨never x.id k→k∈(Wq b i).up∨only i x.id k:=fun {k} p=>by
    have p:=p.resolve_right fun e=>e
    by_cases e:k=i
    ·exact .inr e
    ·exact .inl ((r k).2 ⟨p,e⟩)
   have O:look (Wq b i).m.js x.id=look b.m.js x.id:=by show look (upR b.m i false).2.js x.id=_;rw[upR,Qh v];rfl
   exact⟨a.st,fun e=>by rw[O];exact a.q e,fun e=>by rw[O];exact a.p e,a.d,fun e k p=>B (a.u e k p),fun d e k p=>B (a.du d e k p),a.da⟩
  ·refine h.gi.bi.mj z ?_;have q:z∈(upR b.m i false).2.js:=q;rw[upR,Qh v]at q;exact q
  ·rw[r,h.gi.bi.up];exact(Q0u v).symm
 obtain⟨k1,A,F,L⟩:=Qho b.ids K (fun e=>((r i).1 e).2 rfl) (D:=[]) (fun z _ e=>(by cases e));obtain⟨E,k1⟩:=k1;obtain⟨t,N⟩:∃t,t=each (Xw i) (Wq b i) b.ids:=⟨_,rfl⟩;rw[←N]at k1 A F L ⊢
 have C:∀z∈t.js,z.id∈b.ids:=fun z q=>by
  have key:∀(l:List Nat) (c:Br),(∀z∈c.js,z.id∈b.ids)→∀z∈(each (Xw i) c l).js,z.id∈b.ids:=by
   intro l;induction l with
   | nil=>exact fun _ h=>h
   | cons id l T=>
    intro c I;have e:each (Xw i) c (id::l)=each (Xw i) (match Qk c.js id with|none=>c|some x=>Xw i c x) l:=rfl;rw[e];refine T _ ?_;cases V:Qk c.js id with
    | none=>exact I
    | some x=>
     have s:=I x (Qi V).1
     have Q:∀(c1:Br) (y:Bj),c1.js=c.js→y.id=x.id→∀z∈(Y6 c1 y).js,z.id∈b.ids:=fun c1 y e1 e2 z q=>by
      rcases Qa0 q with rfl|rfl|⟨m1,_⟩
      ·rw[e2];exact s
      ·show y.id∈_;rw[e2];exact s
      ·rw[e1]at m1;exact I z m1
     show ∀z∈(Xw i c x).js,_;unfold Xw
     split
     ·split
      ·rename_i W;rw[Vj W];exact Q {c with Qd:=c.Qd++(J0 c x).map (Va x.id)} _ rfl rfl
      ·exact Q c _ rfl rfl
     ·exact I
  rw[N]at q;exact key b.ids (Wq b i) (fun z q=>Qq.2 ⟨z,q,rfl⟩) z q
 have X:BrI t never:=by
  refine⟨A.ok,fun x s=>?_,A.mj,A.up⟩;have a:=A.j x s;obtain⟨S,R⟩:=L x s (by rw[X3];exact C x s);exact⟨a.st,a.q,a.p,a.d,fun e k p=>.inl ((a.u e k p).resolve_right fun (e2:k=i)=>S e (by rw[←e2];exact p)),fun d e k p=>.inl ((a.du d e k p).resolve_right fun (e2:k=i)=>R d e (by rw[←e2];exact p)),a.da⟩
 refine Qj6 (n:=i) ⟨X,by rw[Xf,k1.nodes];exact h.gi.len,fun o g=>?_,fun j m f=>?_,fun j m f k=>?_,fun j m f k e=>?_,fun m f k=>?_,fun j H e=>?_,by rw[k1.stops,k1.Qn];exact h.sf,fun o g=>?_⟩
 ·rw[k1.ord]at g;rw[F]
  rcases Xu.1 g with g|g
  ·obtain⟨Z,Y⟩:=Y5.1 (show o∈b.Qd.filter _ from g);exact(r _).2 ⟨h.gi.dst o Z,U4 Y⟩
  ·exact k1.dst o g
 ·rw[F]
  rcases Mq w j m f with ⟨rfl,rfl⟩|⟨e,f⟩
  ·exact(Q6 fun e=>((r _).1 e).2 rfl).symm
  ·rw[h.gi.up j m f];exact Wn.2 ⟨fun k=>(r j).2 ⟨k,e⟩,fun k=>((r j).1 k).1⟩
 ·rcases Mq w j m f with ⟨rfl,rfl⟩|⟨e,f⟩
  ·exact⟨rfl,rfl,rfl,U⟩
  ·exact h.gi.off j m f k
 ·rcases Mq w j m f with ⟨rfl,rfl⟩|⟨e2,f⟩
  ·exact absurd rfl e
  ·have u:=h.gi.node j m f k;have H:j∈b.up:=(h.gi.Au f).1 k
   have G:qOf (Wq b i).Qd j=qOf b.Qd j:=by
    show qOf (b.Qd.filter fun o=>decide (o.1≠i)) j=_;unfold qOf;rw[Qv3]
    congr 1
    refine Qdi fun o _=>?_
    by_cases e3:o.1=j
    ·rw[Zh e3,Zh (show o.1≠i by rw[e3];exact e2)];rfl
    ·rw[Q6 e3];rfl
   have J:Js (Wq b i) j m:=⟨u.kn,u.ps,u.one,u.wr,by rw[G];exact u.right,by rw[G];exact u.ld,fun id=>by rw[G];exact u.here id,by rw[G];exact u.ph⟩;exact J.step k1 ((r j).2 ⟨H,e2⟩)
 ·rcases Mq w i m f with ⟨_,rfl⟩|⟨e,_⟩
  ·cases k
  ·exact absurd rfl e
 ·rw[k1.stops]at H;rw[F];exact(r j).2 ⟨h.gi.C4 j H,e⟩
 ·rw[k1.ord]at g
  rcases Xu.1 g with g|g
  ·exact h.ork o (Y5.1 (show o∈b.Qd.filter _ from g)).1
  ·exact(k1.k5 o g).2.2.2
theorem Q2z{b:Br}{nd:List Nd}(h:GJ b nd){i:Nat}{n:Nd}(s:nd[i]?=some n)(E:n.up=false):GJ (Ja b i).2 (nd.set i {n with up:=true}):=by
 have y:i∉b.up:=fun e=>by have:=(h.gi.Au s).2 e;rw[E]at this;cases this
 have S:i<b.nodes:=by rw[←h.gi.len];exact(Yz.1 s).1
 have l:=Qxm h.gi.bi S
 have R:¬Vh b i false≠0:=by
  unfold Vh
  have:Ji b.m i=false:=by
   cases e:Ji b.m i with
   | false=>rfl
   | true=>exact absurd ((h.gi.bi.up i).2 e) y
  rw[Qe Qb,this];exact fun e=>e rfl
 have ok:=Q93 h.gi.bi.ok (i:Int);rw[Ja,Qe R]at ok ⊢;obtain⟨c,a⟩:∃c:Br,c={b with up:=Xm b.up (i:Int).toNat,m:=(upR b.m i true).2}:=⟨_,rfl⟩;have q:∀j,j∈c.up↔j∈b.up∨j=i:=fun j=>by rw[a];exact Hj
 have G:∀k,look c.m.js k=look b.m.js k:=fun k=>by rw[a];show look (upR b.m i true).2.js k=_;rw[upR,Qh l];rfl
 have B:c.m.js=b.m.js:=by rw[a];show (upR b.m i true).2.js=_;rw[upR,Qh l];rfl
 have t:∀j:Nat,Ji c.m j=true↔Ji b.m j=true∨j=i:=fun j=>by rw[a];exact Zcl h.gi.bi.ok.Fu l
 have e1:c.js=b.js:=by rw[a]
 have e2:c.Qd=b.Qd:=by rw[a]
 have e3:c.stops=b.stops:=by rw[a]
 have H:c.Qn=b.Qn:=by rw[a]
 have e5:c.gen=b.gen:=by rw[a]
 have Q:c.members=b.members:=by rw[a]
 have P:c.nodes=b.nodes:=by rw[a]
 have ok:Yu c:=by rw[a];exact ok
 show GJ {b with up:=Xm b.up (i:Int).toNat,m:=(upR b.m i true).2} _;rw[←a]
 have O:BrI c never:=⟨ok,fun x D=>by
  rw[e1]at D;have p:=h.gi.bi.j x D;have mv:∀ {k},k∈b.up∨never x.id k→k∈c.up∨never x.id k:=fun {k} u=>.inl ((q k).2 (.inl (u.resolve_right fun e=>e)));exact⟨p.st,fun e=>by rw[G];exact p.q e,fun e=>by rw[G];exact p.p e,p.d,fun e k u=>mv (p.u e k u),fun d e k u=>mv (p.du d e k u),p.da⟩,fun z C=>by rw[B]at C;rw[e1];exact h.gi.bi.mj z C,fun j=>by rw[q,t,h.gi.bi.up]⟩
 have F:∀j id,Pres c j id↔Pres b j id:=fun j id=>by unfold Pres;rw[e1]
 refine⟨⟨O,by rw[Xf,P];exact h.gi.len,fun o A=>(q _).2 (.inl (h.gi.dst o (by rw[←e2];exact A))),fun j m f=>?_,fun j m f k=>?_,fun j m f k=>?_,fun j N=>(q j).2 (.inl (h.gi.C4 j (by rw[←e3];exact N)))⟩,by rw[e3,H];exact h.sf,by rw[e2];exact h.ork⟩
 ·rcases Mq s j m f with ⟨rfl,rfl⟩|⟨e,f⟩
  ·exact(Zh ((q _).2 (.inr rfl))).symm
  ·rw[h.gi.up j m f];exact Wn.2 ⟨fun k=>(q j).2 (.inl k),fun k=>((q j).1 k).resolve_right e⟩
 ·rcases Mq s j m f with ⟨rfl,rfl⟩|⟨e,f⟩
  ·cases k
  ·exact h.gi.off j m f k
 ·rcases Mq s j m f with ⟨rfl,rfl⟩|⟨e,f⟩
  ·obtain⟨r,v,M,L⟩:=h.gi.off j n s E
   have w:qOf c.Qd j=[]:=by
    rw[e2];unfold qOf;rw[Fs,List.filter_eq_nil_iff];exact fun o A k=>y (by rw[←U4 k];exact h.gi.dst o A)
   refine⟨by rw[r];exact Fo,by rw[r];exact fun _ k=>(by cases k),by rw[r];exact fun _ k=>(by cases k),L,?_,?_,fun id=>?_,?_⟩
   ·show (fin n.rk (n.Yy++qOf c.Qd j)).Qj=false;rw[w,r,v];rfl
   ·show ∀x∈n.Yy++qOf c.Qd j,_;rw[w,v];exact fun x k=>(by cases k)
   ·show (Yt id (fin n.rk (n.Yy++qOf c.Qd j)).rk).isSome=true↔_;rw[w,r,v,F];refine⟨fun k=>(by cases k),fun⟨x,K,J,I⟩=>?_⟩;exact absurd (((h.gi.bi.j x (Qi K).1).u J j I).resolve_right fun e=>e) y
   ·show Ph c.gen c.members (decide (j∈c.stops.getD [])) c.Qn n.rk (n.Yy++qOf c.Qd j) n.out;rw[w,r,v,M];exact .rest (Q6 fun k=>y (h.gi.C4 j (by rw[←e3];exact k))) (fun _ k=>(by cases k)) (fun _ k=>(by cases k)) (fun _ k=>(by cases k)) (fun _ k=>(by cases k))
  ·have g:=h.gi.node j m f k;exact⟨g.kn,g.ps,g.one,g.wr,by rw[e2];exact g.right,by rw[e2];exact g.ld,fun id=>by rw[e2];exact(g.here id).trans (F j id).symm,by rw[e2,e5,Q,e3,H];exact g.ph⟩
theorem Qad:∀(os:List Od) (nd:List Nd),(∀o∈os,∃n,nd[o.1]?=some n∧n.up=true)→(U0 nd os).length=nd.length∧∀(i:Nat) (n:Nd),nd[i]?=some n→(U0 nd os)[i]?=some {n with Yy:=n.Yy++qOf os i}
 | [],nd,_=>⟨rfl,fun i n h=>by rw[show U0 nd []=nd from rfl,h];simp[qOf]⟩
 | o::os,nd,h=>by
  obtain⟨n0,b,f⟩:=h o (Z0 ..)
  have e:U0 nd (o::os)=U0 (nd.set o.1 {n0 with Yy:=n0.Yy++[o.2]}) os:=by
   show U0 (As nd o) os=_;rw[As,b];simp only[f,C0]
  have g:=(Yz.1 b).1
  obtain⟨k1,d⟩:=Qad os (nd.set o.1 {n0 with Yy:=n0.Yy++[o.2]}) fun p j=>by
   obtain⟨m,m1,m2⟩:=h p (Ym _ j)
   by_cases e:p.1=o.1
   ·rw[e,Pp g];exact⟨_,rfl,f⟩
   ·rw[Qdo (Qee e)];exact⟨m,m1,m2⟩
  rw[e];refine⟨k1.trans (Xf ..),fun i n a=>?_⟩
  by_cases c:o.1=i
  ·subst c;rw[b]at a;cases a;rw[d o.1 _ (Pp g)];have:qOf (o::os) o.1=o.2::qOf os o.1:=by unfold qOf;rw[Eg,Qh Q2,Z7]
   rw[this,Wb];rfl
  ·rw[d i n (by rw[Qdo c];exact a)];have:qOf (o::os) i=qOf os i:=by unfold qOf;rw[Eg,Qe (by simpa using c)]
   rw[this]
theorem Zad{b:Br}{nd:List Nd}(h:GJ b nd):GJ {b with Qd:=[],Qf:=[],done:=[]} (U0 nd b.Qd):=by
 have u:∀o∈b.Qd,∃n,nd[o.1]?=some n∧n.up=true:=fun o e=>by
  have g:=h.gi.dst o e;have v:=Nq h.gi.bi g;obtain⟨n,a⟩:=Xs (show o.1<nd.length by rw[h.gi.len];exact v);exact⟨n,a,(h.gi.Au a).2 g⟩
 obtain⟨k1,s⟩:=Qad b.Qd nd u
 have key:∀(i:Nat) (m:Nd),(U0 nd b.Qd)[i]?=some m→∃n,nd[i]?=some n∧m={n with Yy:=n.Yy++qOf b.Qd i}:=fun i m c=>by
  obtain⟨n,a⟩:=Xs (show i<nd.length by rw[←k1];exact(Yz.1 c).1);rw[s i n a]at c;cases c;exact⟨n,a,rfl⟩
 refine⟨⟨h.gi.bi.same ?_ rfl rfl rfl,k1.trans h.gi.len,fun o e=>(by cases e),fun i m c=>?_,fun i m c k=>?_,fun i m c k=>?_,h.gi.C4⟩,h.sf,fun o e=>(by cases e)⟩
 ·exact⟨h.gi.bi.ok.R,h.gi.bi.ok.N,h.gi.bi.ok.Fu,h.gi.bi.ok.Y4,fun x t=>h.gi.bi.ok.Qu x t,h.gi.bi.ok.Dk,h.gi.bi.ok.q1,h.gi.bi.ok.q2,h.gi.bi.ok.g1,h.gi.bi.ok.g2,h.gi.bi.ok.now,h.gi.bi.ok.fin,h.gi.bi.ok.mem,h.gi.bi.ok.C4⟩
 ·obtain⟨n,a,rfl⟩:=key i m c;exact h.gi.up i n a
 ·obtain⟨n,a,rfl⟩:=key i m c;obtain⟨r,p,l,j⟩:=h.gi.off i n a k;refine⟨r,?_,l,j⟩;show n.Yy++qOf b.Qd i=[];rw[p,Gf];unfold qOf;rw[Fs,List.filter_eq_nil_iff];refine fun o e q=>?_;have:=(h.gi.Au a).2 (by rw[←U4 q];exact h.gi.dst o e);rw[show n.up=false from k]at this;cases this
 ·obtain⟨n,a,rfl⟩:=key i m c;have d:=h.gi.node i n a k;have f:(n.Yy++qOf b.Qd i)++qOf ([]:List Od) i=n.Yy++qOf b.Qd i:=by rw[show qOf ([]:List Od) i=[] from rfl,X3]
  refine⟨d.kn,d.ps,d.one,d.wr,?_,?_,fun id=>?_,?_⟩
  ·show (fin n.rk ((n.Yy++qOf b.Qd i)++qOf [] i)).Qj=false;rw[f];exact d.right
  ·show ∀x∈(n.Yy++qOf b.Qd i)++qOf [] i,_;rw[f];exact d.ld
  ·show (Yt id (fin n.rk ((n.Yy++qOf b.Qd i)++qOf [] i)).rk).isSome=true↔_;rw[f];exact d.here id
  ·show Ph b.gen b.members _ b.Qn n.rk ((n.Yy++qOf b.Qd i)++qOf [] i) n.out;rw[f];exact d.ph
def Ag(b:Br):Prop:=∀x∈b.js,x.done=true→x.again=false
def JR(b a:Br):Prop:=Ag b→(a.done=b.done∧a.now=b.now)∧Ag a∧∀z∈a.js,∃x∈b.js,z.id=x.id∧(x.done=true→z.done=true)
theorem JR.refl(b:Br):JR b b:=fun h=>⟨⟨rfl,rfl⟩,h,fun z a=>⟨z,a,rfl,fun h=>h⟩⟩
theorem JR.trans{a b c:Br}(h:JR a b)(k:JR b c):JR a c:=fun q=>by
 obtain⟨d,s,r⟩:=h q;obtain⟨k1,o,n⟩:=k s;refine⟨⟨k1.1.trans d.1,k1.2.trans d.2⟩,o,fun z p=>?_⟩;obtain⟨y,i,g,f⟩:=n z p;obtain⟨x,m,l,j⟩:=r y i;exact⟨x,m,g.trans l,fun e=>f (j e)⟩
theorem JR.same{b b':Br}(d:b'.js=b.js)(f:b'.done=b.done)(e:b'.now=b.now):JR b b':=fun h=>⟨⟨f,e⟩,fun x c=>by rw[d]at c;exact h x c,fun z a=>by rw[d]at a;exact⟨z,a,rfl,fun h=>h⟩⟩
theorem Ke{js:List Bj}{y z:Bj}(a:z∈Xe js y):z=y∨(z∈js∧z.id≠y.id):=by
 obtain⟨w,b,e⟩:=Qq.1 a
 split at e
 ·exact .inl e.symm
 ·rename_i c;subst e;exact .inr ⟨b,c⟩
theorem Gn{b:Br}{x y:Bj}(e:Qk b.js x.id=some x)(c:y.id=x.id)(g:x.done=true→y.done=true)(f:(x.done=true→x.again=false)→y.done=true→y.again=false):JR b (b.set y):=fun h=>by
 have d:=(Qi e).1
 refine⟨⟨rfl,rfl⟩,fun z a=>?_,fun z a=>?_⟩
 ·rcases Ke (show z∈Xe b.js y from a) with rfl|⟨k,_⟩
  ·exact f (h x d)
  ·exact h z k
 ·rcases Ke (show z∈Xe b.js y from a) with rfl|⟨k,_⟩
  ·exact⟨x,d,c,g⟩
  ·exact⟨z,k,rfl,fun h=>h⟩
theorem Qe8{b:Br}{x y:Bj}(d:Qk b.js x.id=some x)(a:y.id=x.id)(g:x.done=true→y.done=true)(f:(x.done=true→x.again=false)→y.done=true→y.again=false):JR b (Y6 b y):=fun h=>by
 have i:=(Qi d).1;unfold Y6
 split
 ·split
  ·rename_i j
   have k:x.done≠true:=fun e=>by
    have:=f (h x i) (g e);rw[j]at this;cases this
   have:=Gn (b:={b with m:=(Xj b.m y.id).2}) (y:=anew y) d a (fun e=>absurd e k) (fun _ e=>(by cases e)) h;exact this
  ·refine⟨⟨rfl,rfl⟩,fun z c=>h z (Y5.1 (show z∈rmJ b.js y.id from c)).1,fun z c=>⟨z,(Y5.1 (show z∈rmJ b.js y.id from c)).1,rfl,fun h=>h⟩⟩
 ·exact Gn d a g f h
theorem Qar{b:Br}{x y:Bj}(f:Qk b.js x.id=some x)(c:y.id=x.id)(i:x.done=true→y.done=true)(a:Bool):JR b (Wd b y a):=by
 have h:∀d,(x.done=true→x.again=false)→(W9 y a d).done=true→(W9 y a d).again=false:=fun d _ e=>by
  show (a&&!y.done)=false;rw[show y.done=true from e];simp
 cases g:y.Ql with
 | some d=>rw[Kd g];exact Qe8 f c i (h d)
 | none=>
  rw[Vj g];exact(JR.same (b:=b) (b':={b with Qd:=b.Qd++(J0 b y).map (Va y.id)}) rfl rfl rfl).trans (Qe8 (b:={b with Qd:=b.Qd++(J0 b y).map (Va y.id)}) f c i (h _))
theorem Qx1{b:Br}{x y:Bj}(d:Qk b.js x.id=some x)(a:y.id=x.id)(c:y.done=x.done)(g:y.again=x.again):JR b (Xv b y):=by
 by_cases f:y.work=y.Qg∨y.Xg.isSome∨y.Ql.isSome∨y.state≠2
 ·rw[V3 f];exact Gn d a (fun e=>c.trans e) (fun h e=>g.trans (h (c.symm.trans e)))
 ·rw[Ua f];exact(JR.same (b:=b) (b':={b with Qd:=b.Qd++y.at_.map (W8 (Wt y))}) rfl rfl rfl).trans (Gn (b:={b with Qd:=b.Qd++y.at_.map (W8 (Wt y))}) (y:=Wt y) d a (fun e=>c.trans e) (fun h e=>g.trans (h (c.symm.trans e))))
theorem Bq{f:Br→Bj→Br}(a:∀b x,Qk b.js x.id=some x→JR b (f b x)):∀(l:List Nat) (b:Br),JR b (each f b l)
 | [],b=>.refl b
 | id::l,b=>by
  have e:each f b (id::l)=each f (match Qk b.js id with|none=>b|some x=>f b x) l:=rfl;rw[e];cases c:Qk b.js id with
  | none=>exact Bq a l b
  | some x=>exact(a b x (by rw[(Qi c).2];exact c)).trans (Bq a l _)
theorem Q5w{b:Br}{x:Bj}(a:Qk b.js x.id=some x):JR b (Y9 b x):=by
 unfold Y9
 split
 ·exact Gn a rfl (fun e=>e) (fun h e=>h e)
 ·split
  ·exact Gn (y:=Em x) a rfl (fun e=>e) (fun h e=>h e)
  ·exact Qx1 (y:=Dw x _) a rfl rfl rfl
theorem Qaq(b:Br)(n:Nat):JR b (Zt b n):=by
 unfold Zt
 split
 ·exact .refl b
 ·split
  ·exact .same rfl rfl rfl
  ·exact(JR.same (b:=b) (b':={b with stops:=none,Qn:=false}) rfl rfl rfl).trans (Bq (fun _ _ h=>Q5w h) _ _)
theorem Qx2(b:Br)(n:Int):JR b (Kh b n).2:=by
 unfold Kh
 split
 ·exact .refl b
 ·refine JR.trans (b:=each (Xw n.toNat) {b with up:=Jd b.up n.toNat,m:=(upR b.m n false).2,Qd:=b.Qd.filter fun o=>decide (o.1≠n.toNat)} b.ids) ?_ (Qaq _ _);refine(JR.same (b:=b) (b':={b with up:=Jd b.up n.toNat,m:=(upR b.m n false).2,Qd:=b.Qd.filter fun o=>decide (o.1≠n.toNat)}) rfl rfl rfl).trans (Bq (fun c x a=>?_) _ _);unfold Xw
  split
  ·split
   ·exact Qar a rfl (fun e=>e) true
   ·exact Qe8 a rfl (fun e=>e) (fun h e=>h e)
  ·exact .refl c
theorem Q5v{b:Br}{x:Bj}(a:Qk b.js x.id=some x)(n:Nat)(t:Nt)(c:List Int):JR b (U8 b x n t c):=by
 unfold U8
 split
 ·split
  ·exact Gn a rfl (fun e=>e) (fun h e=>h e)
  ·exact .refl b
 split
 ·unfold Ky;cases d:x.Xg with
  | none=>exact .refl b
  | some s=>
   cases f:Kp x.at_ n with
   | none=>exact .refl b
   | some Yl=>
    simp only
    split
    ·exact .refl b
    ·split
     ·exact(Gn (b:=b) (y:={x with Xg:=some {s with bs:=s.bs.set Yl c,have_:=Xm s.have_ n,told:=true}}) a rfl (fun e=>e) (fun h e=>h e)).trans (.same rfl rfl rfl)
     ·exact Gn (y:={x with Xg:=some {s with bs:=s.bs.set Yl c,have_:=Xm s.have_ n}}) a rfl (fun e=>e) (fun h e=>h e)
 split
 ·split
  ·exact .refl b
  ·exact Qe8 a rfl (fun e=>e) (fun h e=>h e)
 ·exact .refl b
theorem Qx3(b:Br)(n:Int)(t:Nt)(c:List Int):JR b (X6 b n t c).2:=by
 unfold X6
 split
 ·exact .refl b
 split
 ·show JR b (Ut b n.toNat t);unfold Ut
  split
  ·refine JR.trans ?_ (Qaq _ _);cases a:Qk b.js t.Qu with
   | none=>exact .refl b
   | some y=>
    simp only
    split
    ·exact .refl b
    ·split
     ·exact Gn (x:=y) (by rw[(Qi a).2];exact a) rfl (fun e=>e) (fun h e=>h e)
     ·exact .refl b
  ·exact .refl b
 ·cases a:Qk b.js t.Qu with
  | none=>exact .refl b
  | some x=>
   simp only
   split
   ·exact Q5v (by rw[(Qi a).2];exact a) _ _ _
   ·exact .refl b
theorem Qk2(b:Br)(id:Nat):JR b (Xd b id).2:=by
 unfold Xd;cases c:Qk b.js id with
 | none=>exact .refl b
 | some x=>
  have a:Qk b.js x.id=some x:=by rw[(Qi c).2];exact c
  simp only
  split
  ·exact Qar a rfl (fun e=>e) false
  ·split
   ·exact Gn a rfl (fun e=>e) (fun _ _=>rfl)
   ·exact .refl b
theorem Zcj{b:Br}{x:Bj}(c:Qk b.js x.id=some x)(s:PL.St):JR b (Jh b x s):=by
 by_cases a:(Uc b.m x.id s.row s.nodes).1≠0
 ·rw[H6 a];exact .same rfl rfl rfl
 ·rw[Jg a];exact(JR.same (b:=b) (b':={b with m:=(Uc b.m x.id s.row s.nodes).2,Qd:=b.Qd++Vk x (nats s.nodes)}) rfl rfl rfl).trans (Gn (b:={b with m:=(Uc b.m x.id s.row s.nodes).2,Qd:=b.Qd++Vk x (nats s.nodes)}) (y:=C6 x (nats s.nodes)) c rfl (fun e=>e) (fun h e=>h e))
theorem Qqw:∀(a:List (Nat×PL.St)) (b:Br),JR b (Xp b a)
 | [],b=>.refl b
 | p::a,b=>by
  have e:Xp b (p::a)=Xp (Ud b p) a:=by rw[X9,X9];rfl
  rw[e];refine JR.trans ?_ (Qqw a _);unfold Ud
  split
  ·cases c:Qk b.js p.1 with
   | none=>exact .refl b
   | some x=>exact Zcj (by rw[(Qi c).2];exact c) _
  ·exact .refl b
theorem Qtz(b:Br):JR b (Qy b):=by
 unfold Qy
 split
 ·exact .refl b
 split
 ·exact .refl b
 split
 ·exact .refl b
 ·refine Bq (f:=Ur) (fun c x a=>?_) _ _;exact(JR.same (b:=c) (b':={c with Qd:=c.Qd++x.at_.map fun n=>((n,{kind:=12,Qu:=x.id,tick:=Xi c.now c.Wu}):Od)}) rfl rfl rfl).trans (Gn (b:={c with Qd:=c.Qd++x.at_.map fun n=>((n,{kind:=12,Qu:=x.id,tick:=Xi c.now c.Wu}):Od)}) (y:={x with Wp:=true,C5:=Xi c.now c.Wu}) a rfl (fun e=>e) (fun h e=>h e))
theorem Qqv(b:Br):∀(i:Nat) (row:Int),JR b (Xx b row i)
 | 0,_=>.refl b
 | i+1,row=>by
  rw[Xx]
  split
  ·exact .refl b
  split
  ·rw[Bh];refine(JR.same (b:=b) (b':=F4 {b with row:=(Xh b.m row).1} _) rfl rfl rfl).trans (Bq (f:=V8) (fun c x a=>?_) _ _);exact(JR.same (b:=c) (b':={c with stops:=some (x.at_.foldl Xm (c.stops.getD [])),Qd:=c.Qd++x.at_.map fun n=>((n,{kind:=5,gen:=c.gen,Qu:=x.id}):Od)}) rfl rfl rfl).trans (Gn (b:={c with stops:=some (x.at_.foldl Xm (c.stops.getD [])),Qd:=c.Qd++x.at_.map fun n=>((n,{kind:=5,gen:=c.gen,Qu:=x.id}):Od)}) (y:={x with X4:=some []}) a rfl (fun e=>e) (fun h e=>h e))
  ·exact Qqv b i _
theorem Zci(b:Br):JR b (V0 b):=by
 have j:=Bq (f:=Q4) (fun c x a=>by
  unfold Q4
  split
  ·exact Qar a rfl (fun e=>e) true
  ·exact .refl c) b.ids b
 have i:=j.trans (Qqw (zsR (each Q4 b b.ids)) _);have h:=i.trans (Qtz _);have g:=h.trans (JR.same (b':=rep (Qy (Xp (each Q4 b b.ids) (zsR (each Q4 b b.ids))))) rfl rfl rfl);have d:=g.trans (Bq (f:=Xv) (fun _ x a=>Qx1 (y:=x) a rfl rfl rfl) (rep (Qy (Q9 (each Q4 b b.ids)))).ids _);exact d.trans (Qqv _ _ _)
structure DI(b:Br)(dn:List Nat)(next:Nat):Prop where
 Y4:Wm b.js
 nd:(dn++b.done).Nodup
 Wo:∀id∈dn++b.done,∀x,Qk b.js id=some x→x.done=true
 lt:∀x∈b.js,x.id<next
 ltd:∀id∈dn++b.done,id<next
 ag:Ag b
theorem DI.jr{b f:Br}{dn:List Nat}{next:Nat}(h:DI b dn next)(k:JR b f)(n:Wm f.js):DI f dn next:=by
 obtain⟨⟨k1,_⟩,m,g⟩:=k h.ag
 refine⟨n,by rw[k1];exact h.nd,fun id a z e=>?_,fun z e=>?_,by rw[k1];exact h.ltd,m⟩
 ·rw[k1]at a;obtain⟨j,i⟩:=Qi e;obtain⟨x,d,c,l⟩:=g z j;exact l (h.Wo id a x (by rw[←i,c];exact Ys h.Y4 d))
 ·obtain⟨x,d,c,_⟩:=g z e;rw[c];exact h.lt x d
theorem Q1l{b:Br}{dn:List Nat}{next:Nat}(h:DI b dn next){x y:Bj}(q:Qk b.js x.id=some x)(l:y.id=x.id)(t:y.done=x.done)(G:y.again=x.again)(o:Wm (Yj b y).js):DI (Yj b y) dn next:=by
 unfold Yj at o ⊢
 split at o
 ·rename_i r;rw[Qh r];exact h.jr (Gn q l (fun e=>t.trans e) (fun k e=>G.trans (k (t.symm.trans e)))) o
 ·rename_i r;rw[Qe r];have L:y.done≠true:=fun e=>r (.inr e);obtain⟨m,j⟩:∃m:Br,m={b with done:=b.done++[y.id]}:=⟨_,rfl⟩;rw[←j]at o ⊢;have J:Qk m.js x.id=some x:=by rw[j];exact q
  have K:y.id∉dn++b.done:=fun e=>L (by rw[t];exact h.Wo y.id e x (by rw[l];exact q));have u:Ag m:=by rw[j];exact h.ag
  obtain⟨⟨k1,_⟩,F,D⟩:=Qar (y:={y with done:=true}) J l (fun _=>rfl) false u;have e1:m.done=b.done++[y.id]:=by rw[j]
  have e2:m.js=b.js:=by rw[j]
  have A:dn++(Wd m {y with done:=true} false).done=(dn++b.done)++[y.id]:=by rw[k1,e1,Wb]
  have key:∀z∈(Wd m {y with done:=true} false).js,z.id=y.id→z.done=true:=fun z f e=>by
   have g:∀(c:Br) (d:List Nat),c.js=b.js→z∈(Y6 c (W9 {y with done:=true} false d)).js→z.done=true:=fun c d M f=>by
    unfold Y6 at f
    split at f
    ·split at f
     ·rename_i v;exact absurd v (by show ¬(false&&!true)=true;decide)
     ·have:=(Y5.1 (show z∈rmJ c.js y.id from f)).2;exact absurd e (by simpa using this)
    ·rcases Ke (show z∈Xe c.js _ from f) with rfl|⟨_,k⟩
     ·rfl
     ·exact absurd e k
   cases p:y.Ql with
   | some d=>
    rw[Kd (x:={y with done:=true}) p]at f;exact g m d e2 f
   | none=>
    rw[Vj (x:={y with done:=true}) p]at f;refine g _ _ ?_ f;exact e2
  refine⟨o,?_,fun id i z f=>?_,fun z f=>?_,?_,F⟩
  ·rw[A];exact Qjd.2 ⟨h.nd,Vz.2 ⟨Q2,Fo⟩,fun a I c H e=>K (by rw[←Vd.1 H,←e];exact I)⟩
  ·rw[A]at i;obtain⟨C,B⟩:=Qi f
   rcases Xu.1 i with i|i
   ·obtain⟨w,n,s,E⟩:=D z C;rw[e2]at n;exact E (h.Wo id i w (by rw[←B,s];exact Ys h.Y4 n))
   ·exact key z C (B.trans (Vd.1 i))
  ·obtain⟨w,n,s,_⟩:=D z f;rw[e2]at n;rw[s];exact h.lt w n
  ·rw[A];intro id i
   rcases Xu.1 i with i|i
   ·exact h.ltd id i
   ·rw[Vd.1 i,l];exact h.lt x (Qi q).1
theorem T8{b:Br}{dn:List Nat}{next:Nat}(h:DI b dn next)(id ver:Nat)(ok:Bool)(a:Wm (Q5 b id ver ok).2.js):DI (Q5 b id ver ok).2 dn next:=by
 unfold Q5 at a ⊢;cases c:Qk b.js id with
 | none=>exact h
 | some x=>
  rw[c]at a;simp only at a ⊢
  split at a
  ·exact h
  ·split at a
   ·rename_i e2;rw[Qh e2];exact h
   ·rename_i e2;rw[Qe e2];exact Q1l h (x:=x) (by rw[(Qi c).2];exact c) rfl rfl rfl a
theorem Qur(b:Br){x y:Bj}(d:Qk b.js x.id=some x)(a:y.id=x.id)(_:y.done=x.done)(_:y.again=x.again)(c:Ag b):(Yj b y).now=b.now:=by
 unfold Yj
 split
 ·rfl
 ·exact((Qar (b:={b with done:=b.done++[y.id]}) (x:=x) (y:={y with done:=true}) d a (fun _=>rfl) false) c).1.2
theorem Qjk{b:Br}(a:Ag b)(id ver:Nat)(ok:Bool):(Q5 b id ver ok).2.now=b.now:=by
 unfold Q5;cases c:Qk b.js id with
 | none=>rfl
 | some x=>
  simp only
  split
  ·rfl
  ·split
   ·rfl
   ·exact Qur b (x:=x) (by rw[(Qi c).2];exact c) rfl rfl rfl a
theorem Qey{b:Br}{dn:List Nat}{next:Nat}(h:DI b dn next){now:Nat}(g:b.now<now)(a:Wm (Y7 b now).2.js):DI (Y7 b now).2 dn next∧(Y7 b now).2.now=now∧(Y7 b now).1=0:=by
 have c:DI {b with now:=now} dn next:=⟨h.Y4,h.nd,h.Wo,h.lt,h.ltd,h.ag⟩;unfold Y7 at a ⊢;rw[Qe Qb]at a ⊢
 split
 ·exact⟨c,rfl,rfl⟩
 rename_i f;rw[Qe f]at a
 split
 ·split
  ·exact⟨⟨h.Y4,h.nd,h.Wo,h.lt,h.ltd,h.ag⟩,rfl,rfl⟩
  ·exact⟨c,rfl,rfl⟩
 ·rename_i e;rw[Qe e]at a;have d:=Zci {b with now:=now};exact⟨c.jr d a,(d c.ag).1.2,rfl⟩
theorem D3:∀(l:List Nat) (nd:List Nd) (dn:List Nat),(dn++l).Nodup→l.foldl Jk (nd,dn)=(nd,dn++l)
 | [],nd,dn,_=>by rw[X3];rfl
 | id::l,nd,dn,h=>by
  have a:id∉dn:=fun e=>by
   have:=(Qjd.1 h).2.2 id e id (Z0 ..);exact this rfl
  have e:Jk (nd,dn) id=(nd,dn++[id]):=by rw[Jk,Qe a,Xm,Qe a]
  rw[Mi,e,D3 l nd (dn++[id]) (by rw[Wb];exact h),Wb];rfl
end BN
instance ZSl.z3{a v:Value}{l:List Value}:ZSl (a::l) (0+0+0) v (v::l):=⟨rfl,Nat.succ_pos _⟩
namespace BN
section
variable {s:Sm}{a:Ac}
theorem Qbx(h:a.Wc=0∨a.Wc=1):U7 s a=Y2 s:=by rw[U7];exact Qh h
theorem Qgc(h:a.Wc=2)(b:s.Wy.length<20):U7 s a=Rr s ⟨s.next,a.tier % 4,1+a.k % s.cn,1+a.w % 20⟩:=by
 rw[U7];rw[Qe Qb,Qh h,Qh b]
theorem Qb0(h:a.Wc=2)(b:¬s.Wy.length<20):U7 s a=X5 {s with ok:=s.ok&&tkB s}:=by
 rw[U7];rw[Qe Qb,Qh h,Qe b]
theorem Qgb(h:a.Wc=3):U7 s a=Tu s (1+a.n % max s.next 1):=by
 rw[U7];rw[Qe Qb,Qe Qb,Qh h]
theorem Qby(h:a.Wc=4):U7 s a=E5 s (a.n % s.nd.length):=by
 rw[U7];rw[Qe Qb,Qe Qb,Qe Qb,Qh h]
theorem Qe4(h:a.Wc=5):U7 s a=Qb1 s (a.n % s.nd.length):=by
 rw[U7];rw[Qe Qb,Qe Qb,Qe Qb,Qe Qb,Qh h]
theorem Qga(h:a.Wc=6∨a.Wc=7∨a.Wc=8∨a.Wc=9):U7 s a=(Q3 s (a.n % s.nd.length) a.back).2:=by
 rw[U7];rw[Qe Qb,Qe Qb,Qe Qb,Qe Qb,Qe Qb,Qh h]
theorem Qf9(h:a.Wc=10):U7 s a=(Yi s (!a.fail)).2:=by
 rw[U7];rw[Qe Qb,Qe Qb,Qe Qb,Qe Qb,Qe Qb,Qe Qb,Qh h]
theorem Qbz(h:a.Wc=11):U7 s a=U9 s:=by
 rw[U7];rw[Qe Qb,Qe Qb,Qe Qb,Qe Qb,Qe Qb,Qe Qb,Qe Qb,Qh h]
theorem Qml(h:12≤a.Wc):U7 s a=s:=by
 rw[U7];rw[Qe Qb,Qe Qb,Qe Qb,Qe Qb,Qe Qb,Qe Qb,Qe Qb,Qe Qb]
end
theorem Zh3{js:List Jo}{j:Jo}(h:∀x∈js,x.id≠j.id):Xl (j.id:Int) (.agg (joC j).toArray) (js.map joE)=(js++[j]).map joE:=by
 induction js with
 | nil=>rfl
 | cons x l a=>
  have c:=h x Z0;simp only[Z7,Xl];rw[Qe Qb,a fun y b=>h y (Ym _ b)];rfl
abbrev acC(a:Ac):List Value:=[.int .u8 (a.Wc:Int),.int .u8 (a.n:Int),.int .u8 (a.tier:Int),.int .u8 (a.k:Int),.int .u8 (a.w:Int),.bool a.back,.bool a.fail]
structure Zes(a:Ac):Prop where
 d:a.Wc≤255
 n:a.n≤255
 t:a.tier≤255
 k:a.k≤255
 w:a.w≤255
set_option maxHeartbeats 1000000 in
theorem Q3o(p:Nat)(s:Sm)(a:Ac)(ha:Zes a)(a7:1≤s.nd.length)(aq:1≤s.cn)(ar:s.cn≤16)(z:(U7 s a).ok=true){W:World}(hW:Dx W):Spec Tryz.prog 20 [pt p,.agg (acC a).toArray] [SP p s,Wo W] fun D _ G=>G=SP p (U7 s a)::Wo W::D:=by
 obtain⟨a1,a2,a3,a4,a5⟩:=ha;obtain⟨T,c⟩:∃T,T=U7 s a:=⟨_,rfl⟩;rw[←c]at z ⊢;refine Zbd Tryz.func20 rfl Tryz.ntmps20 fun w0 D=>Zsh ?_;refine S.Hh p s fun b ps nv ns rb jb m o k l t r g=>?_;have E:=g.nn;refine S.Xn nv fun ah af ae=>?_;have ai:maxLen≤9223372036854775807:=by unfold maxLen;omega
 obtain⟨i,X⟩:∃i,i=a.n % nv.n:=⟨_,rfl⟩;have P:i<s.nd.length:=by rw[X,E];exact Qiz _ a7
 refine ZY 2 (Zp (S.box (cs:=[_,_,_,_,_,_,_]) rfl rfl rfl ?_));intro N;refine S.X7 N (acC a).toArray rfl (ZY 2 ?_);refine Zd0 (Zra 0 10) (ZY 2 ?_);refine Zw ef (Vu Tryz.it3.h (by rw[Tryz.underlying5];rfl) rfl (Xy Qb Qb)) (ZY 5 ?_);refine Zw ef (Rt rfl rfl (⟨Qb,Qb⟩)) (Zy ?_);refine ZD (Zy ?_)
 refine Zc (fun u w=>u=[(0,pt p),(3,pt N),(4,.int .i64 (i:Int))]∧w=SP p s::blk N 46 (acC a).toArray::Wo W::D) ?_ ?_
 ·refine ZY 8 (ZY 2 (S.Qs (Zb8 s.fu _) (S.Qs (Zb8 s.fu _) (S.X7 p (smC s b nv rb jb m o k l SV.nil SV.nil).toArray rfl (S.Xz p s b ps nv ns rb jb m o k l SV.nil SV.nil g ?_)))));rw[X];exact ZM ⟨rfl,rfl⟩
 ·rintro u w ⟨rfl,rfl⟩;rw[E]at X;refine ZY 8 (ZY 4 ?_)
  refine Zc (fun u w=>u=[(0,pt p),(3,pt N),(4,.int .i64 (i:Int)),(24,.int .u8 (a.Wc:Int)),(25,.bool (decide (a.Wc=0∨a.Wc=1)))]∧w=SP p s::blk N 46 (acC a).toArray::Wo W::D) ?_ ?_
  ·refine Zj ef (fun h1=>?_) (fun h1=>?_)
   ·refine Zy ?_;first|(rw[show decide (a.Wc=0∨a.Wc=1)=decide ((a.Wc:Int)=0) from Wn.2 Qb];exact S.meet ⟨rfl,rfl⟩ ⟨rfl,rfl,rfl,rfl,rfl,trivial⟩ Sub.Qs)|(rw[show decide (a.Wc=0∨a.Wc=1)=decide ((a.Wc:Int)=1) from Wn.2 Qb];exact S.meet ⟨rfl,rfl⟩ ⟨rfl,rfl,rfl,rfl,rfl,trivial⟩ Sub.Qs)
   ·refine ZY 4 ?_;first|(rw[show decide (a.Wc=0∨a.Wc=1)=decide ((a.Wc:Int)=0) from Wn.2 Qb];exact S.meet ⟨rfl,rfl⟩ ⟨rfl,rfl,rfl,rfl,rfl,trivial⟩ Sub.Qs)|(rw[show decide (a.Wc=0∨a.Wc=1)=decide ((a.Wc:Int)=1) from Wn.2 Qb];exact S.meet ⟨rfl,rfl⟩ ⟨rfl,rfl,rfl,rfl,rfl,trivial⟩ Sub.Qs)
  ·rintro u w ⟨rfl,rfl⟩
   refine Zj ef (fun h2=>?_) (fun h2=>?_)
   ·rw[Qbx h2]at c;refine ZY 2 ?_;refine Zp (Zc1 Ze (Qwp p s (Q3d (Qft (by rw[←c];exact z)).2) hW) ?_);rintro v G rfl;refine Zy ?_;exact Zfn ef Zq (by rw[c])
   ·refine ZY 5 ?_
    refine Zj ef (fun h3=>?_) (fun h3=>?_)
    ·have B:a.Wc=2:=Qb
     refine S.Hh p s fun b ps nv ns rb jb m o k l t r g=>?_;obtain⟨j,hj⟩:∃j:Jo,j=⟨s.next,a.tier % 4,1+a.k % s.cn,1+a.w % 20⟩:=⟨_,rfl⟩;have ao:=Int.emod_lt_of_pos (a.k:Int) (show (0:Int)<s.cn by omega);have al:=Qv8 (a.k:Int) (show (s.cn:Int)≠0 by omega);refine Zy ?_;refine Zd ([blk p 55 (smC s b nv rb jb m o k l t r).toArray,blk N 46 (acC a).toArray]) [] (Zra 0 23) (ZY 6 ?_);refine Zw ef (Rt rfl rfl (⟨Qb,Qb⟩)) (ZY 2 ?_);refine Zw ef (Vu Tryz.it3.h (by rw[Tryz.underlying5];rfl) rfl (Xy Qb Qb)) (ZY 5 ?_);refine Zw ef (Rt rfl rfl (⟨Qb,Qb⟩)) ?_;refine Zw ef (Za ef ef) (ZY 2 ?_);refine Zw ef (Rt rfl rfl (⟨Qb,Qb⟩)) ?_;refine Zw ef (Vu Tryz.it3.h (by rw[Tryz.underlying5];rfl) rfl (Xy Qb Qb)) ?_;refine Zw ef (Za ef ef) ?_;refine Zw ef (Ye (pvs:=[(_,_),(_,_),(_,_),(_,_)]) [_,_,_,_,_,_] Tryz.z35.h Tryz.p35.h ⟨⟨rfl,rfl⟩,⟨rfl,rfl⟩,⟨rfl,rfl⟩,⟨rfl,rfl⟩,trivial⟩ rfl) ?_;refine Z1 (i:=23) ef ef ?_;refine(S.alloc Tryz.z35.h rfl ?_);intro b5;refine Zk [] ?_;refine Z1 (i:=24) ef ef ?_;refine  (Zs ef ef (cs':=[_,_,_,_,_,_]) ef ?_);refine Zk [] ?_;refine ZD (ZY 2 ?_)
     rcases Nz s.Wy.length 20 with a0|a0
     ·refine S.X7 b5 (joC j).toArray (by rw[hj];rfl) ?_;rw[Qgc B a0,←hj]at c;have A:=z;rw[c,Rr,H3]at A;simp only[Z5]at A;obtain⟨⟨k1,V⟩,M⟩:=A;simp only[Qvc,Z5,Zz,Kn]at V;obtain⟨⟨⟨⟨⟨e1,e2⟩,e3⟩,e4⟩,e5⟩,e6⟩:=V;obtain⟨d,h⟩:∃d:Sm,d={Ri s j with ok:=s.ok&&Qvc s j&&tkB (Ri s j)}:=⟨_,rfl⟩;have y:Qbd d:=by rw[h];exact(Mn M).R9 _
      replace c:T=X5 d:=by rw[c,Rr,h]
      refine Zd ([blk p 55 (smC s b nv rb jb m o k l t r).toArray,blk b5 35 (joC j).toArray,Qz jb .u32 (s.Wy.map joE)]) [] (Zra 0 7) (ZY 7 ?_);refine Zu 61 true ef ((Zh (by rw[Qo];omega))) ?_;refine Zr (Zra 7 5) (ZY 5 ?_);refine Z1g (i:=12) ef ef ef ef ef (rfl) ?_;refine  (Zc1 Ze (Zgk b s.b ps j.id j.tier j.k j.w 0 0 0 (by rw[hj];show s.next≤_;omega) e1 e2 e3 e4) ?_);rintro v G ⟨I,rfl,rfl⟩;refine Zk [13,14] (ZY 2 ?_);refine ZD ?_
      refine Zj ef (fun h4=>?_) (fun h4=>?_)
      ·refine Zy ?_;refine Zd ([blk p 55 (smC s b nv rb jb m o k l t r).toArray,blk b5 35 (joC j).toArray]) [] (Zra 0 7) (ZY 7 ?_);refine Z1 (i:=7) ef ef ?_;refine(S.mapUpdate Tryz.underlying49 Tryz.underlying31 rfl rfl rfl rfl ?_);rw[Zh3 (fun x hx=>e5 x hx)];refine Zk [] ?_;refine ZD (ZY 5 (Zv (Za ef ef) (ZY 4 ?_)));have f:d={s with b:=(Ex s.b (Kl j.id j.tier j.k j.w 0 0)).2,Wy:=s.Wy++[j],next:=s.next+1,ok:=s.ok&&Qvc s j&&tkB (Ri s j)}:=by rw[h];simp only[Ri,Qh h4]
       refine S.X7 p (smC d b nv rb jb m o k l t r).toArray (by rw[f];rfl) ?_;refine S.sub (smX p d b I nv ns rb jb m o k l t r (Wo W::D)) (e:=by rw[f];infer_instance) ?_;refine S.Xz p d b I nv ns rb jb m o k l t r ⟨by rw[f];exact g.nd,by rw[f];exact g.nn,by rw[f];exact g.im⟩ (ZY 2 (Zp (Zc1 Ze (D7 p d y) ?_)));rintro v G rfl;refine Zy ?_;exact Zfn ef Zq (by rw[c])
      ·refine Zy ?_;have f:d={s with b:=(Ex s.b (Kl j.id j.tier j.k j.w 0 0)).2,ok:=s.ok&&Qvc s j&&tkB (Ri s j)}:=by rw[h];simp only[Ri,Qe h4]
       refine S.sub (smX p d b I nv ns rb jb m o k l t r (Wo W::D)) (e:=by rw[f];infer_instance) ?_;refine S.Xz p d b I nv ns rb jb m o k l t r ⟨by rw[f];exact g.nd,by rw[f];exact g.nn,by rw[f];exact g.im⟩ (ZY 2 (Zp (Zc1 Ze (D7 p d y) ?_)));rintro v G rfl;refine Zy ?_;exact Zfn ef Zq (by rw[c])
     ·refine S.X7 b5 (joC j).toArray (by rw[hj];rfl) ?_;rw[Qb0 B Qb]at c;have A:=z;rw[c,H3]at A;simp only[Z5]at A;obtain⟨k1,M⟩:=A;obtain⟨d,h⟩:∃d:Sm,d={s with ok:=s.ok&&tkB s}:=⟨_,rfl⟩;have y:Qbd d:=by rw[h];exact(Mn M).R9 _
      replace c:T=X5 d:=by rw[c,h]
      refine Zd ([blk p 55 (smC s b nv rb jb m o k l t r).toArray,blk b5 35 (joC j).toArray,Qz jb .u32 (s.Wy.map joE)]) [] (Zra 0 7) (ZY 7 ?_);refine Zu 61 false ef ((Q6 (by rw[Qo];omega))) ?_;refine Zr (Zra 7 8) (ZY 8 ?_);refine ZD (ZY 4 ?_);refine S.sub (smX p d b ps nv ns rb jb m o k l t r (Wo W::D)) (e:=by rw[h];infer_instance) ?_;refine S.Xz p d b ps nv ns rb jb m o k l t r ⟨by rw[h];exact g.nd,by rw[h];exact g.nn,by rw[h];exact g.im⟩ (Zp (Zc1 Ze (D7 p d y) ?_));rintro v G rfl;refine Zy ?_;exact Zfn ef Zq (by rw[c])
    ·refine ZY 5 ?_
     refine Zj ef (fun h5=>?_) (fun h5=>?_)
     ·have B:a.Wc=3:=Qb
      refine S.Hh p s fun b ps nv ns rb jb m o k l t r g=>?_;obtain⟨id,Y⟩:∃id,id=1+a.n % max s.next 1:=⟨_,rfl⟩;have ak:(a.n:Int) % ((max s.next 1:Nat):Int)=((a.n % max s.next 1:Nat):Int):=rfl;have aj:=Nat.mod_le a.n (max s.next 1);rw[Qgb B,←Y]at c;have A:=z;rw[c,Tu,H3]at A;simp only[Z5,Zz]at A;obtain⟨⟨k1,V⟩,M⟩:=A;obtain⟨d,h⟩:∃d:Sm,d={Qn8 s id with ok:=s.ok&&decide (s.b.Qd.length≤900000)&&tkB (Qn8 s id)}:=⟨_,rfl⟩;have y:Qbd d:=by rw[h];exact(Mn M).R9 _
      replace c:T=X5 d:=by rw[c,Tu,h]
      refine Zy ?_
      refine Zc (fun u w=>u=[(0,pt p),(6,.int .u32 (id:Int))]∧w=smX p s b ps nv ns rb jb m o k l t r (Wo W::D)) ?_ ?_
      ·refine Zd0 (Zra 0 11) (ZY 2 ?_);refine Zw ef (Vu Tryz.Zh4.h (by rw[Tryz.underlying5];rfl) rfl (Qx7 Qb Qb)) (ZY 4 ?_);refine Zw ef (Qd0 (((max s.next 1:Nat):Int)) rfl rfl Qb) ?_;refine Zw ef (Rt rfl rfl (⟨Qb,Qb⟩)) ?_;refine Zw ef (Za ef ef) (Zy ?_);refine ZD ?_;rw[Y];exact ZM ⟨rfl,rfl⟩
      ·rintro u w ⟨rfl,rfl⟩;refine ZY 8 (Zp (Zcp Ze (Q84 b s.b ps id V) (ZY 2 ?_)))
       refine Zj ef (fun h6=>?_) (fun h6=>?_)
       ·refine ZY 6 (Zp (S.mapUpdate Tryz.underlying50 Tryz.underlying31 rfl rfl rfl rfl ?_));rw[Tr];refine Zy ?_;have f:d={s with b:=(Xd s.b id).2,gone:=Xm s.gone id,ok:=s.ok&&decide (s.b.Qd.length≤900000)&&tkB (Qn8 s id)}:=by rw[h];simp only[Qn8,Qh h6]
        refine S.sub (smX p d b ps nv ns rb jb m o k l t r (Wo W::D)) (e:=by rw[f];infer_instance) ?_;refine S.Xz p d b ps nv ns rb jb m o k l t r ⟨by rw[f];exact g.nd,by rw[f];exact g.nn,by rw[f];exact g.im⟩ (ZY 2 (Zp (Zc1 Ze (D7 p d y) ?_)));rintro v G rfl;refine Zy ?_;exact Zfn ef Zq (by rw[c])
       ·refine Zy ?_;have f:d={s with b:=(Xd s.b id).2,ok:=s.ok&&decide (s.b.Qd.length≤900000)&&tkB (Qn8 s id)}:=by rw[h];simp only[Qn8,Qe h6]
        refine S.sub (smX p d b ps nv ns rb jb m o k l t r (Wo W::D)) (e:=by rw[f];infer_instance) ?_;refine S.Xz p d b ps nv ns rb jb m o k l t r ⟨by rw[f];exact g.nd,by rw[f];exact g.nn,by rw[f];exact g.im⟩ (ZY 2 (Zp (Zc1 Ze (D7 p d y) ?_)));rintro v G rfl;refine Zy ?_;exact Zfn ef Zq (by rw[c])
     ·refine ZY 5 ?_
      refine Zj ef (fun h7=>?_) (fun h7=>?_)
      ·have B:a.Wc=4:=Qb
       rw[Qby B,←X]at c;refine S.Hh p s fun b ps nv ns rb jb m o k l t r g=>?_;have E:=g.nn;obtain⟨n,O⟩:=Xs P;obtain⟨q,F⟩:=Qah g.nd O;refine S.Q7 nv Qb fun nb a6 U _ _ _=>(ZY 7 (Zv (Zx (i) ef (U) ef Qb) ?_));refine Zv (Zo (nv) (i) ef (U) (by rw[Q8,F];rfl)) ?_;refine ZY 4 (S.conv (alls ns noB) (Ent.U5 noB F _) ?_);refine S.E7 q n fun J L K rs os Q=>(ZY 5 ?_)
       refine Zi ef (fun h8=>?_) (fun h8=>?_)
       ·have C:n.up=true:=h8;rw[E5,O]at c;dsimp only at c;rw[Qh C]at c;have A:=z;rw[c,H3]at A;simp only[Z5,Zz]at A;obtain⟨⟨k1,V⟩,M⟩:=A;obtain⟨d,h⟩:∃d:Sm,d={Qkz s i n with ok:=s.ok&&decide (s.b.Qd.length≤800000)&&tkB (Qkz s i n)}:=⟨_,rfl⟩;have y:Qbd d:=by rw[h];exact(Mn (s:=Qkz s i n) M).R9 _
        rw[←h]at c;obtain⟨m1,m2⟩:=M7 F ⟨false,[],[],[],n.Qj⟩;rw[g.nd]at m2;refine ZY 3 (Zp (S.makeMap .u32 rfl ?_));intro H;refine ZY 4 ?_;refine Zv (Ye (pvs:=[(_,_),(_,_)]) [_,_,_,_,_] Tryz.z107.h Tryz.Zlg.h ⟨⟨rfl,rfl⟩,⟨rfl,rfl⟩,trivial⟩ rfl) (Zy (Zp (Zs ef ef (cs':=[_,_,_,_,_]) ef (ZY 8 (Zp (Zcp Ze (Zj2 b s.b ps i V) (S.U2 (blk q 107 #[.bool false,.map (some H),SV.nil.v,SV.nil.v,.bool n.Qj]) (Qz H .u32 []) (niE q H false n.Qj _) ?_)))))));refine S.X0 (noB ((q,⟨false,[],[],[],n.Qj⟩):No)) (alls (ns.take i) noB) (alls (ns.drop (i+1)) noB) (Ent.Xo noB (x':=((q,⟨false,[],[],[],n.Qj⟩):No)) F _) ?_;rw[←m1];refine S.sub (smX p d b ps nv (ns.set i (q,⟨false,[],[],[],n.Qj⟩)) rb jb m o k l t r (Wo W::D)) (e:=by rw[h];infer_instance) ?_;refine S.Xz p d b ps nv (ns.set i (q,⟨false,[],[],[],n.Qj⟩)) rb jb m o k l t r ⟨by rw[h];exact m2,by rw[h];show nv.n=(s.nd.set i _).length;rw[Xf];exact E,by rw[h];exact g.im⟩ (ZY 3 (Zp (Zc1 Ze (D7 p d y) ?_)));rintro v G rfl;refine Zy ?_;exact Zfn ef Zq (by rw[c])
       ·have C:n.up=false:=by simpa using h8
        rw[E5,O]at c;dsimp only at c;rw[Qe (by rw[C];decide)]at c;refine S.Yw q n J L K rs os Q (S.X0 (noB ((q,n):No)) (alls (ns.take i) noB) (alls (ns.drop (i+1)) noB) (Ent.Xk noB F _) (S.Xz p s b ps nv ns rb jb m o k l t r g (Zy ?_)));exact Zfn ef Zq (by rw[c])
      ·refine ZY 5 ?_
       refine Zj ef (fun h9=>?_) (fun h9=>?_)
       ·have B:a.Wc=5:=Qb
        rw[Qe4 B,←X]at c;refine S.Hh p s fun b ps nv ns rb jb m o k l t r g=>?_;have E:=g.nn;obtain⟨n,O⟩:=Xs P;obtain⟨q,F⟩:=Qah g.nd O;refine S.Q7 nv Qb fun nb a6 U _ _ _=>(ZY 7 (Zv (Zx (i) ef (U) ef Qb) ?_));refine Zv (Zo (nv) (i) ef (U) (by rw[Q8,F];rfl)) ?_;refine S.conv (alls ns noB) (Ent.U5 noB F _) ?_;refine S.E7 q n fun J L K rs os Q=>(ZY 5 ?_)
        refine Zi ef (fun R=>?_) (fun R=>?_)
        ·have C:n.up=false:=by simpa using R
         rw[Qb1,O]at c;dsimp only at c;rw[Qe (by rw[C];decide)]at c;have A:=z;rw[c,H3]at A;simp only[Z5]at A;obtain⟨k1,M⟩:=A;obtain⟨d,h⟩:∃d:Sm,d={up1 s i n with ok:=s.ok&&tkB (up1 s i n)}:=⟨_,rfl⟩;have y:Qbd d:=by rw[h];exact(Mn (s:=up1 s i n) M).R9 _
         rw[←h]at c;obtain⟨m1,m2⟩:=M7 F {n with up:=true};rw[g.nd]at m2;refine ZY 7 (Zv (Zx (i) ef (U) ef Qb) ?_);refine Zv (Zo (nv) (i) ef (U) (by rw[Q8,F];rfl)) ?_;refine ZY 8 (ZY 3 (Zp (Zcp Ze (Q14 b s.b ps i) ?_)));refine S.Yw q {n with up:=true} J L K rs os ⟨Q.rk,Q.os,Q.i,Q.o⟩ (S.X0 (noB ((q,{n with up:=true}):No)) (alls (ns.take i) noB) (alls (ns.drop (i+1)) noB) (Ent.Xo noB (x':=((q,{n with up:=true}):No)) F _) ?_);rw[←m1];refine S.sub (smX p d b ps nv (ns.set i (q,{n with up:=true})) rb jb m o k l t r (Wo W::D)) (e:=by rw[h];infer_instance) ?_;refine S.Xz p d b ps nv (ns.set i (q,{n with up:=true})) rb jb m o k l t r ⟨by rw[h];exact m2,by rw[h];show nv.n=(s.nd.set i _).length;rw[Xf];exact E,by rw[h];exact g.im⟩ (ZY 3 (Zp (Zc1 Ze (D7 p d y) ?_)));rintro v G rfl;refine Zy ?_;exact Zfn ef Zq (by rw[c])
        ·have C:n.up=true:=by simpa using R
         rw[Qb1,O]at c;dsimp only at c;rw[Qh C]at c;refine S.Yw q n J L K rs os Q (S.X0 (noB ((q,n):No)) (alls (ns.take i) noB) (alls (ns.drop (i+1)) noB) (Ent.Xk noB F _) (S.Xz p s b ps nv ns rb jb m o k l t r g (Zy ?_)));exact Zfn ef Zq (by rw[c])
       ·refine ZY 6 ?_
        refine Zc (fun u w=>u=[(0,pt p),(3,pt N),(4,.int .i64 (i:Int)),(24,.int .u8 (a.Wc:Int)),(171,.bool (decide (a.Wc=6∨a.Wc=7∨a.Wc=8∨a.Wc=9)))]∧w=SP p s::blk N 46 (acC a).toArray::Wo W::D) ?_ ?_
        ·refine Zj ef (fun ad=>?_) (fun ad=>?_)
         ·refine Zy ?_;first|(rw[show decide (a.Wc=6∨a.Wc=7∨a.Wc=8∨a.Wc=9)=decide ((a.Wc:Int)=6) from Wn.2 Qb];exact S.meet ⟨rfl,rfl⟩ ⟨rfl,rfl,rfl,rfl,rfl,trivial⟩ Sub.Qs)|(rw[show decide (a.Wc=6∨a.Wc=7∨a.Wc=8∨a.Wc=9)=decide ((a.Wc:Int)=7) from Wn.2 Qb];exact S.meet ⟨rfl,rfl⟩ ⟨rfl,rfl,rfl,rfl,rfl,trivial⟩ Sub.Qs)|(rw[show decide (a.Wc=6∨a.Wc=7∨a.Wc=8∨a.Wc=9)=decide ((a.Wc:Int)=8) from Wn.2 Qb];exact S.meet ⟨rfl,rfl⟩ ⟨rfl,rfl,rfl,rfl,rfl,trivial⟩ Sub.Qs)|(rw[show decide (a.Wc=6∨a.Wc=7∨a.Wc=8∨a.Wc=9)=decide ((a.Wc:Int)=9) from Wn.2 Qb];exact S.meet ⟨rfl,rfl⟩ ⟨rfl,rfl,rfl,rfl,rfl,trivial⟩ Sub.Qs)
         ·refine ZY 5 ?_
          refine Zj ef (fun ab=>?_) (fun ab=>?_)
          ·refine Zy ?_;first|(rw[show decide (a.Wc=6∨a.Wc=7∨a.Wc=8∨a.Wc=9)=decide ((a.Wc:Int)=6) from Wn.2 Qb];exact S.meet ⟨rfl,rfl⟩ ⟨rfl,rfl,rfl,rfl,rfl,trivial⟩ Sub.Qs)|(rw[show decide (a.Wc=6∨a.Wc=7∨a.Wc=8∨a.Wc=9)=decide ((a.Wc:Int)=7) from Wn.2 Qb];exact S.meet ⟨rfl,rfl⟩ ⟨rfl,rfl,rfl,rfl,rfl,trivial⟩ Sub.Qs)|(rw[show decide (a.Wc=6∨a.Wc=7∨a.Wc=8∨a.Wc=9)=decide ((a.Wc:Int)=8) from Wn.2 Qb];exact S.meet ⟨rfl,rfl⟩ ⟨rfl,rfl,rfl,rfl,rfl,trivial⟩ Sub.Qs)|(rw[show decide (a.Wc=6∨a.Wc=7∨a.Wc=8∨a.Wc=9)=decide ((a.Wc:Int)=9) from Wn.2 Qb];exact S.meet ⟨rfl,rfl⟩ ⟨rfl,rfl,rfl,rfl,rfl,trivial⟩ Sub.Qs)
          ·refine ZY 5 ?_
           refine Zj ef (fun aa=>?_) (fun aa=>?_)
           ·refine Zy ?_;first|(rw[show decide (a.Wc=6∨a.Wc=7∨a.Wc=8∨a.Wc=9)=decide ((a.Wc:Int)=6) from Wn.2 Qb];exact S.meet ⟨rfl,rfl⟩ ⟨rfl,rfl,rfl,rfl,rfl,trivial⟩ Sub.Qs)|(rw[show decide (a.Wc=6∨a.Wc=7∨a.Wc=8∨a.Wc=9)=decide ((a.Wc:Int)=7) from Wn.2 Qb];exact S.meet ⟨rfl,rfl⟩ ⟨rfl,rfl,rfl,rfl,rfl,trivial⟩ Sub.Qs)|(rw[show decide (a.Wc=6∨a.Wc=7∨a.Wc=8∨a.Wc=9)=decide ((a.Wc:Int)=8) from Wn.2 Qb];exact S.meet ⟨rfl,rfl⟩ ⟨rfl,rfl,rfl,rfl,rfl,trivial⟩ Sub.Qs)|(rw[show decide (a.Wc=6∨a.Wc=7∨a.Wc=8∨a.Wc=9)=decide ((a.Wc:Int)=9) from Wn.2 Qb];exact S.meet ⟨rfl,rfl⟩ ⟨rfl,rfl,rfl,rfl,rfl,trivial⟩ Sub.Qs)
           ·refine ZY 4 ?_;first|(rw[show decide (a.Wc=6∨a.Wc=7∨a.Wc=8∨a.Wc=9)=decide ((a.Wc:Int)=6) from Wn.2 Qb];exact S.meet ⟨rfl,rfl⟩ ⟨rfl,rfl,rfl,rfl,rfl,trivial⟩ Sub.Qs)|(rw[show decide (a.Wc=6∨a.Wc=7∨a.Wc=8∨a.Wc=9)=decide ((a.Wc:Int)=7) from Wn.2 Qb];exact S.meet ⟨rfl,rfl⟩ ⟨rfl,rfl,rfl,rfl,rfl,trivial⟩ Sub.Qs)|(rw[show decide (a.Wc=6∨a.Wc=7∨a.Wc=8∨a.Wc=9)=decide ((a.Wc:Int)=8) from Wn.2 Qb];exact S.meet ⟨rfl,rfl⟩ ⟨rfl,rfl,rfl,rfl,rfl,trivial⟩ Sub.Qs)|(rw[show decide (a.Wc=6∨a.Wc=7∨a.Wc=8∨a.Wc=9)=decide ((a.Wc:Int)=9) from Wn.2 Qb];exact S.meet ⟨rfl,rfl⟩ ⟨rfl,rfl,rfl,rfl,rfl,trivial⟩ Sub.Qs)
        ·rintro u w ⟨rfl,rfl⟩
         refine Zj ef (fun Z=>?_) (fun Z=>?_)
         ·rw[Qga Z,←X]at c;refine ZY 5 ?_;refine Zp (Zcp Ze (Qc3 p s i a.back P (by rw[←c];exact z)) (Zy ?_));exact Zfn ef Zq (by rw[c])
         ·refine ZY 5 ?_
          refine Zj ef (fun a9=>?_) (fun a9=>?_)
          ·rw[Qf9 Qb]at c;refine ZY 5 ?_;refine Zp (Zcp Ze (Qki p s (!a.fail) (by rw[←c];exact z)) (Zy ?_));exact Zfn ef Zq (by rw[c])
          ·refine ZY 5 ?_
           refine Zj ef (fun a8=>?_) (fun a8=>?_)
           ·rw[Qbz Qb]at c;refine ZY 2 ?_;refine Zp (Zc1 Ze (Qu1 p s (by rw[←c];exact z) hW) ?_);rintro v G rfl;refine Zy ?_;exact Zfn ef Zq (by rw[c])
           ·rw[Qml Qb]at c;refine Zy ?_;exact Zfn ef Zq (by rw[c])
structure NB(now:Nat)(n:Nd):Prop where
 i:∀x∈n.Yy,x.Yl≤255
 r:∀y∈n.rk,y.2.place≤255∧y.2.Kc≤now∧y.2.Jz≤now
 o:∀x∈n.out,x.1.Yl≤255∧x.1.Kc≤now∧x.1.Jz≤now∧x.2.length≤1000000
theorem NB.mono{a b:Nat}{n:Nd}(h:NB a n)(e:a≤b):NB b n:=⟨h.i,fun y c=>by have:=h.r y c;omega,fun x d=>by have:=h.o x d;omega⟩
theorem NB.act{now:Nat}{n:Nd}{x:Nt}(h:NB now n)(g:x.Yl≤255):NB now (Z9 n x):=by
 have c:∀ {k:Nat} {r:Rk},Yt k n.rk=some r→r.place≤255∧r.Kc≤now∧r.Jz≤now:=fun a=>h.r _ (Fc a)
 have e:∀ {y:Nt×List Int},(y.1.Yl≤255∧y.1.Kc≤now∧y.1.Jz≤now∧y.2.length≤1000000)→∀z∈n.out++[y],z.1.Yl≤255∧z.1.Kc≤now∧z.1.Jz≤now∧z.2.length≤1000000:=fun {y} d z b=>by
  rcases Xu.1 b with b|b
  ·exact h.o z b
  ·rw[Vd.1 b];exact d
 have f:∀ {k:Nat} {r:Rk},(r.place≤255∧r.Kc≤now∧r.Jz≤now)→∀y∈Wl k r n.rk,y.2.place≤255∧y.2.Kc≤now∧y.2.Jz≤now:=fun {k r} d y b=>by
  rcases Hk b with rfl|b
  ·exact d
  ·exact h.r y b
 unfold Z9
 split
 ·exact⟨h.i,f ⟨g,Xq _,Xq _⟩,e ⟨Xq _,Xq _,Xq _,Xq _⟩⟩
 split
 ·split
  ·exact⟨h.i,h.r,h.o⟩
  ·rename_i r a;exact⟨h.i,f ⟨(c a).1,Xq _,Xq _⟩,h.o⟩
 split
 ·split
  ·split
   ·exact h
   ·rename_i r a;exact⟨h.i,f ⟨(c a).1,(c a).2.1,(c a).2.2⟩,e ⟨Xq _,(c a).2.1,(c a).2.2,Xq _⟩⟩
  ·exact⟨h.i,h.r,e ⟨Xq _,Xq _,Xq _,Xq _⟩⟩
 split
 ·split
  ·exact⟨h.i,h.r,h.o⟩
  ·rename_i r a;exact⟨h.i,h.r,e ⟨(c a).1,Xq _,Xq _,by show 2≤1000000;omega⟩⟩
 split
 ·exact⟨h.i,fun y d=>h.r y (Ax d),e ⟨Xq _,Xq _,Xq _,Xq _⟩⟩
 ·exact h
theorem NB.tick{now:Nat}{n:Nd}(h:NB now n):NB (now+1) (Yg (now+1) n):=by
 have a:=h.mono (Qoi now);unfold Yg
 split
 ·split
  ·exact a
  ·rename_i r d;refine⟨a.i,fun y b=>?_,a.o⟩;have c:=a.r _ (Fc d)
   rcases Hk b with rfl|b
   ·refine⟨c.1,?_,Q1 _⟩;show (if r.Kc=0 then now+1 else r.Kc)≤now+1
    split
    ·exact Q1 _
    ·exact c.2.1
   ·exact a.r y b
 ·exact a
structure SB(s:Sm)(F T:Nat):Prop where
 gj:GJ s.b s.nd
 di:DI s.b s.done s.next
 now:s.b.now=s.now
 len:s.nd.length=s.cn
 c1:1≤s.cn
 c16:s.cn≤16
 jb:s.next=s.Wy.length+1
 jl:s.Wy.length≤20
 jid:∀j∈s.Wy,j.id<s.next
 jn:(s.Wy.map (·.id)).Nodup
 X4:∀x∈s.X4,x.2≤s.now
 nb:∀n∈s.nd,NB s.now n
 fl:∀n∈s.nd,n.Yy.length≤s.fu∧n.out.length≤s.fu
 im:s.Qf.length≤s.fu
 fu:s.fu≤F
 tm:s.now≤T
structure SI(s:Sm)(F T:Nat):Prop where
 sb:SB s F T
 ok:s.ok=true
 e1:s.b.Qd=[]
 e2:s.b.Qf=[]
 e3:s.b.done=[]
theorem SB.Dk{s:Sm}{F T:Nat}(h:SB s F T):s.b.js.length≤21:=by
 have d:(s.b.js.map (·.id)).Pairwise (· < ·):=Ww.2 h.gj.gi.bi.ok.Y4
 have c:=An d (N:=21) fun i b=>by
  obtain⟨x,a,rfl⟩:=Qq.1 b;have:=h.di.lt x a;have:=h.jb;have:=h.jl;omega
 rwa [Qo]at c
theorem Qfo{s:Sm}{F T:Nat}(h:SB s F T)(f:F≤100000000000)(e:s.b.Qd.length≤900000)(d:s.b.Qf.length≤900000)(c:s.b.done.length≤900000):tkB s=true:=by
 have b:=h.fu;simp only[tkB,Z5,Zz,Kn];exact⟨⟨⟨⟨⟨⟨⟨h.len,h.c1⟩,fun n a=>h.fl n a⟩,h.im⟩,Qb⟩,e⟩,d⟩,c⟩
theorem SB.ok_{s:Sm}{F T:Nat}(h:SB s F T)(o:Bool):SB {s with ok:=o} F T:=⟨h.gj,h.di,h.now,h.len,h.c1,h.c16,h.jb,h.jl,h.jid,h.jn,h.X4,h.nb,h.fl,h.im,h.fu,h.tm⟩
theorem Qe0{s:Sm}{F T d:Nat}(h:SB s F T)(p:s.ok=true)(z:s.b.Qd.length+s.b.Qf.length+s.b.done.length≤d):SI (X5 s) (F+d) T:=by
 have q:=D3 s.b.done (U0 s.nd s.b.Qd) s.done h.di.nd;have v:=Zad h.gj
 have k:∀o∈s.b.Qd,∃n,s.nd[o.1]?=some n∧n.up=true:=fun o u=>by
  have f:=h.gj.gi.dst o u;have y:=Nq h.gj.gi.bi f;obtain⟨n,c⟩:=Xs (show o.1<s.nd.length by rw[h.gj.gi.len];exact y);exact⟨n,c,(h.gj.gi.Au c).2 f⟩
 obtain⟨k1,t⟩:=Qad s.b.Qd s.nd k
 have key:∀m∈U0 s.nd s.b.Qd,∃n∈s.nd,∃i,m={n with Yy:=n.Yy++qOf s.b.Qd i}:=fun m j=>by
  obtain⟨i,f⟩:=Dg j;obtain⟨n,c⟩:=Xs (show i<s.nd.length by rw[←k1];exact(Yz.1 f).1);rw[t i n c]at f;exact⟨n,Yn c,i,(Hb f).symm⟩
 have l:∀i,(qOf s.b.Qd i).length≤s.b.Qd.length:=fun i=>by rw[qOf,Qo];exact Uw _ _
 have w:=h.fu
 have e:X5 s={s with b:={s.b with Qd:=[],Qf:=[],done:=[]},nd:=U0 s.nd s.b.Qd,done:=s.done++s.b.done,Qf:=s.Qf++(Vx s.b).1,fu:=s.fu+s.b.Qd.length+s.b.Qf.length+s.b.done.length}:=by
  unfold X5;simp only[q]
 rw[e]
 refine⟨⟨v,⟨h.di.Y4,by rw[X3];exact h.di.nd,fun id a=>h.di.Wo id (by rw[X3]at a;exact a),h.di.lt,fun id a=>h.di.ltd id (by rw[X3]at a;exact a),h.di.ag⟩,h.now,k1.trans h.len,h.c1,h.c16,h.jb,h.jl,h.jid,h.jn,h.X4,fun m j=>?_,fun m j=>?_,?_,?_,h.tm⟩,p,rfl,rfl,rfl⟩
 ·obtain⟨n,c,i,rfl⟩:=key m j;have r:=h.nb n c;refine⟨fun x g=>?_,r.r,r.o⟩
  rcases Xu.1 g with g|g
  ·exact r.i x g
  ·exact h.gj.ork _ (Fg.1 g)
 ·obtain⟨n,c,i,rfl⟩:=key m j;obtain⟨C,B⟩:=h.fl n c;have:=l i
  refine⟨?_,?_⟩
  ·show (n.Yy++qOf s.b.Qd i).length≤s.fu+s.b.Qd.length+s.b.Qf.length+s.b.done.length;rw[Yd];omega
  ·show n.out.length≤s.fu+s.b.Qd.length+s.b.Qf.length+s.b.done.length;omega
 ·show (s.Qf++(Vx s.b).1).length≤s.fu+s.b.Qd.length+s.b.Qf.length+s.b.done.length;have A:(Vx s.b).1.length≤s.b.Qf.length:=Uw _ _;have:=h.im;rw[Yd];omega
 ·show s.fu+s.b.Qd.length+s.b.Qf.length+s.b.done.length≤F+d;omega
theorem SI.mono{s:Sm}{F T b a:Nat}(h:SI s F T)(d:F≤b)(c:T≤a):SI s b a:=
 ⟨⟨h.sb.gj,h.sb.di,h.sb.now,h.sb.len,h.sb.c1,h.sb.c16,h.sb.jb,h.sb.jl,h.sb.jid,h.sb.jn,h.sb.X4,h.sb.nb,h.sb.fl,h.sb.im,Up h.sb.fu d,Up h.sb.tm c⟩,h.ok,h.e1,h.e2,h.e3⟩
theorem Q8j{b:Br}{nd:List Nd}(h:GJ b nd):Qlk nd=true:=Kn.2 fun n d=>by
 obtain⟨i,c⟩:=Dg d;cases a:n.up with
 | true=>exact Q8k (h.gi.node i n c a).kn (h.gi.node i n c a).one
 | false=>rw[(h.gi.off i n c a).1];rfl
theorem Zet{b:Br}(h:BrI b never):Ba b:=fun x a e=>((h.j x a).q e).2.2.1
theorem Zgm{b:Br}(h:Ba b):wsB b=true:=Kn.2 fun x a=>by
 rw[E2,Zz]
 by_cases e:x.state=0
 ·exact .inr (by rw[h x a e];rfl)
 ·exact .inl e
theorem Zg9{s:Sm}(l:List Nd){k:Nat}(b:(s.Wy.map (·.id)).Nodup)(h:∀x∈s.X4,x.2≤k):∀x∈Qgp s l,x.2≤k+1:=by
 have key:∀(js:List Jo) (r:List (Nat×Nat)),(js.map (·.id)).Nodup→(∀x∈r,x.2≤k+1)→(∀j∈js,V6 j.id r≤k)→∀x∈js.foldl (fun r j=>if T5 l j then Wl j.id (V6 j.id r+1) r else r) r,x.2≤k+1:=by
  intro js;induction js with
  | nil=>exact fun _ _ h _=>h
  | cons j js g=>
   intro r b f d;rw[Z7,Vz]at b;have n:=d j (Z0 ..);rw[Mi]
   refine g _ b.2 ?_ fun i c=>?_
   ·split
    ·intro x a
     rcases Hk a with rfl|a
     ·show V6 j.id r+1≤k+1;omega
     ·exact f x a
    ·exact f
   ·have m:i.id≠j.id:=fun e=>b.1 (Qq.2 ⟨i,c,e⟩)
    split
    ·rw[Qcd,Qe m];exact d i (Ym _ c)
    ·exact d i (Ym _ c)
 exact key s.Wy s.X4 b (fun x a=>Q88 (h x a)) fun j _=>Qqe h j.id
theorem Zab{s:Sm}{F T:Nat}(h:SI s F T)(v:F≤99999000000)(u:T+1≤4294967295):SI (Y2 s) (F+80000) (T+1):=by
 have a:=h.sb;have t:=a.tm
 have r:stB s=true:=by
  simp only[stB,Z5,Zz,Kn];refine⟨⟨⟨⟨⟨⟨⟨Qfo a Qb (by rw[h.e1];exact Xq _) (by rw[h.e2];exact Xq _) (by rw[h.e3];exact Xq _),Qb⟩,Q8j a.gj⟩,Q8j (D1 a.gj (s.now+1))⟩,Zgm (Zet a.gj.gi.bi)⟩,by rw[h.e1];exact Xq _⟩,a.c16⟩,fun x k=>a.X4 x k⟩
 have i:=Qex (D1 a.gj (s.now+1)) (now:=s.now+1) Qb;obtain⟨q,p,o⟩:=Qey a.di (now:=s.now+1) (by rw[a.now];omega) i.gi.bi.ok.Y4;obtain⟨_,g⟩:=Qfp a.gj.gi.bi.ok (Zet a.gj.gi.bi) (now:=s.now+1) Qb;have j:=Sm3.tick s.b (s.now+1);have q1:=j.im;have q2:=j.dn;rw[h.e1]at g;rw[h.e2]at q1;rw[h.e3]at q2;simp only[Dd]at g q1 q2
 have e:Y2 s=X5 {s with now:=s.now+1,X4:=Qgp s (s.nd.map (Yg (s.now+1))),b:=(Y7 s.b (s.now+1)).2,nd:=s.nd.map (Yg (s.now+1)),ok:=s.ok&&stB s}:=by
  unfold Y2;dsimp only;rw[Qe (by rw[o];exact fun e=>e rfl)]
 rw[e]
 have l:SB {s with now:=s.now+1,X4:=Qgp s (s.nd.map (Yg (s.now+1))),b:=(Y7 s.b (s.now+1)).2,nd:=s.nd.map (Yg (s.now+1)),ok:=s.ok&&stB s} F (T+1):=by
  refine⟨i,q,p,by show (s.nd.map _).length=_;rw[Qo];exact a.len,a.c1,a.c16,a.jb,a.jl,a.jid,a.jn,Zg9 (s:=s) (s.nd.map (Yg (s.now+1))) a.jn a.X4,fun n c=>?_,fun n c=>?_,a.im,a.fu,by show s.now+1≤_;omega⟩
  ·obtain⟨m,f,rfl⟩:=Qq.1 c;exact(a.nb m f).tick
  ·obtain⟨m,f,rfl⟩:=Qq.1 c;obtain⟨_,e2,e3,_⟩:=Kq (s.now+1) m;rw[e2,e3];exact a.fl m f
 refine(Qe0 (d:=70000) l (by show (s.ok&&stB s)=true;rw[h.ok,r];rfl) ?_).mono Qb (Q1 _);show (Y7 s.b (s.now+1)).2.Qd.length+(Y7 s.b (s.now+1)).2.Qf.length+(Y7 s.b (s.now+1)).2.done.length≤_;omega
theorem Q60{b:Br}(h:Yu b)(n:Int){t:Nt}(e:t.Kc≤4294967295∧t.Jz≤4294967295)(d:List Int):(X6 b n t d).2.Qd.length≤b.Qd.length+16*b.js.length:=by
 unfold X6
 split
 ·exact U6 _ _
 split
 ·show (Ut b n.toNat t).Qd.length≤_
  by_cases a:n.toNat∈b.stops.getD []∧b.Qn=true∧t.gen=b.gen
  ·rw[Cl a.1 a.2.1 a.2.2];have c:=Lc (Q4z h n.toNat e) n.toNat
   have f:(Fb b n.toNat t).js.length=b.js.length:=by
    unfold Fb
    split
    ·rfl
    ·split
     ·rfl
     ·split
      ·exact G8 _ _
      ·rfl
   rw[Qkp,f]at c;exact c
  ·rw[J7 a];exact U6 _ _
 ·cases j:Qk b.js t.Qu with
  | none=>exact U6 _ _
  | some x=>
   simp only
   split
   ·have:(U8 b x n.toNat t d).Qd=b.Qd:=by
     unfold U8
     split
     ·split <;> rfl
     split
     ·unfold Ky;cases g:x.Xg with
      | none=>rfl
      | some s=>
       cases i:Kp x.at_ n.toNat with
       | none=>rfl
       | some r=>
        simp only
        split
        ·rfl
        ·split <;> rfl
     split
     ·split
      ·rfl
      ·exact(Gp _ _).1
     ·rfl
    rw[this];exact U6 _ _
   ·exact U6 _ _
theorem Be{nd:List Nd}{i:Nat}{a m:Nd}(h:m∈nd.set i a):m=a∨m∈nd:=(Qvt h).symm
theorem Qy1(n:Nd)(x:Nt):(Z9 n x).out.length≤n.out.length+1:=by
 have a:∀y:Nt×List Int,(n.out++[y]).length≤n.out.length+1:=fun y=>by rw[Yd,Y0];exact Q1 _
 have h0:=Qoi n.out.length;unfold Z9
 split
 ·exact a _
 split
 ·split <;> exact h0
 split
 ·split
  ·split
   ·exact h0
   ·exact a _
  ·exact a _
 split
 ·split
  ·exact h0
  ·exact a _
 split
 ·exact a _
 ·exact h0
theorem Quv{s:Sm}{F T:Nat}(h:SI s F T)(O:F≤99999000000)(N:T≤4294967295)(i:Nat)(back:Bool):SI (Q3 s i back).2 (F+1000) T:=by
 have k:=h.mono (U6 F 1000) (Q1 T);have a:=h.sb;have L:=a.tm;have K:=Qfo a Qb (by rw[h.e1];exact Xq _) (by rw[h.e2];exact Xq _) (by rw[h.e3];exact Xq _);unfold Q3;cases j:s.nd[i]? with
 | none=>exact k
 | some n=>
  simp only;have J:=Yn j;have c:=a.nb n J;obtain⟨I,M⟩:=a.fl n J
  by_cases f:n.up=false
  ·rw[Qh f];exact k
  ·have q:n.up=true:=by simpa using f
   rw[Qe f];cases back with
   | true=>
    rw[Qh rfl]
    split
    ·exact k
    ·rename_i x l g;have C:=c.o x (by rw[g];exact Z0 ..);have e:x.1.Kc≤4294967295∧x.1.Jz≤4294967295:=⟨Qb,Qb⟩;have E:=Qyf a.gj j q g e;have D:=Qx3 s.b i x.1 x.2
     have G:SB (Ga s i n x l) F T:=by
      refine⟨E,a.di.jr D E.gi.bi.ok.Y4,(D a.di.ag).1.2.trans a.now,by show (s.nd.set i _).length=_;rw[Xf];exact a.len,a.c1,a.c16,a.jb,a.jl,a.jid,a.jn,a.X4,fun m b=>?_,fun m b=>?_,a.im,a.fu,a.tm⟩
      ·rcases Be b with rfl|b
       ·exact⟨c.i,c.r,fun y p=>c.o y (by rw[g];exact Ym _ p)⟩
       ·exact a.nb m b
      ·rcases Be b with rfl|b
       ·rw[g,Ka]at M;exact⟨I,by show l.length≤s.fu;omega⟩
       ·exact a.fl m b
     have B:=Q60 a.gj.gi.bi.ok i e x.2;have A:=Sm3.hear s.b i x.1 x.2;have z:=A.im;have w:=A.dn;have P:=a.Dk;rw[h.e1]at B;rw[h.e2]at z;rw[h.e3]at w;simp only[Dd]at B z w
     have r:ntB x=true:=by
      simp only[ntB,Z5,Zz];exact⟨⟨⟨C.1,e.1⟩,e.2⟩,C.2.2.2⟩
     have v:=Qfo G Qb (by show (X6 s.b i x.1 x.2).2.Qd.length≤_;omega) (by show (X6 s.b i x.1 x.2).2.Qf.length≤_;omega) (by show (X6 s.b i x.1 x.2).2.done.length≤_;omega)
     refine(Qe0 (d:=1000) (G.ok_ _) ?_ ?_)
     ·show (s.ok&&ntB x&&tkB s&&decide (s.b.Qd.length≤800000)&&decide (s.b.Qf.length≤800000)&&tkB (Ga s i n x l))=true;rw[h.ok,r,K,v,h.e1,h.e2];rfl
     ·show (X6 s.b i x.1 x.2).2.Qd.length+(X6 s.b i x.1 x.2).2.Qf.length+(X6 s.b i x.1 x.2).2.done.length≤_;omega
   | false=>
    rw[Qe Qp]
    split
    ·exact k
    ·rename_i x l o;have H:=a.gj.gi.node i n j q;have u:NB s.now {n with Yy:=l}:=⟨fun y p=>c.i y (by rw[o];exact Ym _ p),c.r,c.o⟩;have t:=Qy1 {n with Yy:=l} x
     refine⟨⟨Zjv a.gj j q o,a.di,a.now,by show (s.nd.set i _).length=_;rw[Xf];exact a.len,a.c1,a.c16,a.jb,a.jl,a.jid,a.jn,a.X4,fun m b=>?_,fun m b=>?_,Q88 a.im,by show s.fu+1≤_;have:=a.fu;omega,a.tm⟩,?_,h.e1,h.e2,h.e3⟩
     ·rcases Be b with rfl|b
      ·exact u.act (c.i x (by rw[o];exact Z0 ..))
      ·exact a.nb m b
     ·rcases Be b with rfl|b
      ·rw[o,Ka]at I;rw[(S6 _ _).2];refine⟨by show l.length≤s.fu+1;omega,?_⟩;show _≤s.fu+1;exact Up t (by show n.out.length+1≤_;omega)
      ·obtain⟨q1,q2⟩:=a.fl m b;exact⟨by show _≤s.fu+1;omega,by show _≤s.fu+1;omega⟩
     ·show (s.ok&&amB n.rk&&tkB s)=true;rw[h.ok,Q8k H.kn H.one,K];rfl
theorem Qtk{s:Sm}{F T:Nat}(h:SI s F T)(q:F≤99999000000)(o:Bool):SI (Yi s o).2 (F+1000) T:=by
 have a:=h.sb;have m:=Qfo a Qb (by rw[h.e1];exact Xq _) (by rw[h.e2];exact Xq _) (by rw[h.e3];exact Xq _);unfold Yi
 split
 ·exact h.mono (U6 F 1000) (Q1 T)
 ·rename_i x l k;have i:=T7 a.gj x.Qu x.ver o;have j:SB (M3 s x l o) F T:=⟨i,T8 a.di _ _ _ i.gi.bi.ok.Y4,(Qjk a.di.ag _ _ _).trans a.now,a.len,a.c1,a.c16,a.jb,a.jl,a.jid,a.jn,a.X4,a.nb,a.fl,by have:=a.im;rw[k,Ka]at this;show l.length≤s.fu;omega,a.fu,a.tm⟩;have g:=Sm3.published s.b x.Qu x.ver o;have f:=g.im;have e:=g.dn
  have n:(Q5 s.b x.Qu x.ver o).2.Qd.length≤16:=by
   unfold Q5;cases b:Qk s.b.js x.Qu with
   | none=>rw[h.e1];exact Xq _
   | some y=>
    simp only
    split
    ·rw[h.e1];exact Xq _
    ·split
     ·rw[h.e1];exact Xq _
     ·rename_i z _ _;have k1:=(Qnz s.b {y with Qg:=if o then z.Qg else y.Qg,Xg:=none}).1;have p:=Up (a.gj.gi.bi.ok.Qu y (Qi b).1).len a.gj.gi.bi.ok.Ra;rw[h.e1]at k1;simp only[Dd]at k1;exact Up k1 (by show 0+y.at_.length≤16;omega)
  rw[h.e2]at f;rw[h.e3]at e;simp only[Dd]at f e;have c:=Qfo j Qb (by show (Q5 s.b x.Qu x.ver o).2.Qd.length≤_;omega) (by show (Q5 s.b x.Qu x.ver o).2.Qf.length≤_;omega) (by show (Q5 s.b x.Qu x.ver o).2.done.length≤_;omega)
  refine Qe0 (d:=1000) (j.ok_ _) ?_ ?_
  ·show (s.ok&&tkB s&&decide (s.b.Qd.length≤800000)&&decide (s.b.done.length≤800000)&&tkB (M3 s x l o))=true;rw[h.ok,m,c,h.e1,h.e3];rfl
  ·show (Q5 s.b x.Qu x.ver o).2.Qd.length+(Q5 s.b x.Qu x.ver o).2.Qf.length+(Q5 s.b x.Qu x.ver o).2.done.length≤_;omega
theorem Qax{s t:Sm}{F T d:Nat}(h:SI s F T)(j:F≤99999000000)(i:d≤1000)(c:SB t F T)(_:t.ok=s.ok)(a:t.b.Qd.length+t.b.Qf.length+t.b.done.length≤d):tkB s=true∧tkB t=true∧∀o:Bool,o=true→SI (X5 {t with ok:=o}) (F+d) T:=by
 have f:=h.sb;have g:=Qfo f Qb (by rw[h.e1];exact Xq _) (by rw[h.e2];exact Xq _) (by rw[h.e3];exact Xq _);have b:=Qfo c Qb Qb Qb Qb;exact⟨g,b,fun o e=>Qe0 (c.ok_ o) e a⟩
theorem Zju{s:Sm}{F T:Nat}(h:SI s F T)(V:F≤99000000000)(P:s.Wy.length<20)(tier k w:Nat):SI (Rr s ⟨s.next,tier % 4,1+k % s.cn,1+w % 20⟩) (F+1000) T:=by
 have d:=h.sb;have K:=d.jb;have M:=d.c1;have I:=Qiz k (show 0<s.cn by omega);have H:s.b.nodes=s.cn:=d.gj.gi.len.symm.trans d.len;obtain⟨j,o⟩:∃j:Jo,j=⟨s.next,tier % 4,1+k % s.cn,1+w % 20⟩:=⟨_,rfl⟩;rw[←o];have G:j.id=s.next:=by rw[o]
 have U:j.tier≤3:=by rw[o];show tier % 4≤3;omega
 have S:1≤j.k∧j.k≤s.cn:=by rw[o];exact⟨U6 _ _,by show 1+k % s.cn≤_;omega⟩
 have R:1≤j.w∧j.w≤20:=by rw[o];exact⟨U6 _ _,by show 1+w % 20≤_;omega⟩
 obtain⟨x,m⟩:∃x,x=Kl j.id j.tier j.k j.w 0 0:=⟨_,rfl⟩;have Q:x.id=s.next:=by rw[m];exact G
 have D:x.Qg<x.w:=by rw[m];show 0<j.w;omega
 have E:x.done=false:=by rw[m]
 have n:Ey s.b x=true:=by
  rw[m];simp only[Ey,Z5,Zz];exact⟨⟨⟨⟨⟨⟨Qb,Qb⟩,Qb⟩,Qb⟩,Qb⟩,Qb⟩,Qb⟩
 have u:Qk s.b.js x.id=none:=by
  cases q:Qk s.b.js x.id with
  | none=>rfl
  | some y=>
   obtain⟨g1,g2⟩:=Qi q;have:=d.di.lt y g1;omega
 have W:=d.Dk;have J:=d.jl;have C:=P2 d.gj.gi.bi.ok.Y4 (Kb u);have p:=Qcx (x:=x) d.gj.gi.bi.ok.Y4 u;have q:Qk (H8 s.b x).js x.id=some x:=by rw[show (H8 s.b x).js=Hg x s.b.js from rfl,p,Qh rfl]
 have L:Yj (H8 s.b x) x=H8 s.b x:=by
  rw[Yj,Qh (.inl D)];show ({H8 s.b x with js:=Xe (Hg x s.b.js) x}:Br)=H8 s.b x;rw[show Xe (Hg x s.b.js) x=Hg x s.b.js from ?_];refine(De fun y g=>?_).trans (List.map_id' _)
  split
  ·rename_i e;have:=Ys C g;rw[e,show Qk (Hg x s.b.js) x.id=some x from q]at this;exact Hb this
  ·rfl
 have l:Ex s.b (Kl j.id j.tier j.k j.w 0 0)=(0,H8 s.b x):=by
  rw[←m,Ex,Qe (by rw[n];decide),u];show (if (none:Option Bj).isSome=true then _ else _)=_;rw[Qe Qp];show ((0:Int),Yj (H8 s.b x) x)=_;rw[L]
 have B:=Q8p d.gj (id:=j.id) (tier:=j.tier) (k:=j.k) (w:=j.w) Qb Qb;rw[l]at B
 have e1:Ri s j={s with b:=H8 s.b x,Wy:=s.Wy++[j],next:=s.next+1}:=by
  unfold Ri;rw[l];rfl
 have r:DI (H8 s.b x) s.done (s.next+1):=by
  refine⟨C,d.di.nd,fun id i z f=>?_,fun z f=>?_,fun id i=>Qvo (d.di.ltd id i),fun z f e=>?_⟩
  ·rw[show (H8 s.b x).js=Hg x s.b.js from rfl,p]at f
   split at f
   ·rename_i e;have:=d.di.ltd id i;omega
   ·exact d.di.Wo id i z f
  ·rcases Ks.1 (show z∈Hg x s.b.js from f) with rfl|f
   ·omega
   ·exact Qvo (d.di.lt z f)
  ·rcases Ks.1 (show z∈Hg x s.b.js from f) with rfl|f
   ·rw[E]at e;cases e
   ·exact d.di.ag z f e
 have A:∀y∈s.Wy,y.id≠j.id:=fun y g e=>by have:=d.jid y g;omega
 have N:SB (Ri s j) F T:=by
  rw[e1]
  refine⟨B,r,d.now,d.len,d.c1,d.c16,?_,?_,fun y g=>?_,?_,d.X4,d.nb,d.fl,d.im,d.fu,d.tm⟩
  ·show s.next+1=(s.Wy++[j]).length+1;rw[Yd,Y0];omega
  ·show (s.Wy++[j]).length≤20;rw[Yd,Y0];omega
  ·show y.id<s.next+1
   rcases Xu.1 g with g|g
   ·exact Qvo (d.jid y g)
   ·rw[Vd.1 g];omega
  ·show ((s.Wy++[j]).map (·.id)).Nodup;rw[Vc];refine Qjd.2 ⟨d.jn,Vz.2 ⟨Q2,Fo⟩,fun a O c v e=>?_⟩;obtain⟨y,g,rfl⟩:=Qq.1 O;rw[List.map_singleton,Vd]at v;exact A y g (e.trans v)
 have f:(Ri s j).b.Qd.length+(Ri s j).b.Qf.length+(Ri s j).b.done.length≤1000:=by
  rw[e1];show s.b.Qd.length+s.b.Qf.length+s.b.done.length≤1000;rw[h.e1,h.e2,h.e3];decide
 obtain⟨q1,q2,q3⟩:=Qax h Qb (Q1 _) N (by rw[e1]) f;refine q3 _ ?_
 have t:Qvc s j=true:=by
  simp only[Qvc,Z5,Zz,Kn];exact⟨⟨⟨⟨⟨by rw[←m];exact n,Qb⟩,by rw[h.e1];exact Xq _⟩,by rw[h.e3];exact Xq _⟩,fun y g=>A y g⟩,Qb⟩
 rw[h.ok,t,q2];rfl
theorem Zjo{s:Sm}{F T:Nat}(h:SI s F T)(k:F≤99000000000)(id:Nat):SI (Tu s id) (F+1000) T:=by
 have a:=h.sb;have c:=Qli a.gj id;have b:=Qk2 s.b id;have g:SB (Qn8 s id) F T:=⟨c,a.di.jr b c.gi.bi.ok.Y4,(b a.di.ag).1.2.trans a.now,a.len,a.c1,a.c16,a.jb,a.jl,a.jid,a.jn,a.X4,a.nb,a.fl,a.im,a.fu,a.tm⟩;have f:=Sm3.cancel s.b id;have e:=f.im;have d:=f.dn;rw[h.e2]at e;rw[h.e3]at d;simp only[Dd]at e d
 have i:(Xd s.b id).2.Qd.length≤16:=by
  unfold Xd;cases c:Qk s.b.js id with
  | none=>rw[h.e1];exact Xq _
  | some x=>
   simp only;have k1:=(Co s.b x false).1;have j:=Up (a.gj.gi.bi.ok.Qu x (Qi c).1).len a.gj.gi.bi.ok.Ra;rw[h.e1]at k1;simp only[Dd]at k1
   split
   ·show (Wd s.b x false).Qd.length≤16;omega
   ·split
    ·show s.b.Qd.length≤16;rw[h.e1];exact Xq _
    ·show s.b.Qd.length≤16;rw[h.e1];exact Xq _
 obtain⟨q1,q2,q3⟩:=Qax h Qb (Q1 _) g rfl (by show (Xd s.b id).2.Qd.length+(Xd s.b id).2.Qf.length+(Xd s.b id).2.done.length≤1000;omega);exact q3 _ (by rw[h.ok,q2,h.e1];rfl)
theorem Q5j{b:Br}(h:Yu b)(n:Int):(Kh b n).2.Qd.length≤b.Qd.length+32*b.js.length:=by
 by_cases a:Vh b n true≠0
 ·rw[Qky a];exact U6 _ _
 ·have e:=Qe6 (W7 a);obtain⟨k,rfl⟩:∃k:Nat,n=k:=⟨n.toNat,Qb⟩;rw[M9 a];have h0:=Qhp h k;have d:=Qie (Q5l k) h0;have l:(Zt (each (Xw k) (Wq b k) b.ids) k).Qd.length≤(each (Xw k) (Wq b k) b.ids).Qd.length+16*(each (Xw k) (Wq b k) b.ids).js.length:=Lc (Qa2 (Q5l k) h0) k
  have j:(each (Xw k) (Wq b k) b.ids).js.length≤b.js.length:=by
   have:=(Sm3.each (f:=Xw k) (fun c x=>by
    unfold Xw
    split
    ·split
     ·exact .drop c x true
     ·exact .gone c _
    ·exact .refl c) b.ids (Wq b k)).js
   exact this
  have i:(Wq b k).Qd.length≤b.Qd.length:=Uw _ _;have g:(each (Xw k) (Wq b k) b.ids).Qd.length≤(Wq b k).Qd.length+16*b.js.length:=d;show (Zt (each (Xw k) (Wq b k) b.ids) k).Qd.length≤_;omega
theorem Zca{s:Sm}{F T:Nat}(h:SI s F T)(r:F≤99000000000)(i:Nat):SI (E5 s i) (F+1000) T:=by
 have l:=h.mono (U6 F 1000) (Q1 T);have a:=h.sb;unfold E5;cases p:s.nd[i]? with
 | none=>exact l
 | some n=>
  simp only
  by_cases d:n.up=true
  ·rw[Qh d];have o:=Qni a.gj p d;have c:=Qx2 s.b i
   have q:SB (Qkz s i n) F T:=by
    refine⟨o,a.di.jr c o.gi.bi.ok.Y4,(c a.di.ag).1.2.trans a.now,by show (s.nd.set i _).length=_;rw[Xf];exact a.len,a.c1,a.c16,a.jb,a.jl,a.jid,a.jn,a.X4,fun m b=>?_,fun m b=>?_,a.im,a.fu,a.tm⟩
    ·rcases Be b with rfl|b
     ·exact⟨fun _ k=>(by cases k),fun _ k=>(by cases k),fun _ k=>(by cases k)⟩
     ·exact a.nb m b
    ·rcases Be b with rfl|b
     ·exact⟨Xq _,Xq _⟩
     ·exact a.fl m b
   have j:=Q5j a.gj.gi.bi.ok i;have g:=Sm3.lost s.b i;have f:=g.im;have e:=g.dn;have t:=a.Dk;rw[h.e1]at j;rw[h.e2]at f;rw[h.e3]at e;simp only[Dd]at j f e;obtain⟨q1,q2,q3⟩:=Qax h Qb (Q1 _) q rfl (by show (Kh s.b i).2.Qd.length+(Kh s.b i).2.Qf.length+(Kh s.b i).2.done.length≤1000;omega);exact q3 _ (by rw[h.ok,q2,h.e1];rfl)
  ·rw[Qe d];exact l
theorem Ql4(b:Br)(n:Int):(Ja b n).2.js=b.js∧(Ja b n).2.done=b.done∧(Ja b n).2.now=b.now∧(Ja b n).2.Qd=b.Qd∧(Ja b n).2.Qf=b.Qf:=by
 unfold Ja
 split
 ·exact⟨rfl,rfl,rfl,rfl,rfl⟩
 ·exact⟨rfl,rfl,rfl,rfl,rfl⟩
theorem Zky{s:Sm}{F T:Nat}(h:SI s F T)(r:F≤99000000000)(i:Nat):SI (Qb1 s i) (F+1000) T:=by
 have j:=h.mono (U6 F 1000) (Q1 T);have a:=h.sb;unfold Qb1;cases g:s.nd[i]? with
 | none=>exact j
 | some n=>
  simp only
  by_cases d:n.up=true
  ·rw[Qh d];exact j
  ·rw[Qe d];have k:=Q2z a.gj g (by simpa using d);obtain⟨p,f,e,o,l⟩:=Ql4 s.b i;have c:=Yn g
   have q:SB (up1 s i n) F T:=by
    refine⟨k,a.di.jr (.same p f e) k.gi.bi.ok.Y4,e.trans a.now,by show (s.nd.set i _).length=_;rw[Xf];exact a.len,a.c1,a.c16,a.jb,a.jl,a.jid,a.jn,a.X4,fun m b=>?_,fun m b=>?_,a.im,a.fu,a.tm⟩
    ·rcases Be b with rfl|b
     ·exact⟨(a.nb n c).i,(a.nb n c).r,(a.nb n c).o⟩
     ·exact a.nb m b
    ·rcases Be b with rfl|b
     ·exact a.fl n c
     ·exact a.fl m b
   obtain⟨q1,q2,q3⟩:=Qax h Qb (Q1 _) q rfl (by show (Ja s.b i).2.Qd.length+(Ja s.b i).2.Qf.length+(Ja s.b i).2.done.length≤1000;rw[o,l,f,h.e1,h.e2,h.e3];decide);exact q3 _ (by rw[h.ok,q2];rfl)
abbrev Qkt:Nd:=⟨false,[],[],[],false⟩
abbrev Q43:Nd:=⟨true,[],[],[],false⟩
theorem Zhq{N R Q G:Nat}(d:1≤R)(c:R≤8)(h:1≤N)(r:N≤16)(g:1≤Q)(f:Q≤1000)(k:1≤G)(j:G≤1000):GJ (Qcc N R Q G 0) (List.replicate N Qkt):=by
 refine⟨⟨⟨Qxp (Qna d c h r) g f k j,fun x m=>(by cases m),fun y l=>(by cases l),fun n=>?_⟩,Pj,fun o b=>(by cases b),fun i n a=>?_,fun i n a _=>?_,fun i n a p=>?_,fun i q=>(by cases q)⟩,fun _=>rfl,fun o b=>(by cases b)⟩
 ·refine⟨fun e=>(by cases e),fun e=>?_⟩;unfold Ji at e;rw[Z5]at e;have:=e.2;rw[show (Qcc N R Q G 0).m.up=0#16 from rfl]at this;simp at this
 ·rw[Qvn]at a
  split at a
  ·cases a;exact(Q6 fun e=>(by cases e)).symm
  ·cases a
 ·rw[Qvn]at a
  split at a
  ·cases a;exact⟨rfl,rfl,rfl,rfl⟩
  ·cases a
 ·rw[Qvn]at a
  split at a
  ·cases a;cases p
  ·cases a
theorem Q2y{b:Br}{N:Nat}(h:GJ b (List.replicate N Qkt)):∀i,i≤N→GJ (Dl b i) (List.replicate i Q43++List.replicate (N-i) Qkt)∧(Dl b i).js=b.js∧(Dl b i).done=b.done∧(Dl b i).now=b.now∧(Dl b i).Qd=b.Qd∧(Dl b i).Qf=b.Qf
 | 0,_=>⟨by rw[List.replicate_zero,Gf,Qza];exact h,rfl,rfl,rfl,rfl,rfl⟩
 | i+1,p=>by
  obtain⟨a,k1,m,l,j,k5⟩:=Q2y h i Qb;obtain⟨g,f,e,d,c⟩:=Ql4 (Dl b i) i;rw[Qbp];refine⟨?_,g.trans k1,f.trans m,e.trans l,d.trans j,c.trans k5⟩;have o:N-i=(N-(i+1))+1:=Qb
  rw[o,Qdh]at a
  have n:(List.replicate i Q43++Qkt::List.replicate (N-(i+1)) Qkt)[i]?=some Qkt:=by
   rw[Qlu (by rw[Pj];exact Q1 _),Pj,Qiy];rfl
  have k:=Q2z a n rfl;rw[Qsg _ _ (by rw[Pj];exact Q1 _),Pj,Qiy]at k;rw[List.replicate_succ',Wb];exact k
theorem Q8d{N R Q G:Nat}(l:1≤R)(j:R≤8)(h:1≤N)(u:N≤16)(o:1≤Q)(m:Q≤1000)(q:1≤G)(p:G≤1000):SI (Uv N R Q G) 0 0:=by
 obtain⟨i,k1,c,s,r,k5⟩:=Q2y (Zhq (G:=G) l j h u o m q p) N (Q1 N);rw[Qiy,List.replicate_zero,X3]at i;obtain⟨b,t⟩:∃b,b=Dl (Qcc N R Q G 0) N:=⟨_,rfl⟩;have e:Uv N R Q G={b:=b,cn:=N,cr:=R,cq:=Q,cg:=G,nd:=List.replicate N Q43,now:=0,next:=1,X4:=[],Wy:=[],gone:=[],done:=[],Qf:=[],fu:=0,ok:=true}:=by rw[t];rfl
 rw[←t]at i k1 c s r k5;rw[e];have f:∀n∈List.replicate N Q43,n=Q43:=fun n g=>List.eq_of_mem_replicate g
 refine⟨⟨i,⟨by rw[k1];exact List.Pairwise.nil,by rw[c];exact Fo,fun id a=>?_,fun x d=>?_,fun id a=>?_,fun x d=>?_⟩,s,Pj,h,u,rfl,Xq _,fun _ k=>(by cases k),Fo,fun _ k=>(by cases k),fun n g=>?_,fun n g=>?_,Q1 _,Q1 _,Q1 _⟩,rfl,r,k5,c⟩
 ·rw[c]at a;cases a
 ·rw[k1]at d;cases d
 ·rw[c]at a;cases a
 ·rw[k1]at d;cases d
 ·rw[f n g];exact⟨fun _ k=>(by cases k),fun _ k=>(by cases k),fun _ k=>(by cases k)⟩
 ·rw[f n g];exact⟨Q1 _,Q1 _⟩
theorem Q3w{s:Sm}{F T:Nat}(h:SI s F T):Qgk s=true:=by
 have p:=h.sb;refine Kn.2 fun n v=>?_;obtain⟨i,o⟩:=Dg v;unfold Vg;cases m:n.up with
 | false=>
  obtain⟨t,_,_,r⟩:=p.gj.gi.off i n o m;rw[r,t];rfl
 | true=>
  have j:=p.gj.gi.node i n o m;rw[j.wr]
  by_cases h0:Ya n.rk=0
  ·rw[Zh h0];rfl
  ·rw[Q6 h0];obtain⟨e,f⟩:=j.ph.ru
   obtain⟨y,c⟩:∃y,n.rk.find? (·.2.run)=some y:=by
    cases w:n.rk.find? (·.2.run) with
    | none=>exact absurd (by unfold Ya;rw[w]) h0
    | some y=>exact⟨y,rfl⟩
   have a:Ya n.rk=y.1:=by unfold Ya;rw[c]
   have b:=List.mem_of_find?_eq_some c;have l:y.2.run=true:=by simpa using List.find?_some c
   obtain⟨g1,g2⟩:=e y b l;have q:=f y b l;have g:Yt (Ya n.rk) n.rk=some y.2:=by rw[a];exact Et j.kn b
   rw[g,a]
   have k:s.b.stops.isSome=true:=by
    cases u:s.b.stops with
    | some d=>rfl
    | none=>rw[u]at q;exact absurd q Q2
   simp only[g1,g2,k,decide_true];rfl
structure Cx where
 k:Nat→Nat
 w:Nat→Nat
 X4:Nat→Nat
 s:Nat→Nat→Nat×Nat
 v:Nat
 g:Nat→Nat→Prop
 m:Nat→Nat
abbrev Qu6(r c:Nat):List Int:=[(r:Int),((c % 256:Nat):Int)]
structure Zrs(c:Cx)(id work:Nat)(at_:List Nat)(r:List (Nat×Nat×Nat)):Prop where
 ne:at_≠[]
 nd:(r.map (·.1)).Nodup
 e:∀e∈r,e.2=c.s id e.1∧0<e.2.1∧e.1∈at_
 ov:∀F T,(∀i∈at_,0<(c.s id i).1∧(c.s id i).1≤F∧T≤(c.s id i).2)→work+(T+1-F)≤c.X4 id
 g:∀i,c.g id i→i∈at_
structure Zrr(ver Qg work:Nat)(at_:List Nat)(s:Sv):Prop where
 ver:s.ver=ver
 cr:Qg≤s.Qg
 wk:s.Qg≤work
 len:s.bs.length=at_.length
 nd:s.have_.Nodup
 b:∀n∈s.have_,∃r,Kp at_ n=some r∧s.bs[r]?=some (Qu6 r s.Qg)
structure JC(c:Cx)(x:Bj):Prop where
 k:x.k=c.k x.id∧1≤x.k
 w:x.w=c.w x.id
 cw:c.m x.id≤x.Qg∧x.Qg≤x.work
 ww:x.work≤x.w
 wr:x.work≤c.X4 x.id
 ver:x.ver≤c.v
 X4:∀r,x.X4=some r→Zrs c x.id x.work x.at_ r
 Xg:∀s,x.Xg=some s→Zrr x.ver x.Qg x.work x.at_ s
structure JZ(x y:Bj):Prop where
 id:y.id=x.id
 ver:x.ver≤y.ver
 Xg:∀t,y.Xg=some t→(∃s,x.Xg=some s∧s.ver=t.ver∧s.Qg=t.Qg∧(t.told=false→s.told=false))∨x.ver<t.ver
structure JM(x y:Bj):Prop extends JZ x y where
 cr:y.Qg=x.Qg
def BZ(b a:Br):Prop:=∀z∈a.js,∃x∈b.js,JZ x z
def BM(b a:Br):Prop:=∀z∈a.js,∃x∈b.js,JM x z
def Fit(c:Cx)(b:Br)(i v r:Nat):Prop:=0<c.k i∧∀x∈b.js,x.id=i→v≤x.ver∧∀s,x.Xg=some s→s.ver=v→r=s.Qg
def Zrv(c:Cx)(b:Br)(i v rk:Nat)(l:List Int):Prop:=0<c.k i∧∀x∈b.js,x.id=i→v≤x.ver∧∀s,x.Xg=some s→s.ver=v→l=Qu6 rk s.Qg
structure Zru(c:Cx)(b:Br)(i:Im):Prop where
 len:i.bs.length=c.k i.Qu∧0<c.k i.Qu
 X4:i.Qg≤c.X4 i.Qu
 bs:∀r,r<i.bs.length→i.bs[r]?=some (Qu6 r i.Qg)
 j:∀x∈b.js,x.id=i.Qu→x.Qg≤i.Qg∧i.ver≤x.ver∧∀s,x.Xg=some s→s.told=false→i.ver<s.ver
structure CB(c:Cx)(E8:Nat→Nat→Nat→Prop)(E9:Nat→Nat→Nat→List Int→Prop)(im0:List Im)(b:Br):Prop where
 j:∀x∈b.js,JC c x
 o8:∀o∈b.Qd,o.2.kind=8→Fit c b o.2.Qu o.2.ver o.2.Qg
 o5:∀o∈b.Qd,o.2.kind=5→c.g o.2.Qu o.1
 e8:∀i v r,E8 i v r→Fit c b i v r
 e9:∀i v r l,E9 i v r l→Zrv c b i v r l
 im:∀i∈im0++b.Qf,Zru c b i
 ord:(im0++b.Qf).Pairwise fun a d=>a.Qu=d.Qu→a.ver<d.ver
 dn:∀id∈b.done,c.w id≤c.X4 id
section
variable {c:Cx}{E8:Nat→Nat→Nat→Prop}{E9:Nat→Nat→Nat→List Int→Prop}{im0:List Im}{b:Br}{x y:Bj}
def VB(v:Nat)(b:Br):Prop:=∀x∈b.js,x.ver≤v+if x.Xg.isSome then 1 else 0
theorem Qc0{P:Br→Prop}{f:Br→Bj→Br}(a:∀b x,P b→Qk b.js x.id=some x→P (f b x)):∀(l:List Nat) (b:Br),P b→P (each f b l)
 | [],_,h=>h
 | id::l,b,h=>by
  have e:each f b (id::l)=each f (match Qk b.js id with|none=>b|some x=>f b x) l:=rfl;rw[e];cases c:Qk b.js id with
  | none=>exact Qc0 a l b h
  | some x=>exact Qc0 a l _ (a b x h (by rw[(Qi c).2];exact c))
theorem Dm{b:Type}[DecidableEq b]:∀(l m:List b),l.Nodup→(∀x∈l,x∈m)→l.length≤m.length
 | [],_,_,_=>Xq _
 | a::l,m,h,d=>by
  obtain⟨n1,g⟩:=Vz.1 h;have f:=d a (Z0 ..);have k:=Dm l (m.erase a) g fun x c=>(List.mem_erase_of_ne fun e=>n1 (by rw[←e];exact c)).2 (d x (Ym _ c));have j:=List.length_erase_of_mem f;have i:=List.length_pos_of_mem f;rw[Ka];omega
end
def NR(b:Br):Prop:=∀x∈b.js,x.X4=none
def VL(v:Nat)(b:Br):Prop:=∀x∈b.js,x.ver≤v
def VM(b a:Br):Prop:=∀z∈a.js,∃x∈b.js,z.ver=x.ver
theorem Pa(b:Br)(x:Bj):(Y9 b x).stops=b.stops:=by
 unfold Y9
 split
 ·rfl
 ·rename_i r _
  split
  ·rfl
  ·show (Xv b (Dw x r)).stops=b.stops
   by_cases a:(Dw x r).work=(Dw x r).Qg∨(Dw x r).Xg.isSome∨(Dw x r).Ql.isSome∨(Dw x r).state≠2
   ·rw[V3 a]
   ·rw[Ua a]
section
variable {c:Cx}{E8:Nat→Nat→Nat→Prop}{E9:Nat→Nat→Nat→List Int→Prop}{im0:List Im}{b:Br}{x y:Bj}
theorem Qdy(n:Nat)(v:Nat×Nat):∀(r:List (Nat×Nat×Nat)),(r.map (·.1)).Nodup→((Vn r n v).map (·.1)).Nodup∧∀k∈(Vn r n v).map (·.1),k=n∨k∈r.map (·.1)
 | [],_=>⟨by simp[Vn],fun k a=>.inl (by simpa [Vn] using a)⟩
 | y::l,h=>by
  rw[Z7,Vz]at h;unfold Vn
  split
  ·rename_i e
   refine⟨?_,fun k a=>?_⟩
   ·rw[Z7,Vz];exact⟨by rw[show ((n,v):Nat×Nat×Nat).1=y.1 from e];exact h.1,h.2⟩
   ·rw[Z7,Yf]at a
    rcases a with a|a
    ·exact .inl a
    ·exact .inr (Ym _ a)
  ·rename_i e;obtain⟨k1,c⟩:=Qdy n v l h.2
   refine⟨?_,fun k a=>?_⟩
   ·rw[Z7,Vz];refine⟨fun d=>?_,k1⟩
    rcases c _ d with b|b
    ·exact e b.symm
    ·exact h.1 b
   ·rw[Z7,Yf]at a
    rcases a with a|a
    ·exact .inr (by rw[Z7,a];exact Z0 ..)
    ·rcases c _ a with b|b
     ·exact .inl b
     ·exact .inr (Ym _ b)
theorem Qtd{r:List (Nat×Nat×Nat)}{n:Nat}{v:Nat×Nat}{y:Nat×Nat×Nat}(h:y∈Vn r n v):y=(n,v)∨y∈r:=by
 induction r with
 | nil=>exact .inl (Vd.1 h)
 | cons z l a=>
  unfold Vn at h
  split at h
  ·rcases Yf.1 h with h|h
   ·exact .inl h
   ·exact .inr (Ym _ h)
  ·rcases Yf.1 h with h|h
   ·exact .inr (h ▸ Z0 ..)
   ·rcases a h with h|h
    ·exact .inl h
    ·exact .inr (Ym _ h)
theorem Za9{l:List Nat}(h:l.Pairwise (· < ·)){r n:Nat}(b:l[r]?=some n):Kp l n=some r:=by
 unfold Kp;rw[List.findIdx?_eq_some_iff_getElem];obtain⟨a,d⟩:=Yz.1 b;refine⟨a,by simp[d],fun j c=>?_⟩;have:=Jy.1 h j r Qb a c;simp only[Zz];omega
theorem Za8{l:List Nat}{n r:Nat}(h:Kp l n=some r):r<l.length∧n∈l:=by
 unfold Kp at h;rw[List.findIdx?_eq_some_iff_getElem]at h;obtain⟨a,b,_⟩:=h;refine⟨a,?_⟩;have:l[r]=n:=by simpa using b
 rw[←this];exact Qdf a
end
section
variable {c:Cx}{E8:Nat→Nat→Nat→Prop}{E9:Nat→Nat→Nat→List Int→Prop}{im0:List Im}{b:Br}{x y:Bj}
abbrev c0(c:Cx)(g:Nat→Nat→Prop):Cx:={c with s:=fun _ _=>(0,0),g:=g}
theorem Q8f(h:BrI b never):∀x∈b.js,x.state=2→x.at_≠[]:=fun x a f e=>by
 have c:=((h.j x a).p Qb).1;have d:=(h.ok.Qu x a).k1;rw[e,Dd]at c;omega
theorem Sw(b:Br)(y:Bj):(Y6 b y).stops=b.stops:=(Sam.gone b y).stops
theorem S1(b:Br)(y:Bj)(a:Bool):(Wd b y a).stops=b.stops:=by
 cases c:y.Ql with
 | some d=>rw[Kd c];exact Sw _ _
 | none=>rw[Vj c];exact Sw _ _
theorem Qqj(n:Nat)(b:Br)(x:Bj):(Xw n b x).stops=b.stops:=by
 unfold Xw
 split
 ·split
  ·exact S1 _ _ _
  ·exact Sw _ _
 ·rfl
end
def RM(b a:Br):Prop:=(∀z∈a.js,z.X4=none∨∃x∈b.js,z.X4=x.X4)∧∀n,n∈a.stops.getD []→n∈b.stops.getD []
def RE(b:Br):Prop:=∀x∈b.js,∀r,x.X4=some r→∀e∈r,e.1∉b.stops.getD []
def kOf(js:List Jo)(id:Nat):Nat:=match Ns js id with
 | some j=>j.k
 | none=>0
def wOf(js:List Jo)(id:Nat):Nat:=match Ns js id with
 | some j=>j.w
 | none=>0
structure Gh where
 s:Nat→Nat→Nat×Nat
 g:Nat→Nat→Prop
 m:Nat→Nat
abbrev Zrq(js:List Jo)(X4:List (Nat×Nat))(x:Gh):Cx:=⟨kOf js,wOf js,fun id=>V6 id X4,x.s,4294967295,x.g,x.m⟩
def E8(nd:List Nd)(i v r:Nat):Prop:=∃n∈nd,∃x∈n.Yy,x.kind=8∧x.Qu=i∧x.ver=v∧x.Qg=r
def E9(nd:List Nd)(i v rk:Nat)(l:List Int):Prop:=∃n∈nd,∃y∈n.out,y.1.kind=9∧y.1.Qu=i∧y.1.ver=v∧y.1.Yl=rk∧y.2=l
structure NC(x:Gh)(now i:Nat)(n:Nd):Prop where
 ru:∀y∈n.rk,y.2.run=true→(y.2.Kc,y.2.Jz)=x.s y.1 i∧(y.2.Kc=0∨y.2.Jz=now)∧x.g y.1 i
 st:∀y∈n.out,y.1.kind=7→y.1.Qu≠0→(y.1.Kc,y.1.Jz)=x.s y.1.Qu i
 go:∀y∈n.Yy,y.kind=5→x.g y.Qu i
structure CS(x:Gh)(s:Sm):Prop where
 cb:CB (Zrq s.Wy s.X4 x) (E8 s.nd) (E9 s.nd) s.Qf s.b
 vl:VL (2*s.now+if s.b.stops.isSome then 0 else 1) s.b
 nr:s.b.stops=none→NR s.b
 re:RE s.b
 nc:∀(i:Nat) (n:Nd),s.nd[i]?=some n→NC x s.now i n
 le:∀id i,(x.s id i).2≤s.now
 dn:∀id∈s.done,wOf s.Wy id≤V6 id s.X4
theorem Qny(b:Br)(y:Bj):(Yj b y).stops=b.stops:=by
 unfold Yj
 split
 ·rfl
 ·exact S1 _ _ _
theorem Qei(b:Br)(id ver:Nat)(ok:Bool):(Q5 b id ver ok).2.stops=b.stops:=by
 unfold Q5;cases a:Qk b.js id with
 | none=>rfl
 | some x=>
  simp only
  split
  ·rfl
  ·split
   ·rfl
   ·exact Qny _ _
theorem Qn6(b:Br)(id:Nat):(Xd b id).2.stops=b.stops:=by
 unfold Xd;cases a:Qk b.js id with
 | none=>rfl
 | some x=>
  simp only
  split
  ·exact S1 _ _ _
  ·split <;> rfl
def CX(s:Sm)(M:Nat→Nat):Prop:=∃x:Gh,x.m=M∧CS x s
def KC(b a:Br):Prop:=∀z∈a.js,z.state=2→∃x∈b.js,x.id=z.id∧x.at_=z.at_∧x.state=2
inductive Tj (u:List Nat):Nat→Bj→Option Bj→List Od→List Nat→List Im→Prop
 | drop (x:Bj) (a:Bool):x.Ql=none→(a=false→x.done=true)→Tj u (if a then 1 else 7) x (some (W9 x a (x.at_.filter fun n=>decide (n∈u)))) ((x.at_.filter fun n=>decide (n∈u)).map (Va x.id)) [] []
 | redrop (x:Bj) (a:Bool) (d:List Nat):x.Ql=some d→(a=false→x.done=true)→Tj u 2 x (some (W9 x a d)) [] [] []
 | fin (x:Bj):x.w≤x.Qg→x.done=false→Tj u 3 x (some {x with done:=true}) [] [x.id] []
 | del (x:Bj) (d:List Nat) (n:Nat):x.Ql=some d→Tj u 4 x (some (Cq x d n)) [] [] []
 | anew (x:Bj):x.Ql=some []→x.again=true→Tj u 5 x (some (anew x)) [] [] []
 | rm (x:Bj):x.Ql=some []→x.again=false→Tj u 6 x none [] [] []
 | again (x:Bj):x.Ql.isSome=true→Tj u (20+x.id) x (some {x with again:=false}) [] [] []
 | save (x:Bj):¬(x.work=x.Qg∨x.Xg.isSome∨x.Ql.isSome∨x.state≠2)→Tj u 8 x (some (Wt x)) (x.at_.map (W8 (Wt x))) [] []
 | unran (x:Bj) (r:List (Nat×Nat×Nat)):x.X4=some r→(x.Ql.isSome∨r.length≠x.at_.length)→Tj u 9 x (some (Em x)) [] [] []
 | count (x:Bj) (r:List (Nat×Nat×Nat)):x.X4=some r→x.Ql=none→r.length=x.at_.length→Tj u 10 x (some (Dw x r)) [] [] []
 | X4 (x:Bj) (r:List (Nat×Nat×Nat)) (n:Nat) (v:Nat×Nat):x.X4=some r→n∈x.at_→0<v.1→Tj u 11 x (some {x with X4:=some (Vn r n v)}) [] [] []
 | lod (x:Bj) (n:Nat):x.state=1→n∈x.at_→Tj u 12 x (some (N2 x (x.Xt.getD []) n)) [] [] []
 | Xg (x:Bj) (s:Sv) (n k:Nat) (bl:List Int):x.Xg=some s→Kp x.at_ n=some k→s.told=false→(Xm s.have_ n).length≠x.at_.length→Tj u 13 x (some {x with Xg:=some {s with bs:=s.bs.set k bl,have_:=Xm s.have_ n}}) [] [] []
 | told (x:Bj) (s:Sv) (n k:Nat) (bl:List Int):x.Xg=some s→Kp x.at_ n=some k→s.told=false→(Xm s.have_ n).length=x.at_.length→Tj u 14 x (some {x with Xg:=some {s with bs:=s.bs.set k bl,have_:=Xm s.have_ n,told:=true}}) [] [] [⟨x.id,s.ver,s.Qg,s.bs.set k bl⟩]
 | pub (x:Bj) (s:Sv):x.Xg=some s→s.told=true→Tj u 15 x (some {x with Qg:=s.Qg,Xg:=none}) [] [] []
 | load (x:Bj) (ns:List Nat):x.state=0→ns.length=x.k→ns.Pairwise (· < ·)→Tj u 16 x (some (C6 x ns)) (Vk x ns) [] []
 | warn (x:Bj) (t:Nat):x.state=1∨x.state=2→Tj u 17 x (some {x with Wp:=true,C5:=t}) (x.at_.map fun n=>((n,{kind:=12,Qu:=x.id,tick:=t}):Od)) [] []
 | go (x:Bj) (g:Nat):x.state=2→x.Ql=none→x.work<x.w→Tj u 18 x (some {x with X4:=some []}) (x.at_.map fun n=>((n,{kind:=5,gen:=g,Qu:=x.id}):Od)) [] []
 | nopub (x:Bj) (s:Sv):x.Xg=some s→s.told=true→Tj u 19 x (some {x with Xg:=none}) [] [] []
 | cdrop (x:Bj):x.Ql=none→Tj u (20+x.id) x (some (W9 x false (x.at_.filter fun n=>decide (n∈u)))) ((x.at_.filter fun n=>decide (n∈u)).map (Va x.id)) [] []
structure JW(x:Bj):Prop where
 ne:x.Ql≠some []
 lt:x.Ql=none→x.Qg<x.w∧x.done=false
 ag:x.again=true→x.Qg<x.w
inductive Ts (u:List Nat) (A:Nat→Prop) (x:Bj):Option Bj→List Od→List Nat→List Im→Prop
 | nil:Ts u A x (some x) [] [] []
 | snoc {y:Bj} {z:Option Bj} {l:Nat} {E E':List Od} {D D':List Nat} {I I':List Im}:Ts u A x (some y) E D I→A l→Tj u l y z E' D' I'→Ts u A x z (E++E') (D++D') (I++I')
theorem Ts.s0{u:List Nat}{A:Nat→Prop}{x y:Bj}{z:Option Bj}{l:Nat}{E:List Od}{D:List Nat}{I:List Im}(h:Ts u A x (some y) E D I)(a:A l)(t:Tj u l y z [] [] []):Ts u A x z E D I:=by
 have:=Ts.snoc h a t
 rwa [X3,X3,X3]at this
theorem Ts.s1{u:List Nat}{A:Nat→Prop}{x y:Bj}{z:Option Bj}{l:Nat}{E a:List Od}{D:List Nat}{I:List Im}(h:Ts u A x (some y) E D I)(b:A l)(t:Tj u l y z a [] []):Ts u A x z (E++a) D I:=by
 have:=Ts.snoc h b t
 rwa [X3,X3]at this
theorem Ts.one{u:List Nat}{A:Nat→Prop}{x:Bj}{z:Option Bj}{l:Nat}{E:List Od}{D:List Nat}{I:List Im}(a:A l)(t:Tj u l x z E D I):Ts u A x z E D I:=Ts.snoc .nil a t
theorem Tj.id{u:List Nat}{l:Nat}{x y:Bj}{z:Option Bj}{E:List Od}{D:List Nat}{I:List Im}(h:Tj u l x z E D I)(a:z=some y):y.id=x.id:=by
 cases h <;> cases a <;> rfl
theorem Ts.id{u:List Nat}{A:Nat→Prop}{x y:Bj}{z:Option Bj}{E:List Od}{D:List Nat}{I:List Im}(h:Ts u A x z E D I)(a:z=some y):y.id=x.id:=by
 induction h generalizing y with
 | nil=>cases a;rfl
 | snoc _ _ t b=>exact(t.id a).trans (b rfl)
def upJ(js:List Bj)(id:Nat):Option Bj→List Bj
 | some y=>Xe js y
 | none=>rmJ js id
abbrev Br.cf(b:Br):List Nat×Nat×Nat:=(b.up,b.hold,b.Yv)
abbrev Br.ck(b:Br):(List Nat×Nat×Nat)×Nat:=(b.cf,b.now)
def Core(b a:Br):Prop:=a.js=b.js∧a.Qd=b.Qd∧a.done=b.done∧a.Qf=b.Qf∧a.ck=b.ck
theorem Core.refl(b:Br):Core b b:=⟨rfl,rfl,rfl,rfl,rfl⟩
def Mu(u:List Nat)(A:Nat→Prop)(b a:Br):Prop:=∃x z E D I,Qk b.js x.id=some x∧Ts u A x z E D I∧(∀y,z=some y→JW x→JW y)∧a.js=upJ b.js x.id z∧a.Qd=b.Qd++E∧a.done=b.done++D∧a.Qf=b.Qf++I∧a.ck=b.ck
inductive Ms (u:List Nat) (A:Nat→Prop) (b:Br):Br→Prop
 | nil {c:Br}:Core b c→Ms u A b c
 | snoc {c d e:Br}:Ms u A b c→Mu u A c d→Core d e→Ms u A b e
section
variable {u:List Nat}{A:Nat→Prop}{b b0 c d:Br}{x y:Bj}{E:List Od}{D:List Nat}{I:List Im}
theorem Core.trans(h:Core b c)(k:Core c d):Core b d:=⟨k.1.trans h.1,k.2.1.trans h.2.1,k.2.2.1.trans h.2.2.1,k.2.2.2.1.trans h.2.2.2.1,k.2.2.2.2.trans h.2.2.2.2⟩
theorem Ms.core(h:Ms u A b c)(k:Core c d):Ms u A b d:=by
 cases h with
 | nil h=>exact .nil (h.trans k)
 | snoc f e a=>exact .snoc f e (a.trans k)
theorem Ms.trans(h:Ms u A b c)(k:Ms u A c d):Ms u A b d:=by
 induction k with
 | nil k=>exact h.core k
 | snoc _ e a f=>exact .snoc f e a
theorem Ms.pre(h:Core b c)(k:Ms u A c d):Ms u A b d:=(Ms.nil h).trans k
theorem Mu.s(h:Mu u A b c):Ms u A b c:=.snoc (.nil (.refl b)) h (.refl c)
theorem Ms.refl(b:Br):Ms u A b b:=.nil (.refl b)
theorem Ms.ck(h:Ms u A b c):c.ck=b.ck:=by
 induction h with
 | nil h=>exact h.2.2.2.2
 | snoc _ e d a=>
  obtain⟨_,_,_,_,_,_,_,_,_,_,_,_,k⟩:=e;exact(d.2.2.2.2.trans k).trans a
theorem Ms.cf(h:Ms u A b c):c.cf=b.cf:=Z3 Prod.fst h.ck
theorem Ms.up(h:Ms u A b c):c.up=b.up:=Z3 Prod.fst h.cf
theorem Ts.mono{B:Nat→Prop}{z:Option Bj}(b:∀l,A l→B l)(h:Ts u A x z E D I):Ts u B x z E D I:=by
 induction h with
 | nil=>exact .nil
 | snoc _ a t c=>exact .snoc c (b _ a) t
theorem Ms.mono{B:Nat→Prop}(a:∀l,A l→B l)(h:Ms u A b c):Ms u B b c:=by
 induction h with
 | nil h=>exact .nil h
 | snoc _ g f e=>
  obtain⟨x,z,E,D,I,k1,d,k⟩:=g;exact .snoc e ⟨x,z,E,D,I,k1,d.mono a,k⟩ f
theorem Ms.inv{P:Br→Prop}(h:Ms u A b c)(d:∀b c,Core b c→P b→P c)(f:∀b c,Mu u A b c→P b→P c)(h0:P b):P c:=by
 induction h with
 | nil h=>exact d _ _ h h0
 | snoc _ a k e=>exact d _ _ k (f _ _ a e)
theorem Ff(c:Qk b.js x.id=some x)(h:Ts u A x (some y) E D I)(d:JW x→JW y)(e1:b0.js=b.js)(e2:b0.Qd=b.Qd++E)(e3:b0.done=b.done++D)(e:b0.Qf=b.Qf++I)(e5:b0.ck=b.ck):Mu u A b (b0.set y):=
 ⟨x,some y,E,D,I,c,h,fun z a=>(by cases a;exact d),by show Xe b0.js y=_;rw[e1];rfl,e2,e3,e,e5⟩
theorem Qal(m:A 5)(l:A 6)(f:Qk b.js x.id=some x)(h:Ts u A x (some y) E D I)(i:y.Ql.isSome=true)(j:JW x→y.again=true→y.Qg<y.w)(e1:b0.js=b.js)(e2:b0.Qd=b.Qd++E)(e3:b0.done=b.done++D)(g:b0.Qf=b.Qf++I)(e5:b0.ck=b.ck):Mu u A b (Y6 b0 y):=by
 unfold Y6
 split
 ·rename_i a
  split
  ·rename_i c;exact⟨x,some (anew y),E,D,I,f,h.s0 m (.anew y a c),fun z d k=>(by cases d;exact⟨fun e=>(by cases e),fun _=>⟨j k c,rfl⟩,fun e=>(by cases e)⟩),by rw[←e1];rfl,e2,e3,g,e5⟩
  ·rename_i c;exact⟨x,none,E,D,I,f,h.s0 l (.rm y a (Qvm.2 c)),fun z d=>(by cases d),by rw[←e1,←h.id rfl];rfl,e2,e3,g,e5⟩
 ·rename_i a;exact Ff f h (fun k=>⟨a,fun e=>(by rw[e]at i;cases i),j k⟩) e1 e2 e3 g e5
theorem Qnb{a:Bool}(t:A (if a then 1 else 7))(s:A 2)(l:A 5)(j:A 6)(q:b.up=u)(f:Qk b.js x.id=some x)(h:Ts u A x (some y) E D I)(i:a=false→y.done=true)(r:JW x→a=true→y.done=false→y.Qg<y.w)(e1:b0.js=b.js)(e2:b0.Qd=b.Qd++E)(e3:b0.done=b.done++D)(m:b0.Qf=b.Qf++I)(e5:b0.ck=b.ck):Mu u A b (Wd b0 y a):=by
 have g:∀d,JW x→(W9 y a d).again=true→(W9 y a d).Qg<(W9 y a d).w:=fun d k e=>by
  obtain⟨k1,o⟩:=Bool.and_eq_true_iff.1 (show (a&&!y.done)=true from e);exact r k k1 (by simpa using o)
 cases c:y.Ql with
 | some d=>rw[Kd c];exact Qal l j f (h.s0 s (.redrop y a d c i)) rfl (g d) e1 e2 e3 m e5
 | none=>
  rw[Vj c,show J0 b0 y=y.at_.filter fun n=>decide (n∈u) by rw[J0,show b0.up=b.up from Z3 (fun p=>p.1.1) e5,q]];exact Qal l j f (h.s1 t (.drop y a c i)) rfl (g _) (b0:={b0 with Qd:=b0.Qd++(y.at_.filter fun n=>decide (n∈u)).map (Va y.id)}) e1 (by show b0.Qd++_=_;rw[e2,Wb]) e3 m e5
theorem Q0n(r:A 7)(q:A 2)(p:A 3)(o:A 5)(n:A 6)(j:b.up=u)(d:Qk b.js x.id=some x)(h:Ts u A x (some y) E D I)(m:y.Ql=x.Ql)(s:y.done=x.done)(_hag:y.again=x.again)(l:x.Ql=none)(e1:b0.js=b.js)(e2:b0.Qd=b.Qd++E)(e3:b0.done=b.done++D)(i:b0.Qf=b.Qf++I)(e5:b0.ck=b.ck):Mu u A b (Yj b0 y):=by
 unfold Yj
 split
 ·rename_i c;refine Ff d h (fun k=>?_) e1 e2 e3 i e5;have g:y.done=false:=s.trans (k.lt l).2;have f:y.Qg<y.w:=c.resolve_right fun e=>(by rw[g]at e;cases e);exact⟨by rw[m];exact k.ne,fun _=>⟨f,g⟩,fun _=>f⟩
 ·rename_i c;have t:Tj u 3 y (some {y with done:=true}) [] [y.id] []:=.fin y (Nat.le_of_not_lt fun e=>c (.inl e)) (Qvm.2 fun e=>c (.inr e));have:=Ts.snoc h p t;rw[X3,X3]at this;exact Qnb (a:=false) r q o n j d this (fun _=>rfl) (fun _ e=>(by cases e)) (b0:={b0 with done:=b0.done++[y.id]}) e1 e2 (by show b0.done++_=_;rw[e3,Wb]) i e5
theorem Qxr(f:A 8)(d:Qk b.js x.id=some x)(h:Ts u A x (some y) E D I)(a:JW x→JW y)(e1:b0.js=b.js)(e2:b0.Qd=b.Qd++E)(e3:b0.done=b.done++D)(e:b0.Qf=b.Qf++I)(e5:b0.ck=b.ck):Mu u A b (Xv b0 y):=by
 by_cases c:y.work=y.Qg∨y.Xg.isSome∨y.Ql.isSome∨y.state≠2
 ·rw[V3 c];exact Ff d h a e1 e2 e3 e e5
 ·rw[Ua c];exact Ff d (h.s1 f (.save y c)) (fun k=>⟨(a k).ne,(a k).lt,(a k).ag⟩) (b0:={b0 with Qd:=b0.Qd++y.at_.map (W8 (Wt y))}) e1 (by show b0.Qd++_=_;rw[e2,Wb]) e3 e e5
theorem Qqg(j:A 8)(i:A 9)(f:A 10)(c:Qk b.js x.id=some x):Mu u A b (Y9 b x):=by
 unfold Y9
 split
 ·exact Ff c .nil (fun e=>e) rfl Q2 Q2 Q2 rfl
 ·rename_i r g
  split
  ·rename_i a;exact Ff (y:=Em x) c (.one i (.unran x r g a)) (fun k=>⟨k.ne,k.lt,k.ag⟩) rfl Q2 Q2 Q2 rfl
  ·rename_i a
   have l:x.Ql=none:=by
    cases h:x.Ql with
    | none=>rfl
    | some d=>exact absurd (.inl (by rw[h];rfl)) a
   exact Qxr j (y:=Dw x r) c (.one f (.count x r g l (W7 fun e=>a (.inr e)))) (fun k=>⟨k.ne,k.lt,k.ag⟩) rfl Q2 Q2 Q2 rfl
theorem Aw{f:Br→Bj→Br}(c:∀b x,b.up=u→Qk b.js x.id=some x→Ms u A b (f b x)):∀(l:List Nat) (b:Br),b.up=u→Ms u A b (each f b l)
 | [],b,_=>.refl b
 | id::l,b,a=>by
  have e:each f b (id::l)=each f (match Qk b.js id with|none=>b|some x=>f b x) l:=rfl;rw[e];cases d:Qk b.js id with
  | none=>exact Aw c l b a
  | some x=>
   have g:=c b x a (by rw[(Qi d).2];exact d);exact g.trans (Aw c l _ (g.up.trans a))
theorem B8(f:A 8)(e:A 9)(a:A 10)(d:b.up=u)(n:Nat):Ms u A b (Zt b n):=by
 unfold Zt
 split
 ·exact .refl b
 ·split
  ·exact .nil ⟨rfl,rfl,rfl,rfl,rfl⟩
  ·exact Ms.pre (c:={b with stops:=none,Qn:=false}) ⟨rfl,rfl,rfl,rfl,rfl⟩ (Aw (fun _ _ _ h=>(Qqg f e a h).s) _ _ d)
theorem Qcf(r:A 1)(q:A 2)(p:A 4)(h:A 5)(g:A 6)(i:b.up=u)(n:Nat)(l:List Nat):Ms u A b (each (Xw n) b l):=
 Aw (fun c x o f=>by
  unfold Xw
  split
  ·split
   ·rename_i j;exact(Qnb (a:=true) r q h g o f .nil (fun e=>(by cases e)) (fun k _ _=>(k.lt j).1) rfl Q2 Q2 Q2 rfl).s
   ·rename_i d m;exact(Qal h g f (y:=Cq x d n) (.one p (.del x d n m)) rfl (fun k=>k.ag) rfl Q2 Q2 Q2 rfl).s
  ·exact .refl c) l b i
abbrev lH(l:Nat):Prop:=l∈[4,5,6,8,9,10,11,12,13,14]
theorem Q0m(a:b.up=u)(n:Nat)(t:Nt):Ms u lH b (Ut b n t):=by
 unfold Ut
 split
 ·refine Ms.trans ?_ (B8 Qp Qp Qp ?_ _)
  ·cases c:Qk b.js t.Qu with
   | none=>exact .refl b
   | some y=>
    simp only
    split
    ·exact .refl b
    ·rename_i r d
     split
     ·rename_i h0;exact(Ff (x:=y) (by rw[(Qi c).2];exact c) (.one (A:=lH) (l:=11) Qp (.X4 y r n (t.Kc,t.Jz) d h0.2 h0.1)) (fun k=>⟨k.ne,k.lt,k.ag⟩) rfl Q2 Q2 Q2 rfl).s
     ·exact .refl b
  ·cases c:Qk b.js t.Qu with
   | none=>exact a
   | some y=>
    simp only
    split
    ·exact a
    ·split
     ·exact a
     ·exact a
 ·exact .refl b
abbrev lJ(l:Nat):Prop:=l∈[4,5,6,12,13,14]
theorem Ls(n:Int){t:Nt}(r:t.kind≠7)(a:List Int):Ms u lJ b (X6 b n t a).2:=by
 unfold X6
 split
 ·exact .refl b
 ·cases j:Qk b.js t.Qu with
  | none=>exact .refl b
  | some x=>
   have c:Qk b.js x.id=some x:=by rw[(Qi j).2];exact j
   simp only
   split
   ·rename_i m;show Ms u lJ b (U8 b x n.toNat t a);unfold U8
    split
    ·split
     ·rename_i q;exact(Ff c (.one (A:=lJ) (l:=12) Qp (.lod x n.toNat q m)) (fun k=>⟨k.ne,k.lt,k.ag⟩) rfl Q2 Q2 Q2 rfl).s
     ·exact .refl b
    split
    ·unfold Ky;cases h:x.Xg with
     | none=>exact .refl b
     | some s=>
      cases i:Kp x.at_ n.toNat with
      | none=>exact .refl b
      | some Yl=>
       simp only
       split
       ·exact .refl b
       ·rename_i p;have g:s.told=false:=Qvm.2 fun e=>p (.inl e)
        split
        ·rename_i f;exact(Ff c (.one (A:=lJ) (l:=14) Qp (.told x s n.toNat Yl a h i g f)) (fun k=>⟨k.ne,k.lt,k.ag⟩) (b0:={b with Qf:=b.Qf++[⟨x.id,s.ver,s.Qg,s.bs.set Yl a⟩]}) rfl Q2 Q2 rfl rfl).s
        ·rename_i f;exact(Ff c (.one (A:=lJ) (l:=13) Qp (.Xg x s n.toNat Yl a h i g f)) (fun k=>⟨k.ne,k.lt,k.ag⟩) rfl Q2 Q2 Q2 rfl).s
    split
    ·split
     ·exact .refl b
     ·rename_i d o;exact(Qal Qp Qp c (y:=Cq x d n.toNat) (.one (A:=lJ) (l:=4) Qp (.del x d n.toNat o)) rfl (fun k=>k.ag) rfl Q2 Q2 Q2 rfl).s
    ·exact .refl b
   ·exact .refl b
theorem Lt(c:b.up=u)(n:Int)(t:Nt)(a:List Int):Ms u lH b (X6 b n t a).2:=by
 by_cases d:t.kind=7
 ·unfold X6
  split
  ·exact .refl b
  ·exact Q0m c n.toNat t
 ·exact(Ls n d a).mono fun l h=>(by simp only[lJ,lH,Yf,Hp,Ho]at h ⊢;omega)
abbrev lP(l:Nat):Prop:=l∈[2,3,5,6,7,15,19]
theorem Ui(g:∀x∈b.js,x.Xg.isSome=true→x.Ql=none)(h:b.up=u)(id ver:Nat)(ok:Bool):Ms u (fun l=>lP l∧(l=19→ok=false)) b (Q5 b id ver ok).2:=by
 unfold Q5;cases f:Qk b.js id with
 | none=>exact .refl b
 | some x=>
  have c:Qk b.js x.id=some x:=by rw[(Qi f).2];exact f
  simp only
  split
  ·exact .refl b
  ·rename_i s a
   split
   ·exact .refl b
   ·rename_i i;have d:s.told=true:=Bool.of_not_eq_false fun e=>i (.inl e);have k:∀l,lP l→l≠19→lP l∧(l=19→ok=false):=fun l m j=>⟨m,fun e=>absurd e j⟩
    have key:Ts u (fun l=>lP l∧(l=19→ok=false)) x (some {x with Qg:=if ok then s.Qg else x.Qg,Xg:=none}) [] [] []:=by
     cases ok with
     | true=>exact .one (l:=15) (k 15 Qp Qp) (.pub x s a d)
     | false=>exact .one (l:=19) ⟨Qp,fun _=>rfl⟩ (.nopub x s a d)
    exact(Q0n (k 7 Qp Qp) (k 2 Qp Qp) (k 3 Qp Qp) (k 5 Qp Qp) (k 6 Qp Qp) h c key rfl rfl rfl (g x (Qi c).1 (by rw[a];rfl)) rfl Q2 Q2 Q2 rfl).s
abbrev lC(id l:Nat):Prop:=l=5∨l=6∨l=20+id
theorem Sk(f:b.up=u)(id:Nat):Ms u (lC id) b (Xd b id).2:=by
 unfold Xd;cases a:Qk b.js id with
 | none=>exact .refl b
 | some x=>
  have c:Qk b.js x.id=some x:=by rw[(Qi a).2];exact a
  simp only
  split
  ·rename_i g;rw[Vj g,J0,f];exact(Qal (.inl rfl) (.inr (.inl rfl)) c (b0:={b with Qd:=b.Qd++(x.at_.filter fun n=>decide (n∈u)).map (Va x.id),up:=u}) (.one (A:=lC id) (.inr (.inr (by rw[(Qi a).2]))) (.cdrop x g)) rfl (fun _ e=>(by cases e)) rfl rfl Q2 Q2 (by rw[←f])).s
  ·rename_i d h
   split
   ·exact(Ff (y:={x with again:=false}) c (.one (A:=lC id) (.inr (.inr (by rw[(Qi a).2]))) (.again x (by rw[h];rfl))) (fun k=>⟨k.ne,k.lt,fun e=>(by cases e)⟩) rfl Q2 Q2 Q2 rfl).s
   ·exact .refl b
theorem Sj(n:A 1)(m:A 2)(j:A 5)(i:A 6)(f:b.up=u)(l:List Nat):Ms u A b (each Q4 b l):=
 Aw (fun c x h d=>by
  unfold Q4
  split
  ·rename_i g;exact(Qnb (a:=true) n m j i h d .nil (fun e=>(by cases e)) (fun k _ _=>(k.lt g.2.1).1) rfl Q2 Q2 Q2 rfl).s
  ·exact .refl c) l b f
theorem Zb3(c:A 16)(e:Qk b.js x.id=some x)(h0:x.state=0)(s:PL.St)(f:(nats s.nodes).length=x.k):Ms u A b (Jh b x s):=by
 by_cases a:(Uc b.m x.id s.row s.nodes).1≠0
 ·rw[H6 a];exact .nil ⟨rfl,rfl,rfl,rfl,rfl⟩
 ·rw[Jg a];obtain⟨d,_⟩:=Ap (W7 a);exact(Ff e (.one c (.load x (nats s.nodes) h0 f (D0 d).1)) (fun k=>⟨k.ne,k.lt,k.ag⟩) (b0:={b with m:=(Uc b.m x.id s.row s.nodes).2,Qd:=b.Qd++Vk x (nats s.nodes)}) rfl rfl Q2 Q2 rfl).s
theorem P1(c:A 16):∀(a:List (Nat×PL.St)) (b:Br),(a.map (·.1)).Nodup→(∀p∈a,∀x,Qk b.js p.1=some x→x.state=0∧(p.2.ok=true→p.2.at_=0→(nats p.2.nodes).length=x.k))→Ms u A b (Xp b a)
 | [],b,_,_=>.refl b
 | p::a,b,m,i=>by
  have e:Xp b (p::a)=Xp (Ud b p) a:=by rw[X9,X9];rfl
  rw[e];obtain⟨n1,h⟩:=Vz.1 (show (p.1::a.map (·.1)).Nodup from m);have d:=fun q f=>i q (Ym p f);unfold Ud
  split
  ·rename_i j;cases g:Qk b.js p.1 with
   | none=>exact P1 c a b h d
   | some x=>
    have k:=(Qi g).2;refine(Zb3 c (by rw[k];exact g) (i p (Z0 ..) x g).1 p.2 ((i p (Z0 ..) x g).2 j.1 j.2)).trans (P1 c a _ h fun q f y l=>d q f y ?_)
    rwa [Lw b p.2 fun e=>n1 (Qq.2 ⟨q,f,by rw[e,k]⟩)]at l
  ·exact P1 c a b h d
theorem Qak(d:A 16)(c:BrI b never):Ms u A b (Q9 b):=by
 rw[Gx];refine P1 d (zsR b) b (by rw[Eh];exact El c.ok.Y4) fun p e x f=>?_;have j:p.1∈Wf b:=by rw[←Eh];exact Qq.2 ⟨p,e,rfl⟩
 obtain⟨m,g1,g2⟩:=Gy c.ok.Y4 j;rw[f]at g1;cases g1;simp only[quB,Z5,Zz]at g2;refine⟨g2.1,fun k1 g=>?_⟩;obtain⟨i,h⟩:=Dg e;obtain⟨l,k⟩:=Qok.1 h;obtain⟨a,m1,m2,_⟩:=PL.Qab (Qm1 c) k k1 g;rw[Cs,Q8,l]at m1;simp only[U3,Km]at m1;rw[Pd f]at m1;rw[Qo,m2,←m1];rfl
theorem Qce(a:A 17):∀(l:List Nat) (b:Br),(∀id∈l,∀x,Qk b.js id=some x→x.state=1∨x.state=2)→Ms u A b (each Ur b l)
 | [],b,_=>.refl b
 | id::l,b,d=>by
  have e:each Ur b (id::l)=each Ur (match Qk b.js id with|none=>b|some x=>Ur b x) l:=rfl;rw[e];cases g:Qk b.js id with
  | none=>exact Qce a l b fun i f=>d i (Ym _ f)
  | some x=>
   have h:=d id (Z0 ..) x g;refine(Ff (b:=b) (x:=x) (by rw[(Qi g).2];exact g) (.one a (.warn x (Xi b.now b.Wu) h)) (fun k=>⟨k.ne,k.lt,k.ag⟩) (b0:={b with Qd:=b.Qd++x.at_.map fun n=>((n,{kind:=12,Qu:=x.id,tick:=Xi b.now b.Wu}):Od)}) rfl rfl Q2 Q2 rfl).s.trans (Qce a l _ fun i f y c=>?_);have c:Qk (Xe b.js {x with Wp:=true,C5:=Xi b.now b.Wu}) i=some y:=c;rw[Gb]at c
   split at c
   ·obtain⟨_,_,rfl⟩:=Df.1 c;exact h
   ·exact d i (Ym _ f) y c
theorem Qzh(i:Wm b.js){t k:Int}:∀id∈A3 (Pb b.m t k (Hv b)).1,∀x,Qk b.js id=some x→x.state=1∨x.state=2:=fun id h x f=>by
 obtain⟨c,j,e⟩:=Qq.1 h;obtain⟨z,g,e2⟩:=Qq.1 (Qil j);obtain⟨d,a⟩:=Y5.1 g;subst e2;simp only at e;rw[←e,Ys i d]at f;cases f;simp only[E2,Zz]at a;omega
theorem Qd5(a:A 17)(c:Wm b.js):Ms u A b (Qy b):=by
 unfold Qy
 split
 ·exact .refl b
 split
 ·exact .refl b
 split
 ·exact .refl b
 ·exact Qce a _ b (Qzh c)
theorem Qkv(d:A 8)(c:b.up=u)(l:List Nat):Ms u A b (each Xv b l):=Aw (f:=Xv) (fun _ _ _ a=>(Qxr d a .nil (fun e=>e) rfl Q2 Q2 Q2 rfl).s) l b c
end
structure En where
 q:Nat→List Nt
 o:Nat→List (Nt×List Int)
 im:List (Nat×Nat)
 p:Nat→Nat→Option Nat
def En.add(e:En)(E:List Od)(I:List Im):En:=⟨fun i=>e.q i++qOf E i,e.o,e.im++I.map fun i=>(i.Qu,i.ver),e.p⟩
theorem En.add_nil(e:En):e.add [] []=e:=by
 show (⟨fun i=>e.q i++[],e.o,e.im++[],e.p⟩:En)=e;simp only[X3]
theorem En.add_add(e:En)(E F:List Od)(I J:List Im):(e.add E I).add F J=e.add (E++F) (I++J):=by
 unfold En.add;simp only[Ds,Wb,Vc]
def Qm4(id:Nat)(p:Option Nat)(x:Nt):Option Nat:=if x.Qu=id then (if x.kind=3 then some x.Yl else if x.kind=10 then none else p) else p
def plc(id:Nat)(p:Option Nat)(q:List Nt):Option Nat:=q.foldl (Qm4 id) p
theorem Qxe(id:Nat)(p:Option Nat)(a c:List Nt):plc id p (a++c)=plc id (plc id p a) c:=Ha ..
theorem Q4p{id:Nat}{p:Option Nat}:∀ {q:List Nt},(∀x∈q,x.Qu=id→x.kind≠3∧x.kind≠10)→plc id p q=p
 | [],_=>rfl
 | x::q,h=>by
  have e:Qm4 id p x=p:=by
   unfold Qm4
   split
   ·rename_i b;obtain⟨d,c⟩:=h x (Z0 ..) b;rw[Qe d,Qe c]
   ·rfl
  show plc id (Qm4 id p x) q=p;rw[e];exact Q4p fun y a=>h y (Ym _ a)
def En.has(e:En)(a c i id:Nat):Prop:=(∃n∈e.q i,n.kind=a∧n.Qu=id)∨∃n∈e.o i,n.1.kind=c∧n.1.Qu=id
def En.sv8(e:En)(i id v k:Nat):Prop:=(∃a n c,e.q i=a++n::c∧n.kind=8∧n.Qu=id∧n.ver=v∧plc id (e.p i id) a=some k)∨∃n∈e.o i,n.1.kind=9∧n.1.Qu=id∧n.1.ver=v∧n.1.Yl=k
theorem En.has_add{e:En}{a c i id:Nat}(h:e.has a c i id)(E:List Od)(I:List Im):(e.add E I).has a c i id:=by
 rcases h with ⟨n,d,b⟩|h
 ·exact .inl ⟨n,C1 _ d,b⟩
 ·exact .inr h
theorem En.Zag{e:En}{i id v k:Nat}(h:e.sv8 i id v k)(E:List Od)(I:List Im):(e.add E I).sv8 i id v k:=by
 rcases h with ⟨a,n,c,d,b⟩|h
 ·exact .inl ⟨a,n,c++qOf E i,by show e.q i++_=_;rw[d];simp,b⟩
 ·exact .inr h
structure JL(e:En)(x:Bj):Prop where
 Uy:x.at_.Pairwise (· < ·)
 k1:1≤x.k
 kk:x.state=1∨x.state=2→x.at_.length=x.k
 st:x.state=3↔x.Ql.isSome=true
 z:x.state=0→x.at_=[]∧x.work=x.Qg∧x.X4=none∧x.Wp=false
 ld:x.state=1→∃l,x.Xt=some l∧l.Nodup∧(∀i∈l,i∈x.at_)∧l.length≠x.at_.length∧∀i∈x.at_,i∈l∨e.has 3 4 i x.id
 dr:∀d,x.Ql=some d→∀i∈d,i∈x.at_∧e.has 10 11 i x.id
 s2:∀s,x.Xg=some s→x.state=2
 sv:∀s,x.Xg=some s→s.told=false→s.have_.Nodup∧(∀i∈s.have_,i∈x.at_)∧s.have_.length≠x.at_.length∧∀k i,x.at_[k]?=some i→i∈s.have_∨e.sv8 i x.id s.ver k
 tl:∀s,x.Xg=some s→s.told=true→(x.id,s.ver)∈e.im
 pl:x.Ql=none→∀k i,x.at_[k]?=some i→plc x.id (e.p i x.id) (e.q i)=some k
 cw:x.Qg≤x.work
 wk:x.work≤x.w
 sc:∀s,x.Xg=some s→x.Qg<s.Qg∧s.Qg≤x.work
theorem JL.Qkr{e:En}{x:Bj}(h:JL e x)(b:x.state≠3):x.Ql=none:=by
 cases a:x.Ql with
 | none=>rfl
 | some d=>exact absurd (h.st.2 (by rw[a];rfl)) b
theorem JL.add{e:En}{x:Bj}(h:JL e x){E:List Od}(t:∀o∈E,o.2.Qu=x.id→o.2.kind≠3∧o.2.kind≠10)(I:List Im):JL (e.add E I) x:=by
 refine⟨h.Uy,h.k1,h.kk,h.st,h.z,fun e1=>?_,fun d b i a=>?_,h.s2,fun s n m=>?_,fun s n m=>C1 _ (h.tl s n m),fun b k i p=>?_,h.cw,h.wk,h.sc⟩
 ·obtain⟨l,j,g,f,c,q⟩:=h.ld e1;exact⟨l,j,g,f,c,fun i a=>(q i a).imp id fun k=>En.has_add k E I⟩
 ·exact⟨(h.dr d b i a).1,En.has_add (h.dr d b i a).2 E I⟩
 ·obtain⟨j,g,f,c⟩:=h.sv s n m;exact⟨j,g,f,fun k i p=>(c k i p).imp id fun k=>En.Zag k E I⟩
 ·show plc x.id (e.p i x.id) (e.q i++qOf E i)=some k;rw[Qxe,h.pl b k i p];exact Q4p fun y r=>t (i,y) (Fg.1 r)
theorem Qti(i:Nat):∀(l:List Nat) (f:Nat→Nt) (k:Nat),l.Nodup→l[k]?=some i→qOf (l.mapIdx fun r n=>((n,f r):Od)) i=[f k]
 | [],_,_,_,h=>by cases h
 | n::l,f,k,h,a=>by
  obtain⟨c,b⟩:=Vz.1 h;rw[List.mapIdx_cons];cases k with
  | zero=>
   have a:n=i:=by simpa using a
   subst a;have:=(Qmx n l (fun r=>f (r+1)) b).1 c;have e:∀t:List Od,qOf ((n,f 0)::t) n=f 0::qOf t n:=fun t=>by simp[qOf]
   rw[e];exact Z3 _ this
  | succ k=>
   have a:l[k]?=some i:=by simpa using a
   have d:n≠i:=fun e=>c (by rw[e];exact Yn a);have:=Qti i l (fun r=>f (r+1)) k b a;have e:∀t:List Od,qOf ((n,f 0)::t) i=qOf t i:=fun t=>by simp[qOf,d]
   rw[e];exact this
theorem JL.step{u:List Nat}{e:En}{l:Nat}{x y:Bj}{z:Option Bj}{E:List Od}{D:List Nat}{I:List Im}(h:JL e x)(t:Tj u l x z E D I)(m:z=some y):JL (e.add E I) y:=by
 have w:=h.cw;have C:=h.wk
 have M:∀(x:Bj) (a:Bool),JL e x→JL (e.add ((x.at_.filter fun n=>decide (n∈u)).map (Va x.id)) []) (W9 x a (x.at_.filter fun n=>decide (n∈u))):=fun x a h=>by
  have w:=h.cw;have C:=h.wk;refine⟨h.Uy,h.k1,fun e=>(by rcases e with e|e <;> cases e),⟨fun _=>rfl,fun _=>rfl⟩,fun e=>(by cases e),fun e=>(by cases e),fun d e1 i j=>?_,fun s e=>(by cases e),fun s e=>(by cases e),fun s e=>(by cases e),fun e=>(by cases e),Q1 _,Up w C,fun s e=>(by cases e)⟩;cases e1;exact⟨(Y5.1 j).1,.inl ⟨(Va x.id i).2,Ef _ (Fg.2 (Qq.2 ⟨i,j,rfl⟩)),rfl,rfl⟩⟩
 cases t with
 | drop x a B Y=>cases m;exact M x a h
 | cdrop x B=>cases m;exact M x false h
 | redrop x a d B Y=>
  cases m;rw[En.add_nil];exact⟨h.Uy,h.k1,fun e=>(by rcases e with e|e <;> cases e),⟨fun _=>rfl,fun _=>rfl⟩,fun e=>(by cases e),fun e=>(by cases e),fun Z e1 i j=>(by cases e1;exact h.dr d B i j),fun s e=>(by cases e),fun s e=>(by cases e),fun s e=>(by cases e),fun e=>(by cases e),Q1 _,Up w C,fun s e=>(by cases e)⟩
 | fin x c q=>cases m;rw[En.add_nil];exact⟨h.Uy,h.k1,h.kk,h.st,h.z,h.ld,h.dr,h.s2,h.sv,h.tl,h.pl,h.cw,h.wk,h.sc⟩
 | again x c=>cases m;rw[En.add_nil];exact⟨h.Uy,h.k1,h.kk,h.st,h.z,h.ld,h.dr,h.s2,h.sv,h.tl,h.pl,h.cw,h.wk,h.sc⟩
 | unran x r c q=>cases m;rw[En.add_nil];exact⟨h.Uy,h.k1,h.kk,h.st,fun b=>⟨(h.z b).1,(h.z b).2.1,rfl,(h.z b).2.2.2⟩,h.ld,h.dr,h.s2,h.sv,h.tl,h.pl,h.cw,h.wk,h.sc⟩
 | X4 x r n v c q A=>cases m;rw[En.add_nil];exact⟨h.Uy,h.k1,h.kk,h.st,fun b=>(by rw[(h.z b).1]at q;cases q),h.ld,h.dr,h.s2,h.sv,h.tl,h.pl,h.cw,h.wk,h.sc⟩
 | count x r c q A=>
  cases m;rw[En.add_nil];have N:x.work≤min (x.work+Vb (r.map (·.2))) x.w:=Qb
  exact⟨h.Uy,h.k1,h.kk,h.st,fun b=>(by rw[(h.z b).2.2.1]at c;cases c),h.ld,h.dr,h.s2,h.sv,h.tl,h.pl,Up w N,Qi5 ..,fun s f=>⟨(h.sc s f).1,Up (h.sc s f).2 N⟩⟩
 | del x d n c=>
  cases m;rw[En.add_nil];refine⟨h.Uy,h.k1,h.kk,⟨fun _=>rfl,fun _=>h.st.2 (by rw[c];rfl)⟩,h.z,h.ld,fun Z e1 i j=>?_,h.s2,h.sv,h.tl,fun e1=>(by cases e1),h.cw,h.wk,h.sc⟩;cases e1;exact h.dr d c i (V4.1 j).1
 | anew x c q=>
  cases m;rw[En.add_nil];exact⟨.nil,h.k1,fun e=>(by rcases e with e|e <;> cases e),⟨fun e=>(by cases e),fun e=>(by cases e)⟩,fun _=>⟨rfl,rfl,rfl,rfl⟩,fun e=>(by cases e),fun d e=>(by cases e),fun s e=>(by cases e),fun s e=>(by cases e),fun s e=>(by cases e),fun _ k i e=>(by cases e),Q1 _,Up w C,fun s e=>(by cases e)⟩
 | rm x c q=>cases m
 | save x T=>
  cases m;have H:x.state=2:=W7 fun e=>T (.inr (.inr (.inr e)));have K:x.Ql=none:=h.Qkr Qb;have Uh:x.work≠x.Qg:=fun e=>T (.inl e)
  have X:∀i∈x.at_,qOf (x.at_.map (W8 (Wt x))) i=[(W8 (Wt x) i).2]:=fun i j=>by
   rw[show x.at_.map (W8 (Wt x))=x.at_.map (fun n=>((n,(W8 (Wt x) n).2):Od)) from rfl,Ep (fun n=>(W8 (Wt x) n).2) i (Vs h.Uy),Qh j]
  have c:JL (e.add (x.at_.map (W8 (Wt x))) []) x:=h.add (fun o L S=>by
   obtain⟨n,_,rfl⟩:=Qq.1 L;exact⟨by show (8:Nat)≠3;decide,by show (8:Nat)≠10;decide⟩) []
  refine⟨h.Uy,h.k1,h.kk,h.st,fun b=>?_,c.ld,c.dr,fun s _=>H,fun s f F=>?_,fun s f F=>(by cases f;cases F),c.pl,h.cw,h.wk,fun s f=>?_⟩
  ·rw[show x.state=0 from b]at H;cases H
  ·cases f
   refine⟨Fo,fun i j=>(by cases j),fun b=>?_,fun k i G=>.inr (.inl ⟨e.q i,(W8 (Wt x) i).2,[],?_,rfl,rfl,rfl,h.pl K k i G⟩)⟩
   ·have:=h.kk (.inr H);have:=h.k1;have:0=x.at_.length:=b;omega
   ·show e.q i++qOf _ i=_;rw[X i (Yn G)]
  ·cases f;exact⟨by show x.Qg<x.work;omega,Q1 _⟩
 | lod x n c N=>
  cases m;rw[En.add_nil];obtain⟨l,Q,P,R,l4,O⟩:=h.ld c;have K:x.Ql=none:=h.Qkr Qb;have e1:x.Xt.getD []=l:=by rw[Q];rfl
  rw[e1]
  have f:(N2 x l n).state=1∨(N2 x l n).state=2:=by
   show (if _ then 2 else 1)=1∨(if _ then 2 else 1)=2;split <;> simp
  have J:∀s,x.Xg≠some s:=fun s f=>by have:=h.s2 s f;omega
  refine⟨h.Uy,h.k1,fun _=>h.kk (.inl c),⟨fun b=>(by omega),fun b=>?_⟩,fun b=>(by omega),fun b=>⟨Xm l n,rfl,F3 P n,fun i j=>?_,fun e2=>?_,fun i j=>?_⟩,h.dr,fun s f=>absurd f (J s),h.sv,h.tl,h.pl,h.cw,h.wk,h.sc⟩
  ·rw[show (N2 x l n).Ql=x.Ql from rfl,K]at b;cases b
  ·rcases Hj.1 j with j|j
   ·exact R i j
   ·rw[j];exact N
  ·have:(N2 x l n).state=2:=Qh e2;omega
  ·exact(O i j).imp (fun k=>Hj.2 (.inl k)) id
 | Xg x s n k bl c q A U=>
  cases m;rw[En.add_nil];obtain⟨Q,P,R,O⟩:=h.sv s c A
  refine⟨h.Uy,h.k1,h.kk,h.st,h.z,h.ld,h.dr,fun p _=>h.s2 s c,fun p f F=>?_,fun p f F=>?_,h.pl,h.cw,h.wk,fun p f=>(by cases f;exact h.sc s c)⟩
  ·cases f;refine⟨F3 Q n,fun i j=>?_,U,fun V i G=>(O V i G).imp (fun k=>Hj.2 (.inl k)) id⟩
   rcases Hj.1 j with j|j
   ·exact P i j
   ·rw[j];exact(Za8 q).2
  ·cases f;rw[show s.told=true from F]at A;cases A
 | told x s n k bl c q A U=>
  cases m
  refine⟨h.Uy,h.k1,h.kk,h.st,h.z,fun b=>?_,fun d B=>?_,fun p _=>h.s2 s c,fun p f F=>(by cases f;cases F),fun p f F=>(by cases f;exact Ef _ (Vd.2 rfl)),fun B k i G=>?_,h.cw,h.wk,fun p f=>(by cases f;exact h.sc s c)⟩
  ·have:=h.s2 s c;rw[show x.state=1 from b]at this;cases this
  ·have:=h.st.2 (by rw[show x.Ql=some d from B];rfl);have:=h.s2 s c;omega
  ·show plc x.id (e.p i x.id) (e.q i++[])=some k;rw[X3];exact h.pl B k i G
 | pub x s c q=>
  cases m;rw[En.add_nil];refine⟨h.Uy,h.k1,h.kk,h.st,fun b=>?_,h.ld,h.dr,fun p b=>(by cases b),fun p b=>(by cases b),fun p b=>(by cases b),h.pl,(h.sc s c).2,h.wk,fun p b=>(by cases b)⟩;have:=h.s2 s c;rw[show x.state=0 from b]at this;cases this
 | nopub x s c q=>
  cases m;rw[En.add_nil];exact⟨h.Uy,h.k1,h.kk,h.st,h.z,h.ld,h.dr,fun p b=>(by cases b),fun p b=>(by cases b),fun p b=>(by cases b),h.pl,h.cw,h.wk,fun p b=>(by cases b)⟩
 | load x ns c q A=>
  cases m;have K:x.Ql=none:=h.Qkr Qb;have J:∀s,x.Xg≠some s:=fun s f=>by have:=h.s2 s f;omega
  refine⟨A,h.k1,fun _=>q,⟨fun b=>(by cases b),fun b=>?_⟩,fun b=>(by cases b),fun _=>⟨[],rfl,Fo,fun i j=>(by cases j),fun b=>?_,fun i j=>.inr (.inl ?_)⟩,fun d B=>?_,fun s f=>absurd f (J s),fun s f=>absurd f (J s),fun s f=>absurd f (J s),fun _ k i G=>?_,h.cw,h.wk,fun s f=>absurd f (J s)⟩
  ·rw[show (C6 x ns).Ql=x.Ql from rfl,K]at b;cases b
  ·have:0=ns.length:=b;have:=h.k1;omega
  ·obtain⟨r,W⟩:=Dg j;exact⟨_,Ef _ (by rw[Vk,Qti i ns _ r (Vs A) W];exact Vd.2 rfl),rfl,rfl⟩
  ·rw[show (C6 x ns).Ql=x.Ql from rfl,K]at B;cases B
  ·show plc x.id (e.p i x.id) (e.q i++qOf (Vk x ns) i)=some k;rw[Qxe,Vk,Qti i ns _ k (Vs A) G];show Qm4 x.id _ _=some k;unfold Qm4;rw[Qh rfl,Qh rfl]
 | warn x t H=>
  cases m
  have c:JL (e.add (x.at_.map fun n=>((n,{kind:=12,Qu:=x.id,tick:=t}):Od)) []) x:=h.add (fun o L S=>by
   obtain⟨n,_,rfl⟩:=Qq.1 L;exact⟨by show (12:Nat)≠3;decide,by show (12:Nat)≠10;decide⟩) []
  exact⟨h.Uy,h.k1,h.kk,h.st,fun b=>(by have b:x.state=0:=b;omega),c.ld,c.dr,h.s2,c.sv,c.tl,c.pl,h.cw,h.wk,h.sc⟩
 | go x g H q A=>
  cases m
  have c:JL (e.add (x.at_.map fun n=>((n,{kind:=5,gen:=g,Qu:=x.id}):Od)) []) x:=h.add (fun o L S=>by
   obtain⟨n,_,rfl⟩:=Qq.1 L;exact⟨by show (5:Nat)≠3;decide,by show (5:Nat)≠10;decide⟩) []
  exact⟨h.Uy,h.k1,h.kk,h.st,fun b=>(by rw[show x.state=0 from b]at H;cases H),c.ld,c.dr,h.s2,c.sv,c.tl,c.pl,h.cw,h.wk,h.sc⟩
theorem Tj.Qu{u:List Nat}{l:Nat}{x:Bj}{z:Option Bj}{E:List Od}{D:List Nat}{I:List Im}(h:Tj u l x z E D I):∀o∈E,o.2.Qu=x.id:=by
 intro o a;cases h with
 | load x ns=>
  obtain⟨r,b,e⟩:=List.mem_mapIdx.1 a;rw[←e]
 | _=>
  first
  | (cases a;done)
  | (obtain⟨n,_,rfl⟩:=Qq.1 a;rfl)
theorem Ts.Qu{u:List Nat}{A:Nat→Prop}{x:Bj}{z:Option Bj}{E:List Od}{D:List Nat}{I:List Im}(h:Ts u A x z E D I):∀o∈E,o.2.Qu=x.id:=by
 induction h with
 | nil=>intro o a;cases a
 | snoc c _ t b=>
  intro o a
  rcases Xu.1 a with a|a
  ·exact b o a
  ·exact(t.Qu o a).trans (c.id rfl)
theorem JL.steps{u:List Nat}{A:Nat→Prop}{e:En}{x y:Bj}{z:Option Bj}{E:List Od}{D:List Nat}{I:List Im}(h:JL e x)(t:Ts u A x z E D I)(a:z=some y):JL (e.add E I) y:=by
 induction t generalizing y with
 | nil=>cases a;rw[En.add_nil];exact h
 | snoc _ _ t b=>
  rw[←En.add_add];exact(b rfl).step t a
def LBe(c:En)(a:List Od)(i0:List Im)(b:Br):Prop:=∃E I,b.Qd=a++E∧b.Qf=i0++I∧∀x∈b.js,JL (c.add E I) x∧JW x
theorem Qnl{u:List Nat}{A:Nat→Prop}{e:En}{g:List Od}{i0:List Im}{b c:Br}(h:Mu u A b c)(k:LBe e g i0 b):LBe e g i0 c:=by
 obtain⟨x,z,j,B,f,n,t,p,e1,e2,e3,s,e5⟩:=h;obtain⟨E,I,k1,l,d⟩:=k;refine⟨E++j,I++f,by rw[e2,k1,Wb],by rw[s,l,Wb],fun y a=>?_⟩;rw[←En.add_add];have i:=d x (Qi n).1;have oth:∀y∈b.js,y.id≠x.id→JL ((e.add E I).add j f) y∧JW y:=fun y a v=>⟨(d y a).1.add (fun o q r=>absurd (r.symm.trans (t.Qu o q)) v) f,(d y a).2⟩;rw[e1]at a;cases z with
 | none=>exact oth y (Y5.1 a).1 (U4 (Y5.1 a).2)
 | some w=>
  rcases Ke (show y∈Xe b.js w from a) with rfl|⟨k,m⟩
  ·exact⟨i.1.steps t rfl,p _ rfl i.2⟩
  ·exact oth y k (by rw[←t.id rfl];exact m)
theorem Q5r{u:List Nat}{A:Nat→Prop}{e0:En}{o0:List Od}{i0:List Im}{b c:Br}(h:Ms u A b c)(k:LBe e0 o0 i0 b):LBe e0 o0 i0 c:=
 h.inv (P:=LBe e0 o0 i0) (fun b c a k=>by
  obtain⟨E,I,k1,e,d⟩:=k;exact⟨E,I,a.2.1.trans k1,a.2.2.2.1.trans e,fun x f=>d x (a.1 ▸ f)⟩) (fun _ _=>Qnl) k
def Ki(nd:List Nd)(i:Nat):List Nt:=match nd[i]? with
 | some n=>n.Yy
 | none=>[]
def Uz(nd:List Nd)(i:Nat):List (Nt×List Int):=match nd[i]? with
 | some n=>n.out
 | none=>[]
def F9(nd:List Nd)(i id:Nat):Option Nat:=match nd[i]? with
 | some n=>(Yt id n.rk).map (·.place)
 | none=>none
def Vi(nd:List Nd)(os:List Od)(im:List Im):En:=⟨fun i=>Ki nd i++qOf os i,Uz nd,im.map fun i=>(i.Qu,i.ver),F9 nd⟩
theorem Qlf(nd:List Nd)(os E:List Od)(im I:List Im):(Vi nd os im).add E I=Vi nd (os++E) (im++I):=by
 unfold Vi En.add;simp only[Ds,Wb,Vc]
def LB(nd:List Nd)(im:List Im)(b:Br):Prop:=∀x∈b.js,JL (Vi nd b.Qd (im++b.Qf)) x∧JW x
theorem LB.e{nd:List Nd}{im:List Im}{b:Br}(h:LB nd im b):LBe (Vi nd b.Qd (im++b.Qf)) b.Qd b.Qf b:=⟨[],[],Q2,Q2,fun x a=>by rw[En.add_nil];exact h x a⟩
theorem LB.of{nd:List Nd}{im:List Im}{b c:Br}(h:LBe (Vi nd b.Qd (im++b.Qf)) b.Qd b.Qf c):LB nd im c:=by
 obtain⟨E,I,k1,d,a⟩:=h;intro x e;have:=a x e;rw[Qlf,←k1,Wb,←d]at this;exact this
theorem LB.ms{nd:List Nd}{im:List Im}{u:List Nat}{A:Nat→Prop}{b c:Br}(h:LB nd im b)(k:Ms u A b c):LB nd im c:=LB.of (Q5r k h.e)
theorem JL.mv{e b:En}{x:Bj}(h:JL e x)(y:x.state=1→∀i∈x.at_,i∉x.Xt.getD []→e.has 3 4 i x.id→b.has 3 4 i x.id)(w:∀d,x.Ql=some d→∀i∈d,e.has 10 11 i x.id→b.has 10 11 i x.id)(v:∀s,x.Xg=some s→s.told=false→∀k i,x.at_[k]?=some i→i∉s.have_→e.sv8 i x.id s.ver k→b.sv8 i x.id s.ver k)(u:∀s,x.Xg=some s→s.told=true→(x.id,s.ver)∈e.im→(x.id,s.ver)∈b.im)(t:x.Ql=none→∀k i,x.at_[k]?=some i→plc x.id (e.p i x.id) (e.q i)=some k→plc x.id (b.p i x.id) (b.q i)=some k):JL b x:=by
 refine⟨h.Uy,h.k1,h.kk,h.st,h.z,fun e1=>?_,fun d f i c=>⟨(h.dr d f i c).1,w d f i c (h.dr d f i c).2⟩,h.s2,fun s j g=>?_,fun s j g=>u s j g (h.tl s j g),fun f k i m=>t f k i m (h.pl f k i m),h.cw,h.wk,h.sc⟩
 ·obtain⟨l,n,q,p,o,r⟩:=h.ld e1;refine⟨l,n,q,p,o,fun i c=>?_⟩
  by_cases a:i∈l
  ·exact .inl a
  ·exact .inr (y e1 i c (by rw[n];exact a) ((r i c).resolve_left a))
 ·obtain⟨n,q,p,o⟩:=h.sv s j g;refine⟨n,q,p,fun k i m=>?_⟩
  by_cases a:i∈s.have_
  ·exact .inl a
  ·exact .inr (v s j g k i m a ((o k i m).resolve_left a))
theorem Q11{nd:Nd}(h:(keys nd.rk).Nodup)(x:Nt)(id:Nat):(Yt id (Z9 nd x).rk).map (·.place)=Qm4 id ((Yt id nd.rk).map (·.place)) x:=by
 unfold Z9 Qm4
 by_cases c:x.kind=3
 ·rw[Qh c];show (Yt id (Wl x.Qu {place:=x.Yl} nd.rk)).map (·.place)=_;rw[Jf,Qh c]
  by_cases e:id=x.Qu
  ·rw[Qh e,Qh e.symm];rfl
  ·rw[Qe e,Qe fun k=>e k.symm]
 rw[Qe c,Qe c]
 by_cases g:x.kind=5
 ·rw[Qh g,Qe (show ¬x.kind=10 by omega),ite_self];cases b:Yt x.Qu nd.rk with
  | none=>rfl
  | some r=>
   show (Yt id (Wl x.Qu _ nd.rk)).map (·.place)=_;rw[Jf]
   by_cases e:id=x.Qu
   ·rw[Qh e,e,b];rfl
   ·rw[Qe e]
 rw[Qe g]
 by_cases f:x.kind=6
 ·rw[Qh f,Qe (show ¬x.kind=10 by omega),ite_self]
  split
  ·cases b:Yt (Ya nd.rk) nd.rk with
   | none=>rfl
   | some r=>
    show (Yt id (Wl (Ya nd.rk) _ nd.rk)).map (·.place)=_;rw[Jf]
    by_cases e:id=Ya nd.rk
    ·rw[Qh e,e,b];rfl
    ·rw[Qe e]
  ·rfl
 rw[Qe f]
 by_cases d:x.kind=8
 ·rw[Qh d,Qe (show ¬x.kind=10 by omega),ite_self];cases b:Yt x.Qu nd.rk with
  | none=>rfl
  | some r=>rfl
 rw[Qe d]
 by_cases a:x.kind=10
 ·rw[Qh a,Qh a];show (Yt id (Fe x.Qu nd.rk)).map (·.place)=_;rw[Qhg _ h]
  by_cases e:id=x.Qu
  ·rw[Qh e,Qh e.symm];rfl
  ·rw[Qe e,Qe fun k=>e k.symm]
 ·rw[Qe a,Qe a,ite_self]
theorem Q8q(nd:Nd)(x:Nt):(∃o,(Z9 nd x).out=nd.out++o)∧(x.kind=3→∃n∈(Z9 nd x).out,n.1.kind=4∧n.1.Qu=x.Qu)∧(x.kind=10→∃n∈(Z9 nd x).out,n.1.kind=11∧n.1.Qu=x.Qu)∧(x.kind=8→∀k,(Yt x.Qu nd.rk).map (·.place)=some k→∃n∈(Z9 nd x).out,n.1.kind=9∧n.1.Qu=x.Qu∧n.1.ver=x.ver∧n.1.Yl=k):=by
 have self:∃o,nd.out=nd.out++o:=⟨[],Q2⟩;unfold Z9
 by_cases d:x.kind=3
 ·rw[Qh d];exact⟨⟨_,rfl⟩,fun _=>⟨_,Ef _ (Vd.2 rfl),rfl,rfl⟩,fun e=>(by omega),fun e=>(by omega)⟩
 rw[Qe d]
 by_cases g:x.kind=5
 ·rw[Qh g];refine⟨?_,fun e=>(by omega),fun e=>(by omega),fun e=>(by omega)⟩;split <;> exact self
 rw[Qe g]
 by_cases f:x.kind=6
 ·rw[Qh f];refine⟨?_,fun e=>(by omega),fun e=>(by omega),fun e=>(by omega)⟩
  split
  ·split
   ·exact self
   ·exact⟨_,rfl⟩
  ·exact⟨_,rfl⟩
 rw[Qe f]
 by_cases c:x.kind=8
 ·rw[Qh c];cases h:Yt x.Qu nd.rk with
  | none=>exact⟨self,fun e=>(by omega),fun e=>(by omega),fun _ k b=>(by cases b)⟩
  | some r=>
   refine⟨⟨_,rfl⟩,fun e=>(by omega),fun e=>(by omega),fun _ k b=>⟨_,Ef _ (Vd.2 rfl),rfl,rfl,rfl,?_⟩⟩
   simpa using b
 rw[Qe c]
 by_cases a:x.kind=10
 ·rw[Qh a];exact⟨⟨_,rfl⟩,fun e=>(by omega),fun _=>⟨_,Ef _ (Vd.2 rfl),rfl,rfl⟩,fun e=>(by omega)⟩
 ·rw[Qe a];exact⟨self,fun e=>absurd e d,fun e=>absurd e a,fun e=>absurd e c⟩
theorem Qd4{nd:List Nd}{i:Nat}{n n':Nd}(a:nd[i]?=some n)(j:Nat):(nd.set i n')[j]?=if j=i then some n' else nd[j]?:=by
 rw[Fq]
 by_cases e:i=j
 ·rw[Qh e,Qh e.symm,Qh (Yz.1 a).1]
 ·rw[Qe e,Qe fun k=>e k.symm]
theorem LB.act{nd:List Nd}{im:List Im}{b:Br}(h:LB nd im b){i:Nat}{n:Nd}(A:nd[i]?=some n)(Y:(keys n.rk).Nodup){x:Nt}{l:List Nt}(Z:n.Yy=x::l):LB (nd.set i (Z9 {n with Yy:=l} x)) im b:=fun y X=>by
 obtain⟨h1,h2⟩:=h y X;refine⟨?_,h2⟩;obtain⟨⟨o,H⟩,J,q,I⟩:=Q8q {n with Yy:=l} x;have O:=fun id=>Q11 (nd:={n with Yy:=l}) Y x id;have v:(Z9 {n with Yy:=l} x).Yy=l:=(S6 _ x).2;obtain⟨n',F⟩:∃n',n'=Z9 {n with Yy:=l} x:=⟨_,rfl⟩;rw[←F]at H J q I O v ⊢;have f:=Qd4 (n':=n') A;have D:(Vi nd b.Qd (im++b.Qf)).q i=x::(l++qOf b.Qd i):=by show Ki nd i++_=_;rw[Ki,A];show n.Yy++_=_;rw[Z];rfl
 have N:(Vi nd b.Qd (im++b.Qf)).o i=n.out:=by show Uz nd i=_;rw[Uz,A]
 have L:∀id,(Vi nd b.Qd (im++b.Qf)).p i id=(Yt id n.rk).map (·.place):=fun id=>by show F9 nd i id=_;rw[F9,A]
 have p:(Vi (nd.set i n') b.Qd (im++b.Qf)).q i=l++qOf b.Qd i:=by show Ki _ i++_=_;rw[Ki,f,Qh rfl];show n'.Yy++_=_;rw[v]
 have t:(Vi (nd.set i n') b.Qd (im++b.Qf)).o i=n'.out:=by show Uz _ i=_;rw[Uz,f,Qh rfl]
 have r:∀id,(Vi (nd.set i n') b.Qd (im++b.Qf)).p i id=Qm4 id ((Yt id n.rk).map (·.place)) x:=fun id=>by show F9 _ i id=_;rw[F9,f,Qh rfl];exact O id
 have C:∀j,j≠i→(Vi (nd.set i n') b.Qd (im++b.Qf)).q j=(Vi nd b.Qd (im++b.Qf)).q j:=fun j d=>by show Ki _ j++_=Ki _ j++_;rw[Ki,Ki,f,Qe d]
 have M:∀j,j≠i→(Vi (nd.set i n') b.Qd (im++b.Qf)).o j=(Vi nd b.Qd (im++b.Qf)).o j:=fun j d=>by show Uz _ j=Uz _ j;rw[Uz,Uz,f,Qe d]
 have K:∀j id,j≠i→(Vi (nd.set i n') b.Qd (im++b.Qf)).p j id=(Vi nd b.Qd (im++b.Qf)).p j id:=fun j id d=>by show F9 _ j id=F9 _ j id;rw[F9,F9,f,Qe d]
 have u:∀z∈n.out,z∈n'.out:=fun z W=>by rw[H];exact C1 _ W
 have has:∀a c j id,(x.kind=a→x.Qu=id→∃z∈n'.out,z.1.kind=c∧z.1.Qu=id)→(Vi nd b.Qd (im++b.Qf)).has a c j id→(Vi (nd.set i n') b.Qd (im++b.Qf)).has a c j id:=fun a c j id hc e=>by
  unfold En.has at e ⊢
  by_cases d:j=i
  ·subst d;rw[p,t];rw[D,N]at e
   rcases e with ⟨z,g,m,z3⟩|⟨z,g,m⟩
   ·rcases Yf.1 g with rfl|g
    ·exact .inr (hc m z3)
    ·exact .inl ⟨z,g,m,z3⟩
   ·exact .inr ⟨z,u z g,m⟩
  ·rw[C j d,M j d];exact e
 refine h1.mv (fun _ j _ _=>has 3 4 j y.id fun e1 e2=>?_) (fun _ _ j _=>has 10 11 j y.id fun e1 e2=>?_) (fun s _ _ k j E _ e=>?_) (fun _ _ _ k=>k) (fun _ k j E e=>?_)
 ·rw[←e2];exact J e1
 ·rw[←e2];exact q e1
 ·unfold En.sv8 at e ⊢
  by_cases d:j=i
  ·subst d;rw[p,t,r];rw[D,N,L]at e
   rcases e with ⟨a,z,c,g,m,z3,G,B⟩|⟨z,g,m⟩
   ·cases a with
    | nil=>
     cases g;rw[←z3]at B;obtain⟨w,V,U,T,S,R⟩:=I m k B;exact .inr ⟨w,V,U,T.trans z3,S.trans G,R⟩
    | cons a0 a=>
     rw[Nx]at g;obtain⟨Q,P⟩:=Qvl g;subst Q;exact .inl ⟨a,z,c,P,m,z3,G,B⟩
   ·exact .inr ⟨z,u z g,m⟩
  ·rw[C j d,M j d,K j _ d];exact e
 ·by_cases d:j=i
  ·subst d;rw[p,r];rw[D,L]at e;exact e
  ·rw[C j d,K j _ d];exact e
section
variable {u:List Nat}{A:Nat→Prop}{b:Br}{nd:List Nd}{im:List Im}
def Q7i(b:Br)(l:List Nat):Prop:=∀id∈l,∀x,Qk b.js id=some x→x.state=2∧x.Ql=none∧x.work<x.w
theorem Qtt(a:A 18):∀(l:List Nat) (b:Br),l.Nodup→Q7i b l→Ms u A b (each V8 b l)
 | [],b,_,_=>.refl b
 | id::l,b,p,f=>by
  obtain⟨n1,h⟩:=Vz.1 p;have e:each V8 b (id::l)=each V8 (match Qk b.js id with|none=>b|some x=>V8 b x) l:=rfl;rw[e];cases g:Qk b.js id with
  | none=>exact Qtt a l b h fun i c=>f i (Ym _ c)
  | some x=>
   obtain⟨k1,o,m⟩:=f id (Z0 ..) x g;have j:=(Qi g).2;refine(Ff (b:=b) (by rw[j];exact g) (.one a (.go x b.gen k1 o m)) (fun k=>⟨k.ne,k.lt,k.ag⟩) (b0:={b with stops:=some (x.at_.foldl Xm (b.stops.getD [])),Qd:=b.Qd++x.at_.map fun n=>((n,{kind:=5,gen:=b.gen,Qu:=x.id}):Od)}) rfl rfl Q2 Q2 rfl).s.trans (Qtt a l _ h fun i c y d=>f i (Ym _ c) y ?_);have d:Qk (Xe b.js {x with X4:=some []}) i=some y:=d;rw[Gb,Qe fun e=>n1 (by rw[←j];rw[show i=x.id from e]at c;exact c)]at d;exact d
theorem Jn(b:Br):∀(i:Nat) (row:Int),Xx b row i=b∨∃z L,Ko b.m z=true∧L=X1 b (Yq b.m z++Xc b.m z)∧0<(X1 b (Yq b.m z)).length∧Xx b row i=Tv {b with row:=z} L
 | 0,_=>.inl rfl
 | i+1,row=>by
  cases c:(Xh b.m row).2 with
  | false=>exact .inl (Mp c)
  | true=>
   by_cases a:0<(X1 b (Yq b.m (Xh b.m row).1)).length
   ·rw[D9 c a];refine .inr ⟨_,_,?_,rfl,a,rfl⟩;cases d:Ko b.m (Xh b.m row).1 with
    | true=>rfl
    | false=>rw[Yq,d]at a;simp[X1]at a
   ·rw[D8 c a];exact Jn b i _
theorem T4(b:Br)(l:List Nat):Q7i b (X1 b l):=fun id c x d=>by
 have a:=(Y5.1 c).2;rw[d]at a;simp only[Z5,Zz,Qef]at a;exact⟨a.1.1,a.1.2,a.2⟩
theorem Zb2(d:A 18)(i:BrI b never){z:Int}(f:Ko b.m z=true):Ms u A b (Tv {b with row:=z} (X1 b (Yq b.m z++Xc b.m z))):=by
 rw[Bh];have h:=Lk i f;have e:=Jc (X1 b (Yq b.m z++Xc b.m z));refine Ms.pre (c:=F4 {b with row:=z} (X1 b (Yq b.m z++Xc b.m z))) ⟨rfl,rfl,rfl,rfl,rfl⟩ (Qtt d _ _ (e.symm.nodup h.nd) fun id a x g=>T4 b _ id (e.mem_iff.1 a) x g)
theorem Qku(a:A 18)(c:BrI b never)(i:Nat)(row:Int):Ms u A b (Xx b row i):=by
 rcases Jn b i row with e|⟨z,L,f,d,_,e⟩
 ·rw[e];exact .refl b
 ·rw[e,d];exact Zb2 a c f
abbrev lT(l:Nat):Prop:=l∈[1,2,5,6,8,16,17,18]
theorem Qhh(i:BrI b never)(h:b.stops=none):Ms b.up lT b (V0 b):=by
 have m:Ms b.up lT b (each Q4 b b.ids):=Sj Qp Qp Qp Qp rfl b.ids;obtain⟨i1,i2⟩:=A2 i b.ids;have l:=m.trans (Qak Qp i2);obtain⟨i3,i4⟩:=Er i2;have k:=l.trans (Qd5 Qp i4.ok.Y4);obtain⟨i5,g⟩:=Cg i4;have c:=k.core (d:=rep (Qy (Q9 (each Q4 b b.ids)))) ⟨rfl,rfl,rfl,rfl,rfl⟩;obtain⟨f,i8⟩:=Qgl g;have e:=((i1.trans i3).trans (i5.trans f)).stops.trans h;obtain⟨n,a⟩:=Lh i8 e (rep (Qy (Q9 (each Q4 b b.ids)))).ids;have j:=c.trans (Qkv Qp c.up (rep (Qy (Q9 (each Q4 b b.ids)))).ids);exact j.trans (Qku Qp a _ _)
theorem LB.quiet{c:Br}(h:LB nd im b)(e1:c.js=b.js)(e2:c.Qd=b.Qd)(e3:c.Qf=b.Qf):LB nd im c:=fun x a=>by rw[e2,e3];exact h x (e1 ▸ a)
theorem LB.tick(h:LB nd im b)(a:BrI b never){now:Nat}(k:now≤4294967295):LB nd im (Y7 b now).2:=by
 unfold Y7
 split
 ·exact h
 split
 ·exact h.quiet rfl rfl rfl
 split
 ·split
  ·intro x g;obtain⟨m,l⟩:=h x g;refine⟨?_,l⟩
   have:=m.add (E:=((List.range b.nodes).filter fun n=>decide (n∈b.stops.getD [])).map fun n=>((n,{kind:=6,gen:=b.gen}):Od)) (fun o j _=>by
    obtain⟨n,_,rfl⟩:=Qq.1 j;exact⟨by show (6:Nat)≠3;decide,by show (6:Nat)≠10;decide⟩) []
   rw[Qlf,X3]at this;exact this
  ·exact h.quiet rfl rfl rfl
 ·rename_i f
  have f:b.stops=none:=by
   cases e:b.stops with
   | none=>rfl
   | some d=>rw[e]at f;exact absurd rfl f
  have i:BrI {b with now:=now} never:=a.same ⟨a.ok.R,a.ok.N,a.ok.Fu,a.ok.Y4,fun x g=>a.ok.Qu x g,a.ok.Dk,a.ok.q1,a.ok.q2,a.ok.g1,a.ok.g2,k,a.ok.fin,a.ok.mem,a.ok.C4⟩ rfl rfl rfl;exact(LB.quiet (c:={b with now:=now}) h rfl rfl rfl).ms (Qhh i f)
theorem Q1c(D:Wm b.js){i:Nat}{t:Nt}{q:List Int}(H:Vh b i true=0):∀y∈(X6 b i t q).2.js,y.id=t.Qu→i∈y.at_→(t.kind=4→y.state=1→i∈y.Xt.getD [])∧(t.kind=11→∀d,y.Ql=some d→i∉d)∧(t.kind=9→∀s,y.Xg=some s→s.told=false→t.ver=s.ver→Kp y.at_ i=some t.Yl→i∈s.have_):=by
 unfold X6;rw[Qe (fun e=>e H)]
 by_cases F:t.kind=7
 ·exact fun y _ _ _=>⟨fun e=>(by omega),fun e=>(by omega),fun e=>(by omega)⟩
 rw[Qe F];cases v:Qk b.js t.Qu with
 | none=>exact fun y c a=>absurd a (Kb v y c)
 | some x=>
  obtain⟨I,r⟩:=Qi v
  have same:∀y∈b.js,y.id=t.Qu→y=x:=fun y c a=>by
   have:=Ys D c;rw[a,v]at this;cases this;rfl
  simp only
  by_cases u:i∈x.at_
  ·rw[show ((i:Int).toNat)=i from rfl,Qh u];show ∀y∈(U8 b x i t q).js,_;unfold U8
   by_cases z:t.kind=4
   ·rw[Qh z];intro y c a f;refine⟨fun _ B=>?_,fun e=>(by omega),fun e=>(by omega)⟩
    split at c
    ·rcases Ke (show y∈Xe b.js (N2 x (x.Xt.getD []) i) from c) with rfl|⟨_,k⟩
     ·exact Hj.2 (.inr rfl)
     ·exact absurd (a.trans r.symm) k
    ·rename_i E;rw[same y c a]at B;exact absurd B E
   rw[Qe z]
   by_cases w:t.kind=9
   ·rw[Qh w];intro y c a f;refine⟨fun e=>(by omega),fun e=>(by omega),fun _ s l A C m=>?_⟩;unfold Ky at c;cases g:x.Xg with
    | none=>
     rw[g]at c;rw[same y c a,g]at l;cases l
    | some sx=>
     rw[g]at c;simp only at c;cases h:Kp x.at_ i with
     | none=>
      rw[h]at c;rw[same y c a,h]at m;cases m
     | some k=>
      rw[h]at c;simp only at c
      split at c
      ·rename_i j;rw[same y c a]at l m;rw[g]at l;cases l;rw[h]at m;cases m
       rcases j with j|j|j
       ·rw[A]at j;cases j
       ·exact absurd C j
       ·exact absurd rfl j
      ·split at c
       ·rcases Ke (show y∈Xe b.js {x with Xg:=some {sx with bs:=sx.bs.set k q,have_:=Xm sx.have_ i,told:=true}} from c) with rfl|⟨_,k⟩
        ·cases l;cases A
        ·exact absurd (a.trans r.symm) k
       ·rcases Ke (show y∈Xe b.js {x with Xg:=some {sx with bs:=sx.bs.set k q,have_:=Xm sx.have_ i}} from c) with rfl|⟨_,k⟩
        ·cases l;exact Hj.2 (.inr rfl)
        ·exact absurd (a.trans r.symm) k
   rw[Qe w]
   by_cases o:t.kind=11
   ·rw[Qh o];intro y c a f;refine⟨fun e=>(by omega),fun _ d p=>?_,fun e=>(by omega)⟩
    split at c
    ·rename_i n;rw[same y c a,n]at p;cases p
    ·rename_i G n
     rcases Qa0 (show y∈(Y6 b (Cq x G i)).js from c) with rfl|rfl|⟨_,k⟩
     ·cases p;exact fun k=>(V4.1 k).2 rfl
     ·cases p
     ·exact absurd (a.trans r.symm) k
   ·exact fun y _ _ _=>⟨fun e=>absurd e z,fun e=>absurd e o,fun e=>absurd e w⟩
  ·rw[show ((i:Int).toNat)=i from rfl,Qe u];intro y c a f;rw[same y c a]at f;exact absurd f u
theorem LB.pop(h:LB nd im b){i:Nat}{n:Nd}(v:nd[i]?=some n){t:Nt×List Int}{l:List (Nt×List Int)}(L:n.out=t::l)(x:∀y∈b.js,y.id=t.1.Qu→i∈y.at_→(t.1.kind=4→y.state=1→i∈y.Xt.getD [])∧(t.1.kind=11→∀d,y.Ql=some d→i∉d)∧(t.1.kind=9→∀s,y.Xg=some s→s.told=false→t.1.ver=s.ver→Kp y.at_ i=some t.1.Yl→i∈s.have_)):LB (nd.set i {n with out:=l}) im b:=fun y u=>by
 obtain⟨B,O⟩:=h y u;refine⟨?_,O⟩;have m:=Qd4 (n':={n with out:=l}) v
 have w:∀j,(Vi (nd.set i {n with out:=l}) b.Qd (im++b.Qf)).q j=(Vi nd b.Qd (im++b.Qf)).q j:=fun j=>by
  show Ki _ j++_=Ki _ j++_;rw[Ki,Ki,m]
  by_cases e:j=i
  ·rw[Qh e,e,v]
  ·rw[Qe e]
 have r:∀j id,(Vi (nd.set i {n with out:=l}) b.Qd (im++b.Qf)).p j id=(Vi nd b.Qd (im++b.Qf)).p j id:=fun j id=>by
  show F9 _ j id=F9 _ j id;rw[F9,F9,m]
  by_cases e:j=i
  ·rw[Qh e,e,v]
  ·rw[Qe e]
 have F:∀j,j≠i→(Vi (nd.set i {n with out:=l}) b.Qd (im++b.Qf)).o j=(Vi nd b.Qd (im++b.Qf)).o j:=fun j g=>by show Uz _ j=Uz _ j;rw[Uz,Uz,m,Qe g]
 have G:(Vi nd b.Qd (im++b.Qf)).o i=t::l:=by show Uz nd i=_;rw[Uz,v];exact L
 have q:(Vi (nd.set i {n with out:=l}) b.Qd (im++b.Qf)).o i=l:=by show Uz _ i=_;rw[Uz,m,Qh rfl]
 have has:∀a c j id,(j=i→t.1.kind=c→t.1.Qu=id→False)→(Vi nd b.Qd (im++b.Qf)).has a c j id→(Vi (nd.set i {n with out:=l}) b.Qd (im++b.Qf)).has a c j id:=fun a c j id N f=>by
  unfold En.has at f ⊢;rw[w]
  by_cases g:j=i
  ·rw[g,q];rw[g,G]at f
   rcases f with f|⟨z,o,p,z3⟩
   ·exact .inl f
   ·rcases Yf.1 o with rfl|o
    ·exact(N g p z3).elim
    ·exact .inr ⟨z,o,p,z3⟩
  ·rw[F j g];exact f
 refine B.mv (fun e1 j g M=>has 3 4 j y.id fun e2 e3 C=>?_) (fun d H j g=>has 10 11 j y.id fun e2 e3 C=>?_) (fun s K J k j A I f=>?_) (fun _ _ _ k=>k) (fun _ k j A f=>by rw[w,r];exact f)
 ·subst e2;exact M ((x y u C.symm g).1 e3 e1)
 ·subst e2;exact(x y u C.symm (B.dr d H j g).1).2.1 e3 d H g
 ·unfold En.sv8 at f ⊢;rw[w,r]
  by_cases g:j=i
  ·subst g;rw[q];rw[G]at f
   rcases f with f|⟨z,o,p,z3,E,D⟩
   ·exact .inl f
   ·rcases Yf.1 o with rfl|o
    ·refine absurd ((x y u z3.symm (Yn A)).2.2 p s K J E ?_) I;rw[D];exact Za9 B.Uy A
    ·exact .inr ⟨z,o,p,z3,E,D⟩
  ·rw[F j g];exact f
theorem LB.hear(h:LB nd im b)(a:GJ b nd){i:Nat}{n:Nd}(c:nd[i]?=some n)(e:n.up=true){t:Nt×List Int}{l:List (Nt×List Int)}(f:n.out=t::l):LB (nd.set i {n with out:=l}) im (X6 b i t.1 t.2).2:=by
 have d:i∈b.up:=(a.gi.Au c).1 e
 have g:Vh b i true=0:=by
  unfold Vh;have:=Nq a.gi.bi d;rw[Qe Qb,(a.gi.bi.up i).1 d];rfl
 exact(h.ms (Lt (u:=b.up) rfl i t.1 t.2)).pop c f (Q1c a.gi.bi.ok.Y4 g)
theorem Qre{d:Br}{x z:Bj}(c:x.Xg=none)(b:z∈(Y6 d x).js)(a:z.id=x.id):z.Xg=none:=by
 rcases Qa0 b with rfl|rfl|⟨_,k⟩
 ·exact c
 ·rfl
 ·exact absurd a k
theorem Q7q{f:Br}{x z:Bj}{a:Bool}(c:z∈(Wd f x a).js)(b:z.id=x.id):z.Xg=none:=by
 cases e:x.Ql with
 | some d=>rw[Kd e]at c;exact Qre (x:=W9 x a d) rfl c b
 | none=>rw[Vj e]at c;exact Qre (x:=W9 x a (J0 f x)) rfl c b
theorem Quq{c:Br}{x z:Bj}(d:x.Xg=none)(b:z∈(Yj c x).js)(a:z.id=x.id):z.Xg=none:=by
 unfold Yj at b
 split at b
 ·rcases Ke (show z∈Xe c.js x from b) with rfl|⟨_,k⟩
  ·exact d
  ·exact absurd a k
 ·exact Q7q (x:={x with done:=true}) b a
theorem Qgu(i:Wm b.js)(id ver:Nat)(ok:Bool):∀y∈(Q5 b id ver ok).2.js,y.id=id→∀s,y.Xg=some s→s.told=true→s.ver≠ver:=by
 intro y a e s g j
 have same:∀x,Qk b.js id=some x→y∈b.js→y=x:=fun x d a=>by
  have:=Ys i a;rw[e,d]at this;cases this;rfl
 unfold Q5 at a;cases d:Qk b.js id with
 | none=>rw[d]at a;exact absurd e (Kb d y a)
 | some x=>
  rw[d]at a;simp only at a;cases c:x.Xg with
  | none=>
   rw[c]at a;rw[same x d a,c]at g;cases g
  | some h=>
   rw[c]at a;simp only at a
   split at a
   ·rename_i f;rw[same x d a,c]at g;cases g
    rcases f with f|f
    ·rw[j]at f;cases f
    ·exact f
   ·have:=Quq (x:={x with Qg:=if ok then h.Qg else x.Qg,Xg:=none}) rfl a (e.trans (Qi d).2.symm);rw[this]at g;cases g
theorem LB.Xg(h:LB nd im b):∀x∈b.js,x.Xg.isSome=true→x.Ql=none:=fun x a e=>by
 obtain⟨s,c⟩:=B2.1 e;have:=(h x a).1.s2 s c;exact(h x a).1.Qkr Qb
theorem LB.publish{i:Im}(h:LB nd (i::im) b)(d:Wm b.js)(ok:Bool):LB nd im (Q5 b i.Qu i.ver ok).2:=fun y c=>by
 obtain⟨g,f⟩:=h.ms (Ui h.Xg (u:=b.up) rfl i.Qu i.ver ok) y c;refine⟨g.mv (fun _ _ _ _ k=>k) (fun _ _ _ _ k=>k) (fun _ _ _ _ _ _ _ k=>k) (fun s e1 e2 a=>?_) (fun _ _ _ _ k=>k),f⟩;have a:(y.id,s.ver)∈(i.Qu,i.ver)::(im++(Q5 b i.Qu i.ver ok).2.Qf).map fun i=>(i.Qu,i.ver):=a
 rcases Yf.1 a with e|a
 ·obtain⟨q1,q2⟩:=Gr e;exact absurd q2 (Qgu d i.Qu i.ver ok y c q1 s e1 e2)
 ·exact a
theorem JL.eq{e a:En}{x:Bj}(h:JL e x)(b:∀j,a.q j=e.q j)(c:∀j,a.o j=e.o j)(d:∀j id,a.p j id=e.p j id)(f:∀s,x.Xg=some s→s.told=true→(x.id,s.ver)∈e.im→(x.id,s.ver)∈a.im):JL a x:=
 h.mv (fun _ j _ _ k=>by unfold En.has at k ⊢;rw[b,c];exact k) (fun _ _ j _ k=>by unfold En.has at k ⊢;rw[b,c];exact k) (fun _ _ _ _ j _ _ k=>by unfold En.sv8 at k ⊢;rw[b,c,d];exact k) f (fun _ _ j _ k=>by rw[b,d];exact k)
theorem LB.take(h:LB nd im b)(d:GJ b nd):LB (U0 nd b.Qd) (im++(Vx b).1) {b with Qd:=[],Qf:=[],done:=[]}:=fun x k=>by
 obtain⟨y,w⟩:=h x k
 have l:∀o∈b.Qd,∃n,nd[o.1]?=some n∧n.up=true:=fun o r=>by
  have c:=d.gi.dst o r;have z:=Nq d.gi.bi c;obtain⟨n,a⟩:=Xs (show o.1<nd.length by rw[d.gi.len];exact z);exact⟨n,a,(d.gi.Au a).2 c⟩
 obtain⟨k1,f⟩:=Qad b.Qd nd l;have no:∀j,nd[j]?=none→(U0 nd b.Qd)[j]?=none:=fun j v=>Pf (by rw[k1];exact Q9b.1 v)
 refine⟨y.eq (fun j=>?_) (fun j=>?_) (fun j id=>?_) (fun s m A u=>?_),w⟩
 ·show Ki _ j++[]=Ki nd j++qOf b.Qd j;rw[X3,Ki,Ki];cases a:nd[j]? with
  | none=>
   rw[no j a];show []=[]++qOf b.Qd j;cases p:qOf b.Qd j with
   | nil=>rfl
   | cons t q=>
    obtain⟨n,e,_⟩:=l (j,t) (Fg.1 (by rw[p];exact Z0 ..));rw[a]at e;cases e
  | some n=>rw[f j n a]
 ·show Uz _ j=Uz nd j;rw[Uz,Uz];cases a:nd[j]? with
  | none=>rw[no j a]
  | some n=>rw[f j n a]
 ·show F9 _ j id=F9 nd j id;rw[F9,F9];cases a:nd[j]? with
  | none=>rw[no j a]
  | some n=>rw[f j n a]
 ·obtain⟨i,c,e⟩:=Qq.1 (show (x.id,s.ver)∈(im++b.Qf).map fun i=>(i.Qu,i.ver) from u);obtain⟨e1,e2⟩:=Gr e;refine Qq.2 ⟨i,?_,e⟩;rw[X3]
  rcases Xu.1 c with c|c
  ·exact C1 _ c
  ·refine Ef _ (Y5.2 ⟨c,?_⟩);have g:Qk b.js i.Qu=some x:=by rw[e1];exact Ys d.gi.bi.ok.Y4 k
   rw[g];simp only[m];exact Zh e2.symm
end
section
variable {b:Br}{nd:List Nd}{im:List Im}
theorem LB.lost(h:LB nd im b)(v:GJ b nd){i:Nat}{n:Nd}(z:nd[i]?=some n)(H:n.up=true):LB (nd.set i {up:=false,rk:=[],Yy:=[],out:=[],Qj:=n.Qj}) im (Kh b i).2:=by
 have r:=Qni v z H;have K:i∈b.up:=(v.gi.Au z).1 H
 have R:¬Vh b i true≠0:=by
  unfold Vh;have:=Nq v.gi.bi K;rw[Qe Qb,(v.gi.bi.up i).1 K];exact fun e=>e rfl
 rw[M9 R]at r ⊢;have m1:Ms (Wq b i).up (fun l=>l∈[1,2,4,5,6,8,9,10]) (Wq b i) (each (Xw i) (Wq b i) b.ids):=Qcf Qp Qp Qp Qp Qp rfl i b.ids;have m2:=m1.trans (B8 Qp Qp Qp m1.up i);obtain⟨E,I,k1,w,M⟩:=Q5r (e0:=Vi nd b.Qd (im++b.Qf)) (o0:=(Wq b i).Qd) (i0:=b.Qf) m2 ⟨[],[],Q2,Q2,fun x N=>by rw[En.add_nil];exact h x N⟩;intro y G;obtain⟨t,Q⟩:=M y G;have L:=r.gi.bi.j y G;have p:=m2.up
 have F:y.Ql=none→∀j∈y.at_,j≠i:=fun e j k e2=>by
  have q:=(L.u e j k).resolve_right fun q=>q;have q:j∈(Zt (each (Xw i) (Wq b i) b.ids) i).up:=q;rw[p]at q;exact(V4.1 q).2 e2
 have P:∀d,y.Ql=some d→∀j∈d,j≠i:=fun d e j k e2=>by
  have q:=(L.du d e j k).resolve_right fun q=>q;have q:j∈(Zt (each (Xw i) (Wq b i) b.ids) i).up:=q;rw[p]at q;exact(V4.1 q).2 e2
 refine⟨?_,Q⟩;obtain⟨c,D⟩:∃c,c=Zt (each (Xw i) (Wq b i) b.ids) i:=⟨_,rfl⟩;have k1:c.Qd=(Wq b i).Qd++E:=by rw[D];exact k1
 have w:c.Qf=b.Qf++I:=by rw[D];exact w
 show JL (Vi _ (Zt (each (Xw i) (Wq b i) b.ids) i).Qd (im++(Zt (each (Xw i) (Wq b i) b.ids) i).Qf)) y;rw[←D,k1,w];have m:=Qd4 (n':={up:=false,rk:=[],Yy:=[],out:=[],Qj:=n.Qj}) z
 have O:∀j,j≠i→qOf (Wq b i).Qd j=qOf b.Qd j:=fun j e2=>by
  show qOf (b.Qd.filter fun o=>decide (o.1≠i)) j=_;unfold qOf;rw[Qv3]
  congr 1
  refine Qdi fun o _=>?_
  by_cases e3:o.1=j
  ·rw[Zh e3,Zh (show o.1≠i by rw[e3];exact e2)];rfl
  ·rw[Q6 e3];rfl
 obtain⟨e1,f⟩:∃e1,e1=(Vi nd b.Qd (im++b.Qf)).add E I:=⟨_,rfl⟩;obtain⟨e2,a⟩:∃e2,e2=Vi (nd.set i {up:=false,rk:=[],Yy:=[],out:=[],Qj:=n.Qj}) ((Wq b i).Qd++E) (im++(b.Qf++I)):=⟨_,rfl⟩
 have q1:∀j,j≠i→e2.q j=e1.q j:=fun j e=>by
  rw[f,a];show Ki _ j++qOf _ j=(Ki nd j++qOf b.Qd j)++qOf E j;rw[Ds,O j e,←Wb,Ki,Ki,m,Qe e]
 have q2:∀j,j≠i→e2.o j=e1.o j:=fun j e=>by
  rw[f,a];show Uz _ j=Uz nd j;rw[Uz,Uz,m,Qe e]
 have q3:∀j id,j≠i→e2.p j id=e1.p j id:=fun j id e=>by
  rw[f,a];show F9 _ j id=F9 nd j id;rw[F9,F9,m,Qe e]
 rw[←f]at t;rw[←a]
 refine t.mv (fun s1 j B _ g=>?_) (fun d C j B g=>?_) (fun s J _ k j A _ g=>?_) (fun s J S u=>?_) (fun C k j A g=>?_)
 ·have:=F (t.Qkr Qb) j B;unfold En.has at g ⊢;rw[q1 j this,q2 j this];exact g
 ·have:=P d C j B;unfold En.has at g ⊢;rw[q1 j this,q2 j this];exact g
 ·have:=F (t.Qkr (by have:=t.s2 s J;omega)) j (Yn A);unfold En.sv8 at g ⊢;rw[q1 j this,q2 j this,q3 j _ this];exact g
 ·rw[f]at u;rw[a];have u:(y.id,s.ver)∈(im++b.Qf).map (fun i=>(i.Qu,i.ver))++I.map (fun i=>(i.Qu,i.ver)):=u;show (y.id,s.ver)∈(im++(b.Qf++I)).map fun i=>(i.Qu,i.ver);rw[←Wb,Vc];exact u
 ·have:=F C j (Yn A);rw[q1 j this,q3 j _ this];exact g
theorem LB.nodes{nd':List Nd}(h:LB nd im b)(e:∀j,Ki nd' j=Ki nd j)(d:∀j,Uz nd' j=Uz nd j)(c:∀j id,F9 nd' j id=F9 nd j id):LB nd' im b:=fun x a=>
 ⟨(h x a).1.eq (fun j=>by show Ki nd' j++_=Ki nd j++_;rw[e]) d c fun _ _ _ k=>k,(h x a).2⟩
theorem LB.up(h:LB nd im b){i:Nat}{n:Nd}(c:nd[i]?=some n):LB (nd.set i {n with up:=true}) im (Ja b i).2:=by
 obtain⟨g,_,_,f,d⟩:=Ql4 b i;have a:=Qd4 (n':={n with up:=true}) c
 refine(h.nodes (nd':=nd.set i {n with up:=true}) (fun j=>?_) (fun j=>?_) (fun j id=>?_)).quiet g f d
 ·rw[Ki,Ki,a]
  by_cases e:j=i
  ·rw[Qh e,e,c]
  ·rw[Qe e]
 ·rw[Uz,Uz,a]
  by_cases e:j=i
  ·rw[Qh e,e,c]
  ·rw[Qe e]
 ·rw[F9,F9,a]
  by_cases e:j=i
  ·rw[Qh e,e,c]
  ·rw[Qe e]
theorem LB.ticks(h:LB nd im b)(now:Nat):LB (nd.map (Yg now)) im b:=by
 refine h.nodes (fun j=>?_) (fun j=>?_) (fun j id=>?_)
 ·rw[Ki,Ki,Q8];cases a:nd[j]? with
  | none=>rfl
  | some n=>exact(Kq now n).2.1
 ·rw[Uz,Uz,Q8];cases a:nd[j]? with
  | none=>rfl
  | some n=>exact(Kq now n).2.2.1
 ·rw[F9,F9,Q8];cases a:nd[j]? with
  | none=>rfl
  | some n=>
   obtain⟨rk,e,c⟩:=Qo9 now n;show (Yt id (Yg now n).rk).map (·.place)=(Yt id n.rk).map (·.place);rw[e];have:=Z3 (Option.map Prod.fst) (Qmh c id);rw[Option.map_map,Option.map_map]at this;exact this
theorem LB.Mg(h:LB nd im b)(_hs:Wm b.js)(id t k w:Nat):LB nd im (Ex b (Kl id t k w 0 0)).2:=by
 unfold Ex
 split
 ·exact h
 rename_i a;have a:Ey b (Kl id t k w 0 0)=true:=by simpa using a
 split
 ·exact h
 simp only[Ey,Z5,Zz]at a;obtain⟨⟨⟨⟨⟨⟨u,l⟩,r⟩,j⟩,o5⟩,q⟩,o7⟩:=a;obtain⟨x,f⟩:∃x,x=Kl id t k w 0 0:=⟨_,rfl⟩;have g:0<w:=j;have m:x.Qg<x.w:=by rw[f];exact g
 have o:∀e,JL e x:=fun e=>by
  rw[f];exact⟨.nil,l,fun e=>(by rcases e with e|e <;> cases e),⟨fun e=>(by cases e),fun e=>(by cases e)⟩,fun _=>⟨rfl,rfl,rfl,rfl⟩,fun e=>(by cases e),fun d e=>(by cases e),fun s e=>(by cases e),fun s e=>(by cases e),fun s e=>(by cases e),fun _ k i e=>(by cases e),Q1 _,Xq _,fun s e=>(by cases e)⟩
 have n:JW x:=by rw[f];exact⟨fun e=>(by cases e),fun _=>⟨g,rfl⟩,fun e=>(by cases e)⟩
 rw[←f];show LB nd im (Yj (H8 b x) x);unfold Yj;rw[Qh (.inl m)];intro y c
 rcases Ke (show y∈Xe (Hg x b.js) x from c) with rfl|⟨c,p⟩
 ·exact⟨o _,n⟩
 ·rcases Ks.1 c with rfl|c
  ·exact absurd rfl p
  ·exact h y c
def SN(b:Br):Prop:=∀S,b.stops=some S→S≠[]
theorem SN.same{c:Br}(h:SN b)(e:c.stops=b.stops):SN c:=fun S a=>h S (e ▸ a)
theorem To(h:SN b)(n:Nat):SN (Zt b n):=by
 unfold Zt
 split
 ·exact h
 ·split
  ·rename_i d;intro S a;cases a;exact d
  ·intro S a;have:(each Y9 {b with stops:=none,Qn:=false} b.ids).stops=none:=Qc0 (P:=fun t=>t.stops=none) (f:=Y9) (fun t x c _=>(Pa t x).trans c) b.ids _ rfl;rw[this]at a;cases a
theorem Zas(h:SN b)(c:BrI b never)(i:Nat)(t:Nt)(d:List Int):SN (X6 b i t d).2:=by
 unfold X6
 split
 ·exact h
 split
 ·show SN (Ut b _ t);unfold Ut
  split
  ·refine To ?_ _
   split
   ·exact h
   ·split
    ·exact h
    ·split
     ·exact h
     ·exact h
  ·exact h
 ·cases a:Qk b.js t.Qu with
  | none=>exact h
  | some x=>
   simp only
   split
   ·exact h.same (Qq9 c (by rw[(Qi a).2];exact a) _ _ _).1.stops
   ·exact h
theorem Zar(h:SN b)(n:Int):SN (Kh b n).2:=by
 unfold Kh
 split
 ·exact h
 ·refine To (h.same ?_) _;exact Qc0 (P:=fun t=>t.stops=b.stops) (f:=Xw n.toNat) (fun t x a _=>(Qqj _ t x).trans a) b.ids _ rfl
theorem Am(a:BrI b never){z:Int}{L:List Nat}(_hz:Ko b.m z=true)(g:L=X1 b (Yq b.m z++Xc b.m z)):Qvi (F4 {b with row:=z} L) (Tv {b with row:=z} L) (Jm L):=by
 have i:L.length≤1000:=by
  have:=Pu b (Yq b.m z++Xc b.m z);rw[Yd]at this;have:=F5 a.ok.Fu z;have:=Bx a.ok.Fu z;rw[g];omega
 have d:BrI {b with row:=z} never:=a.same (a.ok.rset _) rfl rfl rfl;have h0:=Q3s (b:={b with row:=z}) d i
 have:=Q3p (b:=F4 {b with row:=z} L) (Jm L) h0 fun id c=>by
  have e:=(Jc L).mem_iff.1 c;rw[g]at e;have h:=(Y5.1 e).2;cases f:Qk b.js id with
  | none=>rw[f]at h;cases h
  | some x=>exact⟨x,rfl,(T4 b _ id e x f).1⟩
 rw[Gf]at this;exact this
theorem Q3f(h:SN b)(f:BrI b never)(i:Nat)(row:Int):SN (Xx b row i):=by
 rcases Jn b i row with e|⟨z,L,p,k,o,e⟩
 ·rw[e];exact h
 ·rw[e];have n:=Am f p k;intro S m q;obtain⟨id,a⟩:=Ta _ (Q9a o)
  have d:id∈L:=by
   rw[k,X1,Gu];exact C1 _ a
  have g:=(Y5.1 a).2;cases c:Qk b.js id with
  | none=>rw[c]at g;cases g
  | some x=>
   obtain⟨g1,_⟩:=T4 b _ id a x c;obtain⟨j,l⟩:=Ta _ (Q8f f x (Qi c).1 g1);have:=(n.C4 j).2 ⟨id,(Jc L).mem_iff.2 d,by rw[show Nk (F4 {b with row:=z} L) id=Nk b id from rfl,G0 c];exact l⟩;rw[m,q]at this;cases this
theorem Zaq(h:SN b)(a:BrI b never){now:Nat}(o:now≤4294967295):SN (Y7 b now).2:=by
 unfold Y7
 split
 ·exact h
 split
 ·exact h
 split
 ·split
  ·exact h
  ·exact h
 ·rename_i c
  have c:b.stops=none:=by
   cases e:b.stops with
   | none=>rfl
   | some d=>rw[e]at c;exact absurd rfl c
  have g:BrI {b with now:=now} never:=a.same ⟨a.ok.R,a.ok.N,a.ok.Fu,a.ok.Y4,fun x n=>a.ok.Qu x n,a.ok.Dk,a.ok.q1,a.ok.q2,a.ok.g1,a.ok.g2,o,a.ok.fin,a.ok.mem,a.ok.C4⟩ rfl rfl rfl;obtain⟨i1,i2⟩:=A2 g b.ids;obtain⟨i3,i4⟩:=Er i2;obtain⟨i5,m⟩:=Cg i4;obtain⟨l,i8⟩:=Qgl m;have i:=((i1.trans i3).trans (i5.trans l)).stops.trans c;obtain⟨k,f⟩:=Lh i8 i (rep (Qy (Q9 (each Q4 {b with now:=now} b.ids)))).ids;refine Q3f (fun S j=>?_) f _ _;rw[k.stops.trans i]at j;cases j
end
structure SL(s:Sm):Prop where
 lb:LB s.nd s.Qf s.b
 sn:SN s.b
theorem Qez{s:Sm}(h:SL s)(b:GJ s.b s.nd)(c:(s.done++s.b.done).Nodup):SL (X5 s):=by
 refine⟨?_,fun S a=>h.sn S a⟩;show LB (s.b.done.foldl Jk (U0 s.nd s.b.Qd,s.done)).1 _ _;rw[D3 _ _ _ c];exact h.lb.take b
def wS(x:Bj):Nat:=match x.Xg with
 | some s=>if s.told then 0 else 1
 | none=>0
def wR(x:Bj):Nat:=if x.X4.isSome then 2*x.at_.length+1 else 0
def wD(x:Bj):Nat:=if x.Ql.isSome then 0 else 2*x.at_.length
def lat(x:Bj):Nat:=wD x+wS x+wR x
def Zln:Option Bj→Nat
 | some y=>lat y
 | none=>0
def no8(A:Nat→Prop):Prop:=∀l,A l→l≠8∧l≠16∧l≠17∧l≠18
theorem Tj.pot{u:List Nat}{l:Nat}{x:Bj}{z:Option Bj}{E:List Od}{D:List Nat}{I:List Im}(t:Tj u l x z E D I)(h:l≠8∧l≠16∧l≠17∧l≠18):2*E.length+I.length+Zln z≤lat x:=by
 obtain⟨q,p,o,m⟩:=h
 have f:∀(x:Bj) (a:Bool),x.Ql=none→2*((x.at_.filter fun n=>decide (n∈u)).map (Va x.id)).length+lat (W9 x a (x.at_.filter fun n=>decide (n∈u)))≤lat x:=fun x a b=>by
  rw[Qo];have:=Uw (fun n=>decide (n∈u)) x.at_;have e1:lat (W9 x a (x.at_.filter fun n=>decide (n∈u)))=wR x:=by show 0+0+wR x=_;omega
  have e2:wD x=2*x.at_.length:=by unfold wD;rw[b];rfl
  rw[e1];unfold lat;omega
 have red:∀(x:Bj) (a:Bool) (d:List Nat),lat (W9 x a d)≤lat x:=fun x a d=>by
  have e1:lat (W9 x a d)=wR x:=by show 0+0+wR x=_;omega
  rw[e1];unfold lat;omega
 cases t with
 | drop x a b j=>exact f x a b
 | cdrop x b=>exact f x false b
 | redrop x a d b j=>have:=red x a d;show 0+0+lat _≤_;omega
 | fin x a c=>show 0+0+lat x≤lat x;omega
 | del x d n b=>
  show 0+0+lat (Cq x d n)≤lat x;have:wD (Cq x d n)=0:=rfl;have:wS (Cq x d n)=wS x:=rfl;have:wR (Cq x d n)=wR x:=rfl;unfold lat;omega
 | anew x a c=>show 0+0+0≤lat x;omega
 | rm x a c=>show 0+0+0≤lat x;omega
 | again x a=>show 0+0+lat x≤lat x;omega
 | save x a=>exact absurd rfl q
 | unran x r a c=>
  show 0+0+(wD x+wS x+0)≤wD x+wS x+wR x;omega
 | count x r a c d=>
  show 0+0+(wD x+wS x+0)≤wD x+wS x+wR x;omega
 | X4 x r n v a c d=>
  have:wR x=2*x.at_.length+1:=by unfold wR;rw[a];rfl
  show 0+0+(wD x+wS x+(2*x.at_.length+1))≤wD x+wS x+wR x;omega
 | lod x n a c=>show 0+0+lat x≤lat x;omega
 | Xg x s n k i a c d e=>
  have e1:wS x=1:=by unfold wS;rw[a];simp only[d];rfl
  have e2:wS {x with Xg:=some {s with bs:=s.bs.set k i,have_:=Xm s.have_ n}}=1:=by unfold wS;simp only[d];rfl
  show 0+0+(wD x+wS _+wR x)≤wD x+wS x+wR x;omega
 | told x s n k i a c d e=>
  have e1:wS x=1:=by unfold wS;rw[a];simp only[d];rfl
  show 0+1+(wD x+0+wR x)≤wD x+wS x+wR x;omega
 | pub x s a c=>show 0+0+(wD x+0+wR x)≤wD x+wS x+wR x;omega
 | nopub x s a c=>show 0+0+(wD x+0+wR x)≤wD x+wS x+wR x;omega
 | load x ns=>exact absurd rfl p
 | warn x t a=>exact absurd rfl o
 | go x g=>exact absurd rfl m
theorem Ts.pot{u:List Nat}{A:Nat→Prop}{x:Bj}{z:Option Bj}{E:List Od}{D:List Nat}{I:List Im}(t:Ts u A x z E D I)(h:no8 A):2*E.length+I.length+Zln z≤lat x:=by
 induction t with
 | nil=>show 2*0+0+lat x≤lat x;omega
 | snoc _ a t b=>
  have:=t.pot (h _ a);have b:2*_+_+lat _≤lat x:=b;rw[Yd,Yd];omega
theorem Qe2{f:Bj→Nat}{x y:Bj}(b:y.id=x.id):∀ {js:List Bj},Wm js→Qk js x.id=some x→((Xe js y).map f).sum+f x=(js.map f).sum+f y
 | [],_,h=>by cases h
 | a::js,d,h=>by
  obtain⟨i,g⟩:=Ws.1 d;unfold Qk at h;rw[List.find?_cons]at h;show (((if a.id=y.id then y else a)::Xe js y).map f).sum+f x=_;rw[Z7,Gq,Z7,Gq]
  by_cases e:a.id=x.id
  ·rw[Zh e]at h;cases h;rw[Qh b.symm]
   have:Xe js y=js:=by
    unfold Xe;refine(De fun z c=>?_).trans (List.map_id js);rw[Qe (show ¬z.id=y.id by have:=i z c;omega)];rfl
   rw[this];omega
  ·rw[Q6 e]at h;have:=Qe2 (f:=f) b g h;rw[Qe (by rw[b];exact e)];omega
theorem Qmb{f:Bj→Nat}{x:Bj}:∀ {js:List Bj},Qk js x.id=some x→((rmJ js x.id).map f).sum+f x≤(js.map f).sum
 | [],h=>by cases h
 | a::js,h=>by
  unfold Qk at h;rw[List.find?_cons]at h
  have sub:∀l:List Bj,((rmJ l x.id).map f).sum≤(l.map f).sum:=fun l=>by
   induction l with
   | nil=>exact Q1 _
   | cons z l b=>
    unfold rmJ at b ⊢;rw[Eg];split <;> simp only[Z7,Gq] <;> omega
  unfold rmJ;rw[Eg,Z7,Gq]
  by_cases e:a.id=x.id
  ·rw[Zh e]at h;cases h;rw[Qe Q2];have:=sub js;unfold rmJ at this;omega
  ·rw[Q6 e]at h;rw[Qh (Zh e),Z7,Gq];have:=Qmb (f:=f) h;unfold rmJ at this;omega
def pot(b:Br):Nat:=2*b.Qd.length+b.Qf.length+(b.js.map lat).sum
section
variable {u:List Nat}{A:Nat→Prop}{b c:Br}{x:Bj}
theorem Qtu(h:Mu u A b c)(a:Wm b.js):Wm c.js:=by
 obtain⟨x,z,E,D,I,d,t,e,e1,e2,e3,f,e5⟩:=h;rw[e1];cases z with
 | none=>exact List.Pairwise.filter _ a
 | some y=>exact Mt a y
theorem Zhm(h:Mu u A b c)(g:no8 A)(e:Wm b.js):pot c≤pot b:=by
 obtain⟨x,z,E,D,I,d,t,j,e1,e2,e3,i,e5⟩:=h;have a:=t.pot g;unfold pot;rw[e1,e2,i,Yd,Yd];cases z with
 | none=>
  have:=Qmb (f:=lat) d;have a:2*E.length+I.length+0≤lat x:=a;show 2*_+_+((rmJ b.js x.id).map lat).sum≤_;omega
 | some y=>
  have:=Qe2 (f:=lat) (t.id rfl) e d;have a:2*E.length+I.length+lat y≤lat x:=a;show 2*_+_+((Xe b.js y).map lat).sum≤_;omega
theorem Qgz(h:Ms u A b c)(g:no8 A)(f:Wm b.js):Wm c.js∧pot c≤pot b:=
 h.inv (P:=fun c=>Wm c.js∧pot c≤pot b) (fun c d a k=>⟨a.1 ▸ k.1,by unfold pot at *;rw[a.1,a.2.1,a.2.2.2.1];exact k.2⟩) (fun c d e k=>⟨Qtu e k.1,Up (Zhm e g k.1) k.2⟩) ⟨f,Q1 _⟩
theorem Bo{y:Bj}(e:Wm b.js)(d:Qk b.js x.id=some x)(a:y.id=x.id){E:List Od}{c:Br}(e1:c.js=Xe b.js y)(e2:c.Qd=b.Qd++E)(e3:c.Qf=b.Qf):pot c+lat x=pot b+2*E.length+lat y:=by
 have:=Qe2 (f:=lat) a e d;unfold pot;rw[e1,e2,e3,Yd];omega
theorem Qp7{y:Bj}(e:Wm b.js)(d:Qk b.js x.id=some x)(a:y.id=x.id):pot (Xv b y)+lat x≤pot b+(2*y.at_.length+1+lat y):=by
 by_cases f:y.work=y.Qg∨y.Xg.isSome∨y.Ql.isSome∨y.state≠2
 ·rw[V3 f];have:=Bo e d a (E:=[]) (c:=b.set y) rfl Q2 rfl;have:2*([]:List Od).length=0:=rfl;omega
 ·rw[Ua f];have:=Bo (y:=Wt y) e d a (E:=y.at_.map (W8 (Wt y))) (c:=Br.set {b with Qd:=b.Qd++y.at_.map (W8 (Wt y))} (Wt y)) rfl rfl rfl;rw[Qo]at this;have e1:wS (Wt y)=1:=rfl;have e2:lat (Wt y)=wD y+1+wR y:=by show wD y+wS (Wt y)+wR y=_;rw[e1]
  have e3:lat y=wD y+wS y+wR y:=rfl;omega
theorem Q0b(d:Wm b.js)(a:Qk b.js x.id=some x):Wm (Y9 b x).js∧pot (Y9 b x)≤pot b:=by
 refine⟨Qtu (Qqg (u:=b.up) (A:=fun _=>True) trivial trivial trivial a) d,?_⟩;unfold Y9;have e3:lat x=wD x+wS x+wR x:=rfl
 split
 ·have:=Bo d a rfl (E:=[]) (c:=b.set x) rfl Q2 rfl;have:2*([]:List Od).length=0:=rfl;omega
 ·rename_i r e
  split
  ·have:=Bo (y:=Em x) d a rfl (E:=[]) (c:=b.set (Em x)) rfl Q2 rfl;have:2*([]:List Od).length=0:=rfl;have:lat (Em x)=wD x+wS x+0:=rfl;show pot (b.set (Em x))≤pot b;omega
  ·have:=Qp7 (y:=Dw x r) d a rfl;have:lat (Dw x r)=wD x+wS x+0:=rfl;have:wR x=2*x.at_.length+1:=by unfold wR;rw[e];rfl
   have:(Dw x r).at_.length=x.at_.length:=rfl;show pot (Xv b (Dw x r))≤pot b;omega
theorem Ar{P:Br→Prop}{f:Br→Bj→Br}{k:Nat}(a:∀b x,P b→Qk b.js x.id=some x→P (f b x)∧pot (f b x)≤pot b+k):∀(l:List Nat) (b:Br),P b→P (each f b l)∧pot (each f b l)≤pot b+k*l.length
 | [],b,h=>⟨h,U6 _ _⟩
 | id::l,b,h=>by
  have e:each f b (id::l)=each f (match Qk b.js id with|none=>b|some x=>f b x) l:=rfl;rw[e,Ka,Qi4];cases c:Qk b.js id with
  | none=>
   obtain⟨q1,q2⟩:=Ar a l b h;exact⟨q1,by show pot (each f b l)≤_;omega⟩
  | some x=>
   obtain⟨d,g⟩:=a b x h (by rw[(Qi c).2];exact c);obtain⟨q1,q2⟩:=Ar a l _ d;exact⟨q1,by show pot (each f (f b x) l)≤_;omega⟩
theorem H5(a:Wm b.js)(n:Nat):Wm (Zt b n).js∧pot (Zt b n)≤pot b:=by
 unfold Zt
 split
 ·exact⟨a,Q1 _⟩
 ·split
  ·exact⟨a,Q1 _⟩
  ·have:=Ar (P:=fun t=>Wm t.js) (f:=Y9) (k:=0) (fun t x h c=>Q0b h c) b.ids {b with stops:=none,Qn:=false} a;rw[Qix,Qbl]at this;exact this
theorem Q4o(a:Wm b.js)(n:Int)(t:Nt)(e:List Int):pot (X6 b n t e).2≤pot b:=by
 by_cases i:t.kind=7
 ·unfold X6
  split
  ·exact Q1 _
  show pot (Ut b n.toNat t)≤pot b;unfold Ut
  split
  ·cases d:Qk b.js t.Qu with
   | none=>exact(H5 a _).2
   | some y=>
    simp only
    split
    ·exact(H5 a _).2
    ·rename_i r g
     split
     ·rename_i h0;have f:Qk b.js y.id=some y:=by rw[(Qi d).2];exact d
      have p:=Bo (y:={y with X4:=some (Vn r n.toNat (t.Kc,t.Jz))}) a f rfl (E:=[]) (c:=b.set {y with X4:=some (Vn r n.toNat (t.Kc,t.Jz))}) rfl Q2 rfl;have o:2*([]:List Od).length=0:=rfl;have m:wR y=2*y.at_.length+1:=by unfold wR;rw[g];rfl
      have k:lat {y with X4:=some (Vn r n.toNat (t.Kc,t.Jz))}=wD y+wS y+(2*y.at_.length+1):=rfl;have j:lat y=wD y+wS y+wR y:=rfl;have:=(H5 (b:=b.set {y with X4:=some (Vn r n.toNat (t.Kc,t.Jz))}) (Mt a _) n.toNat).2;omega
     ·exact(H5 a _).2
  ·exact Q1 _
 ·exact(Qgz (Ls (u:=b.up) n i e) (fun l h=>by simp only[lJ,Yf,Hp,Ho]at h;omega) a).2
theorem Qjl(a:∀x∈b.js,x.Xg.isSome=true→x.Ql=none)(c:Wm b.js)(id ver:Nat)(ok:Bool):pot (Q5 b id ver ok).2≤pot b:=
 (Qgz (Ui a (u:=b.up) rfl id ver ok) (fun l h=>by have h:=h.1;simp only[lP,Yf,Hp,Ho]at h;omega) c).2
theorem Qtn(a:Wm b.js)(id:Nat):pot (Xd b id).2≤pot b:=
 (Qgz (Sk (u:=b.up) rfl id) (fun l h=>by rcases h with h|h|h <;> omega) a).2
theorem Q4m(a:Wm b.js)(n:Int):pot (Kh b n).2≤pot b:=by
 unfold Kh
 split
 ·exact Q1 _
 ·obtain⟨e,d⟩:=Qgz (A:=fun l=>l∈[1,2,4,5,6]) (Qcf Qp Qp Qp Qp Qp rfl n.toNat b.ids) (b:={b with up:=Jd b.up n.toNat,m:=(upR b.m n false).2,Qd:=b.Qd.filter fun o=>decide (o.1≠n.toNat)}) (fun l h=>by simp only[Yf,Hp,Ho]at h;omega) a;have c:=(H5 e n.toNat).2;refine Up c (Up d ?_);have:=Uw (fun o:Od=>decide (o.1≠n.toNat)) b.Qd;show 2*(b.Qd.filter _).length+b.Qf.length+(b.js.map lat).sum≤2*b.Qd.length+b.Qf.length+(b.js.map lat).sum;omega
theorem Qwn(x:Bj):∀js:List Bj,((Hg x js).map lat).sum=lat x+(js.map lat).sum
 | []=>rfl
 | y::l=>by
  unfold Hg
  split
  ·rfl
  ·rw[Z7,Gq,Qwn x l,Z7,Gq];omega
theorem Zbo(d:Wm b.js)(id t k w:Nat):pot (Ex b (Kl id t k w 0 0)).2≤pot b:=by
 unfold Ex
 split
 ·exact Q1 _
 rename_i a;have a:Ey b (Kl id t k w 0 0)=true:=by simpa using a
 split
 ·exact Q1 _
 rename_i c
 have c:Qk b.js (Kl id t k w 0 0).id=none:=by
  cases g:Qk b.js (Kl id t k w 0 0).id with
  | none=>rfl
  | some y=>rw[g]at c;exact absurd rfl c
 simp only[Ey,Z5,Zz]at a;show pot (Yj (H8 b (Kl id t k w 0 0)) (Kl id t k w 0 0))≤_;unfold Yj;rw[Qh (.inl (show 0<w from a.1.1.1.2))];have h0:lat (Kl id t k w 0 0)=0:=rfl;obtain⟨x,e⟩:∃x,x=Kl id t k w 0 0:=⟨_,rfl⟩;rw[←e]at c h0 ⊢;have i:=Qwn x b.js;have h:=Qe2 (f:=lat) (x:=x) (y:=x) rfl (P2 d (Kb c)) (by rw[Qcx d c,Qh rfl]);show 2*b.Qd.length+b.Qf.length+((Xe (Hg x b.js) x).map lat).sum≤2*b.Qd.length+b.Qf.length+(b.js.map lat).sum;omega
structure A6(b:Br):Prop where
 Y4:Wm b.js
 six:∀x∈b.js,x.at_.length≤6
theorem A6.set(h:A6 b){y:Bj}(d:y.at_.length≤6){c:Br}(e:c.js=Xe b.js y):A6 c:=⟨e ▸ Mt h.Y4 y,fun z a=>by
 rw[e]at a
 rcases Ke a with rfl|⟨k,_⟩
 ·exact d
 ·exact h.six z k⟩
theorem A6.of(a:BrI b never)(d:b.nodes≤6):A6 b:=⟨a.ok.Y4,fun x c=>Up (a.ok.Qu x c).len d⟩
theorem Q0a(h:A6 b)(l:List Nat):A6 (each Xv b l)∧pot (each Xv b l)≤pot b+13*l.length:=
 Ar (P:=A6) (f:=Xv) (k:=13) (fun b x h c=>by
  have a:=h.six x (Qi c).1;refine⟨?_,by have:=Qp7 (y:=x) h.Y4 c rfl;omega⟩
  by_cases d:x.work=x.Qg∨x.Xg.isSome∨x.Ql.isSome∨x.state≠2
  ·rw[V3 d];exact h.set a rfl
  ·rw[Ua d];exact h.set (y:=Wt x) a rfl) l b h
theorem Qz8(h:A6 b)(l:List Nat):A6 (each Ur b l)∧pot (each Ur b l)≤pot b+12*l.length:=
 Ar (P:=A6) (f:=Ur) (k:=12) (fun b x h d=>by
  have a:=h.six x (Qi d).1;refine⟨h.set (y:={x with Wp:=true,C5:=Xi b.now b.Wu}) a rfl,?_⟩;have:=Bo (y:={x with Wp:=true,C5:=Xi b.now b.Wu}) h.Y4 d rfl (E:=x.at_.map fun n=>((n,{kind:=12,Qu:=x.id,tick:=Xi b.now b.Wu}):Od)) (c:=Ur b x) rfl rfl rfl;rw[Qo]at this;have:lat {x with Wp:=true,C5:=Xi b.now b.Wu}=lat x:=rfl;omega) l b h
theorem Zbn(h:A6 b)(l:List Nat):A6 (each V8 b l)∧pot (each V8 b l)≤pot b+25*l.length:=
 Ar (P:=A6) (f:=V8) (k:=25) (fun b x h d=>by
  have a:=h.six x (Qi d).1;refine⟨h.set (y:={x with X4:=some []}) a rfl,?_⟩;have:=Bo (y:={x with X4:=some []}) h.Y4 d rfl (E:=x.at_.map fun n=>((n,{kind:=5,gen:=b.gen,Qu:=x.id}):Od)) (c:=V8 b x) rfl rfl rfl;rw[Qo]at this;have e1:lat {x with X4:=some []}=wD x+wS x+(2*x.at_.length+1):=rfl;have e2:lat x=wD x+wS x+wR x:=rfl;omega) l b h
theorem Q4n(a:Wm b.js)(e:Qk b.js x.id=some x)(h0:x.X4=none){s:PL.St}(f:(nats s.nodes).length≤6):Wm (Jh b x s).js∧pot (Jh b x s)≤pot b+24:=by
 by_cases d:(Uc b.m x.id s.row s.nodes).1≠0
 ·rw[H6 d];exact⟨a,by show pot b≤_;omega⟩
 ·rw[Jg d];refine⟨Mt a _,?_⟩;have:=Bo (y:=C6 x (nats s.nodes)) a e rfl (E:=Vk x (nats s.nodes)) (c:=Br.set {b with m:=(Uc b.m x.id s.row s.nodes).2,Qd:=b.Qd++Vk x (nats s.nodes)} (C6 x (nats s.nodes))) rfl rfl rfl;have g:(Vk x (nats s.nodes)).length=(nats s.nodes).length:=List.length_mapIdx;have e1:lat (C6 x (nats s.nodes))=(if x.Ql.isSome then 0 else 2*(nats s.nodes).length)+wS x+wR (C6 x (nats s.nodes)):=rfl;have e2:wR (C6 x (nats s.nodes))=0:=by unfold wR;rw[show (C6 x (nats s.nodes)).X4=none from h0];rfl
  have e3:lat x=wD x+wS x+wR x:=rfl;split at e1 <;> omega
theorem Px:∀(a:List (Nat×PL.St)) (b:Br),Wm b.js→(a.map (·.1)).Nodup→(∀p∈a,∀x,Qk b.js p.1=some x→x.X4=none∧(p.2.ok=true→p.2.at_=0→(nats p.2.nodes).length≤6))→pot (Xp b a)≤pot b+24*a.length
 | [],b,_,_,_=>U6 _ _
 | p::a,b,g,m,i=>by
  have e:Xp b (p::a)=Xp (Ud b p) a:=by rw[X9,X9];rfl
  rw[e,Ka,Qi4];obtain⟨n1,f⟩:=Vz.1 (show (p.1::a.map (·.1)).Nodup from m);have c:=fun q d=>i q (Ym p d);unfold Ud
  split
  ·rename_i j;cases h:Qk b.js p.1 with
   | none=>have:=Px a b g f c;show pot (Xp b a)≤_;omega
   | some x=>
    have k:=(Qi h).2;obtain⟨r,o⟩:=i p (Z0 ..) x h;obtain⟨n,s⟩:=Q4n g (by rw[k];exact h) r (o j.1 j.2)
    have:=Px a (Jh b x p.2) n f fun q d y l=>c q d y (by
     rwa [Lw b p.2 fun e=>n1 (Qq.2 ⟨q,d,by rw[e,k]⟩)]at l)
    show pot (Xp (Jh b x p.2) a)≤_;omega
  ·have:=Px a b g f c;omega
theorem Qm3(c:BrI b never)(n:b.nodes≤6):pot (Q9 b)≤pot b+24*b.js.length:=by
 rw[Gx]
 have m:(zsR b).length≤b.js.length:=by
  have:=Z3 List.length (Eh (st:=b));rw[Qo]at this;rw[this];exact Aj c.ok.Y4
 refine Up (Px (zsR b) b c.ok.Y4 (by rw[Eh];exact El c.ok.Y4) fun p e x d=>?_) Qb;have h:p.1∈Wf b:=by rw[←Eh];exact Qq.2 ⟨p,e,rfl⟩
 obtain⟨l,g1,g2⟩:=Gy c.ok.Y4 h;rw[d]at g1;cases g1;simp only[quB,Z5,Zz]at g2;refine⟨((c.j x (Qi d).1).q g2.1).2.2.2.1,fun k1 f=>?_⟩;obtain⟨i,g⟩:=Dg e;obtain⟨k,j⟩:=Qok.1 g;obtain⟨a,m1,m2,_⟩:=PL.Qab (Qm1 c) j k1 f;rw[Cs,Q8,k]at m1;simp only[U3,Km]at m1;rw[Pd d]at m1;have:=(c.ok.Qu x (Qi d).1).kn;rw[Qo,m2,←m1];show ((x.k:Nat):Int).toNat≤6;omega
theorem Qp8(h:A6 b):A6 (Qy b)∧pot (Qy b)≤pot b+12*b.js.length:=by
 unfold Qy
 split
 ·exact⟨h,U6 _ _⟩
 split
 ·exact⟨h,U6 _ _⟩
 split
 ·exact⟨h,U6 _ _⟩
 ·rename_i y _;obtain⟨a,e⟩:=Qz8 h (A3 (Pb b.m y.tier y.k (Hv b)).1);have d:(A3 (Pb b.m y.tier y.k (Hv b)).1).length≤(Hv b).length:=Up (Qoj (Qo ..)) (Qa5 b.m y.tier y.k (Hv b));have c:(Hv b).length≤b.js.length:=by rw[Hv,Qo];exact Uw _ _
  exact⟨a,Qb⟩
theorem Qz9(h:A6 b)(c:BrI b never)(i:Nat)(row:Int):pot (Xx b row i)≤pot b+25*b.js.length:=by
 rcases Jn b i row with e|⟨z,L,g,f,_,e⟩
 ·rw[e];omega
 ·rw[e,Bh];have l:=(Zbn (b:=F4 {b with row:=z} L) ⟨h.Y4,h.six⟩ (Jm L)).2;have k:pot (F4 {b with row:=z} L)=pot b:=rfl
  have j:(Jm L).length≤b.js.length:=by
   have:=Dm (Jm L) (b.js.map (·.id)) ((Jc L).symm.nodup (by rw[f];exact(Lk c g).nd)) fun id a=>by
    have d:=(Jc L).mem_iff.1 a;rw[f]at d;obtain⟨x,g1,_⟩:=(Lk c g).Qu id d;exact Qq.2 ⟨x,(Qi g1).1,(Qi g1).2⟩
   rwa [Qo]at this
  omega
theorem Q4k(e:BrI b never)(m:b.stops=none)(n:b.nodes≤6):pot (V0 b)≤pot b+74*b.js.length:=by
 obtain⟨B,z⟩:=Qgz (A:=fun l=>l∈[1,2,5,6]) (Sj Qp Qp Qp Qp rfl b.ids) (fun l h=>by simp only[Yf,Hp,Ho]at h;omega) e.ok.Y4;obtain⟨i1,i2⟩:=A2 e b.ids;have t:=(Sm3.each (f:=Q4) Sm3.leave b.ids b).js;obtain⟨_,n1⟩:=i1;have n6:(each Q4 b b.ids).nodes≤6:=by rw[n1.nodes];exact n
 have y:=Qm3 i2 n6;obtain⟨i3,i4⟩:=Er i2;have s:(Q9 (each Q4 b b.ids)).js.length≤_:=(Sm3.place (zsR (each Q4 b b.ids)) _).js;obtain⟨_,d⟩:=i3;have a:(Q9 (each Q4 b b.ids)).nodes≤6:=by rw[d.nodes];exact n6
 obtain⟨g,x⟩:=Qp8 (A6.of i4 a);obtain⟨i5,k⟩:=Cg i4;have r:=(Sm3.preempt (Q9 (each Q4 b b.ids))).js;obtain⟨j,i8⟩:=Qgl k;have i:=(((BS.trans ⟨_,n1⟩ ⟨_,d⟩).trans i5).trans j).stops.trans m;obtain⟨p,w⟩:=Q0a (b:=rep (Qy (Q9 (each Q4 b b.ids)))) ⟨g.Y4,g.six⟩ (rep (Qy (Q9 (each Q4 b b.ids)))).ids;obtain⟨u,c⟩:=Lh i8 i (rep (Qy (Q9 (each Q4 b b.ids)))).ids;have q:=(Sm3.each (f:=Xv) Sm3.save (rep (Qy (Q9 (each Q4 b b.ids)))).ids (rep (Qy (Q9 (each Q4 b b.ids))))).js;have v:=Qz9 p c (each Xv (rep (Qy (Q9 (each Q4 b b.ids)))) (rep (Qy (Q9 (each Q4 b b.ids)))).ids).rows (each Xv (rep (Qy (Q9 (each Q4 b b.ids)))) (rep (Qy (Q9 (each Q4 b b.ids)))).ids).row;have e1:pot (rep (Qy (Q9 (each Q4 b b.ids))))=pot (Qy (Q9 (each Q4 b b.ids))):=rfl;have e2:(rep (Qy (Q9 (each Q4 b b.ids)))).js.length=(Qy (Q9 (each Q4 b b.ids))).js.length:=rfl;have e3:(rep (Qy (Q9 (each Q4 b b.ids)))).ids.length=(rep (Qy (Q9 (each Q4 b b.ids)))).js.length:=Qo ..;have o:V0 b=Xx (each Xv (rep (Qy (Q9 (each Q4 b b.ids)))) (rep (Qy (Q9 (each Q4 b b.ids)))).ids) (each Xv (rep (Qy (Q9 (each Q4 b b.ids)))) (rep (Qy (Q9 (each Q4 b b.ids)))).ids).row (each Xv (rep (Qy (Q9 (each Q4 b b.ids)))) (rep (Qy (Q9 (each Q4 b b.ids)))).ids).rows:=rfl;rw[o];omega
theorem Q4l(a:BrI b never)(i:b.nodes≤6){now:Nat}(h:now≤4294967295):pot (Y7 b now).2≤pot b+74*b.js.length+12:=by
 unfold Y7
 split
 ·show pot b≤_;omega
 split
 ·show pot b≤_;omega
 split
 ·split
  ·have:=Uw (fun n=>decide (n∈b.stops.getD [])) (List.range b.nodes);rw[Ft]at this;show 2*(b.Qd++((List.range b.nodes).filter fun n=>decide (n∈b.stops.getD [])).map _).length+b.Qf.length+(b.js.map lat).sum≤2*b.Qd.length+b.Qf.length+(b.js.map lat).sum+74*b.js.length+12;rw[Yd,Qo];omega
  ·show pot b≤_;omega
 ·rename_i c
  have c:b.stops=none:=by
   cases e:b.stops with
   | none=>rfl
   | some d=>rw[e]at c;exact absurd rfl c
  have f:BrI {b with now:=now} never:=a.same ⟨a.ok.R,a.ok.N,a.ok.Fu,a.ok.Y4,fun x g=>a.ok.Qu x g,a.ok.Dk,a.ok.q1,a.ok.q2,a.ok.g1,a.ok.g2,h,a.ok.fin,a.ok.mem,a.ok.C4⟩ rfl rfl rfl;have:=Q4k f c i;have e:pot {b with now:=now}=pot b:=rfl;have e2:({b with now:=now}:Br).js.length=b.js.length:=rfl;show pot (V0 {b with now:=now})≤_;rw[e,e2]at this;omega
end
theorem Qhm{js:List Bj}{x y:Bj}(b:x∈js)(a:x.id=y.id):y∈Xe js y:=Qq.2 ⟨x,b,Qh a⟩
def Fz(A:Nat→Prop)(Q:Bj→Prop):Prop:=∀(u:List Nat) (l:Nat) (e:En) (x y:Bj) (E:List Od) (D:List Nat) (I:List Im),A l→JL e x→Q x→Tj u l x (some y) E D I→Q y
section
variable {u:List Nat}{A:Nat→Prop}{Q:Bj→Prop}{e0:En}{o0:List Od}{i0:List Im}{b c:Br}{x y:Bj}{z:Option Bj}{E:List Od}{D:List Nat}{I:List Im}{nd:List Nd}{im:List Im}
theorem Ts.keep(g:Fz A Q){e:En}(t:Ts u A x z E D I)(h:JL e x)(f:Q x)(b:z=some y):Q y:=by
 induction t generalizing y with
 | nil=>cases b;exact f
 | snoc c a t d=>subst b;exact g _ _ _ _ _ _ _ _ a (h.steps c rfl) (d rfl) t
theorem Q8n(i:Fz A Q)(h:Mu u A b c)(k:LBe e0 o0 i0 b)(d:∀x∈b.js,Q x):∀x∈c.js,Q x:=by
 obtain⟨x,z,n,o,m,g,t,j,e1,e2,e3,l,e5⟩:=h;obtain⟨E,I,_,_,f⟩:=k;have e:=(Qi g).1;intro y a;rw[e1]at a;cases z with
 | none=>exact d y (Y5.1 a).1
 | some w=>
  rcases Ke (show y∈Xe b.js w from a) with rfl|⟨k,_⟩
  ·exact t.keep i (f x e).1 (d x e) rfl
  ·exact d y k
theorem Ab(m:Fz A Q)(h:Ms u A b c)(k:LB nd im b)(l:∀x∈b.js,Q x):∀x∈c.js,Q x:=
 (h.inv (P:=fun c=>LBe (Vi nd b.Qd (im++b.Qf)) b.Qd b.Qf c∧∀x∈c.js,Q x) (fun c d a k=>by
  obtain⟨⟨E,I,k1,j,i⟩,g⟩:=k;exact⟨⟨E,I,a.2.1.trans k1,a.2.2.2.1.trans j,fun x e=>i x (a.1 ▸ e)⟩,fun x e=>g x (a.1 ▸ e)⟩) (fun c d f k=>⟨Qnl f k.1,Q8n m f k.1 k.2⟩) ⟨k.e,l⟩).2
def Q8x(A:Nat→Prop)(Q:Bj→Prop):Prop:=∀(u:List Nat) (l:Nat) (x:Bj) (E:List Od) (D:List Nat) (I:List Im),A l→Q x→¬Tj u l x none E D I
theorem Ts.stays(d:Fz A Q)(g:Q8x A Q){e:En}(t:Ts u A x z E D I)(h:JL e x)(c:Q x):∃y,z=some y∧y.id=x.id∧Q y:=by
 cases b:z with
 | some y=>subst b;exact⟨y,rfl,t.id rfl,t.keep d h c rfl⟩
 | none=>
  subst b;cases t with
  | snoc f a t=>exact absurd t (g _ _ _ _ _ _ a (f.keep d h c rfl))
theorem Qhx(C:Fz A Q)(B:Q8x A Q)(h:Ms u A b c)(k:LB nd im b)(s:Wm b.js){id:Nat}(v:∃x∈b.js,x.id=id∧Q x):∃x∈c.js,x.id=id∧Q x:=
 (h.inv (P:=fun c=>LBe (Vi nd b.Qd (im++b.Qf)) b.Qd b.Qf c∧Wm c.js∧∃x∈c.js,x.id=id∧Q x) (fun c d a k=>by
  obtain⟨⟨E,I,k1,g,m⟩,r,k5⟩:=k;exact⟨⟨E,I,a.2.1.trans k1,a.2.2.2.1.trans g,fun x i=>m x (a.1 ▸ i)⟩,a.1 ▸ r,a.1 ▸ k5⟩) (fun c d n k=>by
  obtain⟨k1,g,w,l,f,j⟩:=k;refine⟨Qnl n k1,Qtu n g,?_⟩;obtain⟨x,z,G,H,F,i,t,D,e1,_⟩:=n;obtain⟨E,I,_,_,m⟩:=k1;have p:=(Qi i).1;rw[e1]
  by_cases e:x.id=id
  ·have:w=x:=by
    have:=Ys g l;rw[f,←e,i]at this;cases this;rfl
   subst this;obtain⟨y,rfl,o,q⟩:=t.stays C B (m w p).1 j;exact⟨y,Qhm p o.symm,o.trans f,q⟩
  ·cases z with
   | none=>exact⟨w,Y5.2 ⟨l,Zh Qb⟩,f,j⟩
   | some y=>
    refine⟨w,Qq.2 ⟨w,l,Qe ?_⟩,f,j⟩;rw[t.id rfl];omega) ⟨k.e,s,v⟩).2.2
def XG(a:Br)(y:Bj):Prop:=∃x∈a.js,y.id=x.id∧y.w=x.w∧y.k=x.k∧y.tier=x.tier∧x.Qg≤y.Qg
theorem Q9u(A:Nat→Prop)(j:Br):Fz A (XG j):=by
 intro u l e x y E D I _ h ⟨w,g,f,d,c,b,a⟩ t;cases t with
 | pub x s i k=>exact⟨w,g,f,d,c,b,Up a (Qi9 (h.sc s i).1)⟩
 | _=>exact⟨w,g,f,d,c,b,a⟩
def BG(a b:Br):Prop:=∀y∈b.js,XG a y
theorem BG.refl(b:Br):BG b b:=fun y a=>⟨y,a,rfl,rfl,rfl,rfl,Q1 _⟩
theorem BG.trans{a b c:Br}(h:BG a b)(k:BG b c):BG a c:=fun z r=>by
 obtain⟨y,j,i,g,f,e,d⟩:=k z r;obtain⟨x,q,p,o,n,m,l⟩:=h y j;exact⟨x,q,i.trans p,g.trans o,f.trans n,e.trans m,Up l d⟩
theorem Qyw(h:Ms u A b c)(k:LB nd im b):BG b c:=Ab (Q9u A b) h k (BG.refl b)
structure JN(dn gn:List Nat)(x:Bj):Prop where
 d:x.done=true→x.id∈dn
 g:x.Ql.isSome=true→x.again=false→x.id∈dn∨x.id∈gn
 w:x.w≤20
theorem JN.mono{dn gn b a:List Nat}(h:JN dn gn x)(c:∀i∈dn,i∈b)(d:∀i∈gn,i∈a):JN b a x:=⟨fun e=>c _ (h.d e),fun e k=>(h.g e k).imp (c _) (d _),h.w⟩
theorem Tj.jn{l:Nat}{dn gn:List Nat}(h:JN dn gn x)(t:Tj u l x z E D I)(o:20≤l→l-20∈gn):(∀y,z=some y→JN (dn++D) gn y)∧(z=none→x.id∈dn++D∨x.id∈gn):=by
 have b:JN (dn++[]) gn x:=h.mono (fun i p=>C1 _ p) fun _ k=>k
 have j:∀(a:Bool) (d:List Nat),(a=false→x.done=true)→JN (dn++[]) gn (W9 x a d):=fun a d g=>⟨b.d,fun _ e=>.inl (by
  cases a with
  | false=>exact b.d (g rfl)
  | true=>exact b.d (by simpa using e)),b.w⟩
 cases t with
 | drop x a m g=>exact⟨fun y f=>(by cases f;exact j a _ g),fun e=>(by cases e)⟩
 | cdrop x m=>exact⟨fun y f=>(by cases f;exact⟨b.d,fun _ _=>.inr (by simpa using o Qb),b.w⟩),fun e=>(by cases e)⟩
 | redrop x a d m g=>exact⟨fun y f=>(by cases f;exact j a _ g),fun e=>(by cases e)⟩
 | fin x a c=>exact⟨fun y f=>(by cases f;exact⟨fun _=>Ef _ (Vd.2 rfl),fun _ _=>.inl (Ef _ (Vd.2 rfl)),b.w⟩),fun e=>(by cases e)⟩
 | del x d n m=>exact⟨fun y f=>(by cases f;exact⟨b.d,fun _ e=>b.g (by rw[m];rfl) e,b.w⟩),fun e=>(by cases e)⟩
 | anew x a c=>exact⟨fun y f=>(by cases f;exact⟨fun e=>(by cases e),fun e=>(by cases e),b.w⟩),fun e=>(by cases e)⟩
 | rm x a c=>exact⟨fun y f=>(by cases f),fun _=>b.g (by rw[a];rfl) c⟩
 | again x a=>exact⟨fun y f=>(by cases f;exact⟨b.d,fun _ _=>.inr (by simpa using o Qb),b.w⟩),fun e=>(by cases e)⟩
 | load x ns a=>exact⟨fun y f=>(by cases f;exact⟨b.d,b.g,b.w⟩),fun e=>(by cases e)⟩
 | _=>exact⟨fun y f=>(by cases f;exact⟨b.d,b.g,b.w⟩),fun e=>(by cases e)⟩
theorem Ts.jn{dn gn:List Nat}(t:Ts u A x z E D I)(h:JN dn gn x)(f:∀l,A l→20≤l→l-20∈gn):(∀y,z=some y→JN (dn++D) gn y)∧(z=none→x.id∈dn++D∨x.id∈gn):=by
 induction t with
 | nil=>exact⟨fun y d=>(by cases d;rw[X3];exact h),fun e=>(by cases e)⟩
 | snoc b a t c=>
  have:=t.jn (c.1 _ rfl) (f _ a);rw[Wb,b.id rfl]at this;exact this
structure CN(J dn gn:List Nat)(b:Br):Prop where
 js:∀x∈b.js,JN (dn++b.done) gn x
 all:∀id∈J,(∃x∈b.js,x.id=id)∨id∈dn++b.done∨id∈gn
theorem Znm{J dn gn:List Nat}(v:∀l,A l→20≤l→l-20∈gn)(h:Mu u A b c)(k:CN J dn gn b):CN J dn gn c:=by
 obtain⟨x,z,E,D,I,r,t,B,e1,e2,e3,C,e5⟩:=h;obtain⟨p,_⟩:=Qi r;obtain⟨o,n⟩:=t.jn (k.js x p) v
 have a:∀i∈dn++b.done,i∈dn++c.done:=fun i s=>by
  rw[e3,←Wb];exact C1 _ s
 have e9:dn++c.done=dn++b.done++D:=by rw[e3,Wb]
 rw[←e9]at o n
 refine⟨fun y d=>?_,fun id f=>?_⟩
 ·rw[e1]at d;cases z with
  | none=>exact(k.js y (Y5.1 d).1).mono a fun _ k=>k
  | some w=>
   rcases Ke (show y∈Xe b.js w from d) with rfl|⟨q,_⟩
   ·exact o _ rfl
   ·exact(k.js y q).mono a fun _ k=>k
 ·rcases k.all id f with ⟨w,m,j⟩|g|g
  ·rw[e1]
   by_cases e:x.id=id
   ·cases z with
    | none=>rw[←e];exact .inr (n rfl)
    | some y=>exact .inl ⟨y,Qhm p (t.id rfl).symm,(t.id rfl).trans e⟩
   ·cases z with
    | none=>exact .inl ⟨w,Y5.2 ⟨m,Zh Qb⟩,j⟩
    | some y=>exact .inl ⟨w,Qq.2 ⟨w,m,Qe (by rw[t.id rfl];omega)⟩,j⟩
  ·exact .inr (.inl (a id g))
  ·exact .inr (.inr g)
theorem Qru{J dn gn:List Nat}(i:∀l,A l→20≤l→l-20∈gn)(h:Ms u A b c)(k:CN J dn gn b):CN J dn gn c:=
 h.inv (P:=CN J dn gn) (fun c d a k=>⟨fun x f=>by rw[a.2.2.1];exact k.js x (a.1 ▸ f),fun id e=>by rw[a.1,a.2.2.1];exact k.all id e⟩) (fun _ _ g k=>Znm i g k) k
theorem CN.same{J dn gn:List Nat}(k:CN J dn gn b)(e:c.js=b.js)(d:c.done=b.done):CN J dn gn c:=⟨fun x f=>by rw[d];exact k.js x (e ▸ f),fun id a=>by rw[e,d];exact k.all id a⟩
end
def nf(n:Nd):Nat:=2*n.Yy.length+n.out.length
def phi(s:Sm):Nat:=(s.nd.map nf).sum+s.Qf.length+pot s.b
theorem Qbr{c:Type}(f:c→Nat){a a':c}:∀ {l:List c} {i:Nat},l[i]?=some a→((l.set i a').map f).sum+f a=(l.map f).sum+f a'
 | [],i,h=>by simp at h
 | b::l,0,h=>by
  have h:b=a:=by simpa using h
  subst h;simp only[Qlw,Z7,Gq];omega
 | b::l,i+1,h=>by
  have h:l[i]?=some a:=by simpa using h
  have:=Qbr f (a':=a') h;simp only[Qiw,Z7,Gq];omega
theorem Qhf(l:List Nd):((Ux l).map nf).sum=(l.map nf).sum:=by
 cases l with
 | nil=>rfl
 | cons n l=>rfl
theorem Qxn:∀(os:List Od) (nd:List Nd),((U0 nd os).map nf).sum≤(nd.map nf).sum+2*os.length
 | [],nd=>U6 _ _
 | o::os,nd=>by
  have h:=Qxn os (As nd o)
  have b:((As nd o).map nf).sum≤(nd.map nf).sum+2:=by
   unfold As;cases a:nd[o.1]? with
   | none=>show ((Ux nd).map nf).sum≤_;rw[Qhf];omega
   | some n=>
    simp only
    split
    ·have:=Qbr nf (a':={n with Yy:=n.Yy++[o.2]}) a
     have e:nf {n with Yy:=n.Yy++[o.2]}=nf n+2:=by
      show 2*(n.Yy++[o.2]).length+n.out.length=2*n.Yy.length+n.out.length+2;rw[Yd,Y0];omega
     omega
    ·rw[Qhf];omega
  rw[Ka];show ((U0 (As nd o) os).map nf).sum≤_;omega
theorem Qxo:∀(l:List Nat) (p:List Nd×List Nat),((l.foldl Jk p).1.map nf).sum=(p.1.map nf).sum
 | [],_=>rfl
 | id::l,p=>by
  rw[Mi,Qxo l];unfold Jk
  split
  ·exact Qhf _
  ·rfl
theorem Tn(s:Sm):phi (X5 s)≤phi s:=by
 have c:=Qxn s.b.Qd s.nd;have a:=Qxo s.b.done (U0 s.nd s.b.Qd,s.done);have b:(Vx s.b).1.length≤s.b.Qf.length:=Uw _ _;have e:phi (X5 s)=((s.b.done.foldl Jk (U0 s.nd s.b.Qd,s.done)).1.map nf).sum+(s.Qf++(Vx s.b).1).length+(2*0+0+(s.b.js.map lat).sum):=rfl;rw[e,a,Yd];show ((U0 s.nd s.b.Qd).map nf).sum+(s.Qf.length+(Vx s.b).1.length)+(2*0+0+(s.b.js.map lat).sum)≤(s.nd.map nf).sum+s.Qf.length+(2*s.b.Qd.length+s.b.Qf.length+(s.b.js.map lat).sum);omega
structure SK(s:Sm)(F T:Nat):Prop where
 si:SI s F T
 sl:SL s
 cn:CN (s.Wy.map (·.id)) s.done s.gone s.b
theorem Qe1{s:Sm}(h:CN (s.Wy.map (·.id)) s.done s.gone s.b)(c:(s.done++s.b.done).Nodup):CN ((X5 s).Wy.map (·.id)) (X5 s).done (X5 s).gone (X5 s).b:=by
 have e:(X5 s).done=s.done++s.b.done:=by
  show (s.b.done.foldl Jk (U0 s.nd s.b.Qd,s.done)).2=_;rw[D3 _ _ _ c]
 rw[e]
 refine⟨fun x b=>?_,fun id a=>?_⟩
 ·show JN (s.done++s.b.done++[]) s.gone x;rw[X3];exact h.js x b
 ·show _∨id∈s.done++s.b.done++[]∨_;rw[X3];exact h.all id a
theorem Qh2{s:Sm}{F T:Nat}(h:SI s F T)(hT:T≤4294967295){i:Nat}{n:Nd}(b:s.nd[i]?=some n)(c:n.up=true){x:Nt×List Int}{l:List (Nt×List Int)}(a:n.out=x::l):GJ (Ga s i n x l).b (Ga s i n x l).nd∧((Ga s i n x l).done++(Ga s i n x l).b.done).Nodup:=by
 have d:=h.sb.tm;have e:=(h.sb.nb n (Yn b)).o x (by rw[a];exact Z0 ..);refine⟨Qyf h.sb.gj b c a ⟨Qb,Qb⟩,?_⟩;show (s.done++(X6 s.b i x.1 x.2).2.done).Nodup;rw[(Qx3 s.b i x.1 x.2 h.sb.di.ag).1.1];exact h.sb.di.nd
theorem Qxd{s:Sm}{F T:Nat}(h:SI s F T)(x:Im)(l:List Im)(o:Bool):GJ (M3 s x l o).b (M3 s x l o).nd∧((M3 s x l o).done++(M3 s x l o).b.done).Nodup:=by
 have a:=T7 h.sb.gj x.Qu x.ver o;exact⟨a,(T8 h.sb.di x.Qu x.ver o a.gi.bi.ok.Y4).nd⟩
theorem Qrm{s:Sm}{F T:Nat}(h:SK s F T)(B:F≤99999000000)(hT:T≤4294967295)(i:Nat)(back:Bool) :
  (Q3 s i back=(false,s)∧∀n,s.nd[i]?=some n→n.up=true→if back then n.out=[] else n.Yy=[]) ∨
  ((Q3 s i back).1=true∧SK (Q3 s i back).2 (F+1000) T∧phi (Q3 s i back).2+1≤phi s):=by
 have g:=Quv h.si B hT i back;have j:=h.si.sb;cases a:s.nd[i]? with
 | none=>exact .inl ⟨by rw[Q3,a],fun n e=>(by cases e)⟩
 | some n=>
  by_cases b:n.up=false
  ·exact .inl ⟨Ni a b,fun m e k=>(by cases e;rw[b]at k;cases k)⟩
  have o:n.up=true:=by simpa using b
  cases back with
  | true=>
   cases d:n.out with
   | nil=>exact .inl ⟨Mf a d,fun m e _=>(by cases e;exact d)⟩
   | cons x l=>
    right
    rw[Qa4 a b d]at g ⊢;obtain⟨y,r⟩:=Qh2 h.si hT a o d;obtain⟨t,c⟩:∃t:Sm,t={Ga s i n x l with ok:=s.ok&&ntB x&&tkB s&&decide (s.b.Qd.length≤800000)&&decide (s.b.Qf.length≤800000)&&tkB (Ga s i n x l)}:=⟨_,rfl⟩;have w:(t.done++t.b.done).Nodup:=by rw[c];exact r
    have z:SL t:=by
     rw[c];exact⟨h.sl.lb.hear j.gj a o d,Zas h.sl.sn j.gj.gi.bi i x.1 x.2⟩
    have hC:CN (t.Wy.map (·.id)) t.done t.gone t.b:=by
     rw[c];exact Qru (fun l q v=>by simp only[lH,Yf,Hp,Ho]at q;omega) (Lt (u:=s.b.up) rfl i x.1 x.2) h.cn
    have C:phi t+1≤phi s:=by
     have q:=Qbr nf (a':={n with out:=l}) a
     have v:nf n=nf {n with out:=l}+1:=by
      show 2*n.Yy.length+n.out.length=2*n.Yy.length+l.length+1;rw[d,Ka];omega
     have D:=Q4o j.gj.gi.bi.ok.Y4 i x.1 x.2;rw[c];show ((s.nd.set i {n with out:=l}).map nf).sum+s.Qf.length+pot (X6 s.b i x.1 x.2).2+1≤(s.nd.map nf).sum+s.Qf.length+pot s.b;omega
    have p:GJ t.b t.nd:=by rw[c];exact y
    rw[←c]at g ⊢;have:=Tn t;exact⟨rfl,⟨g,Qez z p w,Qe1 hC w⟩,by show phi (X5 t)+1≤_;omega⟩
  | false=>
   cases f:n.Yy with
   | nil=>exact .inl ⟨Qc1 a f,fun m e _=>(by cases e;exact f)⟩
   | cons x l=>
    right
    rw[Qrl a b f]at g ⊢;have A:=j.gj.gi.node i n a o;refine⟨rfl,⟨g,⟨h.sl.lb.act a A.kn f,h.sl.sn⟩,h.cn⟩,?_⟩;have q:=Qbr nf (a':=Z9 {n with Yy:=l} x) a
    have v:nf (Z9 {n with Yy:=l} x)+1≤nf n:=by
     unfold nf;rw[(S6 _ x).2,f,Ka];have:(Z9 {n with Yy:=l} x).out.length≤n.out.length+1:=Qy1 {n with Yy:=l} x;show 2*l.length+_+1≤_;omega
    show ((s.nd.set i (Z9 {n with Yy:=l} x)).map nf).sum+s.Qf.length+pot s.b+1≤(s.nd.map nf).sum+s.Qf.length+pot s.b;omega
theorem Qqa{s:Sm}{F T:Nat}(h:SK s F T)(n:F≤99999000000)(o:Bool) :
  (Yi s o=(false,s)∧s.Qf=[])∨((Yi s o).1=true∧SK (Yi s o).2 (F+1000) T∧phi (Yi s o).2+1≤phi s):=by
 have d:=Qtk h.si n o;have i:=h.si.sb;cases b:s.Qf with
 | nil=>exact .inl ⟨Qg4 b,rfl⟩
 | cons x l=>
  right
  rw[Qe5 b]at d ⊢;obtain⟨k,f⟩:=Qxd h.si x l o;have g:=h.sl.lb;rw[b]at g;obtain⟨t,a⟩:∃t:Sm,t={M3 s x l o with ok:=s.ok&&tkB s&&decide (s.b.Qd.length≤800000)&&decide (s.b.done.length≤800000)&&tkB (M3 s x l o)}:=⟨_,rfl⟩;have j:(t.done++t.b.done).Nodup:=by rw[a];exact f
  have m:SL t:=by
   rw[a];exact⟨g.publish i.gj.gi.bi.ok.Y4 o,h.sl.sn.same (Qei s.b x.Qu x.ver o)⟩
  have hC:CN (t.Wy.map (·.id)) t.done t.gone t.b:=by
   rw[a];exact Qru (fun l e r=>by have e:=e.1;simp only[lP,Yf,Hp,Ho]at e;omega) (Ui h.sl.lb.Xg (u:=s.b.up) rfl x.Qu x.ver o) h.cn
  have p:phi t+1≤phi s:=by
   have q:=Qjl h.sl.lb.Xg i.gj.gi.bi.ok.Y4 x.Qu x.ver o;rw[a];show (s.nd.map nf).sum+l.length+pot (Q5 s.b x.Qu x.ver o).2+1≤(s.nd.map nf).sum+s.Qf.length+pot s.b;rw[b,Ka];omega
  have c:GJ t.b t.nd:=by rw[a];exact k
  rw[←a]at d ⊢;have:=Tn t;exact⟨rfl,⟨d,Qez m c j,Qe1 hC j⟩,by show phi (X5 t)+1≤_;omega⟩
def Qt(s:Sm):Prop:=s.Qf=[]∧∀(i:Nat) (n:Nd),s.nd[i]?=some n→n.up=true→n.Yy=[]∧n.out=[]
def MK(T C:Nat)(s:Sm):Prop:=∃F,SK s F T∧F+1000*phi s≤C
section
variable {T C:Nat}(hC:C≤99999000000)(hT:T≤4294967295)
include hC hT
theorem Qym{s:Sm}(h:MK T C s)(i:Nat)(back:Bool):(Q3 s i back=(false,s)∧∀n,s.nd[i]?=some n→n.up=true→if back then n.out=[] else n.Yy=[])∨((Q3 s i back).1=true∧MK T C (Q3 s i back).2∧phi (Q3 s i back).2+1≤phi s):=by
 obtain⟨F,c,d⟩:=h
 rcases Qrm c Qb hT i back with k|⟨k1,b,a⟩
 ·exact .inl k
 ·exact .inr ⟨k1,⟨_,b,Qb⟩,a⟩
theorem Ze1{s:Sm}(h:MK T C s)(o:Bool):(Yi s o=(false,s)∧s.Qf=[])∨((Yi s o).1=true∧MK T C (Yi s o).2∧phi (Yi s o).2+1≤phi s):=by
 have _:=hT;obtain⟨F,c,d⟩:=h
 rcases Qqa c Qb o with k|⟨k1,b,a⟩
 ·exact .inl k
 ·exact .inr ⟨k1,⟨_,b,Qb⟩,a⟩
theorem Qgi{s:Sm}(h:MK T C s)(o:Bool):∀i,MK T C (roundUp s o i).2∧phi (roundUp s o i).2≤phi s∧((roundUp s o i).1=true→o=true∨phi (roundUp s o i).2+1≤phi s)∧((roundUp s o i).1=false→o=false∧(roundUp s o i).2=s∧∀j n,j<i→s.nd[j]?=some n→n.up=true→n.Yy=[]∧n.out=[])
 | 0=>⟨h,Q1 _,fun e=>.inl e,fun e=>⟨e,rfl,fun j n m=>absurd m (Qo0 _)⟩⟩
 | i+1=>by
  obtain⟨d,u,t,r⟩:=Qgi h o i;obtain⟨p,l⟩:∃p,p=roundUp s o i:=⟨_,rfl⟩;have e:roundUp s o (i+1)=((Q3 (Q3 p.2 i false).2 i true).1 || (Q3 p.2 i false).1 || p.1,(Q3 (Q3 p.2 i false).2 i true).2):=by rw[l];rfl
  rw[e];rw[←l]at d u t r
  rcases Qym hC hT d i false with ⟨g,c⟩|⟨g,c,y⟩
  ·rw[g]
   rcases Qym hC hT d i true with ⟨c1,a⟩|⟨c1,a,x⟩
   ·rw[c1];refine⟨d,u,fun k=>t (by simpa using k),fun k=>?_⟩;have k:p.1=false:=by simpa using k
    obtain⟨w,q,v⟩:=r k;refine⟨w,q,fun j n m b f=>?_⟩
    by_cases e:j=i
    ·subst e;rw[←q]at b;exact⟨c n b f,a n b f⟩
    ·exact v j n Qb b f
   ·refine⟨a,by show phi (Q3 p.2 i true).2≤_;omega,fun _=>.inr (by show phi (Q3 p.2 i true).2+1≤_;omega),fun k=>?_⟩;have k:((Q3 p.2 i true).1 || false || p.1)=false:=k;rw[c1]at k;cases k
  ·rcases Qym hC hT c i true with ⟨c1,_⟩|⟨c1,a,x⟩
   ·rw[c1];refine⟨c,by show phi (Q3 p.2 i false).2≤_;omega,fun _=>.inr (by show phi (Q3 p.2 i false).2+1≤_;omega),fun k=>?_⟩;have k:(false || (Q3 p.2 i false).1 || p.1)=false:=k;rw[g]at k;cases k
   ·refine⟨a,by show phi (Q3 (Q3 p.2 i false).2 i true).2≤_;omega,fun _=>.inr (by show phi (Q3 (Q3 p.2 i false).2 i true).2+1≤_;omega),fun k=>?_⟩;have k:((Q3 (Q3 p.2 i false).2 i true).1 || (Q3 p.2 i false).1 || p.1)=false:=k;rw[c1]at k;cases k
theorem Qc8:∀(k:Nat) {s:Sm},MK T C s→MK T C (Vy s k)∧phi (Vy s k)≤phi s∧(Qt (Vy s k)∨phi (Vy s k)+k≤phi s)
 | 0,s,h=>⟨h,Q1 _,.inr (Q1 _)⟩
 | k+1,s,h=>by
  rw[By]
  rcases Ze1 hC hT h true with ⟨j,g⟩|⟨j,g,v⟩
  ·rw[j];obtain⟨c,o,m,f⟩:=Qgi hC hT h false s.nd.length;cases b:(roundUp s false s.nd.length).1 with
   | true=>
    simp only[C0];have u:=(m b).resolve_left (fun e=>(by cases e));obtain⟨c1,t,a⟩:=Qc8 k c;exact⟨c1,Qb,a.imp id fun a=>Qb⟩
   | false=>
    simp only;obtain⟨d,r,q⟩:=f b;refine⟨c,o,.inl ?_⟩;show Qt (roundUp s false s.nd.length).2;rw[r];exact⟨g,fun i n l p=>q i n (Yz.1 l).1 l p⟩
  ·obtain⟨c,o,m,f⟩:=Qgi hC hT g (Yi s true).1 (Yi s true).2.nd.length;cases b:(roundUp (Yi s true).2 (Yi s true).1 (Yi s true).2.nd.length).1 with
   | true=>
    simp only[C0];obtain⟨c1,t,a⟩:=Qc8 k c;exact⟨c1,Qb,a.imp id fun a=>Qb⟩
   | false=>
    obtain⟨d,_⟩:=f b;rw[j]at d;cases d
end
section
variable {b c:Br}{u:List Nat}{A:Nat→Prop}
theorem BrI.nowed(a:BrI b never){now:Nat}(d:now≤4294967295):BrI {b with now:=now} never:=a.same ⟨a.ok.R,a.ok.N,a.ok.Fu,a.ok.Y4,fun x c=>a.ok.Qu x c,a.ok.Dk,a.ok.q1,a.ok.q2,a.ok.g1,a.ok.g2,d,a.ok.fin,a.ok.mem,a.ok.C4⟩ rfl rfl rfl
theorem Qmg{o:Option (List Nat)}(h:¬o.isSome=true):o=none:=by
 cases o with
 | none=>rfl
 | some d=>exact absurd rfl h
theorem Qwm{J dn gn:List Nat}(d:BrI b never){now:Nat}(c:now≤4294967295)(h:CN J dn gn b):CN J dn gn (Y7 b now).2∧(Y7 b now).2.cf=b.cf:=by
 unfold Y7
 split
 ·exact⟨h,rfl⟩
 split
 ·exact⟨h.same rfl rfl,rfl⟩
 split
 ·split
  ·exact⟨h.same rfl rfl,rfl⟩
  ·exact⟨h.same rfl rfl,rfl⟩
 ·rename_i a;have m:=Qhh (d.nowed c) (Qmg a);exact⟨Qru (fun l e f=>by simp only[lT,Yf,Hp,Ho]at e;omega) m (h.same rfl rfl),m.cf⟩
end
abbrev fx(s:Sm):(List Nat×Nat×Nat)×Nat×Nat×Nat×Nat:=(s.b.cf,s.cn,s.cr,s.cq,s.cg)
abbrev fy(s:Sm):(Nat×Nat)×Nat×Nat×Nat×Nat:=(s.b.cf.2,s.cn,s.cr,s.cq,s.cg)
theorem Zf9{s t:Sm}(h:fx t=fx s):fy t=fy s:=Z3 (fun p=>(p.1.2,p.2)) h
theorem SK.Dk{s:Sm}{F T:Nat}(h:SK s F T):s.b.js.length≤s.Wy.length∧s.Wy.length≤20:=by
 have a:=h.si.sb;refine⟨?_,a.jl⟩
 have e:(0::s.b.js.map (·.id)).Pairwise (· < ·):=Ws.2 ⟨fun i b=>by
  obtain⟨x,c,rfl⟩:=Qq.1 b;have:=(a.gj.gi.bi.ok.Qu x c).P3;omega,Ww.2 a.gj.gi.bi.ok.Y4⟩
 have d:=An e (N:=s.next) fun i b=>by
  rcases Yf.1 b with rfl|b
  ·have:=a.jb;omega
  ·obtain⟨x,c,rfl⟩:=Qq.1 b;exact a.di.lt x c
 rw[Ka,Qo]at d;have:=a.jb;omega
theorem SK.nds{s:Sm}{F T:Nat}(h:SK s F T):s.b.nodes=s.cn:=h.si.sb.gj.gi.len.symm.trans h.si.sb.len
theorem Qpc{s:Sm}{F T:Nat}(h:SK s F T)(o:F≤99999000000)(l:T+1≤4294967295)(q:s.cn≤6):SK (Y2 s) (F+80000) (T+1)∧phi (Y2 s)≤phi s+74*s.b.js.length+12∧fx (Y2 s)=fx s:=by
 have g:=Zab h.si o l;have a:=h.si.sb;have y:=a.tm;have f:=Qex (D1 a.gj (s.now+1)) (now:=s.now+1) Qb;obtain⟨w,A,v⟩:=Qey a.di (now:=s.now+1) (by rw[a.now];omega) f.gi.bi.ok.Y4;have z:=Q4l a.gj.gi.bi (by rw[h.nds];exact q) (now:=s.now+1) Qb;obtain⟨t,c⟩:∃t:Sm,t={s with now:=s.now+1,X4:=Qgp s (s.nd.map (Yg (s.now+1))),b:=(Y7 s.b (s.now+1)).2,nd:=s.nd.map (Yg (s.now+1)),ok:=s.ok&&stB s}:=⟨_,rfl⟩
 have e:Y2 s=X5 t:=by
  rw[c];unfold Y2;dsimp only;rw[Qe (by rw[v];exact fun e=>e rfl)]
 rw[e]at g ⊢;obtain⟨c1,x⟩:=Qwm a.gj.gi.bi (now:=s.now+1) Qb h.cn
 have m:SL t:=by
  rw[c];exact⟨(h.sl.lb.ticks (s.now+1)).tick a.gj.gi.bi Qb,Zaq h.sl.sn a.gj.gi.bi Qb⟩
 have j:(t.done++t.b.done).Nodup:=by rw[c];exact w.nd
 have d:GJ t.b t.nd:=by rw[c];exact f
 have p:CN (t.Wy.map (·.id)) t.done t.gone t.b:=by rw[c];exact c1
 have u:=Tn t;have i:phi t=((s.nd.map (Yg (s.now+1))).map nf).sum+s.Qf.length+pot (Y7 s.b (s.now+1)).2:=by rw[c];rfl
 have r:(s.nd.map (Yg (s.now+1))).map nf=s.nd.map nf:=by
  rw[Kk];refine De fun n _=>?_;obtain⟨_,k1,k,_⟩:=Kq (s.now+1) n;show nf (Yg (s.now+1) n)=nf n;unfold nf;rw[k1,k]
 refine⟨⟨g,Qez m d j,Qe1 p j⟩,?_,?_⟩
 ·rw[r]at i;unfold phi at u i ⊢;omega
 ·rw[c];show (((Y7 s.b (s.now+1)).2.cf,s.cn,s.cr,s.cq,s.cg):(List Nat×Nat×Nat)×Nat×Nat×Nat×Nat)=fx s;rw[x]
theorem Qc7{P:Sm→Prop}{T C:Nat}(p:C≤99999000000)(j:T≤4294967295)
  (w:∀(s:Sm) (i:Nat) (n:Nd) (x:Nt) (l:List Nt) (o:Bool),MK T C s→s.nd[i]?=some n→n.up=true→n.Yy=x::l→P s→P {Zej s i n x l with ok:=o})
  (v:∀(s:Sm) (i:Nat) (n:Nd) (x:Nt×List Int) (l:List (Nt×List Int)) (o:Bool),MK T C s→s.nd[i]?=some n→n.up=true→n.out=x::l→P s→P (X5 {Ga s i n x l with ok:=o}))
  (u:∀(s:Sm) (x:Im) (l:List Im) (o:Bool),MK T C s→s.Qf=x::l→P s→P (X5 {M3 s x l true with ok:=o})):∀(k:Nat) {s:Sm},MK T C s→P s→P (Vy s k):=by
 have t:∀(s:Sm) (i:Nat) (back:Bool),MK T C s→P s→MK T C (Q3 s i back).2∧P (Q3 s i back).2:=fun s i back h a=>by
  have m:MK T C (Q3 s i back).2:=by
   rcases Qym p j h i back with ⟨k,_⟩|⟨_,k,_⟩
   ·rw[k];exact h
   ·exact k
  refine⟨m,?_⟩;cases b:s.nd[i]? with
  | none=>rw[Q3,b];exact a
  | some n=>
   by_cases f:n.up=false
   ·rw[Ni b f];exact a
   have d:n.up=true:=by simpa using f
   cases back with
   | true=>
    cases g:n.out with
    | nil=>rw[Mf b g];exact a
    | cons x l=>rw[Qa4 b f g];exact v s i n x l _ h b d g a
   | false=>
    cases c:n.Yy with
    | nil=>rw[Qc1 b c];exact a
    | cons x l=>rw[Qrl b f c];exact w s i n x l _ h b d c a
 have rd:∀(s:Sm) (o:Bool),MK T C s→P s→∀i,MK T C (roundUp s o i).2∧P (roundUp s o i).2:=fun s o h a i=>by
  induction i with
  | zero=>exact⟨h,a⟩
  | succ i e=>
   have q:=t _ i false e.1 e.2;exact t _ i true q.1 q.2
 intro k;induction k with
 | zero=>exact fun _ a=>a
 | succ k e=>
  intro s h a;rw[By]
  have m:MK T C (Yi s true).2∧P (Yi s true).2:=by
   refine⟨?_,?_⟩
   ·rcases Ze1 p j h true with ⟨k,_⟩|⟨_,k,_⟩
    ·rw[k];exact h
    ·exact k
   ·cases c:s.Qf with
    | nil=>rw[Qg4 c];exact a
    | cons x l=>rw[Qe5 c];exact u s x l _ h c a
  have r:=rd _ (Yi s true).1 m.1 m.2 (Yi s true).2.nd.length
  split
  ·exact e r.1 r.2
  ·exact r.2
theorem MK.lb{T C:Nat}{s:Sm}(h:MK T C s):LB s.nd s.Qf s.b:=by
 obtain⟨F,h,_⟩:=h;exact h.sl.lb
theorem Zd5{T C:Nat}(g:C≤99999000000)(f:T≤4294967295){s0:Sm}(k:Nat){s:Sm}(h:MK T C s)(e:fx s=fx s0∧s.Wy=s0.Wy∧s.now=s0.now∧BG s0.b s.b):fx (Vy s k)=fx s0∧(Vy s k).Wy=s0.Wy∧(Vy s k).now=s0.now∧BG s0.b (Vy s k).b:=
 Qc7 (P:=fun s=>fx s=fx s0∧s.Wy=s0.Wy∧s.now=s0.now∧BG s0.b s.b) g f (fun s i n x l o _ _ _ _ h=>h)
  (fun s i n x l o a q j p h=>by
   have m:=Lt (b:=s.b) rfl i x.1 x.2;exact⟨(Z3 (fun c=>((c,s.cn,s.cr,s.cq,s.cg):(List Nat×Nat×Nat)×Nat×Nat×Nat×Nat)) m.cf).trans h.1,h.2.1,h.2.2.1,h.2.2.2.trans fun y d=>Qyw m a.lb y d⟩)
  (fun s x l o a r h=>by
   have m:=Ui a.lb.Xg (b:=s.b) rfl x.Qu x.ver true;exact⟨(Z3 (fun c=>((c,s.cn,s.cr,s.cq,s.cg):(List Nat×Nat×Nat)×Nat×Nat×Nat×Nat)) m.cf).trans h.1,h.2.1,h.2.2.1,h.2.2.2.trans fun y d=>Qyw m a.lb y d⟩) k h e
theorem Zaa{b:Br}{nd:List Nd}{im:List Im}(h:LB nd im b)(d:BrI b never){now:Nat}(c:now≤4294967295):BG b (Y7 b now).2:=by
 unfold Y7
 split
 ·exact .refl b
 split
 ·exact .refl b
 split
 ·split
  ·exact .refl b
  ·exact .refl b
 ·rename_i a;exact Qyw (b:={b with now:=now}) (Qhh (d.nowed c) (Qmg a)) h
theorem G7{s:Sm}{F T:Nat}(h:SI s F T)(f:T+1≤4294967295):Y2 s=X5 {s with now:=s.now+1,X4:=Qgp s (s.nd.map (Yg (s.now+1))),b:=(Y7 s.b (s.now+1)).2,nd:=s.nd.map (Yg (s.now+1)),ok:=s.ok&&stB s}:=by
 have d:=h.sb.tm;have a:=Qex (D1 h.sb.gj (s.now+1)) (now:=s.now+1) Qb;obtain⟨i,g,c⟩:=Qey h.sb.di (now:=s.now+1) (by rw[h.sb.now];omega) a.gi.bi.ok.Y4;unfold Y2;dsimp only;rw[Qe (by rw[c];exact fun e=>e rfl)]
theorem Qn9{s:Sm}{F T C:Nat}(h:SK s F T)(p:F+80000+1000*(phi s+74*s.b.js.length+12)≤C)(b:C≤99999000000)(a:T+1≤4294967295)(e:s.cn≤6) :
  MK (T+1) C (Y2 s)∧MK (T+1) C (U9 s)∧phi (U9 s)≤phi s+74*s.b.js.length+12∧(Qt (U9 s)∨phi (U9 s)+3000≤phi s+74*s.b.js.length+12)∧fx (U9 s)=fx s∧(U9 s).Wy=s.Wy∧(U9 s).now=s.now+1∧BG s.b (U9 s).b:=by
 obtain⟨o,q,n⟩:=Qpc h Qb a e;have m:MK (T+1) C (Y2 s):=⟨_,o,Qb⟩;obtain⟨l,c,j⟩:=Qc8 b a 3000 m
 have d:BG s.b (Y2 s).b:=by
  rw[G7 h.si a];exact Zaa h.sl.lb h.si.sb.gj.gi.bi (by have:=h.si.sb.tm;omega)
 obtain⟨c1,i,g,f⟩:=Zd5 b a (s0:=Y2 s) 3000 m ⟨rfl,rfl,rfl,.refl _⟩;have c:phi (U9 s)≤phi (Y2 s):=c;exact⟨m,l,Qb,j.imp id fun k=>by have k:phi (U9 s)+3000≤phi (Y2 s):=k;omega,c1.trans n,i,g,d.trans f⟩
theorem Qcy{s t:Sm}{F T:Nat}(e:SI (X5 t) F T)(d:SL t)(f:GJ t.b t.nd)(a:(t.done++t.b.done).Nodup)(g:CN (t.Wy.map (·.id)) t.done t.gone t.b)(b:phi t≤phi s)(c:fy t=fy s):SK (X5 t) F T∧phi (X5 t)≤phi s∧fy (X5 t)=fy s:=
 ⟨⟨e,Qez d f a,Qe1 g a⟩,Up (Tn t) b,c⟩
section
variable {s:Sm}{F T:Nat}(h:SK s F T)(hF:F≤99000000000)
include h
theorem SK.mono{b a:Nat}(d:F≤b)(c:T≤a):SK s b a:=⟨h.si.mono d c,h.sl,h.cn⟩
include hF
theorem Zev(i:Nat):SK (Qb1 s i) (F+1000) T∧phi (Qb1 s i)≤phi s∧fy (Qb1 s i)=fy s:=by
 have a:=Zky h.si hF i;unfold Qb1 at a ⊢;cases b:s.nd[i]? with
 | none=>exact⟨h.mono Qb (Q1 _),Q1 _,rfl⟩
 | some n=>
  rw[b]at a;simp only at a ⊢
  by_cases d:n.up=true
  ·rw[Qh d];exact⟨h.mono Qb (Q1 _),Q1 _,rfl⟩
  ·rw[Qe d]at a ⊢;obtain⟨g,f,l,k,j⟩:=Ql4 s.b i;have e:(Ja s.b i).2.stops=s.b.stops∧(Ja s.b i).2.cf.2=s.b.cf.2:=by unfold Ja;split <;> exact⟨rfl,rfl⟩
   refine Qcy a ⟨h.sl.lb.up b,h.sl.sn.same e.1⟩ (Q2z h.si.sb.gj b (by simpa using d)) (by show (s.done++(Ja s.b i).2.done).Nodup;rw[f];exact h.si.sb.di.nd) (h.cn.same g f) ?_ (Z3 (fun c=>((c,s.cn,s.cr,s.cq,s.cg):(Nat×Nat)×Nat×Nat×Nat×Nat)) e.2);have p:=Qbr nf (a':={n with up:=true}) b;have o:nf {n with up:=true}=nf n:=rfl;have m:pot (Ja s.b i).2=pot s.b:=by unfold pot;rw[g,k,j]
   show ((s.nd.set i {n with up:=true}).map nf).sum+s.Qf.length+pot (Ja s.b i).2≤(s.nd.map nf).sum+s.Qf.length+pot s.b;omega
theorem Zb9(i:Nat):SK (E5 s i) (F+1000) T∧phi (E5 s i)≤phi s∧fy (E5 s i)=fy s:=by
 have a:=Zca h.si hF i;unfold E5 at a ⊢;cases d:s.nd[i]? with
 | none=>exact⟨h.mono Qb (Q1 _),Q1 _,rfl⟩
 | some n=>
  rw[d]at a;simp only at a ⊢
  by_cases b:n.up=true
  ·rw[Qh b]at a ⊢;have j:=Qni h.si.sb.gj d b
   have f:Ms (Wq s.b i).up (fun l=>l∈[1,2,4,5,6,8,9,10]) (Wq s.b i) (Kh s.b i).2∨(Kh s.b i).2=s.b:=by
    unfold Kh
    split
    ·exact .inr rfl
    ·have m1:Ms (Wq s.b i).up (fun l=>l∈[1,2,4,5,6,8,9,10]) (Wq s.b i) (each (Xw i) (Wq s.b i) s.b.ids):=Qcf Qp Qp Qp Qp Qp rfl i s.b.ids;exact .inl (m1.trans (B8 Qp Qp Qp m1.up i))
   refine Qcy a ⟨h.sl.lb.lost h.si.sb.gj d b,Zar h.sl.sn i⟩ j ?_ ?_ ?_ ?_
   ·have:(Kh s.b i).2.done=s.b.done:=(Qx2 s.b i h.si.sb.di.ag).1.1;show (s.done++(Kh s.b i).2.done).Nodup;rw[this];exact h.si.sb.di.nd
   ·show CN (s.Wy.map (·.id)) s.done s.gone (Kh s.b i).2
    rcases f with m|e
    ·exact Qru (fun l g k=>by simp only[Yf,Hp,Ho]at g;omega) m (h.cn.same rfl rfl)
    ·rw[e];exact h.cn
   ·have g:=Qbr nf (a':={up:=false,rk:=[],Yy:=[],out:=[],Qj:=n.Qj}) d;have k:nf {up:=false,rk:=[],Yy:=[],out:=[],Qj:=n.Qj}=0:=rfl;have o:=Q4m h.si.sb.gj.gi.bi.ok.Y4 i;show ((s.nd.set i {up:=false,rk:=[],Yy:=[],out:=[],Qj:=n.Qj}).map nf).sum+s.Qf.length+pot (Kh s.b i).2≤(s.nd.map nf).sum+s.Qf.length+pot s.b;omega
   ·refine Z3 (fun c=>((c,s.cn,s.cr,s.cq,s.cg):(Nat×Nat)×Nat×Nat×Nat×Nat)) ?_;show (Kh s.b i).2.cf.2=s.b.cf.2
    rcases f with m|e
    ·have:=Z3 Prod.snd m.cf;exact this
    ·rw[e]
  ·rw[Qe b];exact⟨h.mono Qb (Q1 _),Q1 _,rfl⟩
omit h hF in
theorem CN.gn{J dn gn a:List Nat}{b:Br}(k:CN J dn gn b)(d:∀i∈gn,i∈a):CN J dn a b:=⟨fun x e=>(k.js x e).mono (fun _ k=>k) d,fun id c=>(k.all id c).imp (fun k=>k) fun k=>k.imp (fun k=>k) (d id)⟩
theorem Zjn(id:Nat):SK (Tu s id) (F+1000) T∧phi (Tu s id)≤phi s∧fy (Tu s id)=fy s:=by
 have g:=Zjo h.si hF id;unfold Tu at g ⊢;have m:=Sk (b:=s.b) rfl id
 refine Qcy g ⟨h.sl.lb.ms m,h.sl.sn.same (Qn6 s.b id)⟩ (Qli h.si.sb.gj id) ?_ ?_ ?_ (Z3 (fun c=>((c,s.cn,s.cr,s.cq,s.cg):(Nat×Nat)×Nat×Nat×Nat×Nat)) (Z3 Prod.snd m.cf))
 ·have:(Xd s.b id).2.done=s.b.done:=(Qk2 s.b id h.si.sb.di.ag).1.1;show (s.done++(Xd s.b id).2.done).Nodup;rw[this];exact h.si.sb.di.nd
 ·show CN (s.Wy.map (·.id)) s.done (if (Xd s.b id).1=0 then Xm s.gone id else s.gone) (Xd s.b id).2
  split
  ·exact Qru (fun l a o=>by
    rcases a with a|a|a
    ·omega
    ·omega
    ·exact Hj.2 (.inr Qb)) m (h.cn.gn fun i j=>Hj.2 (.inl j))
  ·rename_i e
   have:(Xd s.b id).2=s.b:=by
    unfold Xd at e ⊢
    split
    ·rfl
    ·rename_i x k;rw[k]at e;simp only at e
     split
     ·rename_i f;rw[f]at e;exact absurd rfl e
     ·rename_i d f;rw[f]at e;simp only at e
      split
      ·rename_i n;rw[Qh n]at e;exact absurd rfl e
      ·rfl
   rw[this];exact h.cn
 ·have:=Qtn h.si.sb.gj.gi.bi.ok.Y4 id;show (s.nd.map nf).sum+s.Qf.length+pot (Xd s.b id).2≤(s.nd.map nf).sum+s.Qf.length+pot s.b;omega
omit h hF in
theorem Qyz(b:Br)(id t k w:Nat):(Ex b (Kl id t k w 0 0)).1≠0∧(Ex b (Kl id t k w 0 0)).2=b∨(Ex b (Kl id t k w 0 0)).1=0∧(Ex b (Kl id t k w 0 0)).2=(H8 b (Kl id t k w 0 0)).set (Kl id t k w 0 0):=by
 unfold Ex
 split
 ·exact .inl ⟨fun e=>(by cases e),rfl⟩
 rename_i a;have a:Ey b (Kl id t k w 0 0)=true:=by simpa using a
 split
 ·exact .inl ⟨fun e=>(by cases e),rfl⟩
 simp only[Ey,Z5,Zz]at a;refine .inr ⟨rfl,?_⟩;show Yj (H8 b (Kl id t k w 0 0)) (Kl id t k w 0 0)=_;unfold Yj;rw[Qh (.inl (show 0<w from a.1.1.1.2))]
theorem Zjt(d:s.Wy.length<20)(t k w:Nat):SK (Rr s ⟨s.next,t % 4,1+k % s.cn,1+w % 20⟩) (F+1000) T∧phi (Rr s ⟨s.next,t % 4,1+k % s.cn,1+w % 20⟩)≤phi s∧fy (Rr s ⟨s.next,t % 4,1+k % s.cn,1+w % 20⟩)=fy s:=by
 have a:=Zju h.si hF d t k w;have b:=h.si.sb;have l:=Q8p b.gj (id:=s.next) (tier:=t % 4) (k:=1+k % s.cn) (w:=1+w % 20) (by have:=b.jb;omega) (by have:=b.Dk;omega);have g:=h.sl.lb.Mg b.gj.gi.bi.ok.Y4 s.next (t % 4) (1+k % s.cn) (1+w % 20);have m:=Zbo b.gj.gi.bi.ok.Y4 s.next (t % 4) (1+k % s.cn) (1+w % 20);unfold Rr at a ⊢;unfold Ri at a ⊢;dsimp only at a ⊢
 rcases Qyz s.b s.next (t % 4) (1+k % s.cn) (1+w % 20) with ⟨e1,e2⟩|⟨e1,e2⟩
 ·rw[Qe e1]at a ⊢;rw[e2]at a ⊢;exact Qcy a ⟨h.sl.lb,h.sl.sn⟩ b.gj b.di.nd h.cn (Q1 _) rfl
 ·rw[Qh e1]at a ⊢;obtain⟨x,f⟩:∃x,x=Kl s.next (t % 4) (1+k % s.cn) (1+w % 20) 0 0:=⟨_,rfl⟩;rw[←f]at a l g m e2 ⊢;rw[e2]at a l g m ⊢;refine Qcy a ⟨g,h.sl.sn.same rfl⟩ l b.di.nd ?_ (by show (s.nd.map nf).sum+s.Qf.length+pot ((H8 s.b x).set x)≤(s.nd.map nf).sum+s.Qf.length+pot s.b;omega) rfl;have sub:∀y∈s.b.js,y∈Xe (Hg x s.b.js) x:=fun y c=>Qq.2 ⟨y,Ks.2 (.inr c),Qe (by have:=b.di.lt y c;rw[f];show ¬y.id=s.next;omega)⟩
  refine⟨fun y c=>?_,fun id i=>?_⟩
  ·rcases Ke (show y∈Xe (Hg x s.b.js) x from c) with rfl|⟨c,p⟩
   ·rw[f];exact⟨fun e=>(by cases e),fun e=>(by cases e),by show 1+w % 20≤20;omega⟩
   ·rcases Ks.1 c with rfl|c
    ·exact absurd rfl p
    ·exact h.cn.js y c
  ·obtain⟨j,d,rfl⟩:=Qq.1 i
   rcases Xu.1 d with d|d
   ·exact(h.cn.all j.id (Qq.2 ⟨j,d,rfl⟩)).imp (fun⟨y,o,n⟩=>⟨y,sub y o,n⟩) fun k=>k
   ·refine .inl ⟨x,Qhm (x:=x) (Ks.2 (.inl rfl)) rfl,?_⟩;rw[Vd.1 d,f]
theorem Qwx(A:1000*phi s≤150000000)(m:T+1≤4294967295)(n:s.cn≤6)(r:F≤90000000000)(a:Ac):SK (U7 s a) (F+200000000) (T+1)∧phi (U7 s a)≤phi s+1492∧fy (U7 s a)=fy s:=by
 have up:∀ {t:Sm},SK t (F+1000) T∧phi t≤phi s∧fy t=fy s→SK t (F+200000000) (T+1)∧phi t≤phi s+1492∧fy t=fy s:=fun k=>⟨k.1.mono Qb (Qoi T),by have:=k.2.1;omega,k.2.2⟩;obtain⟨z,y⟩:=h.Dk
 by_cases d0:a.Wc=0∨a.Wc=1
 ·rw[Qbx d0];obtain⟨k1,d,l⟩:=Qpc h Qb m n;exact⟨k1.mono Qb (Q1 _),Qb,Zf9 l⟩
 by_cases o:a.Wc=2
 ·by_cases e:s.Wy.length<20
  ·rw[Qgc o e];exact up (Zjt h hF e _ _ _)
  ·rw[Qb0 o e];obtain⟨q1,_,q3⟩:=Qax h.si Qb (Q1 1000) h.si.sb rfl (by rw[h.si.e1,h.si.e2,h.si.e3];decide);exact up (Qcy (q3 _ (by rw[h.si.ok,q1];rfl)) ⟨h.sl.lb,h.sl.sn⟩ h.si.sb.gj h.si.sb.di.nd h.cn (Q1 _) rfl)
 by_cases x:a.Wc=3
 ·rw[Qgb x];exact up (Zjn h hF _)
 by_cases w:a.Wc=4
 ·rw[Qby w];exact up (Zb9 h hF _)
 by_cases v:a.Wc=5
 ·rw[Qe4 v];exact up (Zev h hF _)
 by_cases u:a.Wc=6∨a.Wc=7∨a.Wc=8∨a.Wc=9
 ·rw[Qga u]
  have f:fy (Q3 s (a.n % s.nd.length) a.back).2=fy s:=by
   obtain⟨i,q⟩:∃i,i=a.n % s.nd.length:=⟨_,rfl⟩;rw[←q];unfold Q3
   split
   ·rfl
   ·split
    ·rfl
    ·split
     ·split
      ·rfl
      ·exact Z3 (fun c=>((c,s.cn,s.cr,s.cq,s.cg):(Nat×Nat)×Nat×Nat×Nat×Nat)) (Z3 Prod.snd (Lt (b:=s.b) rfl i _ _).cf)
     ·split <;> rfl
  rcases Qrm h Qb Qb (a.n % s.nd.length) a.back with ⟨k,_⟩|⟨_,k1,d⟩
  ·rw[k];exact up ⟨h.mono Qb (Q1 _),Q1 _,rfl⟩
  ·exact up ⟨k1,Qb,f⟩
 by_cases j:a.Wc=10
 ·rw[Qf9 j]
  have f:fy (Yi s (!a.fail)).2=fy s:=by
   unfold Yi
   split
   ·rfl
   ·exact Z3 (fun c=>((c,s.cn,s.cr,s.cq,s.cg):(Nat×Nat)×Nat×Nat×Nat×Nat)) (Z3 Prod.snd (Ui h.sl.lb.Xg (b:=s.b) rfl _ _ _).cf)
  rcases Qqa h Qb (!a.fail) with ⟨k,_⟩|⟨_,k1,d⟩
  ·rw[k];exact up ⟨h.mono Qb (Q1 _),Q1 _,rfl⟩
  ·exact up ⟨k1,Qb,f⟩
 by_cases g:a.Wc=11
 ·rw[Qbz g];obtain⟨_,⟨B,k1,d⟩,l,_,p,_⟩:=Qn9 (C:=F+200000000) h Qb Qb m n;exact⟨k1.mono Qb (Q1 _),Qb,Zf9 p⟩
 ·rw[Qml Qb];exact⟨h.mono Qb (Qoi T),Qb,rfl⟩
end
theorem Ql3(b:Br):∀i,(Dl b i).stops=b.stops∧(Dl b i).js=b.js∧(Dl b i).cf.2=b.cf.2∧(Dl b i).fin=b.fin
 | 0=>⟨rfl,rfl,rfl,rfl⟩
 | i+1=>by
  obtain⟨k1,d,c,a⟩:=Ql3 b i;rw[Qbp];have:(Ja (Dl b i) (i:Nat)).2.stops=(Dl b i).stops∧(Ja (Dl b i) (i:Nat)).2.js=(Dl b i).js∧(Ja (Dl b i) (i:Nat)).2.cf.2=(Dl b i).cf.2∧(Ja (Dl b i) (i:Nat)).2.fin=(Dl b i).fin:=by unfold Ja;split <;> exact⟨rfl,rfl,rfl,rfl⟩
  exact⟨this.1.trans k1,this.2.1.trans d,this.2.2.1.trans c,this.2.2.2.trans a⟩
theorem Q8c{N R Q G:Nat}(e:SI (Uv N R Q G) 0 0):SK (Uv N R Q G) 0 0∧phi (Uv N R Q G)=0∧fy (Uv N R Q G)=((0,Q),N,R,Q,G):=by
 obtain⟨k1,a,g,_⟩:=Ql3 (Qcc N R Q G 0) N;have k1:(Uv N R Q G).b.stops=none:=k1;have a:(Uv N R Q G).b.js=[]:=a
 refine⟨⟨e,⟨fun x b=>?_,fun S f=>?_⟩,⟨fun x b=>?_,fun id d=>(by cases d)⟩⟩,?_,Z3 (fun c=>((c,N,R,Q,G):(Nat×Nat)×Nat×Nat×Nat×Nat)) g⟩
 ·rw[a]at b;cases b
 ·rw[k1]at f;cases f
 ·rw[a]at b;cases b
 ·have h:(((List.replicate N nd0).map nf).sum)=0:=by
   rw[List.map_replicate,show nf nd0=0 from rfl];simp
  show ((List.replicate N nd0).map nf).sum+0+(2*(Uv N R Q G).b.Qd.length+(Uv N R Q G).b.Qf.length+((Uv N R Q G).b.js.map lat).sum)=0;rw[h,e.e1,e.e2,a];rfl
def AU(s:Sm):Prop:=∀(i:Nat) (n:Nd),s.nd[i]?=some n→n.up=true
theorem AU.fx{s t:Sm}(h:AU s){F T j g:Nat}(hs:SK s F T)(a:SK t j g)(e:fx t=fx s):AU t:=fun i n b=>by
 have f:t.b.up=s.b.up:=Z3 (fun p=>p.1.1) e;have d:t.cn=s.cn:=Z3 (fun p=>p.2.1) e;obtain⟨m,c⟩:=Xs (show i<s.nd.length by rw[hs.si.sb.len,←d,←a.si.sb.len];exact(Yz.1 b).1);exact(a.si.sb.gj.gi.Au b).2 (by rw[f];exact(hs.si.sb.gj.gi.Au c).1 (h i m c))
section
variable {s:Sm}{F T:Nat}(h:SK s F T)(hq:Qt s)(ha:AU s)
include h hq ha
theorem Qz3(i:Nat):(Vi s.nd s.b.Qd (s.Qf++s.b.Qf)).q i=[]∧(Vi s.nd s.b.Qd (s.Qf++s.b.Qf)).o i=[]∧(Vi s.nd s.b.Qd (s.Qf++s.b.Qf)).im=[]:=by
 rw[h.si.e1,h.si.e2,hq.1]
 refine⟨?_,?_,rfl⟩
 ·show Ki s.nd i++[]=[];rw[X3,Ki];cases a:s.nd[i]? with
  | none=>rfl
  | some n=>exact(hq.2 i n a (ha i n a)).1
 ·show Uz s.nd i=[];rw[Uz];cases a:s.nd[i]? with
  | none=>rfl
  | some n=>exact(hq.2 i n a (ha i n a)).2
theorem Dz{x:Bj}(r:x∈s.b.js):(x.state=0∨x.state=2)∧x.Ql=none∧x.Xg=none∧x.Qg<x.w∧x.done=false:=by
 obtain⟨b,u⟩:=h.sl.lb x r;have j:=Qz3 h hq ha
 have w:∀a c i id,¬(Vi s.nd s.b.Qd (s.Qf++s.b.Qf)).has a c i id:=fun a c i id k=>by
  unfold En.has at k;rw[(j i).1,(j i).2.1]at k;rcases k with ⟨_,k,_⟩|⟨_,k,_⟩ <;> cases k
 have f:x.Ql=none:=by
  cases f:x.Ql with
  | none=>rfl
  | some d=>
   obtain⟨i,g⟩:=Ta d fun e=>u.ne (by rw[f,e]);exact absurd (b.dr d f i g).2 (w _ _ _ _)
 have hs:x.Xg=none:=by
  cases hs:x.Xg with
  | none=>rfl
  | some v=>
   cases t:v.told with
   | true=>
    have:=b.tl v hs t;rw[(j 0).2.2]at this;cases this
   | false=>
    obtain⟨z,p,o,m⟩:=b.sv v hs t;refine absurd (Nat.le_antisymm (Dm _ _ z p) (Dm _ _ (Vs b.Uy) fun i g=>?_)) o;obtain⟨k,A⟩:=Dg g;refine(m k i A).resolve_right fun q=>?_;unfold En.sv8 at q;rw[(j i).1,(j i).2.1]at q
    rcases q with ⟨a,n,c,q,_⟩|⟨_,q,_⟩
    ·cases a <;> cases q
    ·cases q
 have B:=(h.si.sb.gj.gi.bi.j x r).st;refine⟨?_,f,hs,u.lt f⟩
 have D:x.state≠1:=fun e=>by
  obtain⟨l,_,p,o,m,y⟩:=b.ld e;exact m (Nat.le_antisymm (Dm _ _ p o) (Dm _ _ (Vs b.Uy) fun i g=>(y i g).resolve_right (w _ _ _ _)))
 have C:x.state≠3:=fun e=>by
  have:=b.st.1 e;rw[f]at this;cases this
 omega
theorem F6:s.b.Qn=false:=by
 cases f:s.b.Qn with
 | false=>rfl
 | true=>
  have b:=h.si.sb.gj;cases hs:s.b.stops with
  | none=>rw[b.sf hs]at f;cases f
  | some S=>
   obtain⟨i,j⟩:=Ta S (h.sl.sn S hs);have e:=b.gi.C4 i (by rw[hs];exact j);obtain⟨n,d⟩:=Xs (show i<s.nd.length by rw[b.gi.len];exact Nq b.gi.bi e);have g:=(b.gi.node i n d (ha i n d)).ph;obtain⟨q1,q2⟩:=hq.2 i n d (ha i n d);rw[q1,q2,h.si.e1,hs,f]at g;cases g with
   | rest o=>simp[j]at o
   | go _ m=>cases m
   | stop a x c _ _ l=>cases a <;> cases l
   | said a x c _ _ _ _ _ k=>cases a <;> cases k
end
abbrev lK(l:Nat):Prop:=l∈[2,3,4,5,6,7,12,13,14,15]
abbrev ctl(b:Br):Option (List Nat)×Bool×Nat×Nat×List Nat:=(b.stops,b.Qn,b.fin,b.gen,b.members)
theorem A8(b:Br)(x:Bj):ctl (Y6 b x)=ctl b:=by
 unfold Y6
 split
 ·split <;> rfl
 ·rfl
theorem Lg(b:Br)(n:Int){t:Nt}(c:t.kind≠7)(a:List Int):ctl (X6 b n t a).2=ctl b:=by
 unfold X6
 split
 ·rfl
 split
 ·rfl
 split
 ·show ctl (U8 b _ _ t a)=ctl b;unfold U8
  split
  ·split <;> rfl
  split
  ·unfold Ky
   split
   ·rfl
   split
   ·rfl
   split
   ·rfl
   ·dsimp only;split <;> rfl
  split
  ·split
   ·rfl
   ·exact A8 b _
  ·rfl
 ·rfl
theorem T9(b:Br)(id ver:Nat)(ok:Bool):ctl (Q5 b id ver ok).2=ctl b:=by
 have c:∀(b:Br) (x:Bj) (a:Bool),ctl (Wd b x a)=ctl b:=fun b x a=>by
  unfold Wd
  split
  ·exact A8 b _
  ·exact A8 _ _
 have fin:∀(b:Br) (x:Bj),ctl (Yj b x)=ctl b:=fun b x=>by
  unfold Yj
  split
  ·rfl
  ·exact c _ _ _
 unfold Q5
 split
 ·rfl
 split
 ·rfl
 split
 ·rfl
 ·exact fin _ _
theorem hush{s:Sm}{F T:Nat}(h:SK s F T)(hs:s.b.Qn=false){i:Nat}{n:Nd}(e:s.nd[i]?=some n)(d:n.up=true):Lp 7 n.out:=by
 have c:=(h.si.sb.gj.gi.node i n e d).ph;rw[hs]at c;cases c with
 | rest _ _ _ a=>exact a
 | go _ _ _ a=>exact a
 | stop _ _ _ _ b=>cases b
 | said _ _ _ _ b=>cases b
theorem Qin{P:Br→Prop}{T C:Nat}(hC:C≤99999000000)(hT:T≤4294967295)(h0:∀b,P b→P {b with Qd:=[],Qf:=[],done:=[]})
  (f:∀(b c:Br) (nd:List Nd) (im:List Im),LB nd im b→Wm b.js→Ms b.up lK b c→ctl c=ctl b→P b→P c) (k:Nat) {s:Sm} (h:MK T C s) (hs:s.b.Qn=false) (m:P s.b):P (Vy s k).b∧ctl (Vy s k).b=ctl s.b:=by
 refine Qc7 (P:=fun t=>P t.b∧ctl t.b=ctl s.b) hC hT (fun _ _ _ _ _ _ _ _ _ _ k=>k) (fun t i n x l o d r j q k=>?_) (fun t x l o d w k=>?_) k h ⟨m,rfl⟩
 ·obtain⟨v,a,_⟩:=d;have g:x.1.kind≠7:=hush a ((Z3 (fun p=>p.2.1) k.2).trans hs) r j x (by rw[q];exact Z0 ..);have e:=Lg t.b i g x.2;exact⟨h0 _ (f t.b _ t.nd t.Qf a.sl.lb a.si.sb.gj.gi.bi.ok.Y4 ((Ls (b:=t.b) (u:=t.b.up) i g x.2).mono fun l h=>by simp only[lJ,lK,Yf,Hp,Ho]at h ⊢;omega) e k.1),e.trans k.2⟩
 ·obtain⟨v,a,_⟩:=d;have e:=T9 t.b x.Qu x.ver true
  exact⟨h0 _ (f t.b _ t.nd t.Qf a.sl.lb a.si.sb.gj.gi.bi.ok.Y4 ((Ui a.sl.lb.Xg (b:=t.b) rfl x.Qu x.ver true).mono fun l h=>by
   have y:l≠19:=fun e=>(by cases h.2 e);have h:=h.1;simp only[lP,lK,Yf,Hp,Ho]at h ⊢;omega) e k.1),e.trans k.2⟩
section
variable {Q:Bj→Prop}{T C:Nat}(hC:C≤99999000000)(hT:T≤4294967295){s:Sm}(h:MK T C s)(hs:s.b.Qn=false)(hQ:Fz lK Q)(k:Nat)
include hC hT h hs hQ
theorem Qu2(a:∀x∈s.b.js,Q x):∀x∈(Vy s k).b.js,Q x:=
 (Qin (P:=fun b=>∀x∈b.js,Q x) hC hT (fun _ k=>k) (fun _ _ _ _ d _ c _ k=>Ab hQ c d k) k h hs a).1
theorem Q74(d:Q8x lK Q){id:Nat}(a:∃x∈s.b.js,x.id=id∧Q x):∃x∈(Vy s k).b.js,x.id=id∧Q x:=
 (Qin (P:=fun b=>∃x∈b.js,x.id=id∧Q x) hC hT (fun _ k=>k) (fun _ _ _ _ e hs c _ k=>Qhx hQ d c e hs k) k h hs a).1
end
end BN
end Go.Proofs.YtdackcibfkkniaaGreatDoor
