/- BrainEnds: it comes to an end. -/
import Derived.Test.YtdackcibfkkniaaGreatDoorME5
set_option maxRecDepth 20000
set_option synthInstance.maxSize 9999
set_option synthInstance.maxHeartbeats 400000
namespace Go.Proofs.YtdackcibfkkniaaGreatDoor
open Go.RowKit
theorem Qks{m:Mx}{z:Int}:∀ {k r:Nat},H0 m z k=some r→∃j,j<k∧r=((z+1+j) % m.R).toNat
 | 0,_,h=>by cases h
 | k+1,r,h=>by
  unfold H0 at h;cases a:H0 m z k with
  | some q=>
   rw[a]at h;obtain⟨j,b,e⟩:=Qks a;have h:q=r:=Hb h;exact⟨j,Qb,h ▸ e⟩
  | none=>
   rw[a]at h;simp only at h
   split at h
   ·cases h
   ·exact⟨k,Qb,(Hb h).symm⟩
theorem Q42{m:Mx}{row:Int}{a d b:Nat}(l:(if Ko m row then row else -1)+1=a)(k:(a+d) % m.R=b)(h:d<m.R)(g:tk m.js b≠0#16):∃j,j≤d∧Xh m row=((((a+j) % m.R:Nat):Int),true):=by
 obtain⟨z,c⟩:∃z,z=(if Ko m row then row else -1):=⟨_,rfl⟩
 have e:∀i:Nat,((z+1+i) % m.R).toNat=(a+i) % m.R:=fun i=>by
  rw[c,l];have:(((a+i) % m.R:Nat):Int)=((a:Int)+i) % m.R:=by norm_cast
  omega
 have n:∃r,H0 m z (d+1)=some r:=by
  unfold H0;cases H0 m z d with
  | some r=>exact⟨r,rfl⟩
  | none=>exact⟨_,Qe (by rw[e,k];exact g)⟩
 obtain⟨r,f⟩:=n;obtain⟨j,o,e2⟩:=Qks f;refine⟨j,Qb,?_⟩;unfold Xh;rw[←c,Lr f Qb,e2,e]
namespace PL
theorem Qqu{row:List Int}{k:Nat}(f:1≤k)(d:k≤row.length)(h0:∀x∈row,x=0):kth row k=some 0:=by
 unfold kth;rw[Qh d];obtain⟨c,a⟩:=Xs (show k-1<(Y4 row).length by rw[F0];omega);rw[a];obtain⟨i,x,b,e⟩:=Qkw.1 ((Ld row).mem_iff.1 (Yn a));have:=h0 x (Yn b);subst this e;rfl
theorem Qlj{D:List (List Int)}{k:Nat}(c:1≤k)(b:∀row∈D,k≤row.length∧∀x∈row,x=0):∀n,n<D.length→Fj k D (n+1)=some (0,0)
 | 0,h=>by
  obtain⟨row,a⟩:=Xs h;rw[Fj,a,Option.bind_some,Qqu c (b row (Yn a)).1 (b row (Yn a)).2];rfl
 | n+1,h=>by
  obtain⟨row,a⟩:=Xs h;rw[Fj,Qlj c b n Qb,a,Option.bind_some,Qqu c (b row (Yn a)).1 (b row (Yn a)).2];rfl
theorem Quo{D:List (List Int)}{k:Nat}(d:1≤k)(b:0<D.length)(c:∀row∈D,k≤row.length∧∀x∈row,x=0):∃row∈D,V1 D k=⟨0,0,chosen row k,true⟩:=by
 obtain⟨row,a⟩:=Xs b;refine⟨row,Yn a,?_⟩;have:=Qlj d c (D.length-1) Qb;rw[show D.length-1+1=D.length by omega]at this;unfold V1;rw[Qe Qb,K0,this];show (⟨0,0,chosen (D[0]?.getD []) k,true⟩:St)=_;rw[a];rfl
theorem Qrv(row:List Int)(k:Nat):(chosen row k).Pairwise (· < ·):=by
 have d:=Qf0 (((Y4 row).take k).map (·.1))
 have c:(chosen row k).Nodup:=by
  refine(Dy _).nodup_iff.2 (Ww.2 ?_);exact List.Pairwise.sublist (List.take_sublist ..) (Qrq (Ld row).symm (Qc5 row))
 exact(d.and (Pk.1 c)).imp fun⟨a,b⟩=>by omega
end PL
theorem Qxj{m:Mx}{l:List Int}(a:l.Pairwise (· < ·))(b:∀z∈l,K7 m z=true):∀k,k≤l.length→Hr m l k=true
 | 0,_=>rfl
 | k+1,h=>by
  have f:=Ju (show k<l.length by omega);have e:l.getD k 0=l[k]:=by simp[List.getD,f]
  rw[Hr,Qxj a b k Qb,e,b _ (Qdf _)];cases k with
  | zero=>rfl
  | succ k=>
   have d:=Ju (show k<l.length by omega);have c:l.getD (k+1-1) 0=l[k]:=by rw[Qdc];simp[List.getD,d]
   rw[c,Zh (Jy.1 a k (k+1) Qb Qb Qb),Bool.or_true];rfl
theorem Qao{m:Mx}{row tier:Int}{l:List Cd}{x:Cd}:∀ {i:Nat},x∈H7 m row tier l i→x.2<tier
 | 0,h=>by cases h
 | i+1,h=>by
  rw[H7]at h
  split at h
  ·exact Qao h
  ·split at h
   ·rename_i a
    rcases Xu.1 h with h|h
    ·exact Qao h
    ·rw[Vd.1 h];simp only[Z5,Zz]at a;exact a.2
   ·exact Qao h
theorem Qyp{m:Mx}{tier k:Int}{l:List Cd}{x:Cd}:∀ {i:Nat},x∈(Qc4 m tier k l i).1→x.2<tier
 | 0,h=>by cases h
 | i+1,h=>by
  unfold Qc4 at h
  split at h
  ·have h:x∈(ofV m (i:Nat) tier k l).1:=h;unfold ofV at h
   split at h
   ·cases h
   ·split at h
    ·exact Qao ((Hq _).mem_iff.1 (Qop h))
    ·cases h
  ·exact Qyp h
namespace BN
section
variable {b:Br}
theorem Qpd(o:BrI b never){x:Bj}(w:x∈b.js)(K:x.state=2)(G:x.work<x.w):∃z,Ko b.m z=true∧0<(X1 b (Yq b.m z)).length∧Xx b b.row b.rows=Tv {b with row:=z} (X1 b (Yq b.m z++Xc b.m z)):=by
 have B:=o.j x w;have k:=o.ok.Fu;obtain⟨_,y,F,_⟩:=B.p Qb;obtain⟨c,q⟩:=J6 F;have g:=k.row y c
 have f:x.Ql=none:=by
  cases f:x.Ql with
  | none=>rfl
  | some d=>have:=B.d.2 (by rw[f];rfl);omega
 have u:∀r:Nat,r<b.m.R→Ko b.m r=true:=fun r m=>Uk.2 ⟨Qb,Qb⟩
 have s:0<(X1 b (Yq b.m (y.row:Nat))).length:=by
  refine List.length_pos_of_mem (a:=x.id) (Y5.2 ⟨?_,?_⟩)
  ·rw[Yq,Qh (u _ g),K0];exact Qq.2 ⟨y,(Wx k).2 ⟨c,rfl⟩,q⟩
  ·rw[Ys o.ok.Y4 w];simp[K,f,G]
 have L:tk b.m.js y.row≠0#16:=fun e=>by
  have J:=Vw.1 (Gj (k.some y c));have C:=(Lb b.m.js y.row (tz y.ns)).2 ⟨y,c,rfl,J⟩;rw[e]at C;simp at C
 have key:∀(i:Nat) (row:Int) (a d:Nat),(if Ko b.m row then row else -1)+1=a→(a+d) % b.m.R=y.row→d<i→d<b.m.R→a≤b.m.R→∃z,Ko b.m z=true∧0<(X1 b (Yq b.m z)).length∧Xx b row i=Tv {b with row:=z} (X1 b (Yq b.m z++Xc b.m z)):=by
  intro i;induction i with
  | zero=>intro _ _ _ _ _ h;omega
  | succ i E=>
   intro row a d p f I t l;obtain⟨j,M,A⟩:=Q42 p f t L;have D:(a+j) % b.m.R<b.m.R:=Qiz _ Qb;have n1:(Xh b.m row).1=(((a+j) % b.m.R:Nat):Int):=by rw[A]
   have v:(Xh b.m row).2=true:=by rw[A]
   by_cases m:0<(X1 b (Yq b.m (Xh b.m row).1)).length
   ·exact⟨_,by rw[n1];exact u _ D,m,D9 v m⟩
   ·rw[D8 v m,n1]
    have H:j≠d:=fun e=>by
     rw[e,f]at n1;rw[n1]at m;exact m s
    refine E _ ((a+j) % b.m.R+1) (d-j-1) (by rw[Qh (u _ D)];rfl) ?_ Qb Qb Qb
    by_cases n:a+j<b.m.R
    ·rw[Qbh n,show a+j+1+(d-j-1)=a+d by omega];exact f
    ·have:(a+j) % b.m.R=a+j-b.m.R:=by rw[Qy5 Qb,Qbh Qb]
     rw[this,←f,Qy5 (show a+d≥b.m.R by omega),show a+j-b.m.R+1+(d-j-1)=a+d-b.m.R by omega]
 obtain⟨a,p,l⟩:∃a:Nat,(if Ko b.m b.row then b.row else -1)+1=a∧a≤b.m.R:=by
  by_cases n:Ko b.m b.row=true
  ·obtain⟨c1,N⟩:=Uk.1 n;rw[Qh n];exact⟨(b.row+1).toNat,Qb,Qb⟩
  ·rw[Qe n];exact⟨0,rfl,Xq _⟩
 rw[show Xx b b.row b.rows=Xx b b.row b.m.R by rw[o.ok.R]]
 by_cases n:a≤y.row
 ·exact key b.m.R b.row a (y.row-a) p (by rw[show a+(y.row-a)=y.row by omega,Qbh g]) Qb Qb l
 ·exact key b.m.R b.row a (b.m.R+y.row-a) p (by rw[show a+(b.m.R+y.row-a)=b.m.R+y.row by omega,Nat.add_mod_left,Qbh g]) Qb Qb l
theorem Cm{f:Br→Bj→Br}{I:Br→Prop}{P Q:Bj→Prop}(i:∀b x,I b→Qk b.js x.id=some x→P x→I (f b x)∧∃y,y.id=x.id∧Q y∧((f b x).js=Xe b.js y∨(f b x).js=b.js∧y=x)):∀(l:List Nat) (b:Br),I b→Wm b.js→l.Nodup→(∀x∈b.js,(x.id∈l→P x)∧(x.id∉l→Q x))→(∀x∈(each f b l).js,Q x)∧(each f b l).ids=b.ids∧I (each f b l)
 | [],_,j,_,_,h=>⟨fun x A=>(h x A).2 (fun e=>(by cases e)),rfl,j⟩
 | id::l,b,j,d,B,h=>by
  obtain⟨n1,r⟩:=Vz.1 B;have e:each f b (id::l)=each f (match Qk b.js id with|none=>b|some x=>f b x) l:=rfl;have rest:∀z∈b.js,z.id≠id→(z.id∈l→P z)∧(z.id∉l→Q z):=fun z a m=>⟨fun k=>(h z a).1 (Ym _ k),fun k=>(h z a).2 fun q=>(Yf.1 q).elim m k⟩;rw[e];cases g:Qk b.js id with
  | none=>exact Cm i l b j d r fun z a=>rest z a (Kb g z a)
  | some x=>
   obtain⟨g1,g2⟩:=Qi g;obtain⟨k1,y,s,w,c⟩:=i b x j (by rw[g2];exact g) ((h x g1).1 (by rw[g2];exact Z0 ..));have new:(y.id∈l→P y)∧(y.id∉l→Q y):=⟨fun k=>absurd k (by rw[s,g2];exact n1),fun _=>w⟩
   rcases c with c|⟨c,v⟩
   ·obtain⟨p,o,n⟩:=Cm i l (f b x) k1 (by rw[c];exact Mt d y) r fun z a=>by
     rw[c]at a
     rcases Ke a with rfl|⟨a,m⟩
     ·exact new
     ·exact rest z a (by rw[s,g2]at m;exact m)
    refine⟨p,o.trans ?_,n⟩;show (f b x).js.map (·.id)=b.js.map (·.id);rw[c];exact Le _ _
   ·obtain⟨p,o,n⟩:=Cm i l (f b x) k1 (by rw[c];exact d) r fun z a=>by
     rw[c]at a
     by_cases t:z.id=id
     ·have u:=Ys d a;rw[t,g]at u;cases u;rw[v]at new;exact new
     ·exact rest z a t
    exact⟨p,o.trans (by show (f b x).js.map (·.id)=_;rw[c]),n⟩
theorem Qn2{f:Br→Bj→Br}{id:Nat}{h:Bj}(j:∀b x,x.id≠id→Qk (f b x).js id=Qk b.js id):∀(l:List Nat),(id∈l→∀b,Qk b.js id=some h→Qk (f b h).js id=some h)→∀b,Qk b.js id=some h→Qk (each f b l).js id=some h
 | [],_,_,a=>a
 | i::l,g,b,a=>by
  have e:each f b (i::l)=each f (match Qk b.js i with|none=>b|some x=>f b x) l:=rfl;rw[e];refine Qn2 j l (fun k=>g (Ym _ k)) _ ?_;cases c:Qk b.js i with
  | none=>exact a
  | some x=>
   by_cases d:i=id
   ·subst d;rw[a]at c;cases c;exact g (Z0 ..) b a
   ·exact(j b x (by rw[(Qi c).2];exact d)).trans a
theorem Qty{id:Nat}{h:Bj}(c:h.Wp=false)(l:List Nat)(b:Br)(d:Qk b.js id=some h):Qk (each Q4 b l).js id=some h:=
 Qn2 (fun b x a=>by
  unfold Q4
  split
  ·unfold Wd
   split
   ·exact L6 b (x:=W9 x true _) fun e=>a e.symm
   ·exact L6 _ (x:=W9 x true (J0 b x)) fun e=>a e.symm
  ·rfl) l (fun _ b f=>by
  unfold Q4;rw[Qe (by rw[c];exact fun e=>(by cases e.1))];exact f) b d
theorem Qm2(l:Wm b.js){id:Nat}{h:Bj}(a:Qk b.js id=some h)(k:∀y∈b.js,y.tier≤h.tier):Qk (Qy b).js id=some h:=by
 unfold Qy
 split
 ·exact a
 split
 ·exact a
 split
 ·exact a
 ·rename_i y j;refine Qn2 (f:=Ur) (fun b x o=>(Gb b.js {x with Wp:=true,C5:=Xi b.now b.Wu} id).trans (Qe fun e=>o e.symm)) _ (fun m=>?_) b a;exfalso;obtain⟨c,g,e⟩:=Qq.1 m;have n:=Qyp g;obtain⟨z,d,e2⟩:=Qq.1 (Qil g);have d:=(Y5.1 d).1;subst e2;have i:=Ys l d;simp only at e n;rw[e,a]at i;cases i;have:=k y (Qi j).1;omega
theorem Ql2:∀(l:List Bj) (q:List PR.It),PR.Srt q→∃b,l.foldl (fun h x=>(PR.H4 (B9 x) h).2) (some q)=some b∧PR.Srt b
 | [],q,h=>⟨q,rfl,h⟩
 | x::l,q,h=>by
  rw[Mi];cases a:PR.Ss (x.id:Int) q with
  | true=>rw[show (PR.H4 (B9 x) (some q)).2=some q by simp only[PR.H4,a];rfl];exact Ql2 l q h
  | false=>
   rw[show (PR.H4 (B9 x) (some q)).2=some (PR.ins (B9 x) q) by simp only[PR.H4,a];rfl];refine Ql2 l _ (PR.Qnp h fun y c e=>?_);unfold PR.Ss at a;rw[Qvw]at a;exact a y c (Zh e)
theorem Qkl{id:Nat}:∀(a:List (Nat×PL.St)) (b:Br),id∉a.map (·.1)→Qk (Xp b a).js id=Qk b.js id
 | [],_,_=>rfl
 | p::a,b,h=>by
  have e:Xp b (p::a)=Xp (Ud b p) a:=by rw[X9,X9];rfl
  rw[e,Qkl a _ fun k=>h (Ym _ k)];unfold Ud
  split
  ·cases c:Qk b.js p.1 with
   | none=>rfl
   | some x=>exact Lw b p.2 (by rw[(Qi c).2];exact fun e=>h (by rw[e];exact Z0 ..))
  ·rfl
theorem Qto(a:BrI b never)(F:∀n,n<b.nodes→n∈b.up)(h0:∀x∈b.js,x.state=0)(X:b.js≠[]):∃h∈b.js,(∀y∈b.js,y.tier≤h.tier)∧∃ns,Qk (Q9 b).js h.id=some (C6 h ns):=by
 have G:=a.ok.Y4;have t:=a.ok.Fu;have S:∀x∈b.js,quB x=true:=fun x c=>by simp[h0 x c,((a.j x c).q (h0 x c)).2.1]
 have s:=D5 G;rw[Np.2 S]at s;obtain⟨q,J,I⟩:=Ql2 (b.js.filter quB) [] List.Pairwise.nil;have m:Rp b=q:=by rw[Qo7];unfold wUp;rw[J];rfl
 rw[m]at s;cases q with
 | nil=>
  have:=s.length_eq;rw[Qo]at this;exact absurd (Ae this.symm) X
 | cons Q q=>
  obtain⟨h,M,e⟩:=Qq.1 (s.mem_iff.1 (Z0 ..))
  refine⟨h,M,fun y B=>?_,?_⟩
  ·rcases Yf.1 (s.mem_iff.2 (Qq.2 ⟨y,B,rfl⟩)) with k|k
   ·rw[←e]at k;have:=Z3 PR.It.tier k;have:(y.tier:Int)=h.tier:=this;omega
   ·have:=(Ws.1 I).1 _ k;rw[←e]at this;simp only[PR.bf,Zz]at this;omega
  ·have u:b.m.js=[]:=by
    cases U:b.m.js with
    | nil=>rfl
    | cons y l=>
     have B:y∈b.m.js:=by rw[U];exact Z0 ..
     obtain⟨x,c⟩:=B2.1 (a.mj y B);obtain⟨g1,g2⟩:=Qi c;have:=((a.j x g1).q (h0 x g1)).2.2.2.2;rw[g2,Ci t.Y4 B]at this;cases this
   have N:Qk b.js 0=none:=by
    cases V:Qk b.js 0 with
    | none=>rfl
    | some x=>
     obtain⟨g1,g2⟩:=Qi V;have:=(a.ok.Qu x g1).P3;omega
   have g:∀row∈Bn b,row.length=b.nodes∧∀x∈row,x=0:=fun row v=>by
    obtain⟨r,_,rfl⟩:=Qq.1 v;refine⟨by rw[Qo,Ft],fun x c=>?_⟩;obtain⟨n,T,rfl⟩:=Qq.1 c;have e1:=(a.up n).1 (F n (C3.1 T))
    have e2:atR b.m (r:Nat) (n:Nat)=0:=by
     unfold atR;rw[u];split <;> rfl
    unfold V5;rw[Qh e1,e2,N]
   have E:=a.ok.Qu h M;have W:=t.R1;obtain⟨row,v,C⟩:=PL.Quo (D:=Bn b) (k:=h.k) E.k1 (by unfold Bn;rw[Qo,Ft,←a.ok.R];omega) fun row v=>⟨by rw[(g row v).1];exact E.kn,(g row v).2⟩;have d:=Ys G M;have L:Q.id.toNat=h.id:=by rw[←e];exact K0 _
   have R:Wf b=h.id::q.map fun x=>x.id.toNat:=by rw[Wf,m,Z7,L]
   obtain⟨p,w,A,o,K⟩:∃p w,zsR b=p::w∧p.1=h.id∧p.2=⟨0,0,PL.chosen row h.k,true⟩:=by
    rw[zsR,Cs,R,Z7,Pd d,PL.Ch,List.zip_cons_cons,C];exact⟨_,_,rfl,rfl,rfl⟩
   have P:=El G;rw[←Eh,A,Z7,Vz]at P;have f:=PL.Qle (D:=Bn b) (k:=h.k) (by rw[C]) (by rw[C]);rw[C,K0]at f
   have O:¬(Uc b.m h.id 0 (PL.chosen row h.k)).1≠0:=fun e=>e (by
    have n1:∀z∈PL.chosen row h.k,K7 b.m z=true:=fun z A=>by
     obtain⟨j,H,i,x,e1,e2,_⟩:=f.2 z A;have:=(Yz.1 e2).1;rw[(g j H).1,←a.ok.N]at this;exact Ue.2 ⟨Qb,Qb⟩
    have n2:=E.P3;have Z:=E.k1;have Y:(PL.chosen row h.k).length=h.k:=f.1;unfold Uc
    rw[Qxj (PL.Qrv row h.k) n1 _ (Q1 _),u,Qe,Qe (by exact fun e=>(by cases e)),Qe]
    ·exact fun e=>e (by show 0#16 &&& _=0#16;simp)
    ·have:Vv b.m h.id 0 (PL.chosen row h.k)=true:=by
      simp only[Vv,Z5,Zz];exact⟨⟨Qb,Uk.2 ⟨Qb,Qb⟩⟩,Qb⟩
     rw[this];exact fun e=>(by cases e))
   refine⟨nats (PL.chosen row h.k),?_⟩
   have e9:Q9 b=Xp (Ud b p) w:=by
    rw[Gx,A,X9,X9];rfl
   rw[e9,Qkl w _ (by rw[←o];exact P.1)];unfold Ud;rw[K,Qh ⟨rfl,rfl⟩,o,d];simp only;rw[Jg O];show Qk (Xe b.js (C6 h (nats (PL.chosen row h.k)))) h.id=_;rw[Gb,Qh rfl,d];rfl
end
structure Wk(b b1 b2 b3 b5:Br):Prop where
 e1:b1=each Q4 b b.ids
 i1:BrI b1 never
 m1:Ms b.up (fun l=>l∈[1,2,5,6]) b b1
 e2:b2=Q9 b1
 i2:BrI b2 never
 m2:Ms b.up (fun l=>l=16) b1 b2
 e3:b3=Qy b2
 i3:BrI b3 never
 m3:Ms b.up (fun l=>l=17) b2 b3
 i4:BrI (rep b3) never
 e5:b5=each Xv (rep b3) b3.ids
 i5:BrI b5 never
 m5:Ms b.up (fun l=>l=8) b3 b5
 s5:b5.stops=none
 w:V0 b=Xx b5 b5.row b5.rows
 m6:Ms b.up (fun l=>l=18) b5 (V0 b)
 bs:BS b b5
theorem R7{b:Br}(hb:BrI b never)(h:b.stops=none):∃b1 b2 b3 b5,Wk b b1 b2 b3 b5:=by
 obtain⟨i1,i2⟩:=A2 hb b.ids;have m1:Ms b.up (fun l=>l∈[1,2,5,6]) b (each Q4 b b.ids):=Sj Qp Qp Qp Qp rfl b.ids;obtain⟨i3,i4⟩:=Er i2;have m2:Ms b.up (fun l=>l=16) (each Q4 b b.ids) (Q9 (each Q4 b b.ids)):=Qak rfl i2;obtain⟨i5,g⟩:=Cg i4;have m3:Ms b.up (fun l=>l=17) (Q9 (each Q4 b b.ids)) (Qy (Q9 (each Q4 b b.ids))):=Qd5 rfl i4.ok.Y4;obtain⟨f,i8⟩:=Qgl g;have e:=((i1.trans i3).trans (i5.trans f)).stops.trans h;obtain⟨d,a⟩:=Lh i8 e (rep (Qy (Q9 (each Q4 b b.ids)))).ids;have m5:=Qkv (A:=fun l=>l=8) (b:=rep (Qy (Q9 (each Q4 b b.ids)))) rfl (m3.up.trans (m2.up.trans m1.up)) (rep (Qy (Q9 (each Q4 b b.ids)))).ids;obtain⟨b5,e5⟩:∃b5,b5=each Xv (rep (Qy (Q9 (each Q4 b b.ids)))) (rep (Qy (Q9 (each Q4 b b.ids)))).ids:=⟨_,rfl⟩;rw[←e5]at d a m5;have w:V0 b=Xx b5 b5.row b5.rows:=by rw[e5];rfl
 exact⟨_,_,_,b5,⟨rfl,i2,m1,rfl,i4,m2,rfl,g,m3,i8,e5,a,Ms.pre (c:=rep (Qy (Q9 (each Q4 b b.ids)))) ⟨rfl,rfl,rfl,rfl,rfl⟩ m5,d.stops.trans e,w,by rw[w];exact Qku (u:=b.up) (A:=fun l=>l=18) rfl a _ _,((i1.trans i3).trans (i5.trans f)).trans d⟩⟩
theorem Qcb{l:Nat}{A:List Nat}(h:l∈A)(b:∀a∈A,a<20)(x:Nat)(e:l=20+x):False:=by have:=b l h;omega
theorem Fz.mono{A B:Nat→Prop}{Q:Bj→Prop}(h:Fz A Q)(k:∀l,B l→A l):Fz B Q:=fun u l e x y E D I a=>h u l e x y E D I (k l a)
def WX(x:Bj):Prop:=(x.state=1→x.work=x.Qg)∧∀s,x.Xg=some s→s.Qg=x.work
theorem Qev:Fz lT WX:=by
 intro u l e x y E D I c j b t;cases t with
 | drop x a f i=>exact⟨fun e=>(by cases e),fun s e=>(by cases e)⟩
 | redrop x a d f i=>exact⟨fun e=>(by cases e),fun s e=>(by cases e)⟩
 | anew x m k=>exact⟨fun e=>(by cases e),fun s e=>(by cases e)⟩
 | save x n=>exact⟨b.1,fun s e=>(by cases e;rfl)⟩
 | load x ns h0=>exact⟨fun _=>(j.z h0).2.1,b.2⟩
 | warn x t h=>exact b
 | go x g m k o=>exact b
 | cdrop x f=>exact(Qcb c Qp _ rfl).elim
 | again x f=>exact(Qcb c Qp _ rfl).elim
 | _=>exact absurd c Qp
def RX(x:Bj):Prop:=x.Ql.isSome=true∨x.w≤x.Qg∨(∃s,x.Xg=some s∧x.w≤s.Qg)∨(x.Xg=none∧x.work=x.Qg)
theorem Za0:Fz lK RX:=by
 intro u l e x y E D I i m g t;cases t with
 | drop x a h j=>exact .inl rfl
 | cdrop x h=>exact(Qcb i Qp _ rfl).elim
 | again x h=>exact(Qcb i Qp _ rfl).elim
 | redrop x a d h j=>exact .inl rfl
 | fin x b f=>exact .inr (.inl b)
 | del x d n h=>exact .inl rfl
 | anew x b f=>exact .inr (.inr (.inr ⟨rfl,rfl⟩))
 | lod x n b f=>exact g
 | Xg x s n k q b f p o=>
  rcases g with k|k|⟨v,k1,c⟩|⟨k,_⟩
  ·exact .inl k
  ·exact .inr (.inl k)
  ·rw[b]at k1;cases k1;exact .inr (.inr (.inl ⟨_,rfl,c⟩))
  ·rw[b]at k;cases k
 | told x s n k q b f p o=>
  rcases g with k|k|⟨v,k1,c⟩|⟨k,_⟩
  ·exact .inl k
  ·exact .inr (.inl k)
  ·rw[b]at k1;cases k1;exact .inr (.inr (.inl ⟨_,rfl,c⟩))
  ·rw[b]at k;cases k
 | pub x s b f=>
  rcases g with k|k|⟨v,k1,c⟩|⟨k,_⟩
  ·exact .inl k
  ·exact .inr (.inl (Up k (Qi9 (m.sc s b).1)))
  ·rw[b]at k1;cases k1;exact .inr (.inl c)
  ·rw[b]at k;cases k
 | _=>exact absurd i Qp
def UX(x:Bj):Prop:=x.Ql.isSome=true∨x.Wp=false
theorem Qew{A:Nat→Prop}(i:¬A 17):Fz A UX:=by
 intro u l e x y E D I f j c t;cases t with
 | drop x a b g=>exact .inl rfl
 | cdrop x b=>exact .inl rfl
 | redrop x a d b g=>exact .inl rfl
 | del x d n b=>exact .inl rfl
 | anew x m k=>exact .inr rfl
 | warn x t h=>exact absurd f i
 | _=>exact c
def YX(x:Bj):Prop:=x.Ql=none∧(x.state=1∨x.state=2)∧x.Wp=false∧x.Xg=none∧x.work=x.Qg∧x.Qg<x.w∧x.done=false
theorem Qly:Fz (fun l=>l∈[8,18,2,3,4,5,6,7,12,13,14,15]) YX:=by
 intro u l e x y E D I i B ⟨c,z,r,b,m,q,j⟩ t;cases t with
 | drop x a h p=>
  cases a with
  | true=>exact absurd i Qp
  | false=>rw[p rfl]at j;cases j
 | cdrop x h=>exact(Qcb i Qp _ rfl).elim
 | again x h=>exact(Qcb i Qp _ rfl).elim
 | redrop x a d h p=>rw[h]at c;cases c
 | fin x k1 f=>omega
 | del x d n h=>rw[h]at c;cases c
 | anew x k1 f=>rw[k1]at c;cases c
 | save x w=>exact absurd (.inl m) w
 | lod x n k1 f=>exact⟨c,by show (if _ then 2 else 1)=1∨(if _ then 2 else 1)=2;split <;> simp,r,b,m,q,j⟩
 | Xg x s n k A k1 f o v=>rw[k1]at b;cases b
 | told x s n k A k1 f o v=>rw[k1]at b;cases b
 | pub x s k1 f=>rw[k1]at b;cases b
 | go x g k1 f o=>exact⟨c,z,r,b,m,q,j⟩
 | _=>exact absurd i Qp
theorem Q2t{A:Nat→Prop}:Q8x A YX:=fun u l x E D I _ h t=>by
 cases t with
 | rm x k1 a=>rw[h.1]at k1;cases k1
def Zrd(x:Bj):Prop:=x.state=2∧x.Ql=none∧x.work=x.Qg∧x.Qg<x.w
theorem Qlx:Fz (fun l=>l∈[8,16,17]) Zrd:=by
 intro u l e x y E D I b m ⟨j,i,d,g⟩ t;cases t with
 | drop x a c k=>cases a <;> exact absurd b Qp
 | cdrop x c=>exact(Qcb b Qp _ rfl).elim
 | again x c=>exact(Qcb b Qp _ rfl).elim
 | save x f=>exact absurd (.inl d) f
 | load x ns h0=>omega
 | warn x t h=>exact⟨j,i,d,g⟩
 | _=>exact absurd b Qp
theorem Q2p{A:Nat→Prop}:Q8x A Zrd:=fun u l x E D I _ h t=>by
 cases t with
 | rm x k1 a=>rw[h.2.1]at k1;cases k1
def QB(b:Br):Prop:=∀x∈b.js,(x.state=0∨x.state=2)∧x.Ql=none∧x.Xg=none∧x.Qg<x.w∧x.done=false
def St(b:Br)(j:Nat):Prop:=
 (∃x∈b.js,x.state=2∧x.Wp=false∧x.work=x.Qg) ∨
 (1≤j∧∀x∈b.js,x.state=0) ∨
 (2≤j∧(∃x∈b.js,x.state=2)∧∀x∈b.js,x.state=2→x.Wp=true∧x.work=x.Qg)∨3≤j
theorem St.of{b:Br}(h:∀x∈b.js,x.work=x.Qg)(hq:QB b):St b 2:=by
 by_cases d:∃x∈b.js,x.state=2
 ·by_cases h0:∃x∈b.js,x.state=2∧x.Wp=false
  ·obtain⟨x,c,g,f⟩:=h0;exact .inl ⟨x,c,g,f,h x c⟩
  ·exact .inr (.inr (.inl ⟨Q1 _,d,fun x a e=>⟨Bool.of_not_eq_false fun k=>h0 ⟨x,a,e,k⟩,h x a⟩⟩))
 ·exact .inr (.inl ⟨Qb,fun x a=>(hq x a).1.resolve_right fun e=>d ⟨x,a,e⟩⟩)
section
variable {b b1 b2 b3 b5:Br}{nd:List Nd}{im:List Im}(hb:BrI b never)(hL:LB nd im b)(hq:QB b)(hw:Wk b b1 b2 b3 b5)
include hb hw
theorem Qwz(h:(V0 b).stops=none):V0 b=b5∧∀x∈b5.js,x.state=2→x.w≤x.work:=by
 have _:=hb
 refine⟨?_,fun x d f=>Nat.le_of_not_lt fun g=>?_⟩
 ·rw[hw.w]at h ⊢
  rcases Jn b5 b5.rows b5.row with e|⟨z,L,a,c,z3,e⟩
  ·exact e
  ·rw[e]at h;have:=(Am hw.i5 a c).som;rw[h]at this;cases this
 ·obtain⟨z,a,c,e⟩:=Qpd hw.i5 d f g;rw[hw.w,e]at h;have:=(Am hw.i5 a rfl).som;rw[h]at this;cases this
include hL hq
theorem Q9z(h:(V0 b).stops=none):∀x∈(V0 b).js,RX x:=by
 obtain⟨e,y⟩:=Qwz hb hw h;rw[e];have o:=((hL.ms hw.m1).ms hw.m2).ms hw.m3;have w:=o.ms hw.m5;have u:∀x∈b.js,WX x:=fun x a=>⟨fun e=>(by have:=(hq x a).1;omega),fun s e=>(by rw[(hq x a).2.2.1]at e;cases e)⟩;have t:=Ab (Qev.mono fun l h=>(by simp only[lT,Yf,Hp,Ho]at h ⊢;omega)) hw.m1 hL u;have r:=Ab (Qev.mono fun l h=>(by subst h;decide)) hw.m2 (hL.ms hw.m1) t;have q:=Ab (Qev.mono fun l h=>(by subst h;decide)) hw.m3 ((hL.ms hw.m1).ms hw.m2) r;have n:=Ab (Qev.mono fun l h=>(by subst h;decide)) hw.m5 o q
 have v:∀x∈b5.js,x.state=2→x.work=x.Qg∨x.Xg.isSome=true:=by
  rw[hw.e5];refine(Cm (f:=Xv) (I:=fun _=>True) (P:=fun x=>x.Ql.isSome=true→x.state=3) (fun c x _ _ a=>⟨trivial,?_⟩) b3.ids (rep b3) trivial hw.i4.ok.Y4 (Vs (Ww.2 hw.i3.ok.Y4)) fun x a=>⟨fun _=>(hw.i3.j x a).d.2,fun k=>absurd (Qq.2 ⟨x,a,rfl⟩) k⟩).1
  by_cases i:x.work=x.Qg∨x.Xg.isSome∨x.Ql.isSome∨x.state≠2
  ·rw[V3 i];refine⟨x,rfl,fun e=>?_,.inl rfl⟩
   rcases i with k|k|k|k
   ·exact .inl k
   ·exact .inr k
   ·have:=a k;omega
   ·exact absurd e k
  ·rw[Ua i];exact⟨Wt x,rfl,fun _=>.inr rfl,.inl rfl⟩
 intro x a;obtain⟨j,_⟩:=w x a;have A:=(hw.i5.j x a).st
 have d:x.state≠2→x.Xg=none:=fun k=>by
  cases d:x.Xg with
  | none=>rfl
  | some s=>exact absurd (j.s2 s d) k
 by_cases h0:x.state=0
 ·exact .inr (.inr (.inr ⟨d Qb,(j.z h0).2.1⟩))
 by_cases z:x.state=1
 ·exact .inr (.inr (.inr ⟨d Qb,(n x a).1 z⟩))
 by_cases p:x.state=2
 ·have g:=y x a p;cases m:x.Xg with
  | some s=>exact .inr (.inr (.inl ⟨s,m,by rw[(n x a).2 s m];exact g⟩))
  | none=>
   rcases v x a p with k|k
   ·exact .inr (.inl Qb)
   ·rw[m]at k;cases k
 ·exact .inl (j.st.1 Qb)
theorem Q9y(M:∃x∈b.js,x.state=2)(A:∀x∈b.js,x.state=2→x.Wp=true∧x.work=x.Qg):∀x∈(V0 b).js,UX x:=by
 obtain⟨d,r,N⟩:=M;have i:=hb.ok.Y4
 obtain⟨k1,v,_⟩:=Cm (f:=Q4) (I:=fun c=>c.up=b.up) (P:=fun x=>x.Wp=false∧x.id≠d.id∨x.Wp=true∧x.Ql=none∧x.work=x.Qg∧x.Xg=none∧x.at_≠[]∧∀n∈x.at_,n∈b.up) (Q:=fun y=>UX y∧(y.id=d.id→y.Ql.isSome=true)) (fun c x o _ a=>by
   rcases a with ⟨h,g⟩|⟨h,g,K,J,H,G⟩
   ·have e:Q4 c x=c:=by unfold Q4;rw[Qe fun e=>(by rw[h]at e;cases e.1)]
    rw[e];exact⟨o,x,rfl,⟨.inr h,fun e=>absurd e g⟩,.inr ⟨rfl,rfl⟩⟩
   ·have e1:J0 c x=x.at_:=by rw[J0,o];exact Np.2 fun n j=>Zh (G n j)
    have e:Q4 c x=Br.set {c with Qd:=c.Qd++x.at_.map (Va x.id)} (W9 x true x.at_):=by
     unfold Q4;rw[Qh ⟨h,g,.inr ⟨K,by rw[J];rfl⟩⟩,Vj g,e1];unfold Y6;rw[Qe fun e=>H (Hb e)]
    rw[e];exact⟨o,W9 x true x.at_,rfl,⟨.inl rfl,fun _=>rfl⟩,.inl rfl⟩) b.ids b rfl i (Vs (Ww.2 i)) fun x a=>⟨fun _=>by
   rcases (hq x a).1 with e|e
   ·refine .inl ⟨((hL x a).1.z e).2.2.2,fun k=>?_⟩;have w:=Ys i a;rw[k,Ys i r]at w;cases w;omega
   ·exact .inr ⟨(A x a e).1,(hq x a).2.1,(A x a e).2,(hq x a).2.2.1,Q8f hb x a e,fun n j=>((hb.j x a).u (hq x a).2.1 n j).resolve_right id⟩,fun k=>absurd (Qq.2 ⟨x,a,rfl⟩) k⟩
 rw[←hw.e1]at k1 v;obtain⟨y,q,p⟩:=Qq.1 (show d.id∈b1.ids by rw[v];exact Qq.2 ⟨d,r,rfl⟩)
 have L:∃x∈b2.js,x.id=d.id∧x.Ql.isSome=true:=Qhx (Q:=fun x=>x.Ql.isSome=true) (fun u l e x y E D I m O a t=>by
  cases t with
  | drop=>rfl
  | cdrop=>rfl
  | redrop=>rfl
  | del=>rfl
  | anew=>cases m
  | _=>exact a) (fun u l x E D I m _ t=>by
  cases t with
  | rm=>cases m) hw.m2 (hL.ms hw.m1) hw.i1.ok.Y4 ⟨y,q,p,(k1 y q).2 p⟩
 have e3:b3=b2:=by
  obtain⟨z,B,_,z3⟩:=L;rw[hw.e3];unfold Qy
  split
  ·rfl
  ·rw[Qh (Pm.2 ⟨z,B,by rw[z3,Bool.or_true]⟩)]
 have s:=(hL.ms hw.m1).ms hw.m2;have F:=Ab (Qew Qp) hw.m2 (hL.ms hw.m1) fun x a=>(k1 x a).1;have C:=Ab (Qew Qp) hw.m5 (s.ms hw.m3) (by rw[e3];exact F);exact Ab (Qew Qp) hw.m6 ((s.ms hw.m3).ms hw.m5) C
theorem Q9x(d:∀n,n<b.nodes→n∈b.up)(h0:∀x∈b.js,x.state=0)(w:b.js≠[]):∃id,∃x∈(V0 b).js,x.id=id∧YX x:=by
 have e1:b1=b:=by
  have:∀l,each Q4 b l=b:=fun l=>by
   induction l with
   | nil=>rfl
   | cons i l j=>
    have e:each Q4 b (i::l)=each Q4 (match Qk b.js i with|none=>b|some x=>Q4 b x) l:=rfl;rw[e];cases c:Qk b.js i with
    | none=>exact j
    | some x=>
     have k:=(Qi c).1;have e:Q4 b x=b:=by unfold Q4;rw[Qe fun e=>(by rw[((hL x k).1.z (h0 x k)).2.2.2]at e;cases e.1)]
     simp only[e];exact j
  rw[hw.e1,this]
 have e2:=hw.e2;have m2:=hw.m2;rw[e1]at e2 m2;obtain⟨h,f,v,ns,c⟩:=Qto hb d h0 w;rw[←e2]at c
 have a:=Qm2 hw.i2.ok.Y4 c fun y u=>by
  obtain⟨x,q,_,_,_,p,_⟩:=Qyw m2 hL y u;rw[p];exact v x q
 rw[←hw.e3]at a;obtain⟨q1,q2,q3,t,s⟩:=hq h f;obtain⟨z,o,z3,m⟩:=(hL h f).1.z (h0 h f);have g:=((hL.ms hw.m1).ms hw.m2).ms hw.m3;have r:=Qhx (Qly.mono fun l h=>by subst h;decide) Q2t hw.m5 g hw.i3.ok.Y4 ⟨C6 h ns,(Qi a).1,rfl,q2,.inl rfl,m,q3,o,t,s⟩;exact⟨_,Qhx (Qly.mono fun l h=>by subst h;decide) Q2t hw.m6 (g.ms hw.m5) hw.i5.ok.Y4 r⟩
theorem Q9w{x:Bj}(c:x∈b.js)(m:x.state=2)(k:x.Wp=false)(j:x.work=x.Qg):(V0 b).stops≠none:=fun h=>by
 have d:=Qty k b.ids b (Ys hb.ok.Y4 c);rw[←hw.e1]at d;have a:=hL.ms hw.m1;have i:=Qhx (Qlx.mono fun l h=>by subst h;decide) Q2p hw.m2 a hw.i1.ok.Y4 ⟨x,(Qi d).1,rfl,m,(hq x c).2.1,j,(hq x c).2.2.2.1⟩;have g:=Qhx (Qlx.mono fun l h=>by subst h;decide) Q2p hw.m3 (a.ms hw.m2) hw.i2.ok.Y4 i;obtain⟨y,f,_,e,p,o,n⟩:=Qhx (Qlx.mono fun l h=>by subst h;decide) Q2p hw.m5 ((a.ms hw.m2).ms hw.m3) hw.i3.ok.Y4 g;have:=(Qwz hb hw h).2 y f e;omega
end
theorem Ti{b b1 b2 b3 b5:Br}(hw:Wk b b1 b2 b3 b5):(V0 b).Qn=b.Qn:=by
 obtain⟨E,k⟩:=hw.bs;rw[hw.w]
 rcases Jn b5 b5.rows b5.row with e|⟨z,L,c,a,z3,e⟩
 ·rw[e];exact k.Qn
 ·rw[e];exact(Am hw.i5 c a).Qn.trans k.Qn
theorem Qj9{b:Br}{now:Nat}(h0:b.hold=0)(c:b.now<now)(a:b.stops=none):(Y7 b now).2=V0 {b with now:=now}:=by
 unfold Y7;rw[Qe Qb,Qe Qb,a];rfl
theorem AU.up{s:Sm}{F T:Nat}(c:AU s)(h:SK s F T):∀n,n<s.b.nodes→n∈s.b.up:=fun n b=>by
 obtain⟨m,a⟩:=Xs (show n<s.nd.length by rw[h.si.sb.gj.gi.len];exact b);exact(h.si.sb.gj.gi.Au a).1 (c n m a)
theorem Qzv{s:Sm}{F F' T C:Nat}(h:SK s F T)(hq:Qt s)(D:AU s)(h0:s.b.hold=0)(J:s.b.stops=none)(r:C≤99999000000)(i:T+1≤4294967295)(o:MK (T+1) C (Y2 s)){a:Sm}{k:Nat}(p:a=Vy (Y2 s) k)(W:SK a F' (T+1))(A:Qt a)(B:AU a)(z:a.b.stops=none)(Y:a.b.js≠[])(V:BG s.b a.b){j:Nat}(U:St s.b j):∃I,I < j∧St a.b I:=by
 have Z:=h.si.sb.tm;have hb:BrI {s.b with now:=s.now+1} never:=h.si.sb.gj.gi.bi.nowed Qb;have hL:LB s.nd s.Qf {s.b with now:=s.now+1}:=h.sl.lb.quiet rfl rfl rfl;have q:QB {s.b with now:=s.now+1}:=fun x d=>Dz h hq D d;have f:QB a.b:=fun x d=>Dz W A B d;obtain⟨b1,b2,b3,b5,hw⟩:=R7 hb J;have e:=G7 h.si i;rw[Qj9 h0 (by rw[h.si.sb.now];omega) J]at e;obtain⟨c,g⟩:∃c,c=V0 {s.b with now:=s.now+1}:=⟨_,rfl⟩;rw[←g]at e;have E:(Y2 s).b.js=c.js:=by rw[e];rfl
 have u:(Y2 s).b.Qn=false:=by
  rw[e];show c.Qn=false;rw[g,Ti hw];exact F6 h hq D
 have L:=(Qin (P:=fun _=>True) r i (fun _ k=>k) (fun _ _ _ _ _ _ _ _ k=>k) k o u trivial).2;rw[←p]at L
 have K:(V0 {s.b with now:=s.now+1}).stops=none:=by
  have t:a.b.stops=(Y2 s).b.stops:=Z3 Prod.fst L;rw[z,e]at t;rw[←g];exact t.symm
 have M:∀x∈a.b.js,x.work=x.Qg:=fun x d=>by
  have t:=Qu2 r i o u Za0 k (by rw[E,g];exact Q9z hb hL q hw K) x (by rw[←p];exact d);obtain⟨q1,q2,q3,q4,q5⟩:=f x d
  rcases t with k|k|⟨v,k,_⟩|⟨_,k⟩
  ·rw[q2]at k;cases k
  ·omega
  ·rw[q3]at k;cases k
  ·exact k
 rcases U with ⟨x,b,m,H,w⟩|⟨j1,R⟩|⟨j2,k1,Q⟩|j3
 ·exact absurd K (Q9w hb hL q hw b m H w)
 ·have G:s.b.js≠[]:=fun X=>by
   obtain⟨y,S⟩:=Ta _ Y;obtain⟨x,b,_⟩:=V y S;rw[X]at b;cases b
  obtain⟨id,O⟩:=Q9x hb hL q hw (D.up h) R G;obtain⟨x,b,_,m,H,w,x5,N,_⟩:=Q74 r i o u (Qly.mono fun l h=>by simp only[lK,Yf,Hp,Ho]at h ⊢;omega) k Q2t (by rw[E,g];exact O);rw[←p]at b;exact⟨0,Qb,.inl ⟨x,b,by have:=(f x b).1;omega,w,N⟩⟩
 ·have n:=Qu2 r i o u (Qew Qp) k (by rw[E,g];exact Q9y hb hL q hw k1 Q);rw[←p]at n;have n:∀x∈a.b.js,x.Wp=false:=fun x d=>(n x d).resolve_left fun k=>by rw[(f x d).2.1]at k;cases k
  by_cases g:∃x∈a.b.js,x.state=2
  ·obtain⟨x,b,m⟩:=g;exact⟨0,Qb,.inl ⟨x,b,m,n x b,M x b⟩⟩
  ·exact⟨1,Qb,.inr (.inl ⟨Q1 _,fun x d=>(f x d).1.resolve_right fun e=>g ⟨x,d,e⟩⟩)⟩
 ·exact⟨2,Qb,St.of M f⟩
def Qbe(id f t:Nat)(rk:Rs):Prop:=∃r,Yt id rk=some r∧r.run=true∧r.Kc=f∧r.Jz=t
theorem Q7g{id:Nat}:∀(q:List Nt) (nd:Nd),(∀t∈q,t.kind=5)→(Yt id nd.rk).isSome=true→(Qbe id 0 0 nd.rk∨∃t∈q,t.Qu=id)→Qbe id 0 0 (q.foldl Z9 nd).rk
 | [],_,_,_,h=>h.resolve_right fun⟨_,k,_⟩=>(by cases k)
 | t::q,nd,d,b,h=>by
  have k5:=d t (Z0 ..)
  have key:(Yt id (Z9 nd t).rk).isSome=true∧(Qbe id 0 0 nd.rk∨t.Qu=id→Qbe id 0 0 (Z9 nd t).rk):=by
   unfold Z9;rw[Qe Qb,Qh k5];cases c:Yt t.Qu nd.rk with
   | none=>exact⟨b,fun k=>k.resolve_right fun e=>(by rw[e]at c;rw[c]at b;cases b)⟩
   | some r=>
    by_cases e:id=t.Qu
    ·have:Yt id (Wl t.Qu {r with run:=true,gen:=t.gen,Kc:=0,Jz:=0} nd.rk)=some {r with run:=true,gen:=t.gen,Kc:=0,Jz:=0}:=by rw[Jf,Qh e]
     exact⟨by show (Yt id (Wl _ _ _)).isSome=true;rw[this];rfl,fun _=>⟨_,this,rfl,rfl,rfl⟩⟩
    ·have:Yt id (Wl t.Qu {r with run:=true,gen:=t.gen,Kc:=0,Jz:=0} nd.rk)=Yt id nd.rk:=by rw[Jf,Qe e]
     exact⟨by show (Yt id (Wl _ _ _)).isSome=true;rw[this];exact b,fun k=>(k.resolve_right fun e2=>e e2.symm).imp fun r k=>⟨this.trans k.1,k.2⟩⟩
  refine Q7g q (Z9 nd t) (fun x a=>d x (Ym _ a)) key.1 ?_
  rcases h with h|⟨x,a,e⟩
  ·exact .inl (key.2 (.inl h))
  ·rcases Yf.1 a with rfl|a
   ·exact .inl (key.2 (.inr e))
   ·exact .inr ⟨x,a,e⟩
theorem Qrn{id f t:Nat}:∀(q:List Nt) (nd:Nd),(∀t∈q,t.kind=10∧t.Qu≠id)→(keys nd.rk).Nodup→Qbe id f t nd.rk→Qbe id f t (q.foldl Z9 nd).rk
 | [],_,_,_,h=>h
 | x::q,nd,a,b,⟨r,i,g⟩=>by
  obtain⟨k1,c⟩:=a x (Z0 ..);refine Qrn q _ (fun y d=>a y (Ym _ d)) (Qis b) ⟨r,?_,g⟩;unfold Z9;rw[Qe Qb,Qe Qb,Qe Qb,Qe Qb,Qh k1];show Yt id (Fe x.Qu nd.rk)=some r;rw[Qhg _ b,Qe fun e=>c e.symm];exact i
theorem Zdu{rk:Rs}{x:Nt}{l:List Nt}(b:(fin rk (x::l)).Qj=false){m:Nd}(c:m.rk=rk)(a:m.Qj=false):(fin (Z9 m x).rk l).rk=(fin rk (x::l)).rk:=by
 have e:(Z9 ⟨true,rk,[],[],false⟩ x).Qj=false:=Qiq (l:=[x]) (m:=l) b;have d:core (Z9 m x)=core (Z9 ⟨true,rk,[],[],false⟩ x):=Qit (by rw[core,core,c,a]) x;rw[show (Z9 m x).rk=(Z9 ⟨true,rk,[],[],false⟩ x).rk from Z3 Prod.fst d];exact Z3 Prod.fst (Qrj ⟨true,rk,[],[],false⟩ x l e)
def Qm(M:List Nat)(x:Bj):Prop:=x.id∈M→x.state=2∧x.Ql=none∧x.done=false∧x.X4=some []∧x.work<x.w
theorem Qmu(M:List Nat):Fz lK (Qm M):=by
 intro u l e x y E D I h p b t c;have o:=p.cw;cases t with
 | drop x a f i=>
  cases a with
  | true=>exact absurd h Qp
  | false=>have:=(b c).2.2.1;rw[i rfl]at this;cases this
 | cdrop x f=>exact(Qcb h Qp _ rfl).elim
 | again x f=>exact(Qcb h Qp _ rfl).elim
 | redrop x a d f i=>have:=(b c).2.1;rw[f]at this;cases this
 | fin x k1 g=>have:=(b c).2.2.2.2;omega
 | del x d n f=>have:=(b c).2.1;rw[f]at this;cases this
 | anew x k1 g=>have:=(b c).2.1;rw[k1]at this;cases this
 | lod x n k1 g=>have:=(b c).1;omega
 | Xg x s n k q k1 g m j=>exact b c
 | told x s n k q k1 g m j=>exact b c
 | pub x s k1 g=>exact b c
 | _=>exact absurd h Qp
def Qr(M:List Nat)(R:Nat→List Nat→Prop)(x:Bj):Prop:=Qm M x∧(x.id∈M→R x.id x.at_)
abbrev Qa(M:List Nat)(c:Br):Bj→Prop:=Qr M fun id a=>∃b∈c.js,b.id=id∧b.at_=a
theorem Qw1(M:List Nat)(R:Nat→List Nat→Prop):Fz lK (Qr M R):=by
 intro u l e x y E D I c f a t;refine⟨Qmu M u l e x y E D I c f a.1 t,fun b=>?_⟩;rw[t.id rfl]at b
 have d:y.at_=x.at_:=by
  cases t with
  | anew x k1 g=>have:=(a.1 b).2.1;rw[k1]at this;cases this
  | load x ns=>exact absurd c Qp
  | _=>rfl
 rw[t.id rfl,d];exact a.2 b
section
variable {M:List Nat}{u:List Nat}{b c:Br}{nd:List Nd}{im:List Im}
theorem Tj.lk{l:Nat}{x:Bj}{z:Option Bj}{E:List Od}{D:List Nat}{I:List Im}(t:Tj u l x z E D I)(b:lK l)(d:Qm M x):∀o∈E,o.2.kind=10∧o.2.Qu∉M:=by
 intro o c;cases t with
 | drop x a f i=>
  obtain⟨n,_,rfl⟩:=Qq.1 c;refine⟨rfl,fun e=>?_⟩;cases a with
  | true=>exact absurd b Qp
  | false=>have:=(d e).2.2.1;rw[i rfl]at this;cases this
 | cdrop x f=>exact(Qcb b Qp _ rfl).elim
 | save x j=>exact absurd b Qp
 | load x ns=>exact absurd b Qp
 | warn x t h=>exact absurd b Qp
 | go x g h=>exact absurd b Qp
 | _=>cases c
theorem Ts.lk{e:En}{x:Bj}{z:Option Bj}{E:List Od}{D:List Nat}{I:List Im}(t:Ts u lK x z E D I)(g:JL e x)(f:Qm M x):∀o∈E,o.2.kind=10∧o.2.Qu∉M:=by
 induction t with
 | nil=>intro o b;cases b
 | snoc c a t d=>
  intro o b
  rcases Xu.1 b with b|b
  ·exact d o b
  ·exact t.lk a (c.keep (Qmu M) g f rfl) o b
theorem Zlk(h:Ms u lK b c)(p:LB nd im b)(n:∀x∈b.js,Qm M x):(∃E,c.Qd=b.Qd++E∧∀o∈E,o.2.kind=10∧o.2.Qu∉M)∧∀x∈c.js,Qa M b x:=by
 have:=h.inv (P:=fun c=>LBe (Vi nd b.Qd (im++b.Qf)) b.Qd b.Qf c∧(∀x∈c.js,Qa M b x)∧∃E,c.Qd=b.Qd++E∧∀o∈E,o.2.kind=10∧o.2.Qu∉M) (fun c d f k=>by
  obtain⟨⟨E,I,k1,g,j⟩,i,k5⟩:=k;exact⟨⟨E,I,f.2.1.trans k1,f.2.2.2.1.trans g,fun x a=>j x (f.1 ▸ a)⟩,fun x a=>i x (f.1 ▸ a),by rw[f.2.1];exact k5⟩) (fun c d l k=>by
  obtain⟨k1,g,E,j,i⟩:=k;refine⟨Qnl l k1,Q8n (Qw1 M _) l k1 g,?_⟩;obtain⟨x,z,q,A,w,a,t,r,e1,e2,e3,s,e5⟩:=l;obtain⟨y,v,q1,q2,q3⟩:=k1;have m:=(Qi a).1;refine⟨E++q,by rw[e2,j,Wb],fun o e=>?_⟩
  rcases Xu.1 e with e|e
  ·exact i o e
  ·exact t.lk (q3 x m).1 (g x m).1 o e) ⟨p.e,fun x a=>⟨n x a,fun _=>⟨x,a,rfl,rfl⟩⟩,[],Q2,fun o e=>(by cases e)⟩
 exact⟨this.2.2,this.2.1⟩
end
theorem Ql7{t:Sm}(a:GJ t.b t.nd)(f:(t.done++t.b.done).Nodup){i:Nat}{n:Nd}(e:t.nd[i]?=some n):(X5 t).nd[i]?=some {n with Yy:=n.Yy++qOf t.b.Qd i}:=by
 show (t.b.done.foldl Jk (U0 t.nd t.b.Qd,t.done)).1[i]?=_;rw[D3 _ _ _ f];refine(Qad t.b.Qd t.nd fun o d=>?_).2 i n e;have c:=a.gi.dst o d;obtain⟨m,b⟩:=Xs (show o.1<t.nd.length by rw[a.gi.len];exact Nq a.gi.bi c);exact⟨m,b,(a.gi.Au b).2 c⟩
def EX(M:List Nat)(s:Sm):Prop:=s.b.Qn=false∧(∀x∈s.b.js,Qm M x)∧∀x∈s.b.js,x.id∈M→∀i∈x.at_,∃n,s.nd[i]?=some n∧Qbe x.id 0 0 (fin n.rk n.Yy).rk
theorem Qyl{M:List Nat}{s t:Sm}{F T:Nat}(c:SK s F T)(r:EX M s)(D:GJ t.b t.nd)(H:(t.done++t.b.done).Nodup)(B:Ms s.b.up lK s.b t.b)(G:t.b.Qn=false)(A:∀(i:Nat) (n:Nd),s.nd[i]?=some n→∃m,t.nd[i]?=some m∧m.rk=n.rk∧m.Yy=n.Yy):EX M (X5 t):=by
 obtain⟨⟨E,e1,e2⟩,q⟩:=Zlk B c.sl.lb r.2.1;rw[c.si.e1,Gf]at e1;refine⟨G,fun x j=>(q x j).1,fun x j d i w=>?_⟩;obtain⟨h,g,f,u⟩:=(q x j).2 d;obtain⟨n,a,b⟩:=r.2.2 h g (by rw[f];exact d) i (by rw[u];exact w);obtain⟨m,p,o,l⟩:=A i n a;refine⟨_,Ql7 D H p,?_⟩;have k:n.up=true:=(c.si.sb.gj.gi.Au a).2 ((c.si.sb.gj.gi.bi.j h g).u (r.2.1 h g (by rw[f];exact d)).2.1 i (by rw[u];exact w) |>.resolve_right id);have C:=c.si.sb.gj.gi.node i n a k;show Qbe x.id 0 0 (fin m.rk (m.Yy++qOf t.b.Qd i)).rk;rw[o,l,fin,Ha];rw[f]at b
 exact Qrn _ _ (fun y v=>by
  rw[e1]at v;obtain⟨k1,z⟩:=e2 _ (Fg.1 v);exact⟨k1,fun e=>z (by rw[show ((i,y):Od).2.Qu=y.Qu from rfl,e];exact d)⟩) (Qda (nd:=⟨true,n.rk,[],[],false⟩) C.kn) b
theorem Zdw{M:List Nat}{T C:Nat}(J:C≤99999000000)(E:T≤4294967295)(k:Nat){s:Sm}(h:MK T C s)(c:EX M s):EX M (Vy s k):=by
 refine Qc7 (P:=EX M) J E (fun s i n x l o w f z B c=>?_) (fun s i n x l o w f z D c=>?_) (fun s x l o w B c=>?_) k h c
 ·obtain⟨H,d,_⟩:=w;refine⟨c.1,c.2.1,fun y I A j q=>?_⟩;obtain⟨m,g,v⟩:=c.2.2 y I A j q;have a:=Qd4 (n':=Z9 {n with Yy:=l} x) f j
  by_cases e:j=i
  ·rw[Qh e]at a;refine⟨_,a,?_⟩;rw[e,f]at g;cases g;have F:=d.si.sb.gj.gi.node i n f z;have r:=F.right;rw[d.si.e1,B]at r;have r:(fin n.rk (x::(l++[]))).Qj=false:=r;rw[X3]at r;rw[(S6 {n with Yy:=l} x).2,Zdu (m:={n with Yy:=l}) r rfl F.wr,←B];exact v
  ·rw[Qe e]at a;exact⟨m,a.trans g,v⟩
 ·obtain⟨H,d,_⟩:=w;obtain⟨g1,g2⟩:=Qh2 d.si E f z D;have G:x.1.kind≠7:=hush d c.1 f z x (by rw[D];exact Z0 ..)
  exact Qyl (t:={Ga s i n x l with ok:=o}) d c g1 g2 ((Ls (b:=s.b) (u:=s.b.up) i G x.2).mono fun l h=>by simp only[lJ,lK,Yf,Hp,Ho]at h ⊢;omega) ((Z3 (fun p=>p.2.1) (Lg s.b i G x.2)).trans c.1) fun j m q=>by
   have a:=Qd4 (n':={n with out:=l}) f j
   by_cases e:j=i
   ·rw[Qh e]at a;rw[e,f]at q;cases q;exact⟨_,a,rfl,rfl⟩
   ·rw[Qe e]at a;exact⟨m,a.trans q,rfl,rfl⟩
 ·obtain⟨H,d,_⟩:=w;obtain⟨g1,g2⟩:=Qxd d.si x l true
  exact Qyl (t:={M3 s x l true with ok:=o}) d c g1 g2 ((Ui d.sl.lb.Xg (b:=s.b) rfl x.Qu x.ver true).mono fun l h=>by
   have K:l≠19:=fun e=>(by cases h.2 e);have h:=h.1;simp only[lP,lK,Yf,Hp,Ho]at h ⊢;omega) ((Z3 (fun p=>p.2.1) (T9 s.b x.Qu x.ver true)).trans c.1) fun j m q=>⟨m,q,rfl,rfl⟩
structure GQ(s:Sm)(f t:Nat):Prop where
 som:s.b.stops.isSome=true
 mem:∃x∈s.b.js,x.id∈s.b.members
 qm:∀x∈s.b.js,Qr s.b.members (fun _ a=>∀i∈a,i∈s.b.stops.getD []) x
 rn:∀x∈s.b.js,x.id∈s.b.members→∀i∈x.at_,∃n,s.nd[i]?=some n∧Qbe x.id f t n.rk
def Tm(s:Sm)(f t:Nat):Prop:=f=0∧t=0∧s.b.fin=s.now+s.b.Yv∨1≤f∧f≤t∧t=s.now∧s.b.fin+1=f+s.b.Yv∧s.now<s.b.fin
theorem Qsy{b b1 b2 b3 b5:Br}{nd:List Nd}{im:List Im}(_hb:BrI b never)(hL:LB nd im b)(hG:GJ b nd)(c:Wk b b1 b2 b3 b5)(h:(V0 b).stops≠none):∃M,(V0 b).members=M∧(V0 b).fin=Xi b.now b.Yv∧(∃x∈(V0 b).js,x.id∈M)∧(∀x∈(V0 b).js,Qr M (fun _ a=>∀i∈a,i∈(V0 b).stops.getD []) x) ∧
  ∀x∈(V0 b).js,x.id∈M→∀i∈x.at_,∃n,nd[i]?=some n∧Qbe x.id 0 0 (fin n.rk (n.Yy++qOf (V0 b).Qd i)).rk:=by
 have X:=((((hL.ms c.m1).ms c.m2).ms c.m3).ms c.m5)
 rcases Jn b5 b5.rows b5.row with e|⟨z,L,R,F,z3,e⟩
 ·rw[c.w,e,c.s5]at h;exact absurd rfl h
 rw[←c.w]at e;have u:=Am c.i5 R F;have J:=Jc L;have r:=Lk c.i5 R;rw[←F]at r;have B:∀id∈Jm L,∀x,Qk b5.js id=some x→x.state=2∧x.Ql=none∧x.work<x.w:=fun id q x g=>T4 b5 _ id (by rw[←F];exact J.mem_iff.1 q) x g;have U:b5.ck=b.ck:=c.m5.ck.trans (c.m3.ck.trans (c.m2.ck.trans c.m1.ck));have O:b5.now=b.now:=Z3 Prod.snd U;have H:b5.Yv=b.Yv:=Z3 (fun p=>p.1.2.2) U
 obtain⟨k1,G,T⟩:=Cm (f:=V8) (I:=fun t=>t.fin=Xi b.now b.Yv) (P:=fun x=>x.state=2∧x.Ql=none∧x.work<x.w∧x.done=false) (Q:=Qm (Jm L)) (fun t x hI _ g=>⟨hI,{x with X4:=some []},rfl,fun _=>⟨g.1,g.2.1,g.2.2.2,rfl,g.2.2.1⟩,.inl rfl⟩) (Jm L) (F4 {b5 with row:=z} L) (by show Xi b5.now b5.Yv=_;rw[O,H]) c.i5.ok.Y4 (J.symm.nodup r.nd) fun x g=>⟨fun d=>by
   obtain⟨q1,q2,q3⟩:=B x.id d x (Ys c.i5.ok.Y4 g);exact⟨q1,q2,q3,((X x g).2.lt q2).2⟩,fun d k=>absurd k d⟩
 rw[←Bh,←e]at k1 G T;rw[←e]at u
 have D:∀y∈(V0 b).js,y.id∈Jm L→∃x∈b5.js,x.id=y.id∧x.at_=y.at_∧x.Ql=none:=fun y o d=>by
  obtain⟨x,m,l⟩:=Qq.1 (show y.id∈b5.ids by rw[show b5.ids=(F4 {b5 with row:=z} L).ids from rfl,←G];exact Qq.2 ⟨y,o,rfl⟩);have C:=Ys c.i5.ok.Y4 m;obtain⟨y',g1,g2,_⟩:=u.Qu x.id x C;have g3:=Ys u.bi.ok.Y4 o;rw[l,g3]at g1;cases g1;exact⟨x,m,l,g2.symm,(B y.id d x (by rw[←l];exact C)).2.1⟩
 refine⟨Jm L,u.mem,T,?_,fun y o=>⟨k1 y o,fun d i A=>?_⟩,fun y o d i A=>?_⟩
 ·obtain⟨id,q⟩:=Ta _ (Q9a z3)
  have E:id∈L:=by
   rw[F,X1,Gu];exact C1 _ q
  obtain⟨x,g1,_⟩:=r.Qu id E;obtain⟨y,W,V⟩:=Qq.1 (show id∈(V0 b).ids by rw[G];exact Qq.2 ⟨x,(Qi g1).1,(Qi g1).2⟩);exact⟨y,W,by rw[V];exact J.mem_iff.2 E⟩
 ·obtain⟨x,m,l,v,_⟩:=D y o d;refine(u.C4 i).2 ⟨y.id,d,?_⟩;rw[G0 (show Qk (F4 {b5 with row:=z} L).js y.id=some x by rw[←l];exact Ys c.i5.ok.Y4 m),v];exact A
 ·obtain⟨x,m,l,v,S⟩:=D y o d;have C:Qk b5.js y.id=some x:=by rw[←l];exact Ys c.i5.ok.Y4 m
  have s:=hG.step c.bs c.i5;have w:=((c.i5.j x m).u S i (by rw[v];exact A)).resolve_right id;obtain⟨n,N⟩:=Xs (show i<nd.length by rw[s.gi.len];exact Nq c.i5 w);have Z:=s.gi.node i n N ((s.gi.Au N).2 w);refine⟨n,N,?_⟩;rw[u.ord,show (F4 {b5 with row:=z} L).Qd=b5.Qd from rfl,Ds,←Wb,fin,Ha]
  refine Q7g _ _ (fun t Y=>?_) ((Z.here y.id).2 ⟨x,C,S,by rw[v];exact A⟩) (.inr ⟨Qrf (F4 {b5 with row:=z} L).gen y.id,Fg.2 (Qde.2 ⟨y.id,d,Qq.2 ⟨i,?_,rfl⟩⟩),rfl⟩)
  ·obtain⟨id,_,K⟩:=Qde.1 (Fg.1 Y);obtain⟨j,_,K⟩:=Qq.1 K;rw[←(Gr K).2];rfl
  ·rw[G0 (show Qk (F4 {b5 with row:=z} L).js y.id=some x from C),v];exact A
theorem Zd4{s:Sm}(h:Qt s)(k:Nat):Vy s (k+1)=s:=by
 have d:∀i back,Q3 s i back=(false,s):=fun i back=>by
  cases a:s.nd[i]? with
  | none=>rw[Q3,a]
  | some n=>
   by_cases b:n.up=false
   ·exact Ni a b
   ·obtain⟨q1,q2⟩:=h.2 i n a (by simpa using b);cases back with
    | true=>exact Mf a q2
    | false=>exact Qc1 a q1
 have rd:∀i,roundUp s false i=(false,s):=fun i=>by
  induction i with
  | zero=>rfl
  | succ i c=>
   rw[roundUp,c];simp only[d];rfl
 rw[By,Qg4 h.1];simp only[rd];rfl
theorem Qfu{s:Sm}{F T:Nat}(h:SK s F T)(hT:T+1≤4294967295){c:Br}(d:(Y7 s.b (s.now+1)).2=c){i:Nat}{n:Nd}(b:s.nd[i]?=some n):(Y2 s).nd[i]?=some {Yg (s.now+1) n with Yy:=n.Yy++qOf c.Qd i}:=by
 have f:=h.si.sb.tm;have a:=Qex (D1 h.si.sb.gj (s.now+1)) (now:=s.now+1) Qb;obtain⟨e,_⟩:=Qey h.si.sb.di (now:=s.now+1) (by rw[h.si.sb.now];omega) a.gi.bi.ok.Y4;rw[G7 h.si hT,Ql7 (n:=Yg (s.now+1) n) a e.nd (by show (s.nd.map _)[i]?=_;rw[Q8,b];rfl)];show some {Yg (s.now+1) n with Yy:=(Yg (s.now+1) n).Yy++qOf (Y7 s.b (s.now+1)).2.Qd i}=_;rw[(Kq (s.now+1) n).2.1,d]
theorem Qwl{b:Br}{i:Nat}{n:Nd}(a:Js b i n){id f t now:Nat}(h:Qbe id f t n.rk):Qbe id (if f=0 then now else f) now (Yg now n).rk:=by
 obtain⟨r,e,d,j,k⟩:=h;have c:=Fc e;have g:=Qgh a.one a.ps c d;have h0:=a.ps _ c;unfold Yg;rw[g,Qh h0,e];exact⟨{r with Jz:=now,Kc:=if r.Kc=0 then now else r.Kc},by show Yt id (Wl id _ n.rk)=_;rw[Jf,Qh rfl],d,by rw[j],rfl⟩
section
variable {s:Sm}{F T:Nat}(h:SK s F T)(hq:Qt s)(ha:AU s)(h0:s.b.hold=0)(hT:T+2000≤4294967295)
include h hq ha h0 hT
theorem Q3c{C F':Nat}(S:s.b.stops=none)(v:C≤99999000000)(o:MK (T+1) C (Y2 s)){b:Sm}{k:Nat}(q:b=Vy (Y2 s) k)(_h':SK b F' (T+1))(A:Qt b)(G:AU b)(W:b.now=s.now+1∧b.b.Yv=s.b.Yv)(f:b.b.stops≠none):GQ b 0 0∧Tm b 0 0:=by
 have a0:=h.si.sb.tm;have F:BrI {s.b with now:=s.now+1} never:=h.si.sb.gj.gi.bi.nowed Qb;have hL:LB s.nd s.Qf {s.b with now:=s.now+1}:=h.sl.lb.quiet rfl rfl rfl;obtain⟨b1,b2,b3,b5,R⟩:=R7 F S;have e:=G7 h.si Qb;have J:=Qj9 h0 (show s.b.now<s.now+1 by rw[h.si.sb.now];omega) S;rw[J]at e;obtain⟨c,r⟩:∃c,c=V0 {s.b with now:=s.now+1}:=⟨_,rfl⟩;rw[←r]at e J
 have w:(Y2 s).b.Qn=false:=by
  rw[e];show c.Qn=false;rw[r,Ti R];exact F6 h hq ha
 have g:=(Qin (P:=fun _=>True) v Qb (fun _ k=>k) (fun _ _ _ _ _ _ _ _ k=>k) k o w trivial).2;rw[←q]at g;have H:ctl (Y2 s).b=ctl c:=by rw[e];rfl
 rw[H]at g;have g1:b.b.stops=c.stops:=Z3 Prod.fst g;have g2:b.b.members=c.members:=Z3 (fun p=>p.2.2.2.2) g;have X:b.b.fin=c.fin:=Z3 (fun p=>p.2.2.1) g;obtain⟨M,m1,m2,m3,m,m5⟩:=Qsy F (hL.ticks (s.now+1)) (Qhc (D1 h.si.sb.gj (s.now+1)) Qb) R (by rw[←r,←g1];exact f);rw[←r]at m1 m2 m3 m m5;rw[m1]at g2;rw[m2]at X;have z:(Y2 s).b.js=c.js:=by rw[e];rfl
 have hE:EX M (Y2 s):=by
  refine⟨w,fun x a=>(m x (z ▸ a)).1,fun x a K i B=>?_⟩;rw[z]at a;obtain⟨n,V,U⟩:=m5 x a K i B;rw[Q8]at V;obtain⟨n0,n1,j⟩:=Df.1 V;subst j;rw[(Kq (s.now+1) n0).2.1]at U;exact⟨_,Qfu h Qb J n1,U⟩
 obtain⟨k1,k2,O⟩:=Zdw v Qb k o hE;rw[←q]at k2 O
 refine⟨⟨by cases a:b.b.stops with|none=>exact absurd a f|some d=>rfl,?_,?_,?_⟩,.inl ⟨rfl,rfl,?_⟩⟩
 ·rw[g2];obtain⟨x,N,Z⟩:=m3
  obtain⟨y,L,_,Y,_⟩:=Q74 v Qb o w (Q:=fun x=>x.id∈M∧Qm M x) (fun u l e x y E D I hl hJ a t=>⟨by rw[t.id rfl];exact a.1,Qmu M u l e x y E D I hl hJ a.2 t⟩) k (fun u l x E D I _ a t=>by
   cases t with
   | rm x c1 c2=>rw[(a.2 a.1).2.1]at c1;cases c1) ⟨x,by rw[z];exact N,rfl,Z,(m x N).1⟩
  rw[←q]at L;exact⟨y,L,Y⟩
 ·rw[g2,g1];rw[q];exact Qu2 v Qb o w (Qw1 M _) k (by rw[z];exact m)
 ·rw[g2];intro x a K i B;obtain⟨n,n1,j⟩:=O x a K i B;rw[(A.2 i n n1 (G i n n1)).1]at j;exact⟨n,n1,j⟩
 ·rw[X,W.1,W.2];have:=F.ok.q2;show Xi (s.now+1) s.b.Yv=_;unfold Xi;have this:s.b.Yv≤1000:=this;omega
theorem Zg1{f t:Nat}{d:Sm}{k:Nat}(F:d=Vy (Y2 s) (k+1))(j:(Y2 s).nd.length=s.nd.length)(b:GQ s f t)(D:Tm s f t)(K:s.now+1<s.b.fin):∃y v,GQ d y v∧Tm d y v∧d.b.fin=s.b.fin∧Qt d:=by
 have G:=h.si.sb.tm
 have z:(Y7 s.b (s.now+1)).2={s.b with now:=s.now+1}:=by
  obtain⟨x,r,q⟩:=b.mem
  have p:Rw s.b=false:=by
   unfold Rw;rw[Bool.not_eq_false'];exact Pm.2 ⟨x.id,q,by rw[Ys h.si.sb.gj.gi.bi.ok.Y4 r];simp[((b.qm x r).1 q).2.1]⟩
  unfold Y7;rw[Qe (by rw[h.si.sb.now];omega),Qe Qb,Qh b.som,Qe fun k=>(k.2.elim (fun k=>Qb) fun k=>by rw[p]at k;cases k)]
 have l:∀i n,s.nd[i]?=some n→(Y2 s).nd[i]?=some {Yg (s.now+1) n with Yy:=[]}:=fun i n a=>by
  rw[Qfu h Qb z a,show ({s.b with now:=s.now+1}:Br).Qd=s.b.Qd from rfl,h.si.e1,(hq.2 i n a (ha i n a)).1];rfl
 have e:=G7 h.si Qb;rw[z]at e
 have g:Qt (Y2 s):=by
  refine⟨?_,fun i m o J=>?_⟩
  ·rw[e];show s.Qf++s.b.Qf.filter _=[];rw[hq.1,h.si.e2];rfl
  ·obtain⟨n,a⟩:=Xs (show i<s.nd.length by rw[←j];exact(Yz.1 o).1);rw[l i n a]at o;cases o;refine⟨rfl,?_⟩;show (Yg (s.now+1) n).out=[];rw[(Kq (s.now+1) n).2.2.1];exact(hq.2 i n a (ha i n a)).2
 have c:d=Y2 s:=F.trans (Zd4 g k);rw[c]
 refine⟨if f=0 then s.now+1 else f,s.now+1,⟨by rw[e];exact b.som,by rw[e];exact b.mem,by rw[e];exact b.qm,fun x w A i p=>?_⟩,?_,by rw[e];rfl,g⟩
 ·rw[e]at w A;obtain⟨n,a,E⟩:=b.rn x w A i p;exact⟨_,l i n a,Qwl (h.si.sb.gj.gi.node i n a (ha i n a)) E⟩
 ·refine .inr ?_;have e1:(Y2 s).now=s.now+1:=by rw[e];rfl
  have e2:(Y2 s).b.fin=s.b.fin:=by rw[e];rfl
  have e3:(Y2 s).b.Yv=s.b.Yv:=by rw[e];rfl
  rw[e1,e2,e3]
  rcases D with ⟨u,C,B⟩|⟨u,C,B,I,H⟩
  ·rw[Qh u];omega
  ·rw[Qe Qb];omega
end
def FX(C:Nat→Nat)(x:Bj):Prop:=C x.id≤x.w∧(C x.id≤x.Qg∨x.done=false∧∃s,x.Xg=some s∧C x.id≤s.Qg)
theorem Zdt(C:Nat→Nat):Fz lK (FX C):=by
 intro u l e x y E D I m o ⟨f,g⟩ t
 have c:∀s,x.Xg=some s→x.Ql.isSome=true→False:=fun s r h=>by
  have b:=o.s2 s r;have i:=o.st.2 h;omega
 cases t with
 | drop x a h p=>
  cases a with
  | true=>exact absurd m Qp
  | false=>exact⟨f,.inl (g.resolve_right fun k=>by rw[p rfl]at k;cases k.1)⟩
 | cdrop x h=>exact(Qcb m Qp _ rfl).elim
 | again x h=>exact(Qcb m Qp _ rfl).elim
 | redrop x a d h p=>exact⟨f,.inl (g.resolve_right fun⟨_,s,k,_⟩=>c s k (by rw[h];rfl))⟩
 | fin x b i=>exact⟨f,.inl (Up f b)⟩
 | del x d n h=>exact⟨f,g⟩
 | anew x b i=>exact⟨f,.inl (g.resolve_right fun⟨_,s,k,_⟩=>c s k (by rw[b];rfl))⟩
 | lod x n b i=>exact⟨f,g⟩
 | Xg x s n k A b i z w=>exact⟨f,g.imp id fun⟨q,v,v1,j⟩=>⟨q,_,rfl,by rw[b]at v1;cases v1;exact j⟩⟩
 | told x s n k A b i z w=>exact⟨f,g.imp id fun⟨q,v,v1,j⟩=>⟨q,_,rfl,by rw[b]at v1;cases v1;exact j⟩⟩
 | pub x s b i=>exact⟨f,.inl (g.elim (fun k=>Up k (Qi9 (o.sc s b).1)) fun⟨_,v,v1,j⟩=>by rw[b]at v1;cases v1;exact j)⟩
 | _=>exact absurd m Qp
theorem Qgq(n:Nat)(v:Nat×Nat):∀r:List (Nat×Nat×Nat),n∈(Vn r n v).map (·.1)∧∀k∈r.map (·.1),k∈(Vn r n v).map (·.1)
 | []=>⟨Z0 ..,fun _ h=>(by cases h)⟩
 | y::l=>by
  unfold Vn
  split
  ·rename_i e;exact⟨Z0 ..,fun k a=>by rw[Z7]at a ⊢;rw[←e]at a;exact a⟩
  ·obtain⟨c,b⟩:=Qgq n v l;exact⟨Ym _ c,fun k a=>(Yf.1 a).elim (fun e=>by rw[e];exact Z0 ..) fun q=>Ym _ (b k q)⟩
theorem Q0d{f t:Nat}(h:f≤t)(j:t≤4294967295){l:List (Nat×Nat)}(c:l≠[])(b:∀p∈l,p=(f,t)):Vb l=t-f+1:=by
 have key:∀(l:List (Nat×Nat)) (a:Nat×Nat),(∀p∈l,p=(f,t))→Ve l a=some (if l=[] then a else (max a.1 f,min a.2 t)):=by
  intro l;induction l with
  | nil=>exact fun _ _=>rfl
  | cons p l d=>
   intro a b;have i:=b p (Z0 ..);subst i;rw[Ve,Qe (by show ¬t<f;omega),d _ fun q g=>b q (Ym _ g),Qe (show ¬(f,t)::l=[] from fun e=>(by cases e))]
   split
   ·rfl
   ·show some (max (max a.1 f) f,min (min a.2 t) t)=_;rw[show max (max a.1 f) f=max a.1 f by omega,show min (min a.2 t) t=min a.2 t by omega]
 unfold Vb;rw[Qe c,key l _ b,Qe c];show (if min 4294967295 t<max 0 f then 0 else min 4294967295 t-max 0 f+1)=_;rw[Qe Qb];omega
def JT(M S:List Nat)(C:Nat→Nat)(f t q:Nat)(x:Bj):Prop:=
 C x.id≤x.w∧(x.id∉M→C x.id≤x.Qg)∧(x.id∈M→x.state=2∧x.Ql=none∧x.done=false∧x.Xg=none∧C x.id≤min (x.work+q) x.w∧x.at_≠[]∧x.at_.Nodup ∧
  ∃r,x.X4=some r∧(∀p∈r,p.1∈x.at_∧p.2=(f,t))∧(r.map (·.1)).Nodup∧∀i∈x.at_,i∈S∨i∈r.map (·.1))
theorem Q7w{M:List Nat}{C:Nat→Nat}{f t q:Nat}(n:f≤t)(K:t≤4294967295)(N:q=t-f+1){b:Br}{x:Bj}(h:JT M [] C f t q x):∃y,y.id=x.id∧FX C y∧((Y9 b x).js=Xe b.js y∨(Y9 b x).js=b.js∧y=x):=by
 obtain⟨s,D,P⟩:=h
 have sv:∀y:Bj,y.id=x.id→y.w=x.w→(C x.id≤y.Qg∨y.done=false∧y.Xg=none∧y.Ql=none∧y.state=2∧C x.id≤y.work)→∃z,z.id=x.id∧FX C z∧((Xv b y).js=Xe b.js z∨(Xv b y).js=b.js∧z=x):=fun y a v u=>by
  by_cases o:y.work=y.Qg∨y.Xg.isSome∨y.Ql.isSome∨y.state≠2
  ·rw[V3 o];refine⟨y,a,⟨by rw[a,v];exact s,.inl ?_⟩,.inl rfl⟩;rw[a];refine u.elim id fun⟨k1,c,g,d,k5⟩=>?_
   rcases o with k|k|k|k
   ·omega
   ·rw[c]at k;cases k
   ·rw[g]at k;cases k
   ·exact absurd d k
  ·rw[Ua o];refine⟨Wt y,a,⟨by show C y.id≤y.w;rw[a,v];exact s,?_⟩,.inl rfl⟩;show C y.id≤y.Qg∨y.done=false∧_;rw[a];exact u.imp id fun⟨k1,c,g,d,k5⟩=>⟨k1,_,rfl,k5⟩
 unfold Y9
 by_cases l:x.id∈M
 ·obtain⟨k1,c,g,d,k5,I,H,r,G,w,F,E⟩:=P l
  have A:r.length=x.at_.length:=by
   have e1:=Dm _ _ F fun i m=>by
    obtain⟨p,j,rfl⟩:=Qq.1 m;exact(w p j).1
   have e2:=Dm _ _ H fun i m=>(E i m).resolve_left fun e=>(by cases e);rw[Qo]at e1 e2;omega
  have L:r.map (·.2)≠[]:=fun e=>by
   have:=Z3 List.length e;rw[Qo]at this;exact I (Ae (by rw[←A];exact this))
  have O:=Q0d n K L fun p j=>by
   obtain⟨z,J,rfl⟩:=Qq.1 j;exact(w z J).2
  rw[G];simp only;rw[Qe fun e=>e.elim (fun e=>by rw[c]at e;cases e) fun e=>e A];exact sv (Dw x r) rfl rfl (.inr ⟨g,d,c,k1,by show C x.id≤min (x.work+Vb _) x.w;rw[O,←N];exact k5⟩)
 ·have B:FX C x:=⟨s,.inl (D l)⟩
  split
  ·exact⟨x,rfl,B,.inl rfl⟩
  ·split
   ·exact⟨Em x,rfl,B,.inl rfl⟩
   ·exact sv _ rfl rfl (.inl (D l))
structure TX(M:List Nat)(C:Nat→Nat)(f t q:Nat)(s:Sm)(S:List Nat):Prop where
 st:s.b.Qn=true
 sp:s.b.stops=some S
 im:s.Qf=[]
 nd:∀(i:Nat) (n:Nd),s.nd[i]?=some n→(i∈S→(n.Yy=[{kind:=6,gen:=s.b.gen}]∧n.out=[]∧∀x∈s.b.js,x.id∈M→i∈x.at_→Qbe x.id f t n.rk) ∨
  (n.Yy=[]∧∃y,n.out=[y]∧y.1.kind=7∧y.1.gen=s.b.gen∧∀x∈s.b.js,x.id∈M→i∈x.at_→y.1.Qu=x.id∧y.1.Kc=f∧y.1.Jz=t))∧(i∉S→n.Yy=[]∧n.out=[])
 jb:∀x∈s.b.js,JT M S C f t q x
def TF(M:List Nat)(C:Nat→Nat)(f t q:Nat)(s:Sm):Prop:=(∃S,TX M C f t q s S)∨s.b.Qn=false∧s.b.stops=none∧∀x∈s.b.js,FX C x
section
variable {M:List Nat}{C:Nat→Nat}{f t q:Nat}(hf1:1≤f)
include hf1
theorem Zb1{S:List Nat}{b:Br}(N:Wm b.js)(g:∀x∈b.js,JT M S C f t q x){i:Nat}{y:Nt}(o:∀x∈b.js,x.id∈M→i∈x.at_→y.Qu=x.id∧y.Kc=f∧y.Jz=t):∀x∈(Fb b i y).js,JT M (Jd S i) C f t q x∧∃n∈b.js,n.id=x.id∧n.at_=x.at_:=by
 have oth:∀x∈b.js,(x.id∈M→i∉x.at_)→JT M (Jd S i) C f t q x:=fun x a d=>by
  obtain⟨L,K,J⟩:=g x a;refine⟨L,K,fun c=>?_⟩;obtain⟨k1,G,F,E,k5,D,B,r,h,A,w,v⟩:=J c;exact⟨k1,G,F,E,k5,D,B,r,h,A,w,fun j g=>(v j g).imp (fun k=>V4.2 ⟨k,fun e=>d c (by rw[←e];exact g)⟩) id⟩
 have same:∀(O:∀x∈b.js,x.id∈M→i∉x.at_),∀x∈b.js,JT M (Jd S i) C f t q x∧∃n∈b.js,n.id=x.id∧n.at_=x.at_:=fun O x a=>⟨oth x a (O x a),x,a,rfl,rfl⟩;unfold Fb
 split
 ·rename_i m
  exact same fun x a c d=>by
   rw[(o x a c d).1,Ys N a]at m;cases m
 ·rename_i z m;obtain⟨u,V⟩:=Qi m
  have l:∀x∈b.js,x.id∈M→i∈x.at_→x=z:=fun x a c d=>by
   rw[(o x a c d).1,Ys N a]at m;exact Hb m
  split
  ·rename_i H
   exact same fun x a c d=>by
    obtain⟨_,_,_,_,_,_,_,r,h,_⟩:=(g x a).2.2 c;rw[l x a c d,H]at h;cases h
  ·rename_i r H
   split
   ·rename_i s;intro x a
    rcases Ke (show x∈Xe b.js {z with X4:=some (Vn r i (y.Kc,y.Jz))} from a) with rfl|⟨a,U⟩
    ·refine⟨?_,z,u,rfl,rfl⟩;obtain⟨L,K,J⟩:=g z u;refine⟨L,K,fun c=>?_⟩;obtain⟨k1,G,F,E,k5,D,B,W,h,A,w,v⟩:=J c;rw[H]at h;cases h;obtain⟨_,Q,P⟩:=o z u c s.2;obtain⟨T,R⟩:=Qgq i (y.Kc,y.Jz) r
     refine⟨k1,G,F,E,k5,D,B,_,rfl,fun p I=>?_,(Qdy i (y.Kc,y.Jz) r w).1,fun j g=>?_⟩
     ·rcases Qtd I with rfl|I
      ·exact⟨s.2,by rw[Q,P]⟩
      ·exact A p I
     ·by_cases e:j=i
      ·rw[e];exact .inr T
      ·exact(v j g).imp (fun k=>V4.2 ⟨k,e⟩) (R j)
    ·exact⟨oth x a fun c d=>U (by rw[l x a c d]),x,a,rfl,rfl⟩
   ·rename_i s;exact same fun x a c d=>s ⟨by rw[(o x a c d).2.1];omega,by rw[←l x a c d];exact d⟩
theorem Q95(a0:f≤t)(ht:t≤4294967295)(hq:q=t-f+1){s:Sm}{F T:Nat}(R:SK s F T)(hT:T≤4294967295){S:List Nat}(h:TX M C f t q s S){i:Nat}{n:Nd}{x:Nt×List Int}{l:List (Nt×List Int)}(O:s.nd[i]?=some n)(hu:n.up=true)(D:n.out=x::l)(o:Bool):TF M C f t q (X5 {Ga s i n x l with ok:=o}):=by
 have v:=R.si.sb.gj;obtain⟨n1,n2⟩:=h.nd i n O;have K:i∈S:=W7 fun k=>by rw[(n2 k).2]at D;cases D
 rcases n1 K with ⟨_,k,_⟩|⟨k1,y,N,k3,k4,k5⟩
 ·rw[k]at D;cases D
 rw[N]at D;obtain⟨e1,e2⟩:=Qvl D;subst e1 e2;obtain⟨g1,g2⟩:=Qh2 R.si hT O hu N;have hi:i∈s.b.up:=(v.gi.Au O).1 hu
 have Us:Vh s.b i true=0:=by
  unfold Vh;have:=Nq v.gi.bi hi;rw[Qe Qb,(v.gi.bi.up i).1 hi];rfl
 have he:(X6 s.b i y.1 y.2).2=Zt (Fb s.b i y.1) i:=by
  unfold X6;rw[Qe (fun e=>e Us),Qh k3];exact Cl (by rw[h.sp];exact K) h.st k4
 obtain⟨b,hb⟩:∃b,b=Fb s.b i y.1:=⟨_,rfl⟩;have J:=Zb1 hf1 v.gi.bi.ok.Y4 h.jb k5
 have a1:ctl b=ctl s.b∧b.Qd=s.b.Qd∧b.Qf=s.b.Qf∧Wm b.js:=by
  rw[hb];unfold Fb
  split
  ·exact⟨rfl,rfl,rfl,v.gi.bi.ok.Y4⟩
  ·split
   ·exact⟨rfl,rfl,rfl,v.gi.bi.ok.Y4⟩
   ·split
    ·exact⟨rfl,rfl,rfl,Mt v.gi.bi.ok.Y4 _⟩
    ·exact⟨rfl,rfl,rfl,v.gi.bi.ok.Y4⟩
 rw[←hb]at he J;obtain⟨c1,c2,c3,c4⟩:=a1;have d1:b.stops=some S:=(Z3 Prod.fst c1).trans h.sp;have d2:b.Qn=true:=(Z3 (fun p=>p.2.1) c1).trans h.st;have d3:b.gen=s.b.gen:=Z3 (fun p=>p.2.2.2.1) c1
 by_cases L:Jd S i≠[]
 ·have A:(X6 s.b i y.1 y.2).2={b with stops:=some (Jd S i)}:=by
   rw[he];unfold Zt;rw[d1];simp only;rw[Qh L]
  obtain⟨u,a⟩:∃u:Sm,u={Ga s i n y [] with ok:=o}:=⟨_,rfl⟩;have w:u.b={b with stops:=some (Jd S i)}:=by rw[a];exact A
  have uo:u.b.Qd=[]:=by rw[w];exact c2.trans R.si.e1
  have ui:u.b.Qf=[]:=by rw[w];exact c3.trans R.si.e2
  rw[←a]
  refine .inl ⟨Jd S i,by show u.b.Qn=true;rw[w];exact d2,by show u.b.stops=_;rw[w],?_,fun j m hm=>?_,fun x d=>?_⟩
  ·show u.Qf++u.b.Qf.filter _=[];rw[ui,a];show s.Qf++[]=[];rw[h.im];rfl
  ·have H:∀x∈(X5 u).b.js,∃B∈s.b.js,B.id=x.id∧B.at_=x.at_:=fun x d=>(J x (by
    have d:x∈u.b.js:=d;rw[w]at d;exact d)).2
   have a2:(X5 u).b.gen=s.b.gen:=by show u.b.gen=_;rw[w];exact d3
   have Uj:j<s.nd.length:=by
    have E:=(Yz.1 hm).1
    have h2:(X5 u).nd.length=u.nd.length:=by
     show (u.b.done.foldl Jk (U0 u.nd u.b.Qd,u.done)).1.length=_;rw[D3 _ _ _ (by rw[a];exact g2),uo];rfl
    rw[h2,a]at E;have E:j<(s.nd.set i {n with out:=[]}).length:=E
    rwa [Xf]at E
   obtain⟨m0,G⟩:=Xs Uj;have r:=Qd4 (n':={n with out:=[]}) O j
   have tk:∀m1,u.nd[j]?=some m1→m={m1 with Yy:=m1.Yy++[]}:=fun m1 E=>by
    have:=Ql7 (t:=u) (by rw[a];exact g1) (by rw[a];exact g2) E;rw[hm,uo]at this;exact Hb this
   by_cases e:j=i
   ·rw[Qh e]at r;have:=tk _ (by rw[a];exact r);subst this;exact⟨fun k=>absurd e (V4.1 k).2,fun _=>⟨by show n.Yy++[]=[];rw[k1];rfl,rfl⟩⟩
   ·rw[Qe e,G]at r;have:=tk m0 (by rw[a];exact r);rw[X3]at this;subst this;obtain⟨q1,q2⟩:=h.nd j m0 G;rw[a2];refine⟨fun k=>?_,fun k=>q2 fun N=>k (V4.2 ⟨N,e⟩)⟩
    rcases q1 (V4.1 k).1 with ⟨Z,Y,X⟩|⟨Z,y',Y,X,p4,p5⟩
    ·refine .inl ⟨Z,Y,fun x d g z=>?_⟩;obtain⟨B,W,V,U⟩:=H x d;rw[←V]at g ⊢;exact X B W g (by rw[U];exact z)
    ·refine .inr ⟨Z,y',Y,X,p4,fun x d g z=>?_⟩;obtain⟨B,W,V,U⟩:=H x d;rw[←V]at g ⊢;exact p5 B W g (by rw[U];exact z)
  ·have d:x∈u.b.js:=d;rw[w]at d;exact(J x d).1
 ·have L:Jd S i=[]:=W7 L
  have A:(X6 s.b i y.1 y.2).2=each Y9 {b with stops:=none,Qn:=false} b.ids:=by
   rw[he];unfold Zt;rw[d1];simp only;rw[Qe fun k=>k L]
  rw[L]at J;obtain⟨e1,_,e2⟩:=Cm (f:=Y9) (I:=fun c=>c.stops=none) (P:=JT M [] C f t q) (Q:=FX C) (fun c x hc _ d=>⟨(Pa c x).trans hc,Q7w a0 ht hq d⟩) b.ids {b with stops:=none,Qn:=false} rfl c4 (Vs (Ww.2 c4)) fun x d=>⟨fun _=>(J x d).1,fun k=>absurd (Qq.2 ⟨x,d,rfl⟩) k⟩;rw[←A]at e1 e2;exact .inr ⟨g1.sf e2,e2,e1⟩
end
theorem Q3a{M:List Nat}{js:List Bj}{f t g i:Nat}{b:Br}{n:Nd}(k:Js b i n)(o:n.out=[])(l:∀x∈js,x.id∈M→i∈x.at_→Qbe x.id f t n.rk):∃y,(Z9 {n with Yy:=[]} {kind:=6,gen:=g}).out=[y]∧y.1.kind=7∧y.1.gen=g∧∀x∈js,x.id∈M→i∈x.at_→y.1.Qu=x.id∧y.1.Kc=f∧y.1.Jz=t:=by
 have j:∀x∈js,x.id∈M→i∈x.at_→Ya n.rk=x.id:=fun x a c d=>by
  obtain⟨r,h,v,_⟩:=l x a c d;exact Qgh k.one k.ps (Fc h) v
 unfold Z9;rw[Qe (show ¬(6:Nat)=3 by decide),Qe (show ¬(6:Nat)=5 by decide),Qh rfl]
 by_cases h0:Ya n.rk≠0
 ·obtain⟨r,p,w⟩:=Mw h0;have m:=Et k.kn p;rw[Qh h0];simp only[m];rw[o];refine⟨_,rfl,rfl,rfl,fun x a c d=>?_⟩;have e:=j x a c d;obtain⟨q,h,_,u,s⟩:=l x a c d;rw[e,h]at m;cases m;exact⟨e,u,s⟩
 ·rw[Qe h0];simp only;rw[o];refine⟨_,rfl,rfl,rfl,fun x a c d=>?_⟩;have e:=j x a c d;obtain⟨q,h,_⟩:=l x a c d;exact absurd (e.symm.trans (W7 h0)) (k.ps _ (Fc h))
section
variable {M:List Nat}{C:Nat→Nat}{f t q:Nat}(hf1:1≤f)(hft:f≤t)(ht:t≤4294967295)(hq:q=t-f+1)
include hf1 hft ht hq
theorem Zac{T B:Nat}(K:B≤99999000000)(H:T≤4294967295)(k:Nat){s:Sm}(h:MK T B s)(c:TF M C f t q s):TF M C f t q (Vy s k):=by
 have step:∀(s:Sm) (u:Sm) (o:Bool) (F:Nat),SK s F T→s.b.Qn=false→s.b.stops=none→(∀x∈s.b.js,FX C x)→Ms s.b.up lK s.b u.b→ctl u.b=ctl s.b→TF M C f t q (X5 {u with ok:=o}):=fun s u o F a k1 r g v e=>
  .inr ⟨(Z3 (fun p=>p.2.1) e).trans k1,(Z3 Prod.fst e).trans r,fun x c=>Ab (Zdt C) v a.sl.lb g x c⟩
 refine Qc7 (P:=TF M C f t q) K H (fun s i n x l o v y A d c=>?_) (fun s i n x l o v y A G c=>?_) (fun s x l o v d c=>?_) k h c
 ·obtain⟨D,a,_⟩:=v
  rcases c with ⟨S,h⟩|h
  ·refine .inl ⟨S,h.st,h.sp,h.im,fun j m w=>?_,h.jb⟩;have E:=Qd4 (n':=Z9 {n with Yy:=l} x) y j;have w:(s.nd.set i (Z9 {n with Yy:=l} x))[j]?=some m:=w;rw[E]at w
   by_cases e:j=i
   ·rw[Qh e]at w;cases w;rw[e];obtain⟨n1,J⟩:=h.nd i n y;have z:i∈S:=W7 fun k=>by rw[(J k).1]at d;cases d
    rcases n1 z with ⟨k1,r,g⟩|⟨k1,_⟩
    ·rw[k1]at d;obtain⟨e1,e2⟩:=Qvl d;subst e1 e2;exact⟨fun _=>.inr ⟨(S6 _ _).2,Q3a (a.si.sb.gj.gi.node i n y A) r g⟩,fun k=>absurd z k⟩
    ·rw[k1]at d;cases d
   ·rw[Qe e]at w;exact h.nd j m w
  ·exact .inr h
 ·obtain⟨D,a,_⟩:=v
  rcases c with ⟨S,h⟩|⟨k1,r,g⟩
  ·exact Q95 hf1 hft ht hq a H h y A G o
  ·have I:x.1.kind≠7:=hush a k1 y A x (by rw[G];exact Z0 ..);exact step s (Ga s i n x l) o D a k1 r g ((Ls (b:=s.b) (u:=s.b.up) i I x.2).mono fun l h=>by simp only[lJ,lK,Yf,Hp,Ho]at h ⊢;omega) (Lg s.b i I x.2)
 ·obtain⟨D,a,_⟩:=v
  rcases c with ⟨S,h⟩|⟨k1,r,g⟩
  ·rw[h.im]at d;cases d
  ·exact step s (M3 s x l true) o D a k1 r g ((Ui a.sl.lb.Xg (b:=s.b) rfl x.Qu x.ver true).mono fun l h=>by
    have L:l≠19:=fun e=>(by cases h.2 e);have h:=h.1;simp only[lP,lK,Yf,Hp,Ho]at h ⊢;omega) (T9 s.b x.Qu x.ver true)
end
theorem Qzm{s:Sm}{F T B:Nat}(h:SK s F T)(hq:Qt s)(G:AU s)(h0:s.b.hold=0)(hT:T+2000≤4294967295)(hB:B≤99999000000)(l:MK (T+1) B (Y2 s)){g:Sm}{k F':Nat}(he:g=Vy (Y2 s) k)(w:(Y2 s).nd.length=s.nd.length)(R:SK g F' (T+1))(r:Qt g)(D:AU g){f t:Nat}(E:GQ s f t)(ht:Tm s f t)(hf:s.b.fin≤s.now+1)(_hbg:BG s.b g.b) :
  g.b.stops=none∧∀x∈s.b.js,x.id∈s.b.members→∀y∈g.b.js,y.id=x.id→min (x.work+s.b.Yv) x.w≤y.Qg:=by
 have a0:=h.si.sb.tm;have M:=h.si.sb.gj;have K:=M.gi.bi;have Z:=K.ok.q1;have Wa:=F6 h hq G;obtain⟨S,L⟩:=B2.1 E.som;obtain⟨o,A⟩:∃o,o=if f=0 then s.now+1 else f:=⟨_,rfl⟩
 have hft:1≤o∧o≤s.now+1∧s.b.Yv=s.now+1-o+1:=by
  rw[A]
  rcases ht with ⟨O,W,V⟩|⟨O,W,V,t4,t5⟩
  ·rw[Qh O];omega
  ·rw[Qe Qb];omega
 obtain⟨C,hC⟩:∃C:Nat→Nat,C=fun id=>match Qk s.b.js id with
  | some x=>if id∈s.b.members then min (x.work+s.b.Yv) x.w else x.Qg
  | none=>0:=⟨_,rfl⟩
 have c:∀x∈s.b.js,C x.id=if x.id∈s.b.members then min (x.work+s.b.Yv) x.w else x.Qg:=fun x a=>by rw[hC];simp only[Ys K.ok.Y4 a]
 have U:(Y7 s.b (s.now+1)).2=Di {s.b with now:=s.now+1}:=by
  unfold Y7;rw[Qe (by rw[h.si.sb.now];omega),Qe Qb,Qh E.som,Qh ⟨Wa,.inl hf⟩]
 have e:=G7 h.si Qb;rw[U]at e
 have a:TF s.b.members C o (s.now+1) s.b.Yv (Y2 s):=by
  refine .inl ⟨S,by rw[e];rfl,by rw[e];exact L,?_,fun i m l=>?_,fun x a=>?_⟩
  ·rw[e];show s.Qf++s.b.Qf.filter _=[];rw[hq.1,h.si.e2];rfl
  ·obtain⟨n,j⟩:=Xs (show i<s.nd.length by rw[←w];exact(Yz.1 l).1);obtain⟨q1,q2⟩:=hq.2 i n j (G i n j);have hN:=M.gi.node i n j (G i n j);have z:i<s.b.nodes:=by rw[←M.gi.len];exact(Yz.1 j).1
   rw[Qfu h Qb U j,q1,Gf]at l
   have ho:qOf (Di {s.b with now:=s.now+1}).Qd i=if i∈S then [{kind:=6,gen:=s.b.gen}] else []:=by
    show qOf (s.b.Qd++((List.range s.b.nodes).filter fun n=>decide (n∈s.b.stops.getD [])).map fun n=>((n,{kind:=6,gen:=s.b.gen}):Od)) i=_;rw[h.si.e1,Gf,Ep (fun _=>{kind:=6,gen:=s.b.gen}) i (List.nodup_range.filter _),L]
    by_cases b:i∈S
    ·rw[Qh b,Qh (Y5.2 ⟨C3.2 z,Zh b⟩)]
    ·rw[Qe b,Qe fun k=>b (by simpa using (List.mem_filter.1 k).2)]
   rw[ho]at l;cases l;have d:(Yg (s.now+1) n).out=[]:=by rw[(Kq (s.now+1) n).2.2.1];exact q2
   refine⟨fun b=>.inl ⟨?_,d,fun x a N G4=>?_⟩,fun b=>⟨by show (if i∈S then _ else _)=_;rw[Qe b],d⟩⟩
   ·show (if i∈S then _ else _)=_;rw[Qh b,e];rfl
   ·rw[e]at a;obtain⟨n2,u,Y⟩:=E.rn x a N i G4;rw[j]at u;cases u;rw[A];exact Qwl hN Y
  ·rw[e]at a;have a:x∈s.b.js:=a;obtain⟨hJ,_⟩:=h.sl.lb x a;obtain⟨_,q2,q3,q4,q5⟩:=Dz h hq G a
   refine⟨?_,fun k=>by rw[c x a,Qe k];exact Q1 _,fun k=>?_⟩
   ·rw[c x a]
    split
    ·exact Qi5 ..
    ·omega
   ·obtain⟨g1,g2⟩:=E.qm x a;obtain⟨k1,I,H,X,k5⟩:=g1 k;exact⟨k1,I,H,q3,by rw[c x a,Qh k];exact Q1 _,Q8f K x a k1,Vs hJ.Uy,[],X,fun p hp=>(by cases hp),Fo,fun i b=>.inl (by have:=g2 k i b;rw[L]at this;exact this)⟩
 have q:=Zac hft.1 hft.2.1 Qb hft.2.2 hB Qb k l a;rw[←he]at q
 rcases q with ⟨S',k⟩|⟨_,I,H⟩
 ·have:=k.st;rw[F6 R r D]at this;cases this
 ·refine⟨I,fun x a N y P J=>?_⟩;have Q:=(H y P).2.resolve_right fun⟨_,v,k,_⟩=>by rw[(Dz R r D P).2.2.1]at k;cases k
  rw[J,c x a,Qh N]at Q;exact Q
theorem Md{f:Br→Bj→Br}(c:∀b x,(f b x).fin=b.fin)(l:List Nat)(b:Br):(each f b l).fin=b.fin:=Qc0 (P:=fun t=>t.fin=b.fin) (fun t x a _=>(c t x).trans a) l b rfl
theorem Qig(b:Br)(x:Bj)(a:Bool):(Wd b x a).fin=b.fin:=by
 unfold Wd
 split
 ·exact Z3 (fun p=>p.2.2.1) (A8 b _)
 ·exact Z3 (fun p=>p.2.2.1) (A8 _ _)
theorem Qpu(b:Br)(x:Bj):(Xv b x).fin=b.fin:=by unfold Xv;split <;> rfl
theorem Q1r(b:Br)(x:Bj):(Y9 b x).fin=b.fin:=by
 unfold Y9
 split
 ·rfl
 ·split
  ·rfl
  ·exact Qpu b _
theorem Rq(b:Br)(n:Nat):(Zt b n).fin=b.fin:=by
 unfold Zt
 split
 ·rfl
 ·split
  ·rfl
  ·exact Md Q1r _ _
theorem Q61(b:Br)(n:Int)(t:Nt)(a:List Int):(X6 b n t a).2.fin=b.fin:=by
 by_cases c:t.kind=7
 ·unfold X6
  split
  ·rfl
  ·show (Ut b n.toNat t).fin=b.fin;unfold Ut
   split
   ·rw[Rq]
    split
    ·rfl
    ·split
     ·rfl
     ·split <;> rfl
   ·rfl
 ·exact Z3 (fun p=>p.2.2.1) (Lg b n c a)
theorem Qkn:∀(a:List (Nat×PL.St)) (b:Br),(Xp b a).fin=b.fin
 | [],_=>rfl
 | p::a,b=>by
  have e:Xp b (p::a)=Xp (Ud b p) a:=by rw[X9,X9];rfl
  rw[e,Qkn a];unfold Ud
  split
  ·split
   ·rfl
   ·unfold Jh;split <;> rfl
  ·rfl
theorem Qp5(b:Br):(Qy b).fin=b.fin:=by
 unfold Qy
 split
 ·rfl
 split
 ·rfl
 split
 ·rfl
 ·exact Md (f:=Ur) (fun _ _=>rfl) _ _
theorem Q25{b:Br}(k:BrI b never){now:Nat}(j:now≤4294967295)(q:b.now<now)(h:b.fin≤b.now+b.Yv):(Y7 b now).2.fin≤now+b.Yv:=by
 unfold Y7;rw[Qe Qb]
 split
 ·show b.fin≤_;omega
 split
 ·split
  ·show b.fin≤_;omega
  ·show b.fin≤_;omega
 ·rename_i i;obtain⟨o,n,m,d,a⟩:=R7 (k.nowed j) (Qmg i);show (V0 {b with now:=now}).fin≤_
  have l:d.fin=b.fin:=by
   rw[a.e5,Md Qpu];show m.fin=_
   rw[a.e3,Qp5,a.e2,Gx,Qkn,a.e1,Md fun c x=>by
    unfold Q4
    split
    ·exact Qig _ _ _
    ·rfl]
  have g:d.ck=({b with now:=now}:Br).ck:=a.m5.ck.trans (a.m3.ck.trans (a.m2.ck.trans a.m1.ck));rw[a.w]
  rcases Jn d d.rows d.row with e|⟨z,L,_,_,_,e⟩
  ·rw[e,l];omega
  ·rw[e,Bh,Md (f:=V8) fun _ _=>rfl];show Xi d.now d.Yv≤_;have e1:d.now=now:=Z3 Prod.snd g;have e2:d.Yv=b.Yv:=Z3 (fun p=>p.1.2.2) g;rw[e1,e2];exact Nat.min_le_left ..
def FI(s:Sm):Prop:=s.b.fin≤s.now+s.b.Yv
theorem FI.same{s t:Sm}(h:FI s)(c:t.b.fin=s.b.fin)(b:t.now=s.now)(a:t.b.Yv=s.b.Yv):FI t:=by
 unfold FI;rw[c,b,a];exact h
theorem Qfv{s:Sm}{F T:Nat}(h:SK s F T)(c:T+1≤4294967295)(b:FI s):FI (Y2 s):=by
 have d:=h.si.sb.tm;have a:=(Qwm h.si.sb.gj.gi.bi (now:=s.now+1) Qb h.cn).2;have:=Q25 h.si.sb.gj.gi.bi (now:=s.now+1) Qb (by rw[h.si.sb.now];omega) (by rw[h.si.sb.now];exact b);rw[G7 h.si c];show (Y7 s.b (s.now+1)).2.fin≤s.now+1+(Y7 s.b (s.now+1)).2.Yv;rw[show (Y7 s.b (s.now+1)).2.Yv=s.b.Yv from Z3 (fun p=>p.2.2) a];exact this
theorem Qyg{s:Sm}(a:FI s)(i:Nat)(n:Nd)(x:Nt×List Int)(l:List (Nt×List Int))(o:Bool):FI (X5 {Ga s i n x l with ok:=o}):=
 a.same (Q61 s.b i x.1 x.2) rfl (Z3 (fun p=>p.2.2) (Lt (b:=s.b) rfl i x.1 x.2).cf)
theorem Q4g{s:Sm}(c:LB s.nd s.Qf s.b)(a:FI s)(x:Im)(l:List Im)(p o:Bool):FI (X5 {M3 s x l p with ok:=o}):=
 a.same (Z3 (fun p=>p.2.2.1) (T9 s.b x.Qu x.ver p)) rfl (Z3 (fun p=>p.2.2) (Ui c.Xg (b:=s.b) rfl x.Qu x.ver p).cf)
theorem Qyr{T C:Nat}(d:C≤99999000000)(c:T≤4294967295)(k:Nat){s:Sm}(h:MK T C s)(a:FI s):FI (Vy s k):=
 Qc7 (P:=FI) d c (fun _ _ _ _ _ _ _ _ _ _ a=>a) (fun _ i n x l o _ _ _ _ a=>Qyg a i n x l o) (fun _ x l o b _ a=>Q4g b.lb a x l true o) k h a
theorem Zew{s:Sm}(a:FI s)(i:Nat):FI (Qb1 s i):=by
 unfold Qb1
 split
 ·exact a
 ·split
  ·exact a
  ·have:(Ja s.b i).2.fin=s.b.fin∧(Ja s.b i).2.Yv=s.b.Yv:=by unfold Ja;split <;> exact⟨rfl,rfl⟩
   exact a.same this.1 rfl this.2
theorem Zaz{s:Sm}{F T:Nat}(h:SK s F T)(n:1000*phi s≤150000000)(e:T+1≤4294967295)(k:s.cn≤6)(q:F≤90000000000)(c:FI s)(a:Ac):FI (U7 s a):=by
 have d:=(Qwx h Qb n e k q a).2.2
 by_cases d0:a.Wc=0∨a.Wc=1
 ·rw[Qbx d0];exact Qfv h e c
 by_cases l:a.Wc=2
 ·by_cases j:s.Wy.length<20
  ·rw[Qgc l j];unfold Rr Ri
   rcases Qyz s.b s.next (a.tier % 4) (1+a.k % s.cn) (1+a.w % 20) with ⟨e1,e2⟩|⟨e1,e2⟩
   ·dsimp only;rw[Qe e1,e2];exact c
   ·dsimp only;rw[Qh e1,e2];exact c
  ·rw[Qb0 l j];exact c
 by_cases v:a.Wc=3
 ·rw[Qgb v];refine c.same ?_ rfl (Z3 (fun p=>p.2.2) (Sk (b:=s.b) rfl _).cf);show (Xd s.b _).2.fin=_;unfold Xd
  split
  ·rfl
  ·split
   ·exact Qig _ _ _
   ·split <;> rfl
 by_cases u:a.Wc=4
 ·rw[Qby u]at d ⊢;obtain⟨i,o⟩:∃i,i=a.n % s.nd.length:=⟨_,rfl⟩;rw[←o]at d ⊢
  refine c.same ?_ ?_ (Z3 (fun p=>p.1.2) d)
  ·unfold E5
   split
   ·rfl
   ·split
    ·show (Kh s.b i).2.fin=_;unfold Kh
     split
     ·rfl
     ·show (Zt _ _).fin=_;rw[Rq,Md]
      exact fun b x=>by
       unfold Xw
       split
       ·split
        ·exact Qig _ _ _
        ·exact Z3 (fun p=>p.2.2.1) (A8 b _)
       ·rfl
    ·rfl
  ·unfold E5
   split
   ·rfl
   ·split <;> rfl
 by_cases t:a.Wc=5
 ·rw[Qe4 t];exact Zew c _
 by_cases r:a.Wc=6∨a.Wc=7∨a.Wc=8∨a.Wc=9
 ·rw[Qga r];unfold Q3
  split
  ·exact c
  ·split
   ·exact c
   ·split
    ·split
     ·exact c
     ·exact Qyg c _ _ _ _ _
    ·split <;> exact c
 by_cases g:a.Wc=10
 ·rw[Qf9 g];unfold Yi
  split
  ·exact c
  ·exact Q4g h.sl.lb c _ _ _ _
 by_cases f:a.Wc=11
 ·rw[Qbz f];have w:=h.Dk;obtain⟨m,_⟩:=Qn9 (C:=F+200000000) h Qb Qb e k;exact Qyr Qb e 3000 m (Qfv h e c)
 ·rw[Qml Qb];exact c
theorem Qma{f g:Bj→Nat}:∀(l js:List Bj),l.Pairwise (fun a b=>a.id<b.id)→Wm js→(∀y∈l,∃x∈js,y.id=x.id∧g y≤f x)→(l.map g).sum≤(js.map f).sum
 | [],_,_,_,_=>Xq _
 | y::l,js,m,d,h=>by
  obtain⟨o,n⟩:=Ws.1 m;obtain⟨x,e,q,p⟩:=h y (Z0 ..);have r:=Qmb (f:=f) (Ys d e)
  have:=Qma l (rmJ js x.id) n (d.filter _) fun z c=>by
   obtain⟨w,k,j,i⟩:=h z (Ym _ c);have:=o z c;exact⟨w,Y5.2 ⟨k,Zh Qb⟩,j,i⟩
  rw[Z7,Gq];omega
theorem Q27{f g:Bj→Nat}:∀(l:List Bj),(∀z∈l,f z≤g z)→(∃z∈l,f z+1≤g z)→(l.map f).sum+1≤(l.map g).sum
 | [],_,⟨_,h,_⟩=>by cases h
 | y::l,e,⟨z,b,i⟩=>by
  have k:=e y (Z0 ..);have d:=fun z c=>e z (Ym y c)
  have le:(l.map f).sum≤(l.map g).sum:=by
   clear b i z k e
   induction l with
   | nil=>exact Q1 _
   | cons a l j=>
    have:=d a (Z0 ..);have:=j fun z c=>d z (Ym a c);rw[Z7,Gq,Z7,Gq];omega
  rw[Z7,Gq,Z7,Gq]
  rcases Yf.1 b with rfl|b
  ·omega
  ·have:=Q27 l d ⟨z,b,i⟩;omega
def gl(Q:Nat)(x:Bj):Nat:=(x.w-x.Qg+Q-1) / Q
def Gs(Q:Nat)(b:Br):Nat:=(b.js.map (gl Q)).sum
theorem Zf8{Q:Nat}{x y:Bj}(a:y.w=x.w)(b:x.Qg≤y.Qg):gl Q y≤gl Q x:=Nat.div_le_div_right Qb
theorem Znh{Q:Nat}(a:1≤Q){x y:Bj}(c:y.w=x.w)(b:x.Qg<x.w)(d:min (x.Qg+Q) x.w≤y.Qg):gl Q y+1≤gl Q x:=by
 unfold gl
 by_cases h:x.Qg+Q≤x.w
 ·rw[←Nat.add_div_right _ a];exact Nat.div_le_div_right Qb
 ·have f:(y.w-y.Qg+Q-1) / Q=0:=Qwd Qb;have e:0<(x.w-x.Qg+Q-1) / Q:=Nat.div_pos Qb a;omega
theorem Znf{Q:Nat}{b c:Br}(h:BG b c)(j:Wm b.js)(i:Wm c.js):Gs Q c≤Gs Q b:=Qma _ _ i j fun y g=>by
 obtain⟨x,f,e,d,_,_,a⟩:=h y g;exact⟨x,f,e,Zf8 d a⟩
theorem Zne{Q:Nat}(k:1≤Q){b c:Br}(h:BG b c)(a:Wm b.js)(p:Wm c.js){x:Bj}(j:x∈b.js)(n:x.Qg<x.w)(o:∀y∈c.js,y.id=x.id→min (x.Qg+Q) x.w≤y.Qg):Gs Q c+1≤Gs Q b:=by
 have q:1≤gl Q x:=Nat.div_pos Qb k;refine Up (Nat.succ_le_succ (Qma (f:=fun z=>if z.id=x.id then gl Q z-1 else gl Q z) c.js b.js p a fun y i=>?_)) (Q27 b.js (fun z _=>by show (if z.id=x.id then gl Q z-1 else gl Q z)≤gl Q z;split <;> omega) ⟨x,j,by show (if x.id=x.id then gl Q x-1 else gl Q x)+1≤_;rw[Qh rfl];omega⟩);obtain⟨z,g,d,z3,_,_,m⟩:=h y i;refine⟨z,g,d,?_⟩;show gl Q y≤if z.id=x.id then gl Q z-1 else gl Q z
 split
 ·rename_i e;have l:=Ys a g;rw[e,Ys a j]at l;cases l;have:=Znh k z3 n (o y i (d.trans e));omega
 ·exact Zf8 z3 m
theorem Zjq{b c:Br}(h:BG b c)(g:Wm c.js):c.js.length≤b.js.length:=by
 have:=Dm (c.js.map (·.id)) (b.js.map (·.id)) (Vs (Ww.2 g)) fun i f=>by
  obtain⟨y,e,rfl⟩:=Qq.1 f;obtain⟨x,d,a,_⟩:=h y e;exact Qq.2 ⟨x,d,a.symm⟩
 rwa [Qo,Qo]at this
theorem Qfq{a:Type}{f:a→Nat}{k:Nat}:∀ {l:List a},(∀x∈l,f x≤k)→(l.map f).sum≤k*l.length
 | [],_=>Xq _
 | x::l,h=>by
  have d:=h x (Z0 ..);have c:=Qfq fun z b=>h z (Ym x b);rw[Z7,Gq,Ka,Qi4];omega
theorem Qz2{s:Sm}{F T:Nat}(h:SK s F T)(a:Qt s)(f:AU s)(c:s.cn≤6):phi s≤520:=by
 obtain⟨j,g⟩:=h.Dk
 have l:(s.nd.map nf).sum≤0*s.nd.length:=Qfq fun n e=>by
  obtain⟨i,b⟩:=Dg e;obtain⟨q1,q2⟩:=a.2 i n b (f i n b);unfold nf;rw[q1,q2];exact Q1 _
 have k:(s.b.js.map lat).sum≤26*s.b.js.length:=Qfq fun x d=>by
  have c:=(A6.of h.si.sb.gj.gi.bi (by rw[h.nds];exact c)).six x d;have p:wD x≤12:=by unfold wD;split <;> omega
  have o:wS x≤1:=by
   unfold wS
   split
   ·split <;> omega
   ·omega
  have m:wR x≤13:=by unfold wR;split <;> omega
  unfold lat;omega
 unfold phi pot;rw[a.1,h.si.e1,h.si.e2];show (s.nd.map nf).sum+0+(2*0+0+(s.b.js.map lat).sum)≤520;omega
theorem Qmc{b:Br}(n:Nat)(h:b.stops=none∨b.Qn=true):(Zt b n).stops=none∨(Zt b n).Qn=true:=by
 unfold Zt
 split
 ·exact h
 ·rename_i S c
  split
  ·exact .inr (h.resolve_left fun e=>by rw[c]at e;cases e)
  ·exact .inl (Qc0 (P:=fun t=>t.stops=none) (fun t x a _=>(Pa t x).trans a) b.ids _ rfl)
theorem Zdg{b:Br}(n:Int)(t:Nt)(a:List Int)(h:b.stops=none∨b.Qn=true):(X6 b n t a).2.stops=none∨(X6 b n t a).2.Qn=true:=by
 by_cases c:t.kind=7
 ·unfold X6
  split
  ·exact h
  ·show (Ut b n.toNat t).stops=none∨(Ut b n.toNat t).Qn=true;unfold Ut
   split
   ·refine Qmc _ ?_
    split
    ·exact h
    ·split
     ·exact h
     ·split <;> exact h
   ·exact h
 ·have e:=Lg b n c a;rw[show (X6 b n t a).2.stops=b.stops from Z3 Prod.fst e,show (X6 b n t a).2.Qn=b.Qn from Z3 (fun p=>p.2.1) e];exact h
theorem Q4w{s:Sm}{F T B:Nat}(h:SK s F T)(y:Qt s)(z:AU s)(h0:s.b.hold=0)(g:T+1≤4294967295)(v:B≤99999000000)(q:MK (T+1) B (Y2 s)){a:Sm}{k C:Nat}(r:a=Vy (Y2 s) k)(A:SK a C (T+1))(c:Qt a)(f:AU a)(b:s.b.stops.isSome=true) :
  a.b.stops=none∨a.b.stops.isSome=true∧a.b.fin=s.b.fin∧s.now+1<s.b.fin:=by
 have w:=F6 h y z;have e:=G7 h.si g;have m:¬s.now+1≤s.b.now:=by rw[h.si.sb.now];omega
 by_cases u:s.b.fin≤s.now+1∨Rw s.b=true
 ·left
  have j:(Y7 s.b (s.now+1)).2=Di {s.b with now:=s.now+1}:=by
   unfold Y7;rw[Qe m,Qe Qb,Qh b,Qh ⟨w,u⟩]
  rw[j]at e
  have:=Qc7 (P:=fun t=>t.b.stops=none∨t.b.Qn=true) v g (fun _ _ _ _ _ _ _ _ _ _ k=>k) (fun s i n x l o _ _ _ _ k=>Zdg i x.1 x.2 k) (fun s x l o _ _ k=>by
   have e:=T9 s.b x.Qu x.ver true;show (Q5 s.b x.Qu x.ver true).2.stops=none∨(Q5 s.b x.Qu x.ver true).2.Qn=true;rw[show (Q5 s.b x.Qu x.ver true).2.stops=s.b.stops from Z3 Prod.fst e,show (Q5 s.b x.Qu x.ver true).2.Qn=s.b.Qn from Z3 (fun p=>p.2.1) e];exact k) k q (.inr (by rw[e];rfl))
  rw[←r]at this;exact this.resolve_right fun k=>by rw[F6 A c f]at k;cases k
 ·right
  have j:(Y7 s.b (s.now+1)).2={s.b with now:=s.now+1}:=by
   unfold Y7;rw[Qe m,Qe Qb,Qh b,Qe fun k=>u k.2]
  rw[j]at e;have d:=(Qin (T:=T+1) (P:=fun _=>True) v g (fun _ k=>k) (fun _ _ _ _ _ _ _ _ k=>k) k q (by rw[e];exact w) trivial).2;rw[←r,show ctl (Y2 s).b=ctl s.b by rw[e];rfl]at d;exact⟨by rw[show a.b.stops=s.b.stops from Z3 Prod.fst d];exact b,Z3 (fun p=>p.2.2.1) d,Qb⟩
structure CxE(Q:Nat)(s:Sm)(F T:Nat):Prop where
 sk:SK s F T
 au:AU s
 h0:s.b.hold=0
 q:s.b.Yv=Q
 n6:s.cn≤6
 fi:FI s
def Lv(Q v:Nat)(s:Sm)(F M:Nat):Prop:=s.b.js=[] ∨
 (∃d,phi s≤d*v∧phi s≤130000∧d+Q+2+(Q+4)*Gs Q s.b≤M∧F+140000000*d+2300000*M≤99000000000) ∨
 (Qt s∧F+2300000*M≤99999000000 ∧
  ((s.b.stops.isSome=true∧∃r,s.b.fin≤s.now+1+r∧1+r+(Q+4)*Gs Q s.b≤M) ∨
  (s.b.stops=none∧∃j,St s.b j∧j+(Q+4)*Gs Q s.b≤M+3) ∨
  ∃f t,GQ s f t∧Tm s f t∧(Q+4)*Gs Q s.b+s.b.fin≤M+(Q+4)+s.now))
theorem Qyq{Q:Nat}{s:Sm}{F T C:Nat}(h:CxE Q s F T)(g:F+80000+1000*(phi s+74*s.b.js.length+12)≤C)(b:C≤99999000000)(k:T+2000≤4294967295) :
  MK (T+1) C (Y2 s)∧CxE Q (U9 s) C (T+1)∧phi (U9 s)≤phi s+74*s.b.js.length+12∧(Qt (U9 s)∨phi (U9 s)+3000≤phi s+74*s.b.js.length+12)∧(U9 s).now=s.now+1∧(U9 s).b.js.length≤s.b.js.length∧Gs Q (U9 s).b≤Gs Q s.b∧BG s.b (U9 s).b:=by
 obtain⟨m,⟨l,k1,j⟩,e,d,k5,i,c,a⟩:=Qn9 h.sk g b Qb h.n6;have f:(U9 s).b.Yv=s.b.Yv:=Z3 (fun p=>p.1.2.2) k5;exact⟨m,⟨k1.mono Qb (Q1 _),h.au.fx h.sk k1 k5,(Z3 (fun p=>p.1.2.1) k5).trans h.h0,f.trans h.q,by rw[show (U9 s).cn=s.cn from Z3 (fun p=>p.2.1) k5];exact h.n6,Qyr b Qb 3000 m (Qfv h.sk Qb h.fi)⟩,e,d,c,Zjq a k1.si.sb.gj.gi.bi.ok.Y4,Znf a h.sk.si.sb.gj.gi.bi.ok.Y4 k1.si.sb.gj.gi.bi.ok.Y4,a⟩
theorem Qxu{Q v:Nat}{s:Sm}{F T M:Nat}(h:CxE Q s F T)(z:T+2000≤4294967295)(hv:v+74*s.b.js.length+12≤3000)(_hv1:1≤v)(U:s.b.js≠[])(o:Lv Q v s F M) :
  ∃V K,M=V+1∧CxE Q (U9 s) K (T+1)∧v+74*(U9 s).b.js.length+12≤3000∧Lv Q v (U9 s) K V:=by
 have w:1≤Q:=by rw[←h.q];exact h.sk.si.sb.gj.gi.bi.ok.q1
 obtain⟨w1,w2⟩:=h.sk.Dk;obtain⟨q,n⟩:∃q,q=U9 s:=⟨_,rfl⟩
 rcases o with o|⟨d,P,d2,d3,d4⟩|⟨c,hb,o⟩
 ·exact absurd o U
 ·obtain⟨_,c1,J,a,E,I,A,p⟩:=Qyq (C:=F+140000000) h Qb Qb z;rw[←n]at c1 J a E I A p ⊢;have hG:=Qi3 (Q+4) A;refine⟨M-1,F+140000000,Qb,c1,Qb,?_⟩
  rcases a with a|a
  ·refine .inr (.inr ⟨a,Qb,?_⟩);cases u:q.b.stops with
   | some S=>exact .inl ⟨rfl,Q-1,by have:=c1.fi;unfold FI at this;rw[c1.q]at this;omega,Qb⟩
   | none=>exact .inr (.inl ⟨rfl,3,.inr (.inr (.inr (Q1 _))),Qb⟩)
  ·obtain⟨e,hd⟩:∃e,d=e+1:=⟨d-1,by
    cases d with
    | zero=>rw[Qix]at P;omega
    | succ d=>rfl⟩
   rw[hd,Cz]at P;exact .inr (.inl ⟨e,Qb,Qb,Qb,Qb⟩)
 ·have hp:=Qz2 h.sk c h.au h.n6;obtain⟨X,L⟩:=Ta _ U;have B:=h.sk.si.sb.gj.gi.bi.ok.Y4
  have H:1≤Gs Q s.b:=by
   have h1:=Qmb (f:=gl Q) (Ys B L);have h2:=(Dz h.sk c h.au L).2.2.2.1;have h3:0<gl Q X:=Nat.div_pos Qb w;unfold Gs;omega
  have a0:=Qi3 (Q+4) H
  have R:∀f t,GQ s f t→Tm s f t→s.now<s.b.fin:=fun f t _ ht=>by
   rcases ht with ⟨_,_,k⟩|⟨_,_,_,_,k⟩
   ·rw[h.q]at k;omega
   ·exact k
  have hM:1≤M:=by
   rcases o with ⟨_,r,r1,Z⟩|⟨_,j,O,j2⟩|⟨f,t,g1,g2,g3⟩
   ·omega
   ·omega
   ·have:=R f t g1 g2;omega
  obtain⟨m,c1,J,a,E,I,A,p⟩:=Qyq (C:=F+2300000) h Qb Qb z;rw[←n]at c1 J a E I A p ⊢;have a:=a.resolve_right fun k=>by omega
  have hG:=Qi3 (Q+4) A;refine⟨M-1,F+2300000,Qb,c1,Qb,?_⟩
  by_cases g:q.b.js=[]
  ·exact .inl g
  refine .inr (.inr ⟨a,Qb,?_⟩)
  rcases o with ⟨u,r,r1,Z⟩|⟨u,j,O,j2⟩|⟨f,t,g1,g2,g3⟩
  ·rcases Q4w h.sk c h.au h.h0 Qb Qb m n c1.sk a c1.au u with k|⟨k1,b,N⟩
   ·exact .inr (.inl ⟨k,3,.inr (.inr (.inr (Q1 _))),Qb⟩)
   ·exact .inl ⟨k1,r-1,Qb,Qb⟩
  ·by_cases l:q.b.stops=none
   ·obtain⟨j',k1,b⟩:=Qzv h.sk c h.au h.h0 u Qb Qb m n c1.sk a c1.au l g p O;exact .inr (.inl ⟨l,j',b,Qb⟩)
   ·obtain⟨k1,b⟩:=Q3c h.sk c h.au h.h0 z u Qb m n c1.sk a c1.au ⟨E,c1.q.trans h.q.symm⟩ l;refine .inr (.inr ⟨0,0,k1,b,?_⟩)
    rcases b with ⟨_,_,k⟩|⟨k,_⟩
    ·rw[c1.q]at k;omega
    ·omega
  ·have Uj:=R f t g1 g2
   have i:(Y2 s).nd.length=s.nd.length:=by
    obtain⟨K,k,_⟩:=m;have e:(Y2 s).cn=s.cn:=by rw[G7 h.sk.si Qb];rfl
    rw[k.si.sb.len,h.sk.si.sb.len,e]
   by_cases hf:s.now+1<s.b.fin
   ·obtain⟨f',Y,k1,b,N,_⟩:=Zg1 h.sk c h.au h.h0 z (k:=2999) n i g1 g2 hf;exact .inr (.inr ⟨f',Y,k1,b,by rw[N];omega⟩)
   ·obtain⟨k1,b⟩:=Qzm h.sk c h.au h.h0 z Qb m n i c1.sk a c1.au g1 g2 Qb p;obtain⟨x,D,W⟩:=g1.mem;have hJ:=(h.sk.sl.lb x D).1.cw
    have h4:=Zne w p B c1.sk.si.sb.gj.gi.bi.ok.Y4 D (Dz h.sk c h.au D).2.2.2.1 fun y hy G=>by
     have:=b x D W y hy G;rw[h.q]at this;omega
    have h5:=Qi3 (Q+4) h4;rw[Qi4]at h5;exact .inr (.inl ⟨k1,3,.inr (.inr (.inr (Q1 _))),Qb⟩)
section
variable {N R Q G:Nat}{m:Sm}{i:Nat}
structure Sc(N R Q G:Nat)(m:Sm)(i:Nat):Prop where
 sk:SK m (i*200000000) i
 ph:phi m≤i*1492
 fy:fy m=((0,Q),N,R,Q,G)
 fi:FI m
theorem Sc.start(a:SI (Uv N R Q G) 0 0):Sc N R Q G (Uv N R Q G) 0:=by
 obtain⟨d,c,b⟩:=Q8c a;have:(Uv N R Q G).b.fin=0:=(Ql3 (Qcc N R Q G 0) N).2.2.2;exact⟨d.mono (Xq _) (Q1 _),by rw[c];exact Xq _,b,by unfold FI;rw[this];exact Xq _⟩
theorem Sc.act(h:Sc N R Q G m i)(g:i<80)(d:N≤6)(a:Ac):Sc N R Q G (U7 m a) (i+1):=by
 have f:=h.ph;have b:m.cn≤6:=by rw[show m.cn=N from Z3 (fun p=>p.2.1) h.fy];exact d
 obtain⟨k1,e,c⟩:=Qwx h.sk Qb Qb Qb b Qb a;exact⟨k1.mono Qb (Q1 _),Qb,c.trans h.fy,Zaz h.sk Qb Qb b Qb h.fi a⟩
structure Su(N R Q G:Nat)(m:Sm)(i:Nat):Prop where
 sk:SK m (16000000000+i*1000) 80
 ph:phi m≤119360
 fy:fy m=((0,Q),N,R,Q,G)
 fi:FI m
 up:∀j,j<i→j∈m.b.up
theorem Sc.end_(h:Sc N R Q G m i)(a:i≤80):Su N R Q G m 0:=⟨h.sk.mono Qb a,by have:=h.ph;omega,h.fy,h.fi,fun _ k=>absurd k (Qo0 _)⟩
theorem Su.act(h:Su N R Q G m i)(g:i<N)(t:N≤6):Su N R Q G (U7 m ⟨5,i,0,0,0,false,false⟩) (i+1):=by
 have k:m.cn=N:=Z3 (fun p=>p.2.1) h.fy;have f:m.nd.length=N:=h.sk.si.sb.len.trans k;have r:=h.ph;have a:=h.sk.si.sb.gj;rw[Qe4 rfl,f,Qbh g];obtain⟨k1,q,d⟩:=Zev h.sk Qb i;refine⟨k1.mono Qb (Q1 _),Qb,d.trans h.fy,Zew h.fi i,fun j s=>?_⟩;obtain⟨n,c⟩:=Xs (show i<m.nd.length by omega);unfold Qb1;rw[c];simp only
 split
 ·rename_i b
  by_cases e:j=i
  ·rw[e];exact(a.gi.Au c).1 b
  ·exact h.up j Qb
 ·rename_i b
  have o:¬Vh m.b i false≠0:=by
   have l:¬Ji m.b.m i=true:=fun e=>b ((a.gi.Au c).2 ((a.gi.bi.up i).2 e));unfold Vh;rw[Qe (by have:=a.gi.len;omega),Qe fun e=>l (by simpa using e)];exact fun e=>e rfl
  show j∈(Ja m.b i).2.up;unfold Ja;rw[Qe o];show j∈Xm m.b.up i
  by_cases e:j=i
  ·exact Hj.2 (.inr e)
  ·exact Hj.2 (.inl (h.up j Qb))
theorem Q7l{Q:Nat}{x:Bj}(b:1≤Q)(a:x.w≤20):gl Q x≤20:=Nat.div_le_of_le_mul Qb
theorem Q7f{s:Sm}{F T:Nat}(h:SK s F T)(b:1≤Q):Gs Q s.b≤400:=by
 have:=h.Dk
 have:=Qfq (f:=gl Q) (k:=20) (l:=s.b.js) fun x a=>by
  have:=(h.cn.js x a).w;exact Q7l b this
 unfold Gs;omega
theorem Zdv:∀k,k<21→1≤k→119360≤(38+4*k)*(2988-74*k):=Qp
theorem Su.lv(h:Su N R Q G m N)(w:N≤6)(v:Q≤6):∃M,CxE Q m (16000000000+N*1000) 80∧Lv Q (2988-74*m.b.js.length) m (16000000000+N*1000) M∧M≤5000∧(m.b.js≠[]→M=38+4*m.b.js.length+Q+2+(Q+4)*Gs Q m.b)∧(m.b.js=[]→M=0)∧m.b.js.length≤20:=by
 have q:m.cn=N:=Z3 (fun p=>p.2.1) h.fy;have f:m.b.Yv=Q:=Z3 (fun p=>p.1.2) h.fy;have t:=h.ph;obtain⟨s,r⟩:=h.sk.Dk;have b:1≤Q:=by rw[←f];exact h.sk.si.sb.gj.gi.bi.ok.q1
 have k:=Q7f h.sk b
 have c:CxE Q m (16000000000+N*1000) 80:=⟨h.sk,fun i n g=>(h.sk.si.sb.gj.gi.Au g).2 (h.up i (by
  have:=(Yz.1 g).1;rw[h.sk.si.sb.len,q]at this;exact this)),Z3 (fun p=>p.1.1) h.fy,f,Qb,h.fi⟩
 by_cases a:m.b.js=[]
 ·exact⟨0,c,.inl a,Qb,fun e=>absurd a e,fun _=>rfl,Qb⟩
 ·have j:1≤m.b.js.length:=List.length_pos_iff.2 a;have l:=Zdv _ Qb j;have u:(Q+4)*Gs Q m.b≤10*400:=Qvs Qb k;obtain⟨d,o⟩:∃d,d=38+4*m.b.js.length:=⟨_,rfl⟩;rw[←o]at l;refine⟨d+Q+2+(Q+4)*Gs Q m.b,c,.inr (.inl ⟨d,Qb,Qb,Q1 _,Qb⟩),Qb,fun _=>Qb,fun e=>absurd e a,Qb⟩
end
theorem Q78{R Q G k su:Nat}(b:1≤R)(a:1≤k):38+4*k+Q+2+(Q+4)*su≤2*R*(Q+4)*(su+4*k)+(G+8)*k+20:=by
 have f:2*(Q+4)*(su+4*k)≤2*R*(Q+4)*(su+4*k):=R5 _ (R5 _ Qb)
 have e:2*(Q+4)*(su+4*k)=2*((Q+4)*su)+8*((Q+4)*k):=by
  rw[Nat.mul_assoc,Qi4,show (Q+4)*(4*k)=4*((Q+4)*k) from Nat.mul_left_comm ..];omega
 have d:(Q+4)*1≤(Q+4)*k:=Qi3 _ a;have c:8*k≤(G+8)*k:=R5 _ Qb;omega
theorem Qmr{a b A B:Int}(c:0≤a∧a≤A)(d:0≤b∧b≤B):0≤a*b∧a*b≤A*B:=⟨Int.mul_nonneg c.1 d.1,Int.mul_le_mul c.2 d.2 d.1 (Int.le_trans c.1 c.2)⟩
theorem Zjf{Q:Nat}{x:Bj}(b:1≤Q)(a:x.Qg≤x.w):((x.w:Int)-x.Qg+Q-1) / Q=(gl Q x:Nat):=by
 rw[show (x.w:Int)-x.Qg+Q-1=((x.w-x.Qg+Q-1:Nat):Int) by omega];exact(Int.natCast_ediv _ _).symm
theorem Q8o{s:Sm}{F T:Nat}(h:SK s F T)(c:s.b.js=[]){j:Jo}(b:j∈s.Wy):j.id∈s.done∨j.id∈s.gone:=by
 rcases h.cn.all j.id (Qq.2 ⟨j,b,rfl⟩) with ⟨x,a,_⟩|k|k
 ·rw[c]at a;cases a
 ·rw[h.si.e3,X3]at k;exact .inl k
 ·exact .inr k
instance:Inhabited Ac:=⟨⟨0,0,0,0,0,false,false⟩⟩
abbrev Zey:TS:=.cat 1 (.int .u8) (.cat 1 (.int .u8) (.cat 1 (.int .u8) (.cat 1 (.int .u8) (.cat 1 (.int .u8) (.cat 1 .bool (.cat 1 .bool .nil))))))
theorem Zg5{W:World}{i:List Value}(h:Rd W Zey i):∃a:Ac,i=acC a∧Zes a:=by
 obtain⟨_,_,rfl,_,⟨d,rfl,g⟩,_,_,rfl,_,⟨n,rfl,e⟩,_,_,rfl,_,⟨t,rfl,c⟩,_,_,rfl,_,⟨k,rfl,f⟩,_,_,rfl,_,⟨w,rfl,b⟩,_,_,rfl,_,⟨j,rfl⟩,_,_,rfl,_,⟨fl,rfl⟩,rfl⟩:=h;have g:=Mm g;have e:=Mm e;have c:=Mm c;have f:=Mm f;have b:=Mm b;obtain⟨d,rfl⟩:∃m:Nat,d=m:=⟨d.toNat,Qb⟩;obtain⟨n,rfl⟩:∃m:Nat,n=m:=⟨n.toNat,Qb⟩;obtain⟨t,rfl⟩:∃m:Nat,t=m:=⟨t.toNat,Qb⟩;obtain⟨k,rfl⟩:∃m:Nat,k=m:=⟨k.toNat,Qb⟩;obtain⟨w,rfl⟩:∃m:Nat,w=m:=⟨w.toNat,Qb⟩;exact⟨⟨d,n,t,k,w,j,fl⟩,rfl,⟨by show d≤255;omega,by show n≤255;omega,by show t≤255;omega,by show k≤255;omega,by show w≤255;omega⟩⟩
structure AcW(W:World)(s:SV)(l:List Ac):Prop where
 at_:Ez W s.v l.length 7 (l.flatMap acC)
 len:s.n=l.length
 each:∀x∈l,Zes x
theorem Za7{W:World}{a:List Value}(h:Rd W (.slice 7 Zey) a):∃(s:SV) (l:List Ac),a=[s.v]∧AcW W s l:=by
 obtain⟨s,l,f,e,d,c,_⟩:=Q30 (α:=Ac) (encA:=acC) (p:=Zes) (fun a b _=>Zg5 b) h Qb;exact⟨s,l,f,d,e,c⟩
abbrev smJ(p:Nat)(s:Sm)(b:Nat)(ps:Nat→Nat)(nv:SV)(ns:List No)(rb _jb e g c:Nat)(d f a:SV)(h:List Assn):List Assn:=
 blk p 55 (smC s b nv rb _jb e g c d f a).toArray::BP b s.b ps::own nv 103 1 (ns.map noV)::alls ns noB::Qgr rb s.X4::Qz e .u32 (E4 s.gone)::Qz g .u32 (E4 s.done)::imgs d s.Qf::Ql1 c::Hf f s.fu::Hf a s.fu::h
set_option maxHeartbeats 8000000 in
theorem Qsd(n r q g:Nat)(l:List Ac)(s:SV)(hn:n≤255)(hr:r≤255)(hq:q≤255)(hg:g≤255){W:World}(hW:Dx W)(hs:AcW W s l):Znt 7 [.int .u8 (n:Int),.int .u8 (r:Int),.int .u8 (q:Int),.int .u8 (g:Int),s.v] W:=by
 refine Zbd Tryz.func7 rfl Tryz.ntmps7 fun w0 Γ=>Zsh ?_;have X:RdS (Wo W) s s.n 7 (l.flatMap acC):=by rw[hs.len];exact RdS.Wo hs.at_
 have a5:=hs.len;refine S.T6 X fun _ aZ aY=>?_;have aO:maxLen≤9223372036854775807:=by unfold maxLen;omega
 obtain⟨N,hN⟩:∃N,N=1+n % 6:=⟨_,rfl⟩;obtain⟨R,hR⟩:∃R,R=1+r % 4:=⟨_,rfl⟩;obtain⟨Q,hQ⟩:∃Q,Q=1+q % 6:=⟨_,rfl⟩;obtain⟨G,hG⟩:∃G,G=1+g % 9:=⟨_,rfl⟩;refine ZY 7 (Zp (Zcp Ze (Zea hW) (ZY 2 (ZF ef (ZY 7 (Zp (Zcp Ze (Q7z n r q g hn hr hq hg) ?_)))))));rw[←hN,←hR,←hQ,←hG];refine Zp (Zc1 Ze (Qyx N R Q G Qb Qb Qb Qb Qb Qb Qb Qb) ?_);rintro v Θ ⟨p,rfl,rfl⟩;have aF:SI (Uv N R Q G) 0 0:=Q8d Qb Qb Qb Qb Qb Qb Qb Qb;have aa:=Sc.start aF;obtain⟨s0,ak⟩:∃s0,s0=Uv N R Q G:=⟨_,rfl⟩;rw[←ak]at aa ⊢;refine ZY 8 (ZF ef (ZY 8 (Zy ?_)));refine Zl (fun fz c d=>∃(i:Nat) (m:Sm),fz=l.length-i∧i≤l.length∧Sc N R Q G m (min i 80)∧c=[(11,pt p),(33,s.v),(34,.int .i64 (s.n:Int)),(35,.int .i64 (i:Int))]∧d=SP p m::Wo W::Γ) (m:=_) (⟨0,s0,rfl,Qb,aa,rfl,rfl⟩) ?_;rintro fz c d ⟨i,m,aT,hi,H,rfl,rfl⟩;refine ZY 5 ?_
 refine Zj ef (fun h3=>?_) (fun h3=>?_)
 ·refine S.Ao X Qb fun sb so Yo=>?_;obtain⟨a,ha⟩:=Xs (show i<l.length by omega);have aB:=hs.each a (Yn ha);refine ZY 6 (Zv (Zx (i) ef (Yo) ef Qb) ?_);refine Zv (Lm X (i*7) (acC a) Eo.h rfl Yo Qb rfl rfl (Wr (enc:=acC) (sz:=7) (fun _=>rfl) ha)) (Zp (S.alloc Tryz.z46.h rfl ?_));intro b2;refine Zy (Zp (Zs ef ef (cs':=[_,_,_,_,_,_,_]) ef (ZY 6 ?_)))
  refine Zj ef (fun h4=>?_) (fun h4=>?_)
  ·rw[show min i 80=i by omega]at H;have a0:=H.act Qb Qb a;have aH:=H.sk.si.sb.len;have aq:=H.sk.si.sb.c1;refine ZY 3 (Zp (Zc1 Ze (Q3o p m a aB Qb aq H.sk.si.sb.c16 a0.sk.si.ok hW) ?_));rintro v Θ rfl;refine ZY 2 (Zv (Za ef ef) (ZY 2 ?_));first|exact ZX (fz-1) ⟨i+1,U7 m a,Qb,Qb,by rw[show min (i+1) 80=i+1 by omega];exact a0,rfl,rfl⟩ Qb|exact ZX (fz-1) ⟨i+1,m,Qb,Qb,by rw[show min (i+1) 80=min i 80 by omega];exact H,rfl,rfl⟩ Qb
  ·refine ZY 2 (Zv (Za ef ef) (ZY 2 ?_));first|exact ZX (fz-1) ⟨i+1,U7 m a,Qb,Qb,by rw[show min (i+1) 80=i+1 by omega];exact a0,rfl,rfl⟩ Qb|exact ZX (fz-1) ⟨i+1,m,Qb,Qb,by rw[show min (i+1) 80=min i 80 by omega];exact H,rfl,rfl⟩ Qb
 ·have V:=H.end_ Qb;have b6:m.nd.length=N:=V.sk.si.sb.len.trans (Z3 (fun p=>p.2.1) V.fy);refine ZY 4 ?_;refine S.Hh p m fun b ps nv ns rb jb I K C E J y Z=>?_;have aN:=Z.nn;refine ZY 5 (S.Xz p m b ps nv ns rb jb I K C E J y Z (ZY 3 ?_));refine Zl (fun fy c d=>∃(e:Nat) (m2:Sm),fy=N-e∧e≤N∧Su N R Q G m2 e∧c=[(11,pt p),(50,.int .i64 (nv.n:Int)),(51,.int .i64 (e:Int))]∧d=SP p m2::Wo W::Γ) (m:=_) (⟨0,m,rfl,Qb,V,rfl,rfl⟩) ?_;rintro fy c d ⟨e,m2,aU,U,w,rfl,rfl⟩;refine ZY 5 ?_
  refine Zj ef (fun h5=>?_) (fun h5=>?_)
  ·have a8:=w.act Qb Qb;have b7:=w.sk.si.sb.len;have ao:=w.sk.si.sb.c1;refine ZY 8 (ZY 3 ?_);refine Zv (Vu Tryz.it5.h (by rw[Tryz.underlying3];rfl) rfl (Zcn Qb Qb)) ?_;refine Zv (Ye (pvs:=[(_,_),(_,_)]) [_,_,_,_,_,_,_] Tryz.z46.h Tryz.p46.h ⟨⟨rfl,rfl⟩,⟨rfl,rfl⟩,trivial⟩ rfl) ?_;refine Zp (Zc1 Ze (Q3o p m2 ⟨5,e,0,0,0,false,false⟩ ⟨Qbj rfl,by show e≤255;omega,Xq _,Xq _,Xq _⟩ Qb ao w.sk.si.sb.c16 a8.sk.si.ok hW) ?_);rintro v Θ rfl;refine ZY 2 (Zv (Za ef ef) (ZY 2 ?_));exact ZX (fy-1) (⟨e+1,U7 m2 ⟨5,e,0,0,0,false,false⟩,Qb,Qb,a8,rfl,rfl⟩) Qb
  ·rw[show e=N by omega]at w;obtain⟨M0,hx,a3,hM,aD,aC,b4⟩:=w.lv Qb Qb;have a7:=hx.sk.si.sb.gj.gi.bi;have f1:m2.cr=R:=Z3 (fun p=>p.2.2.1) w.fy;have f2:m2.cq=Q:=Z3 (fun p=>p.2.2.2.1) w.fy;have f3:m2.cg=G:=Z3 (fun p=>p.2.2.2.2) w.fy;refine ZY 8 (Zy ?_);refine S.Hh p m2 fun b ps nv ns rb jb I K C E J y Z=>(ZY 4 (Zp (Zc1 Ze (Qod b m2.b ps) ?_)));rintro v Θ ⟨tv,rfl,aM,rfl⟩;have aQ:m2.b.ids.length=m2.b.js.length:=Qo ..;refine S.Xn tv fun aL aK P=>(ZY 4 ?_);refine Zl (fun fx c d=>∃(e:Nat) (su:Int),fx=m2.b.js.length-e∧e≤m2.b.js.length∧su=(((m2.b.js.take e).map (gl Q)).sum:Nat)∧c=[(11,pt p),(15,.int .i64 su),(16,.int .i64 (e:Int)),(64,tv.v),(65,.int .i64 (tv.n:Int)),(66,.int .i64 (e:Int))]∧d=own tv 31 1 (Yp m2.b.ids)::smX p m2 b ps nv ns rb jb I K C E J y (Wo W::Γ)) (m:=_) (⟨0,0,rfl,Qb,rfl,rfl,rfl⟩) ?_;rintro fx c d ⟨e,su,aV,U,t,rfl,rfl⟩;have a5:=Qfq (f:=gl Q) (k:=20) (l:=m2.b.js.take e) fun z hz=>Q7l Qb (hx.sk.cn.js z (Qop hz)).w;rw[V9]at a5;refine ZY 5 ?_
   refine Zj ef (fun h6=>?_) (fun h6=>?_)
   ·refine S.Q7 tv Qb fun ub aI a4 _ _ _=>?_;obtain⟨x,O⟩:=Xs (show e<m2.b.js.length by omega);have Dj:=Yn O;have ah:=(hx.sk.cn.js x Dj).w;have ai:=(a7.ok.Qu x Dj).cr;have ay:m2.b.ids[e]?=some x.id:=by show (m2.b.js.map (·.id))[e]?=_;rw[Q8,O];rfl
    have Fh:m2.b.js.take (e+1)=m2.b.js.take e++[x]:=by rw[X2,O];rfl
    have ar:Zlo (Qk m2.b.js x.id)=.tuple #[.agg (jbC x).toArray,.bool true]:=by rw[Ys a7.ok.Y4 Dj];rfl
    have aR:=Q7l (Q:=Q) Qb ah;have a6:((x.w:Int)-x.Qg+m2.cq-1) / m2.cq=(gl Q x:Nat):=by rw[f2];exact Zjf Qb ai
    refine ZY 5 (Zv (Zx (e) ef (a4) ef Qb) ?_);refine Zv (Zo (tv) (e) ef (a4) (by rw[Q8,ay];rfl)) ?_;refine ZY 8 (Zy (Zp (Zcp Ze (Znu b m2.b ps x.id) ?_)));rw[ar];refine ZY 3 (Zp (S.alloc Tryz.z35.h rfl ?_));intro b1;refine Zp (Zs ef ef (cs':=[_,_,_,_,_,_]) ef (ZY 3 ?_));refine Zd0 (Zra 0 21) (ZY 5 ?_);refine Zw ef (Zm ef ef) (ZY 5 ?_);refine Zw ef (Za ef ef) ?_;refine Zw ef (Zm ef ef) (ZY 5 ?_);refine Zw ef (Qdz rfl rfl (⟨Qb,Qb⟩) (by rw[a6];exact Xy Qb Qb)) ?_;refine Zw ef (Za ef ef) (Zy ?_);refine ZD (ZY 2 (Zv (Za ef ef) (ZY 3 (Zv (Za ef ef) (ZY 2 ?_)))));exact ZX (fx-1) (⟨e+1,su+((x.w:Int)-x.Qg+m2.cq-1) / m2.cq,Qb,Qb,by rw[a6,t,Fh,Vc,List.sum_append];simp,rfl,rfl⟩) Qb
   ·rw[show e=m2.b.js.length by omega,Wh]at t;have t:su=(Gs Q m2.b:Nat):=t;have aS:=Q7f hx.sk (Q:=Q) Qb;have e1:=Qmr (a:=2*(m2.cr:Int)) (b:=(m2.cq:Int)+4) (A:=8) (B:=10) ⟨Qb,Qb⟩ ⟨Qb,Qb⟩;have e2:=Qmr (a:=2*(m2.cr:Int)*((m2.cq:Int)+4)) (b:=su+4*(e:Int)) (A:=80) (B:=480) ⟨Qb,Qb⟩ ⟨Qb,Qb⟩;have e3:=Qmr (a:=(m2.cg:Int)+8) (b:=(e:Int)) (A:=17) (B:=20) ⟨Qb,Qb⟩ ⟨Qb,Qb⟩
    have b0:(M0:Int)≤2*(m2.cr:Int)*((m2.cq:Int)+4)*(su+4*(e:Int))+((m2.cg:Int)+8)*(e:Int)+20:=by
     by_cases Uh:m2.b.js=[]
     ·rw[aC Uh];omega
     ·have h9:=Q78 (R:=R) (Q:=Q) (G:=G) (k:=m2.b.js.length) (su:=Gs Q m2.b) Qb (List.length_pos_iff.2 Uh);rw[aD Uh,t,f1,f2,f3,show e=m2.b.js.length by omega];have h9:=Int.ofNat_le.2 h9
      push_cast at h9 ⊢
      exact h9
    refine ZY 2 ?_;refine Zd0 (Zra 0 29) (ZY 5 ?_);refine Zw ef (Ll rfl rfl (Xy Qb Qb)) (ZY 5 ?_);refine Zw ef (Za ef ef) ?_;refine Zw ef (Ll rfl rfl (Xy Qb Qb)) (ZY 2 ?_);refine Zw ef (Ll rfl rfl (Xy Qb Qb)) ?_;refine Zw ef (Za ef ef) ?_;refine Zw ef (Ll rfl rfl (Xy Qb Qb)) (ZY 5 ?_);refine Zw ef (Za ef ef) (Zy ?_);refine Zw ef (Ll rfl rfl (Xy Qb Qb)) ?_;refine Zw ef (Za ef ef) ?_;refine Zw ef (Za ef ef) (Zy ?_);refine ZD (ZY 3 (S.Xz p m2 b ps nv ns rb jb I K C E J y Z ?_));obtain⟨v,aj⟩:∃v,v=2988-74*m2.b.js.length:=⟨_,rfl⟩;rw[←aj]at a3;refine ZY 3 ?_
    refine Zc (fun c d=>∃(m3:Sm) (F T:Nat),SK m3 F T∧m3.b.js=[]∧c=[(11,pt p)]∧d=SP p m3::Wo W::Γ) ?_ ?_
    ·refine Zy ?_;refine Zl (fun fw c d=>∃(j M F:Nat) (m3:Sm),fw=M∧j+M≤M0∧CxE Q m3 F (80+j)∧v+74*m3.b.js.length+12≤3000∧Lv Q v m3 F M∧c=[(11,pt p),(130,.int .i64 (2*(m2.cr:Int)*((m2.cq:Int)+4)*(su+4*(e:Int))+((m2.cg:Int)+8)*(e:Int)+20)),(131,.int .i64 (j:Int))]∧d=SP p m3::Wo W::Γ) (m:=_) (⟨0,M0,16000000000+N*1000,m2,rfl,Qb,hx,Qb,a3,rfl,rfl⟩) ?_;rintro fw c d ⟨j,M,F,m3,aW,aP,u,P,a9,rfl,rfl⟩;refine ZY 5 ?_
     refine Zj ef (fun h7=>?_) (fun h7=>?_)
     ·refine S.Hh p m3 fun b ps nv ns rb jb I K C E J y Z=>(ZY 8 (ZY 2 (Zp (Zc1 Ze (Qod b m3.b ps) ?_))));rintro v Θ ⟨aJ,rfl,aG,rfl⟩;refine S.Xz p m3 b ps nv ns rb jb I K C E J y Z (ZY 3 ?_)
      refine Zj ef (fun h8=>?_) (fun h8=>?_)
      ·have o:m3.b.js=[]:=Ae Qb;refine Zy ?_;exact ZM (⟨m3,F,80+j,u.sk,o,rfl,rfl⟩)
      ·obtain⟨M',F',k1,L,k3,k4⟩:=Qxu u Qb P Qb (fun e=>h8 (by rw[aG,e];rfl)) a9;refine ZY 4 (Zp (Zc1 Ze (Qu1 p m3 L.sk.si.ok hW) ?_));rintro v Θ rfl;obtain⟨m4,al⟩:∃m4,m4=U9 m3:=⟨_,rfl⟩;rw[←al]at L k3 k4 ⊢;refine ZY 4 ?_;refine Zp (Zcp Ze (Za4 p m4 (Q8j L.sk.si.sb.gj) (by rw[L.sk.si.sb.len];exact L.sk.si.sb.c16)) ?_);rw[Q3w L.sk.si];refine ZY 2 (ZF ef (ZY 2 (Zv (Za ef ef) (ZY 2 ?_))));exact ZX (M') (⟨j+1,M',F',m4,rfl,Qb,L,k3,k4,rfl,rfl⟩) Qb
     ·have o:m3.b.js=[]:=W7 fun Uh=>by
       obtain⟨M',F',k1,_⟩:=Qxu u Qb P Qb Uh a9;omega
      refine Zy ?_;exact ZM (⟨m3,F,80+j,u.sk,o,rfl,rfl⟩)
    ·rintro c d ⟨m3,F,T,aE,o,rfl,rfl⟩;refine ZY 3 ?_;refine S.Hh p m3 fun b ps nv ns rb jb I K C E J y Z=>(ZY 4 (Zp (S.range Tryz.underlying49 rfl rfl ?_)));intro D;refine ZY 2 ?_;refine Zl (fun fq c d=>∃(left:List (Int×Value)) (ab:Option (Int×Value)),fq=left.length∧(∀e∈left,∃j∈m3.Wy,e=joE j)∧c=[(11,pt p),(150,.pointer (some ⟨D,0,none⟩))]∧d=G3 D jb .u32 (m3.Wy.map joE) left ab::smJ p m3 b ps nv ns rb jb I K C E J y (Wo W::Γ)) (m:=_) (⟨m3.Wy.map joE,none,rfl,fun e U=>(by obtain⟨j,hj,rfl⟩:=Qq.1 U;exact⟨j,hj,rfl⟩),rfl,rfl⟩) ?_;rintro fq c d ⟨left,ab,aX,Y,rfl,rfl⟩;refine ZY 2 ?_
     refine Zp (S.Xh rfl rfl (fun b5=>?_) (fun h a1 a2 ae=>?_))
     ·refine S.Qs (Ent.G3 _) (ZY 8 (ZY 3 (Zp (Zc1 Ze (Qod b m3.b ps) ?_))));rintro v Θ ⟨af,rfl,ad,rfl⟩;rw[o]at ad;refine ZY 5 ?_;exact Zf ef Zq (⟨by rw[Zh (show (af.n:Int)=0 by rw[ad];rfl)];rfl,rfl⟩)
     ·obtain⟨j,av,ax⟩:=Y _ (Yn ae);obtain⟨rfl,rfl⟩:a1=(j.id:Int)∧a2=.agg (joC j).toArray:=Gr ax;have aA:=(Nh ae).length_eq;rw[Ka]at aA;refine ZY 8 (Zv (Cf rfl) (ZY 4 ?_))
      by_cases hd:j.id∈m3.done
      ·have b3:=hd;refine ZY 6 ?_;refine Zv (Qx (.bool true) Tryz.underlying50 Tryz.underlying31 Tryz.zv4.h rfl rfl rfl (by rw[Ca,Qh hd];rfl)) (ZY 8 (ZY 5 ?_));exact ZX ((left.eraseIdx h).length) (⟨left.eraseIdx h,some ((j.id:Int),.agg (joC j).toArray),rfl,fun e U=>Y e (Qjb U),rfl,rfl⟩) Qb
      ·have az:=(Q8o aE o av).resolve_left hd;refine ZY 6 ?_;refine Zv (Qx (.bool false) Tryz.underlying50 Tryz.underlying31 Tryz.zv4.h rfl rfl rfl (by rw[Ca,Qe hd];rfl)) (ZY 7 ?_);refine Zvg ef ef ef (Qx (.bool true) Tryz.underlying50 Tryz.underlying31 Tryz.zv4.h rfl rfl rfl (by rw[Ca,Qh az];rfl)) (ZY 3 (ZF ef (Zy ?_)));exact ZX ((left.eraseIdx h).length) (⟨left.eraseIdx h,some ((j.id:Int),.agg (joC j).toArray),rfl,fun e U=>Y e (Qjb U),rfl,rfl⟩) Qb
end BN
open Go.ChangeShapes Go.WideShapes Go.ChangeAt
theorem Qj1{H:Type}(d:TypeId×Value→H):Qsa d Rows.brainEndsRow.laid 7 Tryz.f7:=by
 intro W base args V b a o _ _ D;rw[Tryz.params7]at o a;obtain⟨v0,w,d0,N,U,P,c,rfl,rfl,h0,B⟩:=trodAll_cons o;obtain⟨v1,v,d1,M,T,q1,rfl,rfl,rfl,I,A⟩:=trodAll_cons B;obtain⟨f,u,Z,L,S,q2,rfl,rfl,rfl,G,z⟩:=trodAll_cons A;obtain⟨e,t,Y,K,R,q3,rfl,rfl,rfl,F,y⟩:=trodAll_cons z;obtain⟨v4,p,X,J,Q,O,rfl,rfl,rfl,E,x⟩:=trodAll_cons y;obtain⟨rfl,rfl,rfl⟩:=trodAll_nil x;obtain rfl:args=#[v0,v1,f,e,v4]:=by cases args;simp_all
 obtain⟨n,rfl,j⟩:=Qff Tryz.underlying5 (a 0 5 v0 rfl rfl) h0;obtain⟨r,rfl,h⟩:=Qff Tryz.underlying5 (a 1 5 v1 rfl rfl) I;obtain⟨q,rfl,i⟩:=Qff Tryz.underlying5 (a 2 5 f rfl rfl) G;obtain⟨g,rfl,k⟩:=Qff Tryz.underlying5 (a 3 5 e rfl rfl) F;obtain⟨s,l,e2,C⟩:=BN.Za7 (Q1v 12 Tryz.underlying41 (by kernel_rfl) (a 4 41 v4 rfl rfl) E);simp only[Hw,R6]at e2;subst e2;have j:=Mm j;have h:=Mm h;have i:=Mm i;have k:=Mm k;obtain⟨n,rfl⟩:∃m:Nat,n=m:=⟨n.toNat,Qb⟩;obtain⟨r,rfl⟩:∃m:Nat,r=m:=⟨r.toNat,Qb⟩;obtain⟨q,rfl⟩:∃m:Nat,q=m:=⟨q.toNat,Qb⟩;obtain⟨g,rfl⟩:∃m:Nat,g=m:=⟨g.toNat,Qb⟩;exact Zch (BN.Qsd n r q g l s Qb Qb Qb Qb (Zae rfl D) C)
set_option maxRecDepth 100000 in
theorem Qj0(os:Os)(args:Array Value):laidMetH Tryz.prog Rows.brainEndsRow.laid ((World.doorLaid Tryz.prog 14 os).forCall (fun _ _=>0) ⟨#[],args,[]⟩).memory:=
 laidMetH_of_parts3 (fuel:=8) (laidMet_of_run' 8 (by kernel_rfl) (by kernel_rfl)) (by kernel_rfl) (by kernel_rfl)
set_option maxRecDepth 100000 in
theorem Qdb(os:Os)(a:os.Started)(H:Type)(enc:TypeId×Value→H) :
  ReturnsInHanded {} Tryz.checked os 7 .any (fun w args=>(Rows.brainEndsSpec.pre enc Tryz.prog Tryz.f7 [] false w args∧laidMetH Tryz.prog Rows.brainEndsRow.laid w)∧sizedMet enc Tryz.prog Tryz.f7 (OpenSpec.ofChange Rows.brainEndsSpec) false w args) (Rows.brainEndsSpec.post enc Tryz.prog Tryz.f7 false true false false):=
 Qtx a Tryz.func7 (by kernel_rfl)
  (ChangeSpec.witness_shaped (enc:=enc) (C:=Tryz.checked) (os:=os) (X:=fun w _=>laidMetH Tryz.prog Rows.brainEndsRow.laid w) false (World.doorLaid Tryz.prog 14 os) #[.int .u8 0,.int .u8 0,.int .u8 0,.int .u8 0,.slice none 0 0] 8 rfl (World.shaped_of_RefB (by kernel_rfl) (by kernel_rfl)) (by kernel_rfl) (by kernel_rfl) (by kernel_rfl) (Qj0 os _))
  rfl rfl (by kernel_rfl) (fun b h=>by match b,h with|[g,f,e,d,c],_=>rfl) (Qj1 enc)
theorem Qiv:Rows.brainEndsRow.holds Tryz.pinned (OpenSpec.ofChange Rows.brainEndsSpec):=
 OpenClaim.holds_of_wide 7 Tryz.f7 rfl rfl rfl rfl rfl rfl rfl ⟨rfl,rfl,rfl,rfl,rfl⟩ rfl rfl rfl rfl rfl (by kernel_rfl) Tryz.func7 (by kernel_rfl)
  (U4 (by kernel_rfl)) (by unfold Func.isWrapper;first|(rw[Qh (by decide +kernel)];kernel_rfl)|(rw[Qe (by decide +kernel)];exact⟨rfl,rfl⟩))
  (fun os a H b _=>Qdb os a H b)
theorem BrainEnds_holds:Rows.BrainEndsCardSaid:=
 Claim7.holds_tied_plain_at .later [] [.data] true (true,"4872c1f8a3b510e83d0b533b5dde514eb1aba5b287cb337591b3ec3084a339dd") true
  Qiv (fun _ h=>by cases h) (by kernel_rfl) (fun _ h=>by cases h) brainEnds_row_tie rfl ⟨rfl,rfl⟩ (by kernel_rfl) rfl
  (fun f fn e b=>by
   obtain rfl:f=7:=Hb ((show Tryz.prog.funcNamed "quadrille/quadrillelaw19.BrainEnds" = some 7 by kernel_rfl).symm.trans e) |>.symm
   obtain rfl:fn=Tryz.f7:=(Hb (Tryz.func7.symm.trans b)).symm
   exact⟨by kernel_rfl,fun j t c=>by
    rw[Tryz.params7]at c;have d:t∈[5,5,5,5,41]:=by simpa using Array.mem_of_getElem? c
    have a:([5,5,5,5,41].all fun u=>!Tryz.prog.wantsStandIn u)=true:=by kernel_rfl
    exact(show Tryz.prog.wantsStandIn t=false by simpa using List.all_eq_true.1 a t d)⟩)
  (by kernel_rfl)
#print axioms BrainEnds_holds
end Go.Proofs.YtdackcibfkkniaaGreatDoor
