/- Texts put together. -/
import Derived.Shelf.SlSortCmp.NoneTotal
import Derived.Shelf.SlGeneric
import Derived.Ground.SlsfProg
import Derived.Shelf.Sort.Plain
import Derived.Shelf.Slices.In.SortNone
import Derived.Shelf.Bits.Mul64
import Derived.Sort.AssemblyPlain
import Derived.Sort.LotD1
import Derived.Test.YtdackcibfkkniaaGreatDoorME1
set_option synthInstance.maxSize 9999
set_option synthInstance.maxHeartbeats 400000
set_option maxRecDepth 20000
namespace Go.Proofs.YtdackcibfkkniaaGreatDoor
open Go.RowKit
theorem Qll{z:Int}{v:Value}:∀ {l:List (Int×Value)},(l.map (·.1)).Nodup→(Yh z l=some v↔(z,v)∈l)
 | [],_=>by simp[Yh]
 | x::l,h=>by
  rw[Z7,Vz]at h;unfold Yh
  by_cases e:z=x.1
  ·rw[Qh e,Yf]
   constructor
   ·intro e2;cases e2;exact .inl (by rw[e])
   ·rintro (e2|a)
    ·rw[←e2]
    ·exact absurd (Qq.2 ⟨_,a,e⟩) h.1
  ·rw[Qe e,Qll h.2,Yf]
   constructor
   ·exact .inr
   ·rintro (e2|a)
    ·rw[←e2]at e;exact absurd rfl e
    ·exact a
theorem Qu8{z:Int}{v:Value}{l:List (Int×Value)}(h:z∉l.map (·.1)):(Xl z v l).Perm ((z,v)::l):=by
 cases e:Jl z l 0 with
 | none=>rw[(G1 e).1];exact Qv1 _ _
 | some p=>
  obtain⟨j,w⟩:=p;obtain⟨k,_,a,_⟩:=Kv e;exact absurd (Qq.2 ⟨_,Yn a,rfl⟩) h
theorem Qa9{z:Int}:∀ {l:List (Int×Value)},(l.map (·.1)).Nodup→Ge z l=l.filter fun x=>decide (x.1≠z)
 | [],_=>rfl
 | x::l,h=>by
  rw[Z7,Vz]at h;unfold Ge
  by_cases e:z=x.1
  ·rw[Qh e,Qow (by simp[e])];refine(Np.2 fun y a=>?_).symm;have:y.1≠z:=fun e2=>h.1 (Qq.2 ⟨y,a,e2.trans e⟩)
   simpa using this
  ·rw[Qe e,Qox (by simpa using fun e2=>e (Eq.symm e2)),Qa9 h.2]
abbrev jbV(x:Jb):Value:=.agg #[.int .i64 (x.row:Int),bsv x.ns]
abbrev jbE(x:Jb):Int×Value:=((x.id:Int),jbV x)
theorem Qhv{js:List Jb}(c:js.Pairwise (fun a b=>a.id<b.id)):((js.map jbE).map (·.1)).Nodup:=by
 rw[Kk];exact Ww.2 (c.imp fun h e=>by simp only[Function.comp]at e;omega)
theorem L7{js:List Jb}{l:List (Int×Value)}(f:js.Pairwise (fun a b=>a.id<b.id))(c:l.Perm (js.map jbE))(j:Nat):Yh (j:Int) l=(look js j).map jbV:=by
 have i:(l.map (·.1)).Nodup:=(c.map (·.1)).nodup_iff.2 (Qhv f);cases h:look js j with
 | none=>
  refine Pc fun k=>?_;obtain⟨p,g,e⟩:=Qq.1 k;obtain⟨x,d,rfl⟩:=Qq.1 (c.mem_iff.1 g);exact D2 h x d (by have e:(x.id:Int)=j:=e;omega)
 | some x=>
  obtain⟨n,m⟩:=J6 h;exact(Qll i).2 (c.mem_iff.2 (Qq.2 ⟨x,n,by rw[←m]⟩))
theorem Q4f{js:List Jb}{l:List (Int×Value)}(a:l.Perm (js.map jbE)){x:Jb}(d:∀y∈js,y.id≠x.id):(Xl (x.id:Int) (jbV x) l).Perm ((Mg x js).map jbE):=by
 refine(Qu8 fun f=>?_).trans (((a.cons _).trans (.refl _)).trans ((Qc9 x js).map jbE).symm);obtain⟨p,c,e⟩:=Qq.1 f;obtain⟨y,b,rfl⟩:=Qq.1 (a.mem_iff.1 c);exact d y b (by have e:(y.id:Int)=x.id:=e;omega)
theorem Q7u{js:List Jb}{l:List (Int×Value)}(d:js.Pairwise (fun a b=>a.id<b.id))(c:l.Perm (js.map jbE))(j:Nat):(Ge (j:Int) l).Perm ((S2 j js).map jbE):=by
 have f:(l.map (·.1)).Nodup:=(c.map (·.1)).nodup_iff.2 (Qhv d)
 have e:(S2 j js).map jbE=(js.map jbE).filter fun x=>decide (x.1≠(j:Int)):=by
  rw[S2,List.filter_map];refine Z3 (List.map jbE) (Qdi fun x _=>?_);simp only[Function.comp,Mj,decide_not,Bool.not_eq_eq_eq_not,Bool.not_not,Wn];omega
 rw[Qa9 f,e];exact c.filter _
abbrev mxC(m:Mx)(b:Nat)(a:SV):List Value:=[.int .i64 (m.R:Int),.int .i64 (m.N:Int),bsv m.up,.map (some b),a.v]
def tks(m:Mx):List Value:=(List.range m.R).map fun r=>bsv (tk m.js r)
theorem Bc(m:Mx):(tks m).length=m.R:=by simp[tks]
theorem Bd{m:Mx}{r:Nat}(h:r<m.R):(tks m)[r]?=some (bsv (tk m.js r)):=by simp[tks,h]
theorem Qwj{m m':Mx}{r:Nat}(d:m'.R=m.R)(h:∀q,q<m.R→tk m'.js q=if r=q then tk m'.js r else tk m.js q):(tks m).set r (bsv (tk m'.js r))=tks m':=by
 refine E1 fun q=>?_;rw[Fq]
 by_cases a:q<m.R
 ·rw[Bd (m:=m') Qb,Bd a,h q a,Bc]
  by_cases e:r=q
  ·subst e;simp[a]
  ·rw[Qe e,Qe e]
 ·have c:(tks m)[q]?=none:=Pf (by rw[Bc];omega);have b:(tks m')[q]?=none:=Pf (by rw[Bc];omega);rw[c,b,Bc]
  by_cases e:r=q
  ·subst e;simp[a]
  ·rw[Qe e]
def MI(b:Nat)(m:Mx):Assn:=fun h=>∃(c:Nat) (a:SV) (l:List (Int×Value)),W6 m∧l.Perm (m.js.map jbE)∧a.n=m.R∧stars [blk b 124 (mxC m c a).toArray,Qz c .u32 l,own a 119 1 (tks m)] h
section
variable {n:Nat}{md:Bool}{w0:WM md}{ρ:Env}{Γ Δ:List Assn}{φ:Act→World→Prop}
theorem S.Hi(b:Nat)(m:Mx)[p:Pick (MI b m) Γ Δ](k:∀e c l,W6 m→l.Perm (m.js.map jbE)→c.n=m.R→S n w0 ρ (blk b 124 (mxC m e c).toArray::Qz e .u32 l::own c 119 1 (tks m)::Δ) φ):S n w0 ρ Γ φ:=by
 intro a w q o j;obtain⟨h0,i,t,r,d,h,g,⟨e,c,l,q1,q2,q3,f⟩,s⟩:=o.Qs p.Qs;exact k e c l q1 q2 q3 a w q ⟨h0,i,(Ent.unpack [blk b 124 (mxC m e c).toArray,Qz e .u32 l,own c 119 1 (tks m)] Δ) _ ⟨t,r,d,h,g,f,s⟩⟩ j
theorem S.Wj{b mb:Nat}{m:Mx}{tv:SV}{l:List (Int×Value)}{T e:TypeId}{f:Array Value}{kk:IntKind}{d:Nat}{xs:List Value}{c a:List Assn}[p:Mh Γ b T f Δ][q:Pe Δ mb kk l c][r:Uo c tv e d xs a]
  (e1:blk b T f=blk b 124 (mxC m mb tv).toArray) (e2:Qz mb kk l=Qz mb .u32 l) (e3:own tv e d xs=own tv 119 1 (tks m)) (i:W6 m) (h:l.Perm (m.js.map jbE)) (g:tv.n=m.R)
  (k:S n w0 ρ (MI b m::a) φ):S n w0 ρ Γ φ:=by
 have q1:Ent Γ (blk b 124 (mxC m mb tv).toArray::Qz mb .u32 l::own tv 119 1 (tks m)::a):=by
  rw[←e1,←e2,←e3];exact p.Qs.trans (Ent.cons _ (q.Qs.trans (Ent.cons _ r.Qs)))
 exact S.Qs (q1.trans ((Ent.pack [blk b 124 (mxC m mb tv).toArray,Qz mb .u32 l,own tv 119 1 (tks m)] a).trans (Ent.Kg a fun _ s=>⟨mb,tv,l,i,h,g,s⟩))) k
end
theorem Spec.Q0o{b:Nat}{m:Mx}{P:Program}{f:FuncId}{args:List Value}{pre:List Assn}{post:List Assn→Value→List Assn→Prop}{md:Bool}(h:W6 m→Spec P f args (MI b m::pre) post md):Spec P f args (MI b m::pre) post md:=by
 intro Γ w a;obtain⟨_,_,_,_,_,q1,_⟩:=a.head;exact h q1 Γ w a
def K7(m:Mx)(z:Int):Bool:=decide (0≤z)&&decide (z<m.N)
def Ko(m:Mx)(z:Int):Bool:=decide (0≤z)&&decide (z<m.R)
theorem Lo(b:Nat)(m:Mx)(z:Int):Spec Tryz.prog 69 [.pointer (some ⟨b,0,none⟩),.int .i64 z] [MI b m] fun Γ v f=>v=.bool (K7 m z)∧f=MI b m::Γ:=by
 refine Zbd Tryz.func69 rfl Tryz.ntmps69 fun w0 Γ=>Zsh ?_;refine S.Hi b m fun mb tv l c d e=>(ZY 8 (ZY 5 ?_))
 refine Zb 11 ef (fun a=>?_) (fun a=>?_)
 ·refine ZY 8 (ZY 2 (S.Wj (b:=b) (m:=m) (mb:=mb) (tv:=tv) rfl rfl rfl c d e ?_));exact Zf ef Zq (⟨by simp only[Vt,K7];simp[*],rfl⟩)
 ·refine ZY 8 (ZY 2 (S.Wj (b:=b) (m:=m) (mb:=mb) (tv:=tv) rfl rfl rfl c d e ?_));exact Zf ef Zq (⟨by simp only[Vt,K7];simp[*],rfl⟩)
theorem Qkd(b:Nat)(m:Mx)(z:Int):Spec Tryz.prog 126 [.pointer (some ⟨b,0,none⟩),.int .i64 z] [MI b m] fun Γ v f=>v=.bool (Ko m z)∧f=MI b m::Γ:=by
 refine Zbd Tryz.func126 rfl Tryz.ntmps126 fun w0 Γ=>Zsh ?_;refine S.Hi b m fun mb tv l c d e=>(ZY 8 (ZY 5 ?_))
 refine Zb 11 ef (fun a=>?_) (fun a=>?_)
 ·refine ZY 8 (ZY 2 (S.Wj (b:=b) (m:=m) (mb:=mb) (tv:=tv) rfl rfl rfl c d e ?_));exact Zf ef Zq (⟨by simp only[Vt,Ko];simp[*],rfl⟩)
 ·refine ZY 8 (ZY 2 (S.Wj (b:=b) (m:=m) (mb:=mb) (tv:=tv) rfl rfl rfl c d e ?_));exact Zf ef Zq (⟨by simp only[Vt,Ko];simp[*],rfl⟩)
theorem Qfx(b:Nat)(m:Mx)(j:Nat):Spec Tryz.prog 63 [.pointer (some ⟨b,0,none⟩),.int .u32 (j:Int)] [MI b m] fun Γ v e=>v=.bool (look m.js j).isSome∧e=MI b m::Γ:=by
 refine Zbd Tryz.func63 rfl Tryz.ntmps63 fun w0 Γ=>Zsh ?_;refine S.Hi b m fun mb tv l c d g=>?_;have f:=L7 c.Y4 d j
 have a:∃r s,((look m.js j).map jbV).getD (.agg #[.int .i64 0,.int .u16 0])=.agg #[.int .i64 r,.int .u16 s]:=by
  cases look m.js j with
  | none=>exact⟨0,0,rfl⟩
  | some x=>exact⟨_,_,rfl⟩
 obtain⟨jr,jn,a⟩:=a;refine ZY 8 (ZY 3 ?_);refine Zv (M1 (.agg #[.int .i64 jr,.int .u16 jn]) ((look m.js j).isSome) Tryz.underlying117 Tryz.underlying31 Tryz.Qj3.h rfl rfl rfl (by rw[f];cases h:look m.js j with|none=>rw[h]at a;exact Prod.ext a.symm rfl|some x=>rw[h]at a;exact Prod.ext a.symm rfl)) (ZY 3 (Zp (S.alloc Tryz.Qjg.h rfl ?_)));intro i;refine Zp (Zs ef ef (cs':=[_,_]) ef (ZY 8 (S.Wj (b:=b) (m:=m) (mb:=mb) (tv:=tv) rfl rfl rfl c d g ?_)));exact Zf ef Zq (⟨rfl,rfl⟩)
def Mx.Fw(m:Mx)(i:Nat)(on:Bool):Mx:={m with up:=if on then m.up ||| BitVec.twoPow 16 i else m.up &&& ~~~BitVec.twoPow 16 i}
theorem W6.Fw{m:Mx}(h:W6 m){i:Nat}(b:i<m.N)(on:Bool):W6 (m.Fw i on):=by
 refine⟨h.R1,h.R8,h.N1,h.Ra,fun q a=>?_,h.Y4,h.P3,h.Rx,h.row,h.some,h.ns,h.dis⟩;simp only[Mx.Fw]at a ⊢;cases on with
 | true=>
  rw[Qh rfl,Qdk,E2,Te,Z5,Zz,Zz]at a
  rcases a with a|⟨_,a⟩
  ·exact h.up q a
  ·omega
 | false=>
  rw[Qe Qp,C2,Z5]at a;exact h.up q a.1
def upR(m:Mx)(z:Int)(on:Bool):Int×Mx:=if K7 m z then (0,m.Fw z.toNat on) else (1,m)
theorem Ue{m:Mx}{z:Int}:K7 m z=true↔0≤z∧z<m.N:=by simp[K7]
theorem Uk{m:Mx}{z:Int}:Ko m z=true↔0≤z∧z<m.R:=by simp[Ko]
theorem Q14(b:Nat)(m:Mx)(z:Int)(on:Bool):Spec Tryz.prog 36 [.pointer (some ⟨b,0,none⟩),.int .i64 z,.bool on] [MI b m] fun j v k=>v=.int .i64 (upR m z on).1∧k=MI b (upR m z on).2::j:=by
 refine Zbd Tryz.func36 rfl Tryz.ntmps36 fun n j=>Zsh (ZY 8 (ZY 4 (ZF ef (ZY 4 (Zp (Zcp Ze (Lo b m z) (ZY 3 ?_)))))))
 refine Zi ef (fun h=>?_) (fun h=>?_)
 ·have d:K7 m z=false:=by simpa using h
  have c:upR m z on=(1,m):=by simp[upR,d]
  refine ZY 5 ?_;exact Zf ef Zq (⟨by rw[c];rfl,by rw[c]⟩)
 ·have d:K7 m z=true:=by simpa using h
  have o:=Ue.1 d;refine S.Hi b m fun mb tv l a e f=>?_;have p:=a.Ra;refine ZY 5 ?_
  refine Zi ef (fun g=>?_) (fun g=>?_)
  ·subst g;have c:upR m z true=(0,m.Fw z.toNat true):=by simp[upR,d]
   refine Zd ([blk b 124 (mxC m mb tv).toArray]) [9] (Zra 0 9) (ZY 5 ?_);refine Zw ef (Qmv (z.toNat) rfl rfl Qb Qb) ?_;refine Zw ef (Qw5 (m.up) (BitVec.twoPow 16 z.toNat) rfl rfl (rfl) (rfl)) (ZY 2 ?_);refine Z1 (i:=9) ef ef ?_;refine(S.store (cs':=[_,_,_,_,_]) Eo.h rfl rfl rfl rfl rfl ?_);refine ZL ([]) [] ?_;refine ZD (ZY 5 ?_);first|refine S.Wj (b:=b) (m:=m.Fw z.toNat true) (mb:=mb) (tv:=tv) rfl rfl rfl (a.Fw Qb _) e f ?_|refine S.Wj (b:=b) (m:=m.Fw z.toNat false) (mb:=mb) (tv:=tv) rfl rfl rfl (a.Fw Qb _) e f ?_
   exact Zf ef Zq (⟨by rw[c];rfl,by rw[c]⟩)
  ·subst g;have c:upR m z false=(0,m.Fw z.toNat false):=by simp[upR,d]
   refine Zd ([blk b 124 (mxC m mb tv).toArray]) [9] (Zra 0 9) (ZY 5 ?_);refine Zw ef (Qmv (z.toNat) rfl rfl Qb Qb) ?_;refine Zw ef (Qb6 (m.up) (BitVec.twoPow 16 z.toNat) rfl rfl (rfl) (rfl)) (ZY 2 ?_);refine Z1 (i:=9) ef ef ?_;refine(S.store (cs':=[_,_,_,_,_]) Eo.h rfl rfl rfl rfl rfl ?_);refine ZL ([]) [] ?_;refine ZD (ZY 5 ?_);first|refine S.Wj (b:=b) (m:=m.Fw z.toNat true) (mb:=mb) (tv:=tv) rfl rfl rfl (a.Fw Qb _) e f ?_|refine S.Wj (b:=b) (m:=m.Fw z.toNat false) (mb:=mb) (tv:=tv) rfl rfl rfl (a.Fw Qb _) e f ?_
   exact Zf ef Zq (⟨by rw[c];rfl,by rw[c]⟩)
def Ji(m:Mx)(z:Int):Bool:=K7 m z&&m.up.getLsbD z.toNat
theorem Qoe(b:Nat)(m:Mx)(z:Int):Spec Tryz.prog 70 [.pointer (some ⟨b,0,none⟩),.int .i64 z] [MI b m] fun d v e=>v=.bool (Ji m z)∧e=MI b m::d:=by
 refine Spec.Q0o fun c=>?_;refine Zbd Tryz.func70 rfl Tryz.ntmps70 fun h d=>Zsh ?_;have j:=c.Ra;refine ZY 8 (Zp (Zcp Ze (Lo b m z) (Zy ?_)))
 refine Zbb 8 ef (fun a=>?_) (fun a=>?_)
 ·have i:=Ue.1 a;refine S.Hi b m fun mb tv l c f g=>(ZY 5 (Zg ef ef ef (Zcp Ze (Qrd m.up z.toNat z Qb Qb) (S.Wj (b:=b) (m:=m) (mb:=mb) (tv:=tv) rfl rfl rfl c f g (ZY 4 ?_)))));exact Zf ef Zq (⟨by simp only[Vt,Ji,a];rfl,rfl⟩)
 ·refine ZY 8 (ZY 2 ?_);exact Zf ef Zq (⟨by simp only[Vt,Ji,a];rfl,rfl⟩)
theorem Zk7(b:Nat)(m:Mx)(x:Jb)(g:∀y∈m.js,y.id≠x.id)(z:1≤x.id)(w:x.id≤4294967295)(h:x.row<m.R)(v:x.ns≠0#16)(u:∀i,x.ns.getLsbD i=true→i<m.N)(t:tk m.js x.row &&& x.ns=0#16) :
  Spec Tryz.prog 148 [.pointer (some ⟨b,0,none⟩),.int .u32 (x.id:Int),jbV x] [MI b m] fun f _ k=>k=MI b (m.add x)::f:=by
 refine Zbd Tryz.func148 rfl Tryz.ntmps148 fun B f=>Zsh ?_;refine S.Hi b m fun mb tv l d n A=>?_;refine S.Q7 tv (by have:=d.R1;omega) fun D C c p E o=>?_;have s:=d.R8;have a:=Q99 x m.js
 have Yr:(tks m).set x.row (bsv (tk m.js x.row ||| x.ns))=tks (m.add x):=by
  have:=Qwj (m:=m) (m':=m.add x) (r:=x.row) rfl fun q _=>by
   show tk (Mg x m.js) q=_;rw[a]
   by_cases e:x.row=q
   ·subst e;rw[Qh rfl,Qh rfl];exact(a _).trans (Qh rfl) |>.symm
   ·rw[Qe e,Qe e]
  rw[←this];show _=(tks m).set x.row (bsv (tk (Mg x m.js) x.row));rw[a,Qh rfl]
 refine ZY 2 (Zp (S.box (cs:=[_,_]) rfl rfl rfl ?_));intro j;refine ZY 2 ?_;refine Zd ([blk b 124 (mxC m mb tv).toArray,blk j 121 #[.int .i64 (x.row:Int),bsv x.ns],Qz mb .u32 l]) [6] (Zra 0 6) (ZY 6 ?_);refine Z1 (i:=6) ef ef ?_;refine(S.mapUpdate Tryz.underlying117 Tryz.underlying31 rfl rfl rfl rfl ?_);refine ZL ([]) [] ?_;refine ZD ?_;refine Zd ([blk b 124 (mxC m mb tv).toArray,blk j 121 #[.int .i64 (x.row:Int),bsv x.ns],own tv 119 1 (tks m)]) [12] (Zra 0 12) (ZY 6 ?_);refine Zw ef (Zx (x.row) ef (c) ef Qb) ?_;refine Zw ef (Zo (tv) (x.row) ef (c) (Bd h)) (ZY 2 ?_);refine Zw ef (Qw5 (tk m.js x.row) (x.ns) rfl rfl (rfl) (rfl)) ?_;refine Zw ef (Zx (x.row) ef (c) ef Qb) ?_;refine Z1 (i:=12) ef ef ?_;refine(S.Xa (tv) (x.row) Eo.h rfl rfl rfl c (by first|rfl|exact Xr _ _ _|omega) (by rw[Bc];omega) (Yr) ?_);refine ZL ([]) [] ?_;refine ZD (S.Wj (b:=b) (m:=m.add x) (mb:=mb) (tv:=tv) rfl rfl rfl (d.add g z w h v u t) (Q4f n g) A ?_);exact Zfn ef Zq (rfl)
def ofR(m:Mx)(j:Nat):Int×List Nat×Bool:=match look m.js j with
 | some x=>((x.row:Int),lst x.ns,true)
 | none=>(0,[],false)
theorem Es{m:Mx}{j:Nat}{x:Jb}(h:look m.js j=some x):ofR m j=((x.row:Int),lst x.ns,true):=by simp only[ofR,h]
theorem Qaf{m:Mx}{j:Nat}(h:look m.js j=none):ofR m j=(0,[],false):=by simp only[ofR,h]
theorem Zj0(b:Nat)(m:Mx)(j:Nat){W:World}(q:Dx W):Spec Tryz.prog 25 [.pointer (some ⟨b,0,none⟩),.int .u32 (j:Int)] [MI b m,Wo W] fun f v e=>∃sv:SV,v=.tuple #[.int .i64 (ofR m j).1,sv.v,.bool (ofR m j).2.2]∧sv.n=(ofR m j).2.1.length ∧
  e=own sv 3 1 (nds (ofR m j).2.1)::MI b m::Wo W::f:=by
 refine Zbd Tryz.func25 rfl Tryz.ntmps25 fun p f=>Zsh (ZY 8 (ZY 6 (Zg ef ef ef (Zcp Ze (Qfx b m j) (ZY 3 ?_)))))
 refine Zi ef (fun d=>?_) (fun d=>?_)
 ·have k:look m.js j=none:=by cases h:look m.js j with|none=>rfl|some x=>rw[h]at d;cases d
  refine ZY 7 ?_;rw[show S _ p=S _ p from rfl];refine S.Qs (Δ:=own SV.nil 3 1 (nds (ofR m j).2.1)::MI b m::Wo W::f) (by rw[Qaf k];exact Ent.Xb _ _) ?_;exact Zf ef Zq (⟨SV.nil,by rw[Qaf k];rfl,by rw[Qaf k];rfl,rfl⟩)
 ·obtain⟨x,a⟩:∃x,look m.js j=some x:=by cases h:look m.js j with|none=>rw[h]at d;cases d|some x=>exact⟨x,rfl⟩
  refine S.Hi b m fun mb tv l c g r=>?_;have s:=L7 c.Y4 g j;refine ZY 8 ?_;refine Zv (Qx (jbV x) Tryz.underlying117 Tryz.underlying31 Tryz.Qj3.h rfl rfl rfl (by rw[s,a];rfl)) (Zp (S.alloc Tryz.Qjg.h rfl ?_));intro n;refine Zp (Zs ef ef (cs':=[_,_]) ef (ZY 2 ?_));refine Zd ([blk n 121 #[.int .i64 (x.row:Int),bsv x.ns],Wo W]) [4] [] ?_;refine ZP 0 [2,3] ef (Qw8 Eo.h rfl) ef (ZY 2 ?_)
  refine Z2 (i:=1) (j:=4) ef ef ef ?_ ?_
  ·refine(S.q (Gl Eo.h rfl rfl) rfl rfl ?_);refine Zk [] ?_;refine Z1 (i:=4) ef ef ?_;refine  (Zc1 Ze (Q5o x.ns q) ?_);rintro v e ⟨sv,rfl,o,rfl⟩;refine ZL ([blk n 121 #[.int .i64 (x.row:Int),bsv x.ns]]) [5,6,7] (ZY 3 ?_);refine ZD (Zy (S.Wj (b:=b) (m:=m) (mb:=mb) (tv:=tv) rfl rfl rfl c g r ?_));exact Zf ef Zq (⟨sv,by rw[Es a];rfl,by rw[Es a];exact o,by rw[Es a]⟩)
  ·refine  (Zc1 Ze (Q5o x.ns q) ?_);rintro v e ⟨sv,rfl,o,rfl⟩;refine ZL ([blk n 121 #[.int .i64 (x.row:Int),bsv x.ns]]) [1,5,6,7] (ZY 4 ?_);refine ZD (Zy (S.Wj (b:=b) (m:=m) (mb:=mb) (tv:=tv) rfl rfl rfl c g r ?_));exact Zf ef Zq (⟨sv,by rw[Es a];rfl,by rw[Es a];exact o,by rw[Es a]⟩)
def Ma(m:Mx)(z:Int):Nat:=if Ko m z then (lst (m.free z.toNat)).length else 0
theorem Zj6(b:Nat)(m:Mx)(z:Int):Spec Tryz.prog 149 [.pointer (some ⟨b,0,none⟩),.int .i64 z] [MI b m] fun f v g=>v=.int .i64 (Ma m z:Nat)∧g=MI b m::f:=by
 refine Zbd Tryz.func149 rfl Tryz.ntmps149 fun o f=>Zsh (ZY 8 (Zy (Zp (Zcp Ze (Qkd b m z) (ZY 2 ?_)))))
 refine Zi ef (fun e=>?_) (fun e=>?_)
 ·have c:Ko m z=false:=by simpa using e
  refine ZY 5 ?_;exact Zf ef Zq (⟨by simp only[Vt,Ma,c];rfl,rfl⟩)
 ·have c:Ko m z=true:=by simpa using e
  have r:=Uk.1 c;refine S.Hi b m fun mb tv l d h n=>?_;refine S.Q7 tv Qb fun q p a k s j=>(ZY 2 ?_);refine Zd ([blk b 124 (mxC m mb tv).toArray,own tv 119 1 (tks m)]) [12] (Zra 0 12) (ZY 8 (Zy ?_));refine Zw ef (Zx (z.toNat) ef (a) ef Qb (Qb)) ?_;refine Zw ef (Zo (tv) (z.toNat) ef (a) (Bd (show z.toNat<m.R by omega))) ?_;refine Zw ef (Qb6 (m.up) (tk m.js z.toNat) rfl rfl (rfl) (rfl)) ?_;refine Z1 (i:=12) ef ef ?_;refine  (Zcp Ze (Qn4 (m.free z.toNat)) ?_);refine ZL ([]) [13] (Zy ?_);refine ZD (Zy (S.Wj (b:=b) (m:=m) (mb:=mb) (tv:=tv) rfl rfl rfl d h n ?_));exact Zf ef Zq (⟨by simp only[Vt,Ma,c];rfl,rfl⟩)
theorem Qvg(b:Nat)(m:Mx):Spec Tryz.prog 119 [.pointer (some ⟨b,0,none⟩)] [MI b m] fun c v d=>v=.tuple #[.int .i64 (m.R:Int),.int .i64 (m.N:Int)]∧d=MI b m::c:=by
 refine Zbd Tryz.func119 rfl Tryz.ntmps119 fun g c=>Zsh ?_;refine S.Hi b m fun mb tv l a e f=>(ZY 8 (ZY 3 (ZF ef (ZY 2 ?_))));refine Zd0 (Zra 0 10) (ZY 8 (ZY 2 ?_));refine ZD (Zy (S.Wj (b:=b) (m:=m) (mb:=mb) (tv:=tv) rfl rfl rfl a e f ?_));exact Zf ef Zq (⟨rfl,rfl⟩)
def Xj(m:Mx)(j:Nat):Int×Mx:=if (look m.js j).isSome then (0,m.del j) else (6,m)
theorem T2{m:Mx}{j:Nat}(h:look m.js j=none):Xj m j=(6,m):=by simp[Xj,h]
theorem Mz{m:Mx}{j:Nat}{x:Jb}(h:look m.js j=some x):Xj m j=(0,m.del j):=by simp[Xj,h]
theorem Qr7(b:Nat)(m:Mx)(j:Nat):Spec Tryz.prog 94 [.pointer (some ⟨b,0,none⟩),.int .u32 (j:Int)] [MI b m] fun g v s=>v=.int .i64 (Xj m j).1∧s=MI b (Xj m j).2::g:=by
 refine Zbd Tryz.func94 rfl Tryz.ntmps94 fun D g=>Zsh (ZY 8 (ZY 4 (Zg ef ef ef (Zcp Ze (Qfx b m j) (ZY 3 ?_)))))
 refine Zi ef (fun d=>?_) (fun d=>?_)
 ·have n:look m.js j=none:=by cases h:look m.js j with|none=>rfl|some x=>rw[h]at d;cases d
  refine ZY 5 ?_;exact Zf ef Zq (⟨by rw[T2 n];rfl,by rw[T2 n]⟩)
 ·obtain⟨x,f⟩:∃x,look m.js j=some x:=by cases h:look m.js j with|none=>rw[h]at d;cases d|some x=>exact⟨x,rfl⟩
  refine S.Hi b m fun mb tv l a k C=>?_;have w:=L7 a.Y4 k j;obtain⟨p,A⟩:=J6 f;have B:=a.row x p;have y:=a.R8;refine S.Q7 tv Qb fun F E c u G t=>?_
  have Yr:(tks m).set x.row (bsv (tk m.js x.row &&& ~~~x.ns))=tks (m.del j):=by
   have o:∀q,tk (m.del j).js q=if x.row=q then tk m.js q &&& ~~~x.ns else tk m.js q:=fun q=>by
    have:=Qwk a p q;rw[A]at this;exact this
   have:=Qwj (m:=m) (m':=m.del j) (r:=x.row) rfl fun q _=>by
    by_cases e:x.row=q
    ·subst e;rw[Qh rfl]
    ·rw[o q,Qe e,Qe e]
   rw[←this,o,Qh rfl]
  refine ZY 8 ?_;refine Zv (Qx (jbV x) Tryz.underlying117 Tryz.underlying31 Tryz.Qj3.h rfl rfl rfl (by rw[w,f];rfl)) (Zp (S.alloc Tryz.Qjg.h rfl ?_));intro z;refine Zp (Zs ef ef (cs':=[_,_]) ef (ZY 2 ?_));refine Zd ([blk b 124 (mxC m mb tv).toArray,blk z 121 #[.int .i64 (x.row:Int),bsv x.ns],own tv 119 1 (tks m)]) [12] (Zra 0 12) (ZY 6 ?_);refine Zw ef (Zx (x.row) ef (c) ef Qb) ?_;refine Zw ef (Zo (tv) (x.row) ef (c) (Bd B)) (ZY 2 ?_);refine Zw ef (Qb6 (tk m.js x.row) (x.ns) rfl rfl (rfl) (rfl)) ?_;refine Zw ef (Zx (x.row) ef (c) ef Qb) ?_;refine Z1 (i:=12) ef ef ?_;refine(S.Xa (tv) (x.row) Eo.h rfl rfl rfl c (by first|rfl|exact Xr _ _ _|omega) (by rw[Bc];omega) (Yr) ?_);refine ZL ([]) [] ?_;refine ZD (ZY 7 (Zp (S.Gz Tryz.underlying117 Tryz.underlying31 rfl rfl rfl (ZY 6 (S.Wj (b:=b) (m:=m.del j) (mb:=mb) (tv:=tv) rfl rfl rfl (a.del j) (Q7u a.Y4 k j) C ?_)))));exact Zf ef Zq (⟨by rw[Mz f];rfl,by rw[Mz f]⟩)
def H0(m:Mx)(z:Int):Nat→Option Nat
 | 0=>none
 | i+1=>match H0 m z i with
  | some r=>some r
  | none=>if tk m.js ((z+1+i) % m.R).toNat=0#16 then none else some ((z+1+i) % m.R).toNat
def Xh(m:Mx)(z:Int):Int×Bool:=match H0 m (if Ko m z then z else -1) m.R with
 | some r=>((r:Int),true)
 | none=>(0,false)
theorem Lr{m:Mx}{z:Int}{r:Nat}:∀ {k i:Nat},H0 m z i=some r→i≤k→H0 m z k=some r
 | 0,i,h,a=>by rwa [show i=0 by omega]at h
 | k+1,i,h,a=>by
  by_cases e:i=k+1
  ·rwa [e]at h
  ·rw[H0,Lr h Qb]
theorem Zj1(b:Nat)(m:Mx)(z:Int):Spec Tryz.prog 88 [.pointer (some ⟨b,0,none⟩),.int .i64 z] [MI b m] fun p v A=>v=.tuple #[.int .i64 (Xh m z).1,.bool (Xh m z).2]∧A=MI b m::p:=by
 refine Zbd Tryz.func88 rfl Tryz.ntmps88 fun K p=>Zsh ?_;obtain⟨a,c⟩:∃a,a=if Ko m z then z else -1:=⟨_,rfl⟩
 refine ZY 8 (ZY 3 (ZF ef (ZY 6 (Zp (Zcp Ze (Qkd b m z) (ZY 2 ?_))))))
 refine Zc (fun d f=>d=[(0,.pointer (some ⟨b,0,none⟩)),(1,.int .i64 a)]∧f=MI b m::p) ?_ ?_
 ·refine Zi ef (fun u=>?_) (fun u=>?_)
  ·have s:Ko m z=false:=by simpa using u
   rw[s]at c;refine ZY 3 ?_;first|(subst c;exact S.meet ⟨rfl,rfl⟩ ⟨rfl,rfl,trivial⟩ Sub.Qs)
  ·have s:Ko m z=true:=by simpa using u
   rw[s]at c;refine Zy ?_;first|(subst c;exact S.meet ⟨rfl,rfl⟩ ⟨rfl,rfl,trivial⟩ Sub.Qs)
 ·rintro d f ⟨rfl,rfl⟩;refine S.Hi b m fun mb tv l g x y=>?_;have G:=g.R8;have H:=g.R1
  have B:-1≤a∧a < m.R:=by
   rw[c]
   by_cases h:Ko m z=true
   ·rw[Qh h];have:=Uk.1 h;omega
   ·rw[Qe h];omega
  refine S.Q7 tv Qb fun M L n D N C=>(ZY 8 (ZY 2 ?_));refine Zl (fun k d f=>∃i:Nat,k=m.R-i∧i≤m.R∧H0 m a i=none∧d=[(0,.pointer (some ⟨b,0,none⟩)),(1,.int .i64 a),(17,.int .i64 m.R),(18,.int .i64 i)]∧f=blk b 124 (mxC m mb tv).toArray::Qz mb .u32 l::own tv 119 1 (tks m)::p) (m:=_) (⟨0,rfl,Qb,rfl,rfl,rfl⟩) ?_;rintro k d f ⟨i,E,F,j,rfl,rfl⟩;refine ZY 5 ?_
  refine Zj ef (fun I=>?_) (fun I=>?_)
  ·have o:(((a+1+i) % m.R).toNat:Int)=(a+1+i) % m.R:=Int.toNat_of_nonneg (Qv8 _ Qb);have J:((a+1+i) % m.R)<m.R:=Int.emod_lt_of_pos _ Qb;refine ZY 8 (ZY 3 (Zv (Za ef ef) (Zy (Zv (Bm rfl rfl (Xy Qb Qb)) (ZY 4 ?_)))));refine Zv (Rt rfl rfl (⟨Qb,Qb⟩)) (ZY 8 (Zy (Zv (Zx (((a+1+i) % m.R).toNat) ef (n) ef Qb (o.symm)) ?_)));refine Zv (Zo (tv) (((a+1+i) % m.R).toNat) ef (n) (Bd (show ((a+1+i) % m.R).toNat<m.R by omega))) (ZY 2 ?_)
   refine Zj ef (fun t=>?_) (fun t=>?_)
   ·have r:H0 m a (i+1)=some ((a+1+i) % m.R).toNat:=by
     rw[H0,j];exact Qe fun e=>t (Ej.2 e)
    have w:Xh m z=((a+1+i) % m.R,true):=by
     unfold Xh;rw[←c,Lr r (show i+1≤m.R by omega)];exact Z3 (fun q:Int=>(q,true)) o
    refine ZY 7 (S.Wj (b:=b) (m:=m) (mb:=mb) (tv:=tv) rfl rfl rfl g x y ?_);exact Zf ef Zq (⟨by rw[w];rfl,rfl⟩)
   ·have r:H0 m a (i+1)=none:=by
     rw[H0,j];exact Qh (Ej.1 (W7 t))
    refine ZY 2 (Zv (Za ef ef) (ZY 2 ?_));exact ZX (k-1) (⟨i+1,Qb,Qb,r,rfl,rfl⟩) Qb
  ·have w:Xh m z=(0,false):=by
    rw[show i=m.R by omega]at j;unfold Xh;rw[←c,j]
   refine ZY 7 (S.Wj (b:=b) (m:=m) (mb:=mb) (tv:=tv) rfl rfl rfl g x y ?_);exact Zf ef Zq (⟨by rw[w];rfl,rfl⟩)
def mx0(R N:Nat):Mx:=⟨R,N,mask N,[]⟩
theorem Qna{R N:Nat}(h1:1≤R)(h2:R≤8)(h3:1≤N)(h4:N≤16):W6 (mx0 R N) where
 R1:=h1
 R8:=h2
 N1:=h3
 Ra:=h4
 up:=fun i hi=>(Q47 h4 i).1 hi
 Y4:=List.Pairwise.nil
 P3:=fun _ h=>by cases h
 Rx:=fun _ h=>by cases h
 row:=fun _ h=>by cases h
 some:=fun _ h=>by cases h
 ns:=fun _ h=>by cases h
 dis:=fun _ h=>by cases h
theorem Qds(R N:Nat):X8 [Value.int .u16 0] R=tks (mx0 R N):=by
 have e:tks (mx0 R N)=List.replicate R (Value.int .u16 0):=by
  refine List.eq_replicate_iff.2 ⟨Bc _,fun v a=>?_⟩;obtain⟨r,_,rfl⟩:=Qq.1 a;rfl
 rw[e];induction R with
 | zero=>rfl
 | succ R b=>rw[X8,b (by
   refine List.eq_replicate_iff.2 ⟨Bc _,fun v a=>?_⟩;obtain⟨r,_,rfl⟩:=Qq.1 a;rfl),Qdh];rfl
theorem Zns(R N:Nat)(k:1≤R)(h:R≤8)(l:1≤N)(n:N≤16):Spec Tryz.prog 35 [.int .i64 (R:Int),.int .i64 (N:Int)] [] fun o v p=>∃b,v=.tuple #[.pointer (some ⟨b,0,none⟩),.int .i64 0]∧p=MI b (mx0 R N)::o:=by
 refine Zbd Tryz.func35 rfl Tryz.ntmps35 fun r o=>Zsh (ZY 8 (ZY 3 ?_))
 refine Zb 8 ef (fun f=>?_) (fun f=>?_)
 ·omega
 ·refine ZY 4 ?_
  refine Zb 12 ef (fun e=>?_) (fun e=>?_)
  ·omega
  ·refine ZY 4 ?_
   refine Zb 16 ef (fun c=>?_) (fun c=>?_)
   ·omega
   ·refine ZY 4 ?_
    refine Zj ef (fun q=>?_) (fun q=>?_)
    ·omega
    ·refine ZY 2 ?_;refine Zd ([]) [] [0,1,2,3,4,6] (ZY 3 ?_);refine Zw ef (Qmv (N) rfl rfl (rfl) (n)) ?_;refine Zw ef (Qw3 (BitVec.twoPow 16 N) rfl rfl rfl) (Zy ?_)
     refine Z2 (i:=5) (j:=7) ef ef ef ?_ ?_
     ·refine(S.makeMap .u32 rfl ?_);intro g;refine Zk [] ?_;refine Z1 (i:=7) ef ef ?_;refine(S.makeSlice (R) (R) Tryz.underlying122 Tryz.Qnr.h rfl rfl rfl rfl rfl (Q1 _) Qb rfl ?_);intro tv d;refine Zk [8] ?_;refine Zw ef (Ye (pvs:=[(_,_),(_,_),(_,_),(_,_),(_,_)]) [_,_,_,_,_] Tryz.z124.h Tryz.Zlf.h ⟨⟨rfl,rfl⟩,⟨rfl,rfl⟩,⟨rfl,rfl⟩,⟨rfl,rfl⟩,⟨rfl,rfl⟩,trivial⟩ rfl) ?_;refine Z1 (i:=9) ef ef ?_;refine(S.box (cs:=[_,_,_,_,_]) rfl rfl rfl ?_);intro a;refine Zk [10,11] (ZY 2 ?_);refine ZD (Zy ?_);refine S.Wj (b:=a) (m:=mx0 R N) (mb:=g) (tv:=tv) (by rw[Qdt N n];rfl) rfl (by rw[Qds R N]) (Qna k h l n) (.refl _) d ?_;exact Zf ef Zq (⟨a,rfl,rfl⟩)
     ·refine(S.makeSlice (R) (R) Tryz.underlying122 Tryz.Qnr.h rfl rfl rfl rfl rfl (Q1 _) Qb rfl ?_);intro tv d;refine Zk [] ?_;refine Z1 (i:=5) ef ef ?_;refine(S.makeMap .u32 rfl ?_);intro g;refine Zk [8] ?_;refine Zw ef (Ye (pvs:=[(_,_),(_,_),(_,_),(_,_),(_,_)]) [_,_,_,_,_] Tryz.z124.h Tryz.Zlf.h ⟨⟨rfl,rfl⟩,⟨rfl,rfl⟩,⟨rfl,rfl⟩,⟨rfl,rfl⟩,⟨rfl,rfl⟩,trivial⟩ rfl) ?_;refine Z1 (i:=9) ef ef ?_;refine(S.box (cs:=[_,_,_,_,_]) rfl rfl rfl ?_);intro a;refine Zk [10,11] (ZY 2 ?_);refine ZD (Zy ?_);refine S.Wj (b:=a) (m:=mx0 R N) (mb:=g) (tv:=tv) (by rw[Qdt N n];rfl) rfl (by rw[Qds R N]) (Qna k h l n) (.refl _) d ?_;exact Zf ef Zq (⟨a,rfl,rfl⟩)
def Hr(m:Mx)(l:List Int):Nat→Bool
 | 0=>true
 | i+1=>Hr m l i&&K7 m (l.getD i 0)&&(decide (i=0) || decide (l.getD (i-1) 0<l.getD i 0))
abbrev nats(l:List Int):List Nat:=l.map Int.toNat
theorem Qm9{m:Mx}{l:List Int}:∀ {k i:Nat},Hr m l k=true→i≤k→Hr m l i=true
 | 0,i,h,a=>by rwa [show i=0 by omega]
 | k+1,i,h,a=>by
  by_cases e:i=k+1
  ·rwa [e]
  ·rw[Hr,Z5,Z5]at h;exact Qm9 h.1.1 Qb
theorem P0{m:Mx}{l:List Int}{k i:Nat}(h:Hr m l k=true)(a:i<k):K7 m (l.getD i 0)=true∧(0<i→l.getD (i-1) 0<l.getD i 0):=by
 have:=Qm9 h (show i+1≤k by omega);rw[Hr,Z5,Z5,E2,Zz,Zz]at this;exact⟨this.1.2,fun h0=>this.2.resolve_left Qb⟩
theorem D0{m:Mx}{l:List Int}(h:Hr m l l.length=true):(nats l).Pairwise (· < ·)∧∀i∈nats l,i<m.N:=by
 have g:∀d i,i+d<l.length→l.getD i 0≤l.getD (i+d) 0∧(0<d→l.getD i 0<l.getD (i+d) 0):=by
  intro d;induction d with
  | zero=>intro i _;exact⟨Int.le_refl _,fun h=>Qb⟩
  | succ d n=>
   intro i a;have f:=n i Qb;have b:=(P0 h (i:=i+d+1) Qb).2 Qb;rw[show i+d+1-1=i+d by omega]at b;show l.getD i 0≤l.getD (i+d+1) 0∧(0<d+1→l.getD i 0<l.getD (i+d+1) 0);exact⟨Qb,fun _=>Qb⟩
 constructor
 ·refine Jy.2 fun i j a c p=>?_;simp only[Qo]at a c;have f:=(g (j-i) i Qb).2 Qb;rw[show i+(j-i)=j by omega]at f;have b:=Ue.1 (P0 h (i:=i) a).1;have r:=Ue.1 (P0 h (i:=j) c).1;simp only[List.getElem_map];simp only[List.getD,Ju a,Ju c,Tf]at f b r;omega
 ·intro i a;obtain⟨z,o,rfl⟩:=Qq.1 a;obtain⟨q,k,e⟩:=Pq o;have b:=Ue.1 (P0 h (i:=q) k).1;simp only[List.getD,Ju k,Tf,e]at b;omega
def Vv(m:Mx)(j:Nat)(z:Int)(l:List Int):Bool:=decide ((j:Int)≠0)&&Ko m z&&decide ((l.length:Int) > 0)
def Uc(m:Mx)(j:Nat)(z:Int)(l:List Int):Int×Mx:=
 if (Vv m j z l&&Hr m l l.length)=false then (1,m)
 else if (look m.js j).isSome then (7,m)
 else if tk m.js z.toNat &&& ofL (nats l)≠0#16 then (15,m)
 else (0,m.add ⟨j,z.toNat,ofL (nats l)⟩)
theorem Qtj{m:Mx}(c:W6 m){l:List Int}(h0:0<l.length)(h:Hr m l l.length=true):lst (ofL (nats l))=nats l∧ofL (nats l)≠0#16∧∀i,(ofL (nats l)).getLsbD i=true→i<m.N:=by
 obtain⟨d,b⟩:=D0 h;have e:lst (ofL (nats l))=nats l:=Qne d fun i a=>by have:=b i a;have:=c.Ra;omega
 refine⟨e,fun e2=>?_,fun i a=>b i (by rw[←e];exact Vw.2 a)⟩;rw[e2,Ay]at e;have:=Z3 List.length e;simp at this;omega
theorem Qxa{m:Mx}(b:W6 m){j:Nat}(g:j≤4294967295)(z:Int)(l:List Int):W6 (Uc m j z l).2:=by
 unfold Uc
 by_cases a:(Vv m j z l&&Hr m l l.length)=false
 ·rw[Qh a];exact b
 rw[Qe a];have a:(Vv m j z l&&Hr m l l.length)=true:=by simpa using a
 rw[Z5,Vv,Z5,Z5,Zz,Zz]at a;obtain⟨⟨⟨q1,q2⟩,q3⟩,d⟩:=a;cases h:look m.js j with
 | some x=>exact b
 | none=>
  simp only[Option.isSome_none,Qot,Td]
  by_cases c:tk m.js z.toNat &&& ofL (nats l)≠0#16
  ·rw[Qh c];exact b
  rw[Qe c];obtain⟨i,f,e⟩:=Qtj b Qb d;have k:=Uk.1 q2;exact b.add (D2 h) (by show 1≤j;omega) g (by show z.toNat<m.R;omega) f e (W7 c)
theorem Q8v(b:Nat)(m:Mx)(j:Nat)(z:Int)(R:Assn)(s:SV)(l:List Int)(Jq:s.n=l.length)(U:RdS R s s.n 1 (ints l))(hj:j≤4294967295):Spec Tryz.prog 116 [.pointer (some ⟨b,0,none⟩),.int .u32 (j:Int),.int .i64 z,s.v] [MI b m,R] fun G v Θ=>
  v=.int .i64 (Uc m j z l).1∧Θ=MI b (Uc m j z l).2::R::G:=by
 refine Spec.Q0o fun E=>?_;refine Zbd Tryz.func116 rfl Tryz.ntmps116 fun w0 G=>Zsh ?_;refine S.T6 U fun _ a5 a6=>?_;have L5:=E.Ra;refine ZY 8 (ZY 2 (ZF ef (ZY 2 ?_)))
 refine Zc (fun u w=>∃p,u=[(0,.pointer (some ⟨b,0,none⟩)),(1,.int .u32 (j:Int)),(2,.int .i64 z),(3,s.v),(9,.pointer (some ⟨p,0,none⟩)),(10,.bool (Vv m j z l))]∧w=blk p 121 #[.int .i64 z,.int .u16 0]::MI b m::R::G) ?_ ?_
 ·refine ZY 2 ?_;refine Zv (Ye (pvs:=[(_,_)]) [_,_] Tryz.Qjg.h Tryz.Zpa.h ⟨⟨rfl,rfl⟩,trivial⟩ rfl) (ZY 3 ?_)
  refine Zb 19 ef (fun k=>?_) (fun k=>?_)
  ·refine ZY 2 (Zg ef ef ef (Zcp Ze (Qkd b m z) (ZY 2 ?_)))
   refine Zbb 24 ef (fun g=>?_) (fun g=>?_)
   ·refine ZY 4 (Zp (S.alloc Tryz.Qjg.h rfl ?_));intro p;refine Zp (Zs ef ef (cs':=[_,_]) ef (ZY 2 ?_));have n:Vv m j z l=(decide ((j:Int)≠0)&&Ko m z&&decide ((s.n:Int) > 0)):=by rw[Vv,Jq]
    first|(have e:Vv m j z l=decide ((0:Int)<s.n):=(by rw[n,Zh k,g];rfl) ;rw[e] ;exact S.meet ⟨p,rfl,rfl⟩ ⟨rfl,rfl,rfl,rfl,rfl,rfl,trivial⟩ Sub.Qs)|(have e:Vv m j z l=false:=(by rw[n,g];simp) ;rw[e] ;exact S.meet ⟨p,rfl,rfl⟩ ⟨rfl,rfl,rfl,rfl,rfl,rfl,trivial⟩ Sub.Qs)|(have e:Vv m j z l=false:=(by rw[n,Q6 k];rfl) ;rw[e] ;exact S.meet ⟨p,rfl,rfl⟩ ⟨rfl,rfl,rfl,rfl,rfl,rfl,trivial⟩ Sub.Qs)
   ·refine ZY 4 (Zp (S.alloc Tryz.Qjg.h rfl ?_));intro p;refine Zp (Zs ef ef (cs':=[_,_]) ef (ZY 2 ?_));have n:Vv m j z l=(decide ((j:Int)≠0)&&Ko m z&&decide ((s.n:Int) > 0)):=by rw[Vv,Jq]
    first|(have e:Vv m j z l=decide ((0:Int)<s.n):=(by rw[n,Zh k,g];rfl) ;rw[e] ;exact S.meet ⟨p,rfl,rfl⟩ ⟨rfl,rfl,rfl,rfl,rfl,rfl,trivial⟩ Sub.Qs)|(have e:Vv m j z l=false:=(by rw[n,g];simp) ;rw[e] ;exact S.meet ⟨p,rfl,rfl⟩ ⟨rfl,rfl,rfl,rfl,rfl,rfl,trivial⟩ Sub.Qs)|(have e:Vv m j z l=false:=(by rw[n,Q6 k];rfl) ;rw[e] ;exact S.meet ⟨p,rfl,rfl⟩ ⟨rfl,rfl,rfl,rfl,rfl,rfl,trivial⟩ Sub.Qs)
  ·refine ZY 8 (Zy (Zp (S.alloc Tryz.Qjg.h rfl ?_)));intro p;refine Zp (Zs ef ef (cs':=[_,_]) ef (ZY 2 ?_));have n:Vv m j z l=(decide ((j:Int)≠0)&&Ko m z&&decide ((s.n:Int) > 0)):=by rw[Vv,Jq]
   first|(have e:Vv m j z l=decide ((0:Int)<s.n):=(by rw[n,Zh k,g];rfl) ;rw[e] ;exact S.meet ⟨p,rfl,rfl⟩ ⟨rfl,rfl,rfl,rfl,rfl,rfl,trivial⟩ Sub.Qs)|(have e:Vv m j z l=false:=(by rw[n,g];simp) ;rw[e] ;exact S.meet ⟨p,rfl,rfl⟩ ⟨rfl,rfl,rfl,rfl,rfl,rfl,trivial⟩ Sub.Qs)|(have e:Vv m j z l=false:=(by rw[n,Q6 k];rfl) ;rw[e] ;exact S.meet ⟨p,rfl,rfl⟩ ⟨rfl,rfl,rfl,rfl,rfl,rfl,trivial⟩ Sub.Qs)
 ·rintro u w ⟨p,rfl,rfl⟩;show S _ w0 _ (blk p 121 #[.int .i64 z,bsv 0#16]::MI b m::R::G) _;refine ZY 8 ?_;refine Zl (fun q u w=>∃(i:Nat) (bs:Bs) (rt:Bool),q=l.length-i∧i≤l.length∧rt=(Vv m j z l&&Hr m l i)∧(rt=true→bs=ofL (nats (l.take i)))∧u=[(0,.pointer (some ⟨b,0,none⟩)),(1,.int .u32 (j:Int)),(2,.int .i64 z),(3,s.v),(9,.pointer (some ⟨p,0,none⟩)),(10,.bool rt),(29,s.v),(30,.int .i64 s.n),(31,.int .i64 i)]∧w=blk p 121 #[.int .i64 z,bsv bs]::MI b m::R::G) (m:=_) (⟨0,0#16,Vv m j z l,rfl,Qb,(Qov _).symm,fun _=>rfl,rfl,rfl⟩) ?_;rintro q u w ⟨i,bs,rt,a2,a3,d,M,rfl,rfl⟩;refine ZY 5 ?_
  refine Zj ef (fun h2=>?_) (fun h2=>?_)
  ·refine S.Ao U Qb fun sb so W=>?_;obtain⟨x,T⟩:=Xs (show i<l.length by omega);have Q:l.getD i 0=x:=by simp[List.getD,T]
   refine ZY 6 (Zv (Zx (i) ef (W) ef Qb) (Zv (Bl U i Eo.h rfl W Qb Qb (Lz T)) (ZY 4 ?_)))
   refine Zc (fun u w=>∃H,H=(Vv m j z l&&Hr m l (i+1))∧u=[(0,.pointer (some ⟨b,0,none⟩)),(1,.int .u32 (j:Int)),(2,.int .i64 z),(3,s.v),(9,.pointer (some ⟨p,0,none⟩)),(10,.bool H),(12,.int .i64 x),(29,s.v),(30,.int .i64 s.n),(31,.int .i64 i)]∧w=blk p 121 #[.int .i64 z,bsv bs]::MI b m::R::G) ?_ ?_
   ·refine ZY 3 ?_
    refine Zbb 37 ef (fun a=>?_) (fun a=>?_)
    ·refine ZY 2 (Zg ef ef ef (Zcp Ze (Lo b m x) (ZY 2 ?_)))
     refine Zbb 42 ef (fun c=>?_) (fun c=>?_)
     ·refine ZY 3 ?_
      refine Zb 45 ef (fun f=>?_) (fun f=>?_)
      ·refine ZY 8 (ZY 3 ?_)
       have t:(Vv m j z l&&Hr m l (i+1))=(Vv m j z l&&Hr m l i&&K7 m x&&(decide ((i:Int)=0) || decide (l.getD (i-1) 0<x))):=by
        rw[Hr,Q,←Po,←Po];have e:decide (i=0)=decide ((i:Int)=0):=Wn.2 Qb;rw[e]
       first|exact S.meet ⟨_,(by rw[t,←d,a,c,Zh f];rfl),rfl,rfl⟩ ⟨rfl,rfl,rfl,rfl,rfl,rfl,rfl,rfl,rfl,rfl,trivial⟩ Sub.Qs|exact S.meet ⟨_,(by rw[t,←d,a,c,Q6 f,B];rfl),rfl,rfl⟩ ⟨rfl,rfl,rfl,rfl,rfl,rfl,rfl,rfl,rfl,rfl,trivial⟩ Sub.Qs|exact S.meet ⟨_,(by rw[t,←d,a,c];rfl),rfl,rfl⟩ ⟨rfl,rfl,rfl,rfl,rfl,rfl,rfl,rfl,rfl,rfl,trivial⟩ Sub.Qs|exact S.meet ⟨_,(by rw[t,←d,a];rfl),rfl,rfl⟩ ⟨rfl,rfl,rfl,rfl,rfl,rfl,rfl,rfl,rfl,rfl,trivial⟩ Sub.Qs
      ·obtain⟨y,hy⟩:=Xs (show i-1<l.length by omega);have B:l.getD (i-1) 0=y:=by simp[List.getD,hy]
       refine ZY 3 (Zvg ef ef ef (Zm ef ef) (Zvg ef ef ef (Zx (i-1) ef (W) ef Qb (Qb)) (Zvg ef ef ef (Bl U (i-1) Eo.h rfl W Qb Qb (Lz hy)) (ZY 5 ?_))))
       have t:(Vv m j z l&&Hr m l (i+1))=(Vv m j z l&&Hr m l i&&K7 m x&&(decide ((i:Int)=0) || decide (l.getD (i-1) 0<x))):=by
        rw[Hr,Q,←Po,←Po];have e:decide (i=0)=decide ((i:Int)=0):=Wn.2 Qb;rw[e]
       first|exact S.meet ⟨_,(by rw[t,←d,a,c,Zh f];rfl),rfl,rfl⟩ ⟨rfl,rfl,rfl,rfl,rfl,rfl,rfl,rfl,rfl,rfl,trivial⟩ Sub.Qs|exact S.meet ⟨_,(by rw[t,←d,a,c,Q6 f,B];rfl),rfl,rfl⟩ ⟨rfl,rfl,rfl,rfl,rfl,rfl,rfl,rfl,rfl,rfl,trivial⟩ Sub.Qs|exact S.meet ⟨_,(by rw[t,←d,a,c];rfl),rfl,rfl⟩ ⟨rfl,rfl,rfl,rfl,rfl,rfl,rfl,rfl,rfl,rfl,trivial⟩ Sub.Qs|exact S.meet ⟨_,(by rw[t,←d,a];rfl),rfl,rfl⟩ ⟨rfl,rfl,rfl,rfl,rfl,rfl,rfl,rfl,rfl,rfl,trivial⟩ Sub.Qs
     ·refine ZY 8 (ZY 6 ?_)
      have t:(Vv m j z l&&Hr m l (i+1))=(Vv m j z l&&Hr m l i&&K7 m x&&(decide ((i:Int)=0) || decide (l.getD (i-1) 0<x))):=by
       rw[Hr,Q,←Po,←Po];have e:decide (i=0)=decide ((i:Int)=0):=Wn.2 Qb;rw[e]
      first|exact S.meet ⟨_,(by rw[t,←d,a,c,Zh f];rfl),rfl,rfl⟩ ⟨rfl,rfl,rfl,rfl,rfl,rfl,rfl,rfl,rfl,rfl,trivial⟩ Sub.Qs|exact S.meet ⟨_,(by rw[t,←d,a,c,Q6 f,B];rfl),rfl,rfl⟩ ⟨rfl,rfl,rfl,rfl,rfl,rfl,rfl,rfl,rfl,rfl,trivial⟩ Sub.Qs|exact S.meet ⟨_,(by rw[t,←d,a,c];rfl),rfl,rfl⟩ ⟨rfl,rfl,rfl,rfl,rfl,rfl,rfl,rfl,rfl,rfl,trivial⟩ Sub.Qs|exact S.meet ⟨_,(by rw[t,←d,a];rfl),rfl,rfl⟩ ⟨rfl,rfl,rfl,rfl,rfl,rfl,rfl,rfl,rfl,rfl,trivial⟩ Sub.Qs
    ·refine ZY 8 (ZY 8 (ZY 3 ?_))
     have t:(Vv m j z l&&Hr m l (i+1))=(Vv m j z l&&Hr m l i&&K7 m x&&(decide ((i:Int)=0) || decide (l.getD (i-1) 0<x))):=by
      rw[Hr,Q,←Po,←Po];have e:decide (i=0)=decide ((i:Int)=0):=Wn.2 Qb;rw[e]
     first|exact S.meet ⟨_,(by rw[t,←d,a,c,Zh f];rfl),rfl,rfl⟩ ⟨rfl,rfl,rfl,rfl,rfl,rfl,rfl,rfl,rfl,rfl,trivial⟩ Sub.Qs|exact S.meet ⟨_,(by rw[t,←d,a,c,Q6 f,B];rfl),rfl,rfl⟩ ⟨rfl,rfl,rfl,rfl,rfl,rfl,rfl,rfl,rfl,rfl,trivial⟩ Sub.Qs|exact S.meet ⟨_,(by rw[t,←d,a,c];rfl),rfl,rfl⟩ ⟨rfl,rfl,rfl,rfl,rfl,rfl,rfl,rfl,rfl,rfl,trivial⟩ Sub.Qs|exact S.meet ⟨_,(by rw[t,←d,a];rfl),rfl,rfl⟩ ⟨rfl,rfl,rfl,rfl,rfl,rfl,rfl,rfl,rfl,rfl,trivial⟩ Sub.Qs
   ·rintro u w ⟨H,P,rfl,rfl⟩;refine ZY 4 ?_
    refine Zi ef (fun C=>?_) (fun C=>?_)
    ·subst C;have C:=P.symm;rw[Z5]at C;have X:=Ue.1 (P0 C.2 (show i<i+1 by omega)).1;rw[Q]at X;have A:=M (by rw[d,C.1,Qm9 C.2 (show i≤i+1 by omega)];rfl);refine Zd ([blk p 121 #[.int .i64 z,bsv bs]]) [6] (Zra 0 6) (ZY 3 ?_);refine Zw ef (Qmv (x.toNat) rfl rfl Qb Qb) ?_;refine Zw ef (Qw5 (bs) (BitVec.twoPow 16 x.toNat) rfl rfl (rfl) (rfl)) (Zy ?_);refine Z1 (i:=6) ef ef ?_;refine(S.store (cs':=[_,_]) Eo.h rfl rfl rfl rfl rfl ?_);refine ZL ([]) [] ?_;refine ZD (Zy (Zv (Za ef ef) (ZY 2 ?_)));first|(have F:bs ||| BitVec.twoPow 16 x.toNat=ofL (nats (l.take (i+1))):=(by rw[X2,T,A];simp only[Qv0,Vc,Qha];simp[ofL]) ;exact ZX (q-1) ⟨i+1,bs ||| BitVec.twoPow 16 x.toNat,true,Qb,Qb,P,fun _=>F,rfl,rfl⟩ Qb)|exact ZX (q-1) ⟨i+1,bs,H,Qb,Qb,P,fun h=>(by rw[C]at h;cases h),rfl,rfl⟩ Qb
    ·refine ZY 2 (Zv (Za ef ef) (ZY 2 ?_));first|(have F:bs ||| BitVec.twoPow 16 x.toNat=ofL (nats (l.take (i+1))):=(by rw[X2,T,A];simp only[Qv0,Vc,Qha];simp[ofL]) ;exact ZX (q-1) ⟨i+1,bs ||| BitVec.twoPow 16 x.toNat,true,Qb,Qb,P,fun _=>F,rfl,rfl⟩ Qb)|exact ZX (q-1) ⟨i+1,bs,H,Qb,Qb,P,fun h=>(by rw[C]at h;cases h),rfl,rfl⟩ Qb
  ·have Y:i=l.length:=Qb
   subst Y;refine ZY 8 (Zy ?_)
   refine Zi ef (fun V=>?_) (fun V=>?_)
   ·have hp:Uc m j z l=(1,m):=by rw[Uc,←d,Qh (by simpa using V)]
    refine ZY 5 ?_;exact Zf ef Zq (⟨by rw[hp];rfl,by rw[hp]⟩)
   ·have D:(Vv m j z l&&Hr m l l.length)=true:=by rw[←d];simpa using V
    have A:=M (by simpa using V);have K:=D;rw[Wh]at A;rw[Z5,Vv,Z5,Z5,Zz,Zz]at D;obtain⟨⟨⟨q1,q2⟩,q3⟩,q4⟩:=D;have hr:=Uk.1 q2;obtain⟨r,rfl⟩:∃r:Nat,z=r:=⟨z.toNat,Qb⟩;obtain⟨p1,p2,p3⟩:=Qtj E (show 0<l.length by omega) q4;rw[←A]at p1 p2 p3
    have o:Uc m j r l=if (look m.js j).isSome then (7,m) else if tk m.js r &&& bs≠0#16 then (15,m) else (0,m.add ⟨j,r,bs⟩):=by
     rw[Uc,K,Qe Qp,←A,K0]
    refine ZY 4 (Zp (Zcp Ze (Qfx b m j) (ZY 2 ?_)))
    refine Zi ef (fun N=>?_) (fun N=>?_)
    ·rw[Qh N]at o;refine ZY 5 ?_;exact Zf ef Zq (⟨by rw[o];rfl,by rw[o]⟩)
    ·rw[Qe (by rw[N];decide)]at o;have Fv:look m.js j=none:=by cases h:look m.js j with|none=>rfl|some x=>rw[h]at N;cases N
     refine S.Hi b m fun mb tv lm O L Aa=>?_;have a4:=E.R8;refine S.Q7 tv Qb fun tb tf J a1 Bt a0=>(Zy ?_);refine Zd0 (Zra 0 12) (ZY 5 ?_);refine Zw ef (Zx (r) ef (J) ef Qb) ?_;refine Zw ef (Zo (tv) (r) ef (J) (Bd (show r<m.R by omega))) (ZY 2 ?_);refine Zw ef (Qb7 (tk m.js r) (bs) rfl rfl (rfl) (rfl)) (ZY 2 ?_);refine ZD ?_
     refine Zj ef (fun Z=>?_) (fun Z=>?_)
     ·rw[Qh (fun e=>Z (Ej.2 e))]at o;refine ZY 5 (S.Wj (b:=b) (m:=m) (mb:=mb) (tv:=tv) rfl rfl rfl O L Aa ?_);exact Zf ef Zq (⟨by rw[o];rfl,by rw[o]⟩)
     ·have I:tk m.js r &&& bs=0#16:=Ej.1 (W7 Z);rw[Qe (fun h=>h I)]at o;refine S.Wj (b:=b) (m:=m) (mb:=mb) (tv:=tv) rfl rfl rfl O L Aa (ZY 6 ?_);refine Zp (Zc1 Ze (Zk7 b m ⟨j,r,bs⟩ (D2 Fv) (show 1≤j by omega) hj (show r<m.R by omega) p2 p3 I) ?_);rintro v Θ rfl;refine ZY 6 ?_;exact Zf ef Zq (⟨by rw[o];rfl,by rw[o]⟩)
open Go.Sort (SWO putCells putRow mapBlock grow onCells flatK HoldsK putRowK)
theorem Qfi{w a:World}(c:Below w.heap.size w a)(k:w.drawn≤a.drawn):∃q b,a=Sort.grow (w.drewN q) b:=by
 refine⟨a.drawn-w.drawn,a.heap.extract w.heap.size a.heap.size,?_⟩
 have f:a.heap=w.heap++a.heap.extract w.heap.size a.heap.size:=by
  apply Array.ext_getElem?;intro i
  by_cases e:i<w.heap.size
  ·rw[Qy9 e];exact c.block i e
  ·rw[Array.getElem?_append_right Qb,Array.getElem?_extract];have:=c.size
   by_cases j:i<a.heap.size
   ·rw[Qh Qb]
    congr 1
    omega
   ·rw[Qe Qb,Zny Qb]
 have e1:=c.os;have e2:=c.tape;have e3:=c.output;obtain⟨n,m,dr,os,out⟩:=w;obtain⟨h,g,l,b,d⟩:=a;simp only at e1 e2 e3 k f;subst e1 e2 e3;simp only[Sort.grow,World.drewN,World.mk.injEq,B3,R6];exact⟨f,Qb⟩
theorem Qh8{b:Type}[Inhabited b]{a:b→List Value}{k:Nat}(c:∀x,(a x).length=k)(h0:0<k)(d:Array b):(flatK a k d).toList=d.toList.flatMap a:=by
 refine E1 fun j=>?_
 by_cases e:j<d.size*k
 ·have f:j / k<d.size:=Nat.div_lt_of_lt_mul (by rw[Nat.mul_comm];exact e);have h:j % k<k:=Qiz _ h0
  have m:d.toList[j / k]?=some d[j / k]! := by
   rw[Fp d _ f,Pn];exact R3 f
  have l:(a d[j / k]!)[j % k]?=some (a d[j / k]!)[j % k]! := by
   rw[Fp (a d[j / k]!) (j % k) (by rw[c];exact h)];exact Ju _
  have g:=flat_get c m l;rw[Nat.mul_comm,Nat.div_add_mod]at g;rw[g,Pn];have i:=Go.Sort.get_flatK a k d j e;rw[←i,Fp _ _ (by simpa using e)];exact R3 _
 ·rw[Pf (by simp;omega),Pf (by rw[Y1 c];simp;omega)]
theorem B7{off:Nat}{F cur:Array Value}(h:off+F.size≤cur.size):((putCells id off F cur).toList.drop off).take F.size=F.toList:=by
 refine E1 fun j=>?_
 by_cases a:j<F.size
 ·rw[Qi6 a,Qsf,Pn,Pn];unfold putCells;rw[Array.getElem?_mapIdx,R3 (show off+j<cur.size by omega)];simp only[U3];rw[Qh Qb,Q9g,Fp F j a];exact(R3 a).symm
 ·rw[Pf (by simp;omega),Pf (by simp;omega)]
theorem Qf1{c:Type}[Inhabited c]{enc:c→List Value}{k:Nat}{w:World}{b off n:Nat}{d:Array c}{os:Array Obj}{a:Array Value}{e:TypeId}(g:Blk w b e a):Blk (sortWorldK enc k w b off n d os) b e (putCells id off (flatK enc k d) a) ∧
  Keeps (fun i=>i=b) w (sortWorldK enc k w b off n d os):=by
 have j:=g.lt;have h:(putRowK enc k (Sort.ahead w n) b off d).heap.size=w.heap.size:=by simp[putRowK,putRow,mapBlock]
 have hold:∀i,i<w.heap.size→(sortWorldK enc k w b off n d os).heap[i]?=(w.heap.modify b (onCells (putCells id off (flatK enc k d))))[i]?:=fun i f=>by
  show ((putRowK enc k (Sort.ahead w n) b off d).heap++os)[i]?=_;rw[Qy9 (by rw[h];exact f)];rfl
 refine⟨?_,rfl,rfl,rfl,?_,fun i f l=>?_,?_⟩
 ·unfold Blk;rw[hold b j,Qdg,Qh rfl,show w.heap[b]?=some (.cells a e (0,0)) from g];rfl
 ·show w.heap.size≤((putRowK enc k (Sort.ahead w n) b off d).heap++os).size;rw[Qze,h];omega
 ·rw[hold i f,Qdg,Qe (fun e=>l e.symm)]
 ·show w.drawn≤w.drawn+n;omega
theorem S7{P:Program}{p:Go.Shelf.Ren}(L:SlLaysF0.n6 P p){r:Type}[Inhabited r](k:Nat)(aE:∀w,(isAgg (p.t 24)).run P w=.ok true w)(zE:∀w,(Go.sizeOf (p.t 24)).run P w=.ok k w)(enc:r→List Value)(z:∀x,(enc x).length=k)(h0:0<k)(h1:∀x,∀v∈enc x,v.oneCell'=true)
  (cf:r→r→Int) (hO:SWO (Go.Proofs.ltOf cf)) (g:Nat) (eg:∀args w,(callFunc g args).run P w=.ok (.enter g args) w) (Q:∀x y W,J4 P g [.agg (enc x).toArray,.agg (enc y).toArray] W (.int .i64 (cf x y))) (e:TypeId) (s:SV) (l:List r) (hl:l.length<4611686018427387904) :
  Spec P (p.f 6) [s.v,.func (.func g) #[] #[]] [own s e k (l.flatMap enc)] fun R _ Z=>∃I:List r,I.Perm l∧I.Pairwise (fun a b=>Go.Proofs.ltOf cf b a=false)∧Z=own s e k (I.flatMap enc)::R:=by
 intro R w K;obtain⟨x0,H,p0⟩:=K.head;have B:=(p0.mono H).Qj7;have h:=B.1;rw[Y1 z]at h;have D:l.length=s.n:=Nat.eq_of_mul_eq_mul_right h0 h
 by_cases hz:s.n=0
 ·refine(show Calls P (p.f 6) #[.slice s.a s.n s.c,.func (.func g) #[] #[]] w _ from ?_);rw[hz];refine(AnyF.slices_SortFunc_none L s.a s.c _ w).mono ?_;rintro Y S ⟨rfl,rfl⟩;obtain rfl:l=[]:=Ae Qb;exact⟨_,_,rfl,⟨[],.refl _,List.Pairwise.nil,rfl⟩,K,Ext.refl _⟩
 ·rcases B.2 with ⟨_,h3,_⟩|⟨b,off,c,cur,q1,q2,E,T,q5,q6,q7⟩
  ·omega
  ·simp only[SV.v,Value.slice.injEq,B3]at q1;obtain⟨q1,rfl⟩:=q1;have C:l.toArray.size=l.length:=Q2
   have N:(flatK enc k l.toArray).toList=l.flatMap enc:=by rw[Qh8 z h0]
   have A:(flatK enc k l.toArray).size=s.n*k:=by rw[Go.Sort.size_flatK,C,D]
   have a0:s.n*k≤s.c*k:=R5 _ T
   have hH:HoldsK enc k w b off l.toArray:=by
    intro j u;rw[A]at u;refine⟨?_,E.frozen _⟩;rw[E.cell]
    have e1:(l.flatMap enc)[j]?=cur[off+j]?:=by
     rw[←q7,Qi6 u,Qsf,Pn]
    rw[←e1,←N,Pn,Fp _ _ (by rw[A];exact u)];exact R3 _
   have O:CmpLays P g #[] enc k cf b off l.toArray.size w:=fun m os dk _ x y=>by
    refine(pure_run (Q x y (sortWorldK enc k w b off m dk os))).mono ?_;rintro Y S ⟨rfl,hb,hd⟩;obtain⟨q,G,e2⟩:=Qfi hb hd;exact⟨rfl,q,G,e2⟩
   have V:=AnyQ.slices_SortFunc L k aE zE enc z h1 cf hO g #[] b off s.c l.toArray w eg O hH E.lt (by rw[C];exact hl);refine(show Calls P (p.f 6) #[.slice s.a s.n s.c,.func (.func g) #[] #[]] w _ from ?_);rw[q1];rw[C,D]at V;refine V.mono ?_;rintro Y S ⟨rfl,o,nn,os,U,J,rfl⟩;obtain⟨k1,t⟩:=Qf1 (enc:=enc) (k:=k) (off:=off) (n:=nn) (d:=o) (os:=os) E;have f:o.size=s.n:=by rw[U.1,C,D]
   have X:(flatK enc k o).size=s.n*k:=by rw[Go.Sort.size_flatK,f]
   refine⟨_,_,rfl,⟨o.toList,?_,?_,rfl⟩,?_,t.os,t.tape,t.output,t.size,fun _=>t.drawn⟩
   ·have:=U.2.2;rw[←f,Qos,f,show s.n=l.toArray.size by rw[C,D],Qos]at this
    simpa using this
   ·rw[Jy];intro i j hi u M;have:=J i j (Xq _) M (by simpa [f] using u);rw[Fp o i (by simpa using hi),getElem!_pos o j (by simpa using u)]at this
    simpa using this
   ·refine K.Qg5 (b:=b) ⟨?_,.inr ⟨b,off,s.c,_,by simp only[SV.v,q1],rfl,k1,T,q5,?_,?_⟩⟩ (by rw[q1];rfl) t
    ·rw[Y1 z];simp[f]
    ·simp only[putCells,Qvz];exact q6
    ·have:=B7 (off:=off) (F:=flatK enc k o) (cur:=cur) (by rw[X];omega);rw[X,Qh8 z h0]at this;exact this
open Go.Sort (SWO putCells putRow mapBlock grow onCells Holds)
theorem Qmz{c:Type}[Inhabited c](a:c→Value)(off:Nat)(d:List c)(b:Array Value):putCells a off d.toArray b=putCells id off (d.map a).toArray b:=by
 unfold putCells;refine Z3 (fun f=>Array.mapIdx f b) ?_
 funext k x
 have g:(d.map a).toArray.size=d.toArray.size:=Q2
 rw[g]
 split
 ·rename_i h;have e:k-off<d.length:=by have:=h.2;simp at this;omega
  rw[Fp d.toArray (k-off) (by simpa using e),getElem!_pos (d.map a).toArray (k-off) (by simpa using e)];simp
 ·rfl
theorem Nr{c:Type}[Inhabited c]{enc:c→Value}{w:World}{b off n:Nat}{d:Array c}{os:Array Obj}{a:Array Value}{e:TypeId}(g:Blk w b e a):Blk (sortWorld enc w b off n d os) b e (putCells enc off d a) ∧
  Keeps (fun i=>i=b) w (sortWorld enc w b off n d os):=by
 have j:=g.lt;have h:(putRow enc (Sort.ahead w n) b off d).heap.size=w.heap.size:=by simp[putRow,mapBlock]
 have hold:∀i,i<w.heap.size→(sortWorld enc w b off n d os).heap[i]?=(w.heap.modify b (onCells (putCells enc off d)))[i]?:=fun i f=>by
  show ((putRow enc (Sort.ahead w n) b off d).heap++os)[i]?=_;rw[Qy9 (by rw[h];exact f)];rfl
 refine⟨?_,rfl,rfl,rfl,?_,fun i f k=>?_,?_⟩
 ·unfold Blk;rw[hold b j,Qdg,Qh rfl,show w.heap[b]?=some (.cells a e (0,0)) from g];rfl
 ·show w.heap.size≤((putRow enc (Sort.ahead w n) b off d).heap++os).size;rw[Qze,h];omega
 ·rw[hold i f,Qdg,Qe (fun e=>k e.symm)]
 ·show w.drawn≤w.drawn+n;omega
theorem Qr6{P:Program}{z:Go.Shelf.Ren}(L:SlLaysF.n6 P z)(L0:SlLaysF0.n6 P z){o:Type}[Inhabited o](enc:o→Value)(h1:∀x,(enc x).oneCell'=true)
  (cf:o→o→Int) (hO:SWO (Go.Proofs.ltOf cf)) (g:Nat) (cb:List Value) (eg:∀args w,(callFunc g args).run P w=.ok (.enter g args) w) (pre:List Assn)
  (O:∀x y W v,Sat W (pre++v)→J4 P g ([enc x,enc y]++cb) W (.int .i64 (cf x y))) (e:TypeId) (s:SV) (l:List o) (hl:l.length<4611686018427387904) :
  Spec P (z.f 6) [s.v,.func (.func g) #[] cb.toArray] (own s e 1 (l.map enc)::pre) fun v _ V=>∃H:List o,H.Perm l∧H.Pairwise (fun a b=>Go.Proofs.ltOf cf b a=false)∧V=own s e 1 (H.map enc)::(pre++v):=by
 intro v w J;obtain⟨x0,G,p0⟩:=J.head;have B:=(p0.mono G).Qj7;have A:=B.1;rw[Qo,Kz]at A
 by_cases hz:s.n=0
 ·refine(show Calls P (z.f 6) #[.slice s.a s.n s.c,.func (.func g) #[] cb.toArray] w _ from ?_);rw[hz];refine(AnyF.slices_SortFunc_none L0 s.a s.c _ w).mono ?_;rintro U Q ⟨rfl,rfl⟩;obtain rfl:l=[]:=Ae Qb;exact⟨_,_,rfl,⟨[],.refl _,List.Pairwise.nil,rfl⟩,J,Ext.refl _⟩
 ·rcases B.2 with ⟨_,h3,_⟩|⟨b,off,c,cur,q1,q2,C,Z,Y,X,R⟩
  ·omega
  ·simp only[SV.v,Value.slice.injEq,B3]at q1;obtain⟨q1,rfl⟩:=q1;rw[Kz]at X R;have D:l.toArray.size=l.length:=Q2
   have k:∀(m:Nat) (os:Array Obj) (h:Array o),h.size=l.toArray.size→Sat (sortWorld enc w b off m h os) (own s e 1 (h.toList.map enc)::(pre++v)):=fun m os h t=>by
    obtain⟨k1,p⟩:=Nr (enc:=enc) (off:=off) (n:=m) (d:=h) (os:=os) C;have N:(h.toList.map enc).toArray.size=s.n:=by simp[t];omega
    refine Sat.Qg5 (s:=s) (xs:=l.map enc) J (b:=b) ⟨?_,.inr ⟨b,off,s.c,_,by simp only[SV.v,q1],rfl,k1,Z,Y,?_,?_⟩⟩ (by rw[q1];rfl) p
    ·simpa using N
    ·simp only[putCells,Qvz];omega
    ·have e2:=Qmz enc off h.toList cur;rw[Q85]at e2;have:=B7 (off:=off) (F:=(h.toList.map enc).toArray) (cur:=cur) (by rw[N];omega);rw[N]at this;rw[e2,Kz];exact this
   have hH:Holds enc w b off l.toArray:=by
    intro j r;rw[D]at r;refine⟨?_,C.frozen _⟩;rw[C.cell]
    have e1:(l.map enc)[j]?=cur[off+j]?:=by
     rw[←R,Qi6 Qb,Qsf,Pn]
    rw[←e1,Q8,Ju r,Fp l.toArray j (by simpa using r)];simp
   have M:CmpLays1 P g cb.toArray enc cf b off l.toArray.size w:=fun m os h t x y=>by
    have Da:=(k m os h t).Qs (Ent.drop _ _);have ea:#[enc x,enc y]++cb.toArray=([enc x,enc y]++cb).toArray:=Q2
    rw[ea];refine((pure_run (O x y (sortWorld enc w b off m h os) v Da)).mono ?_);rintro U Q ⟨rfl,hb,hd⟩;obtain⟨q,E,e2⟩:=Qfi hb hd;exact⟨rfl,q,E,e2⟩
   have T:=Any.slices_SortFunc L enc h1 cf hO g cb.toArray b off s.c l.toArray w eg M hH C.lt (by rw[D];exact hl);refine(show Calls P (z.f 6) #[.slice s.a s.n s.c,.func (.func g) #[] cb.toArray] w _ from ?_);rw[q1];rw[D,show l.length=s.n by omega]at T;refine T.mono ?_;rintro U Q ⟨rfl,u,nn,os,S,I,rfl⟩;have f:u.size=l.toArray.size:=S.1;obtain⟨_,p⟩:=Nr (enc:=enc) (off:=off) (n:=nn) (d:=u) (os:=os) C
   refine⟨_,_,rfl,⟨u.toList,?_,?_,rfl⟩,k nn os u f,p.os,p.tape,p.output,p.size,fun _=>p.drawn⟩
   ·have:=S.2.2;rw[show s.n=u.size by rw[f,D];omega,Qos,f,Qos]at this
    simpa using this
   ·rw[Jy];intro i j hi r K;have:=I i j (Xq _) K (by simp at r;rw[f,D]at r;omega);rw[Fp u i (by simpa using hi),getElem!_pos u j (by simpa using r)]at this
    simpa using this
end Go.Proofs.YtdackcibfkkniaaGreatDoor
namespace Go.Proofs
open Go.Shelf
def Tryz.Qpn:Go.Shelf.Ren:=⟨fun|6=>127|15=>138|14=>153|28=>165|29=>166|20=>179|21=>180|22=>181|23=>182|24=>183|25=>184|26=>185|27=>186|46=>214|47=>188|48=>189|49=>215|50=>216|57=>240|n=>n,fun|22=>53|24=>31|25=>203|3=>3|39=>215|0=>0|53=>31|55=>225|4=>4|46=>243|45=>242|50=>164|5=>5|9=>9|66=>270|70=>274|76=>293|77=>193|n=>n,fun|n=>n⟩
theorem Tryz.Qwt:Go.Proofs.SlLaysF.n6 Tryz.prog Tryz.Qpn:={
 mixed:=by kernel_rfl
 f6:=⟨Tryz.f127.name,Qp,Tryz.func127.trans Z8⟩
 f14:=⟨Tryz.f153.name,Qp,Tryz.func153.trans Z8⟩
 f15:=Tryz.func138.trans Z8
 f20:=⟨Tryz.f179.name,Qp,Tryz.func179.trans Z8⟩
 f21:=⟨Tryz.f180.name,Qp,Tryz.func180.trans Z8⟩
 f22:=⟨Tryz.f181.name,Qp,Tryz.func181.trans Z8⟩
 f23:=⟨Tryz.f182.name,Qp,Tryz.func182.trans Z8⟩
 f24:=⟨Tryz.f183.name,Qp,Tryz.func183.trans Z8⟩
 f25:=⟨Tryz.f184.name,Qp,Tryz.func184.trans Z8⟩
 f26:=⟨Tryz.f185.name,Qp,Tryz.func185.trans Z8⟩
 f27:=⟨Tryz.f186.name,Qp,Tryz.func186.trans Z8⟩
 f28:=Tryz.func165.trans Z8
 f29:=Tryz.func166.trans Z8
 f46:=⟨Tryz.f214.name,Qp,Tryz.func214.trans Z8⟩
 f47:=Tryz.func188.trans Z8
 f48:=Tryz.func189.trans Z8
 f49:=⟨Tryz.f215.name,Qp,Tryz.func215.trans Z8⟩
 f50:=⟨Tryz.f216.name,Qp,Tryz.func216.trans Z8⟩
 f57:=⟨Tryz.f240.name,Qp,Tryz.func240.trans Z8⟩
 t0:=Tryz.underlying0
 a0:=Tryz.isAgg0
 z0:=Tryz.sizeOf0
 v0:=Tryz.zeroValue0
 t3:=Tryz.underlying3
 a3:=Tryz.isAgg3
 z3:=Tryz.sizeOf3
 v3:=Tryz.zeroValue3
 t4:=Tryz.underlying4
 a4:=Tryz.isAgg4
 z4:=Tryz.sizeOf4
 v4:=Tryz.zeroValue4
 t5:=Tryz.underlying5
 a5:=Tryz.isAgg5
 z5:=Tryz.sizeOf5
 v5:=Tryz.zeroValue5
 t9:=Tryz.underlying9
 a9:=Tryz.isAgg9
 z9:=Tryz.sizeOf9
 v9:=Tryz.zeroValue9
 t22:=Tryz.underlying53
 a22:=Tryz.isAgg53
 z22:=Tryz.sizeOf53
 v22:=Tryz.zeroValue53
 a24:=Tryz.isAgg31
 z24:=Tryz.sizeOf31
 t25:=Tryz.underlying203
 a25:=Tryz.isAgg203
 z25:=Tryz.sizeOf203
 v25:=Tryz.zeroValue203
 t39:=Tryz.underlying215
 a39:=Tryz.isAgg215
 z39:=Tryz.sizeOf215
 v39:=Tryz.zeroValue215
 t45:=Tryz.underlying242
 a45:=Tryz.isAgg242
 z45:=Tryz.sizeOf242
 v45:=Tryz.zeroValue242
 t46:=Tryz.underlying243
 a46:=Tryz.isAgg243
 z46:=Tryz.sizeOf243
 v46:=Tryz.zeroValue243
 t50:=Tryz.underlying164
 a50:=Tryz.isAgg164
 z50:=Tryz.sizeOf164
 v50:=Tryz.zeroValue164
 t53:=Tryz.underlying31
 a53:=Tryz.isAgg31
 z53:=Tryz.sizeOf31
 v53:=Tryz.zeroValue31
 t55:=Tryz.underlying225
 a55:=Tryz.isAgg225
 z55:=Tryz.sizeOf225
 v55:=Tryz.zeroValue225
 t66:=Tryz.underlying270
 a66:=Tryz.isAgg270
 z66:=Tryz.sizeOf270
 v66:=Tryz.zeroValue270
 t70:=Tryz.underlying274
 a70:=Tryz.isAgg274
 z70:=Tryz.sizeOf274
 v70:=Tryz.zeroValue274
 t76:=Tryz.underlying293
 a76:=Tryz.isAgg293
 z76:=Tryz.sizeOf293
 v76:=Tryz.zeroValue293
 t77:=Tryz.underlying193
 a77:=Tryz.isAgg193
 z77:=Tryz.sizeOf193
 v77:=Tryz.zeroValue193}
def Tryz.Qpm:Go.Shelf.Ren:=⟨fun|6=>142|15=>138|14=>169|28=>165|29=>166|20=>193|21=>194|22=>195|23=>196|24=>197|25=>198|26=>199|27=>200|46=>218|47=>188|48=>189|49=>219|50=>220|57=>241|n=>n,fun|22=>184|24=>183|25=>224|3=>3|39=>215|0=>0|53=>31|55=>225|4=>4|46=>243|45=>242|50=>164|5=>5|9=>9|66=>270|70=>274|76=>293|77=>193|n=>n,fun|n=>n⟩
theorem Tryz.Zao:Go.Proofs.SlLaysF0.n6 Tryz.prog Tryz.Qpm:={
 mixed:=by kernel_rfl
 f6:=⟨Tryz.f142.name,Qp,Tryz.func142.trans Z8⟩
 f14:=⟨Tryz.f169.name,Qp,Tryz.func169.trans Z8⟩
 f15:=Tryz.func138.trans Z8
 f20:=⟨Tryz.f193.name,Qp,Tryz.func193.trans Z8⟩
 f21:=⟨Tryz.f194.name,Qp,Tryz.func194.trans Z8⟩
 f22:=⟨Tryz.f195.name,Qp,Tryz.func195.trans Z8⟩
 f23:=⟨Tryz.f196.name,Qp,Tryz.func196.trans Z8⟩
 f24:=⟨Tryz.f197.name,Qp,Tryz.func197.trans Z8⟩
 f25:=⟨Tryz.f198.name,Qp,Tryz.func198.trans Z8⟩
 f26:=⟨Tryz.f199.name,Qp,Tryz.func199.trans Z8⟩
 f27:=⟨Tryz.f200.name,Qp,Tryz.func200.trans Z8⟩
 f28:=Tryz.func165.trans Z8
 f29:=Tryz.func166.trans Z8
 f46:=⟨Tryz.f218.name,Qp,Tryz.func218.trans Z8⟩
 f47:=Tryz.func188.trans Z8
 f48:=Tryz.func189.trans Z8
 f49:=⟨Tryz.f219.name,Qp,Tryz.func219.trans Z8⟩
 f50:=⟨Tryz.f220.name,Qp,Tryz.func220.trans Z8⟩
 f57:=⟨Tryz.f241.name,Qp,Tryz.func241.trans Z8⟩
 t0:=Tryz.underlying0
 a0:=Tryz.isAgg0
 z0:=Tryz.sizeOf0
 v0:=Tryz.zeroValue0
 t3:=Tryz.underlying3
 a3:=Tryz.isAgg3
 z3:=Tryz.sizeOf3
 v3:=Tryz.zeroValue3
 t4:=Tryz.underlying4
 a4:=Tryz.isAgg4
 z4:=Tryz.sizeOf4
 v4:=Tryz.zeroValue4
 t5:=Tryz.underlying5
 a5:=Tryz.isAgg5
 z5:=Tryz.sizeOf5
 v5:=Tryz.zeroValue5
 t9:=Tryz.underlying9
 a9:=Tryz.isAgg9
 z9:=Tryz.sizeOf9
 v9:=Tryz.zeroValue9
 t22:=Tryz.underlying184
 a22:=Tryz.isAgg184
 z22:=Tryz.sizeOf184
 v22:=Tryz.zeroValue184
 t25:=Tryz.underlying224
 a25:=Tryz.isAgg224
 z25:=Tryz.sizeOf224
 v25:=Tryz.zeroValue224
 t39:=Tryz.underlying215
 a39:=Tryz.isAgg215
 z39:=Tryz.sizeOf215
 v39:=Tryz.zeroValue215
 t45:=Tryz.underlying242
 a45:=Tryz.isAgg242
 z45:=Tryz.sizeOf242
 v45:=Tryz.zeroValue242
 t46:=Tryz.underlying243
 a46:=Tryz.isAgg243
 z46:=Tryz.sizeOf243
 v46:=Tryz.zeroValue243
 t50:=Tryz.underlying164
 a50:=Tryz.isAgg164
 z50:=Tryz.sizeOf164
 v50:=Tryz.zeroValue164
 t53:=Tryz.underlying31
 a53:=Tryz.isAgg31
 z53:=Tryz.sizeOf31
 v53:=Tryz.zeroValue31
 t55:=Tryz.underlying225
 a55:=Tryz.isAgg225
 z55:=Tryz.sizeOf225
 v55:=Tryz.zeroValue225
 t66:=Tryz.underlying270
 a66:=Tryz.isAgg270
 z66:=Tryz.sizeOf270
 v66:=Tryz.zeroValue270
 t70:=Tryz.underlying274
 a70:=Tryz.isAgg274
 z70:=Tryz.sizeOf274
 v70:=Tryz.zeroValue274
 t76:=Tryz.underlying293
 a76:=Tryz.isAgg293
 z76:=Tryz.sizeOf293
 v76:=Tryz.zeroValue293
 t77:=Tryz.underlying193
 a77:=Tryz.isAgg193
 z77:=Tryz.sizeOf193
 v77:=Tryz.zeroValue193}
def Tryz.Qpl:Go.Shelf.Ren:=⟨fun|6=>173|15=>138|14=>202|28=>165|29=>166|20=>221|21=>222|22=>223|23=>224|24=>225|25=>226|26=>227|27=>228|46=>242|47=>188|48=>189|49=>243|50=>244|57=>249|n=>n,fun|22=>228|24=>232|25=>260|3=>3|39=>215|0=>0|53=>31|55=>225|4=>4|46=>243|45=>242|50=>164|5=>5|9=>9|66=>270|70=>274|76=>293|77=>193|n=>n,fun|n=>n⟩
theorem Tryz.Zan:Go.Proofs.SlLaysF0.n6 Tryz.prog Tryz.Qpl:={
 mixed:=by kernel_rfl
 f6:=⟨Tryz.f173.name,Qp,Tryz.func173.trans Z8⟩
 f14:=⟨Tryz.f202.name,Qp,Tryz.func202.trans Z8⟩
 f15:=Tryz.func138.trans Z8
 f20:=⟨Tryz.f221.name,Qp,Tryz.func221.trans Z8⟩
 f21:=⟨Tryz.f222.name,Qp,Tryz.func222.trans Z8⟩
 f22:=⟨Tryz.f223.name,Qp,Tryz.func223.trans Z8⟩
 f23:=⟨Tryz.f224.name,Qp,Tryz.func224.trans Z8⟩
 f24:=⟨Tryz.f225.name,Qp,Tryz.func225.trans Z8⟩
 f25:=⟨Tryz.f226.name,Qp,Tryz.func226.trans Z8⟩
 f26:=⟨Tryz.f227.name,Qp,Tryz.func227.trans Z8⟩
 f27:=⟨Tryz.f228.name,Qp,Tryz.func228.trans Z8⟩
 f28:=Tryz.func165.trans Z8
 f29:=Tryz.func166.trans Z8
 f46:=⟨Tryz.f242.name,Qp,Tryz.func242.trans Z8⟩
 f47:=Tryz.func188.trans Z8
 f48:=Tryz.func189.trans Z8
 f49:=⟨Tryz.f243.name,Qp,Tryz.func243.trans Z8⟩
 f50:=⟨Tryz.f244.name,Qp,Tryz.func244.trans Z8⟩
 f57:=⟨Tryz.f249.name,Qp,Tryz.func249.trans Z8⟩
 t0:=Tryz.underlying0
 a0:=Tryz.isAgg0
 z0:=Tryz.sizeOf0
 v0:=Tryz.zeroValue0
 t3:=Tryz.underlying3
 a3:=Tryz.isAgg3
 z3:=Tryz.sizeOf3
 v3:=Tryz.zeroValue3
 t4:=Tryz.underlying4
 a4:=Tryz.isAgg4
 z4:=Tryz.sizeOf4
 v4:=Tryz.zeroValue4
 t5:=Tryz.underlying5
 a5:=Tryz.isAgg5
 z5:=Tryz.sizeOf5
 v5:=Tryz.zeroValue5
 t9:=Tryz.underlying9
 a9:=Tryz.isAgg9
 z9:=Tryz.sizeOf9
 v9:=Tryz.zeroValue9
 t22:=Tryz.underlying228
 a22:=Tryz.isAgg228
 z22:=Tryz.sizeOf228
 v22:=Tryz.zeroValue228
 t25:=Tryz.underlying260
 a25:=Tryz.isAgg260
 z25:=Tryz.sizeOf260
 v25:=Tryz.zeroValue260
 t39:=Tryz.underlying215
 a39:=Tryz.isAgg215
 z39:=Tryz.sizeOf215
 v39:=Tryz.zeroValue215
 t45:=Tryz.underlying242
 a45:=Tryz.isAgg242
 z45:=Tryz.sizeOf242
 v45:=Tryz.zeroValue242
 t46:=Tryz.underlying243
 a46:=Tryz.isAgg243
 z46:=Tryz.sizeOf243
 v46:=Tryz.zeroValue243
 t50:=Tryz.underlying164
 a50:=Tryz.isAgg164
 z50:=Tryz.sizeOf164
 v50:=Tryz.zeroValue164
 t53:=Tryz.underlying31
 a53:=Tryz.isAgg31
 z53:=Tryz.sizeOf31
 v53:=Tryz.zeroValue31
 t55:=Tryz.underlying225
 a55:=Tryz.isAgg225
 z55:=Tryz.sizeOf225
 v55:=Tryz.zeroValue225
 t66:=Tryz.underlying270
 a66:=Tryz.isAgg270
 z66:=Tryz.sizeOf270
 v66:=Tryz.zeroValue270
 t70:=Tryz.underlying274
 a70:=Tryz.isAgg274
 z70:=Tryz.sizeOf274
 v70:=Tryz.zeroValue274
 t76:=Tryz.underlying293
 a76:=Tryz.isAgg293
 z76:=Tryz.sizeOf293
 v76:=Tryz.zeroValue293
 t77:=Tryz.underlying193
 a77:=Tryz.isAgg193
 z77:=Tryz.sizeOf193
 v77:=Tryz.zeroValue193}
def Tryz.Qpk:Go.Shelf.Ren:=⟨fun|6=>177|15=>138|14=>213|28=>165|29=>166|20=>232|21=>233|22=>234|23=>235|24=>236|25=>237|26=>238|27=>239|46=>246|47=>188|48=>189|49=>247|50=>248|57=>250|n=>n,fun|22=>150|24=>152|25=>264|3=>3|39=>215|0=>0|53=>31|55=>225|4=>4|46=>243|45=>242|50=>164|5=>5|9=>9|66=>270|70=>274|76=>293|77=>193|n=>n,fun|n=>n⟩
theorem Tryz.Zam:Go.Proofs.SlLaysF0.n6 Tryz.prog Tryz.Qpk:={
 mixed:=by kernel_rfl
 f6:=⟨Tryz.f177.name,Qp,Tryz.func177.trans Z8⟩
 f14:=⟨Tryz.f213.name,Qp,Tryz.func213.trans Z8⟩
 f15:=Tryz.func138.trans Z8
 f20:=⟨Tryz.f232.name,Qp,Tryz.func232.trans Z8⟩
 f21:=⟨Tryz.f233.name,Qp,Tryz.func233.trans Z8⟩
 f22:=⟨Tryz.f234.name,Qp,Tryz.func234.trans Z8⟩
 f23:=⟨Tryz.f235.name,Qp,Tryz.func235.trans Z8⟩
 f24:=⟨Tryz.f236.name,Qp,Tryz.func236.trans Z8⟩
 f25:=⟨Tryz.f237.name,Qp,Tryz.func237.trans Z8⟩
 f26:=⟨Tryz.f238.name,Qp,Tryz.func238.trans Z8⟩
 f27:=⟨Tryz.f239.name,Qp,Tryz.func239.trans Z8⟩
 f28:=Tryz.func165.trans Z8
 f29:=Tryz.func166.trans Z8
 f46:=⟨Tryz.f246.name,Qp,Tryz.func246.trans Z8⟩
 f47:=Tryz.func188.trans Z8
 f48:=Tryz.func189.trans Z8
 f49:=⟨Tryz.f247.name,Qp,Tryz.func247.trans Z8⟩
 f50:=⟨Tryz.f248.name,Qp,Tryz.func248.trans Z8⟩
 f57:=⟨Tryz.f250.name,Qp,Tryz.func250.trans Z8⟩
 t0:=Tryz.underlying0
 a0:=Tryz.isAgg0
 z0:=Tryz.sizeOf0
 v0:=Tryz.zeroValue0
 t3:=Tryz.underlying3
 a3:=Tryz.isAgg3
 z3:=Tryz.sizeOf3
 v3:=Tryz.zeroValue3
 t4:=Tryz.underlying4
 a4:=Tryz.isAgg4
 z4:=Tryz.sizeOf4
 v4:=Tryz.zeroValue4
 t5:=Tryz.underlying5
 a5:=Tryz.isAgg5
 z5:=Tryz.sizeOf5
 v5:=Tryz.zeroValue5
 t9:=Tryz.underlying9
 a9:=Tryz.isAgg9
 z9:=Tryz.sizeOf9
 v9:=Tryz.zeroValue9
 t22:=Tryz.underlying150
 a22:=Tryz.isAgg150
 z22:=Tryz.sizeOf150
 v22:=Tryz.zeroValue150
 t25:=Tryz.underlying264
 a25:=Tryz.isAgg264
 z25:=Tryz.sizeOf264
 v25:=Tryz.zeroValue264
 t39:=Tryz.underlying215
 a39:=Tryz.isAgg215
 z39:=Tryz.sizeOf215
 v39:=Tryz.zeroValue215
 t45:=Tryz.underlying242
 a45:=Tryz.isAgg242
 z45:=Tryz.sizeOf242
 v45:=Tryz.zeroValue242
 t46:=Tryz.underlying243
 a46:=Tryz.isAgg243
 z46:=Tryz.sizeOf243
 v46:=Tryz.zeroValue243
 t50:=Tryz.underlying164
 a50:=Tryz.isAgg164
 z50:=Tryz.sizeOf164
 v50:=Tryz.zeroValue164
 t53:=Tryz.underlying31
 a53:=Tryz.isAgg31
 z53:=Tryz.sizeOf31
 v53:=Tryz.zeroValue31
 t55:=Tryz.underlying225
 a55:=Tryz.isAgg225
 z55:=Tryz.sizeOf225
 v55:=Tryz.zeroValue225
 t66:=Tryz.underlying270
 a66:=Tryz.isAgg270
 z66:=Tryz.sizeOf270
 v66:=Tryz.zeroValue270
 t70:=Tryz.underlying274
 a70:=Tryz.isAgg274
 z70:=Tryz.sizeOf274
 v70:=Tryz.zeroValue274
 t76:=Tryz.underlying293
 a76:=Tryz.isAgg293
 z76:=Tryz.sizeOf293
 v76:=Tryz.zeroValue293
 t77:=Tryz.underlying193
 a77:=Tryz.isAgg193
 z77:=Tryz.sizeOf193
 v77:=Tryz.zeroValue193}
def Tryz.Qqt:Go.Shelf.Ren:=⟨fun|189=>147|125=>138|257=>175|128=>165|129=>166|294=>203|295=>204|296=>205|297=>206|298=>207|299=>208|216=>209|300=>210|301=>211|328=>229|329=>188|330=>189|331=>230|332=>231|215=>152|343=>245|n=>n,fun|28=>66|3=>3|46=>215|0=>0|51=>31|53=>225|4=>4|183=>243|182=>242|131=>164|5=>5|9=>9|218=>270|222=>274|228=>293|229=>193|n=>n,fun|n=>n⟩
theorem Tryz.Zcg:Go.Proofs.Lays.n189 Tryz.prog Tryz.Qqt:={
 mixed:=by kernel_rfl
 f125:=Tryz.func138.trans Z8
 f128:=Tryz.func165.trans Z8
 f129:=Tryz.func166.trans Z8
 f189:=Tryz.func147.trans Z8
 f215:=Tryz.func152.trans Z8
 f216:=Tryz.func209.trans Z8
 f257:=Tryz.func175.trans Z8
 f294:=Tryz.func203.trans Z8
 f295:=Tryz.func204.trans Z8
 f296:=Tryz.func205.trans Z8
 f297:=Tryz.func206.trans Z8
 f298:=Tryz.func207.trans Z8
 f299:=Tryz.func208.trans Z8
 f300:=Tryz.func210.trans Z8
 f301:=Tryz.func211.trans Z8
 f328:=Tryz.func229.trans Z8
 f329:=Tryz.func188.trans Z8
 f330:=Tryz.func189.trans Z8
 f331:=Tryz.func230.trans Z8
 f332:=Tryz.func231.trans Z8
 f343:=Tryz.func245.trans Z8
 t0:=Tryz.underlying0
 a0:=Tryz.isAgg0
 z0:=Tryz.sizeOf0
 v0:=Tryz.zeroValue0
 t3:=Tryz.underlying3
 a3:=Tryz.isAgg3
 z3:=Tryz.sizeOf3
 v3:=Tryz.zeroValue3
 t4:=Tryz.underlying4
 a4:=Tryz.isAgg4
 z4:=Tryz.sizeOf4
 v4:=Tryz.zeroValue4
 t5:=Tryz.underlying5
 a5:=Tryz.isAgg5
 z5:=Tryz.sizeOf5
 v5:=Tryz.zeroValue5
 t9:=Tryz.underlying9
 a9:=Tryz.isAgg9
 z9:=Tryz.sizeOf9
 v9:=Tryz.zeroValue9
 t28:=Tryz.underlying66
 a28:=Tryz.isAgg66
 z28:=Tryz.sizeOf66
 v28:=Tryz.zeroValue66
 t46:=Tryz.underlying215
 a46:=Tryz.isAgg215
 z46:=Tryz.sizeOf215
 v46:=Tryz.zeroValue215
 t51:=Tryz.underlying31
 a51:=Tryz.isAgg31
 z51:=Tryz.sizeOf31
 v51:=Tryz.zeroValue31
 t53:=Tryz.underlying225
 a53:=Tryz.isAgg225
 z53:=Tryz.sizeOf225
 v53:=Tryz.zeroValue225
 t131:=Tryz.underlying164
 a131:=Tryz.isAgg164
 z131:=Tryz.sizeOf164
 v131:=Tryz.zeroValue164
 t182:=Tryz.underlying242
 a182:=Tryz.isAgg242
 z182:=Tryz.sizeOf242
 v182:=Tryz.zeroValue242
 t183:=Tryz.underlying243
 a183:=Tryz.isAgg243
 z183:=Tryz.sizeOf243
 v183:=Tryz.zeroValue243
 t218:=Tryz.underlying270
 a218:=Tryz.isAgg270
 z218:=Tryz.sizeOf270
 v218:=Tryz.zeroValue270
 t222:=Tryz.underlying274
 a222:=Tryz.isAgg274
 z222:=Tryz.sizeOf274
 v222:=Tryz.zeroValue274
 t228:=Tryz.underlying293
 a228:=Tryz.isAgg293
 z228:=Tryz.sizeOf293
 v228:=Tryz.zeroValue293
 t229:=Tryz.underlying193
 a229:=Tryz.isAgg193
 z229:=Tryz.sizeOf193
 v229:=Tryz.zeroValue193}
def Tryz.Qqs:Go.Shelf.Ren:=⟨fun|264=>144|n=>n,fun|53=>225|46=>215|n=>n,fun|n=>n⟩
theorem Tryz.Zcf:Go.Proofs.Lays.n264 Tryz.prog Tryz.Qqs:={
 mixed:=by kernel_rfl
 f264:=Tryz.func144.trans Z8
 t46:=Tryz.underlying215
 a46:=Tryz.isAgg215
 z46:=Tryz.sizeOf215
 v46:=Tryz.zeroValue215
 t53:=Tryz.underlying225
 a53:=Tryz.isAgg225
 z53:=Tryz.sizeOf225
 v53:=Tryz.zeroValue225}
end Go.Proofs
namespace Go.Proofs.YtdackcibfkkniaaGreatDoor
open Go.RowKit
def Rf(js:List Jb)(j:Nat):Bs:=((look js j).map (·.ns)).getD 0#16
def Hy(m:Mx)(r:Nat):List Jb:=(List.range 16).filterMap fun i=>m.js.find? fun x=>decide (x.row=r)&&decide (tz x.ns=i)
theorem Wx{m:Mx}(d:W6 m){r:Nat}{x:Jb}:x∈Hy m r↔x∈m.js∧x.row=r:=by
 simp only[Hy,List.mem_filterMap,C3]
 constructor
 ·rintro ⟨i,_,a⟩;have b:=List.mem_of_find?_eq_some a;have c:=List.find?_some a;rw[Z5,Zz]at c;exact⟨b,c.1⟩
 ·rintro ⟨b,c⟩;have h:=Gj (d.some x b);refine⟨tz x.ns,M8 h,?_⟩;cases a:m.js.find? fun y=>decide (y.row=r)&&decide (tz y.ns=tz x.ns) with
  | none=>
   have:=List.find?_eq_none.1 a x b;simp[c]at this
  | some y=>
   have g:=List.mem_of_find?_eq_some a;have f:=List.find?_some a;rw[Z5,Zz,Zz]at f;refine Z3 some (W7 fun j=>?_);exact d.dis y g x b (fun e=>j (Ng d.Y4 g b e)) (f.1.trans c.symm) (tz x.ns) (by rw[←f.2];exact Vw.1 (Gj (d.some y g))) (Vw.1 h)
theorem Tx{m:Mx}{r:Nat}:(Hy m r).Pairwise fun a b=>tz a.ns<tz b.ns:=by
 rw[Hy,List.pairwise_filterMap];refine Qwa.imp fun h x f y e=>?_;have d:=List.find?_some f;have c:=List.find?_some e;rw[Z5,Zz,Zz]at d c;rw[d.2,c.2];exact h
theorem Qs8{m:Mx}{r:Nat}:(Hy m r).Nodup:=Tx.imp fun h e=>by rw[e]at h;omega
def Yq(m:Mx)(z:Int):List Nat:=if Ko m z then (Hy m z.toNat).map (·.id) else []
abbrev Yp(l:List Nat):List Value:=l.map fun j:Nat=>Value.int .u32 (j:Int)
def Qux(js:List Jb)(a b:Nat):Int:=(tz (Rf js a):Int)-tz (Rf js b)
theorem ltR(js:List Jb)(a b:Nat):Go.Proofs.ltOf (Qux js) a b=decide (tz (Rf js a)<tz (Rf js b)):=by
 rw[Go.Proofs.ltOf];exact Wn.2 (by unfold Qux;omega)
theorem Q71(js:List Jb):Go.Sort.SWO (Go.Proofs.ltOf (Qux js)) where
 irrefl:=fun x=>by rw[ltR];exact Q6 Qb
 trans:=fun x y z h1 h2=>by rw[ltR]at *;have h1:=U4 h1;have h2:=U4 h2;exact Zh Qb
 ntrans:=fun x y z h1 h2=>by rw[ltR]at *;have h1:=Qi2 h1;have h2:=Qi2 h2;exact Q6 Qb
theorem Zjm(c b e:Nat)(m:Mx)(A:SV)(l:List (Int×Value))(h:W6 m)(E:l.Perm (m.js.map jbE))(x y:Nat){n:World}(k:Dx n)(W:World)(Γ:List Assn)(o:Sat W ([blk c 63 #[.pointer (some ⟨b,0,none⟩)],blk b 124 (mxC m e A).toArray,Qz e .u32 l,Wo n]++Γ)) :
  J4 Tryz.prog 128 ([.int .u32 (x:Int),.int .u32 (y:Int)]++[.pointer (some ⟨c,0,none⟩)]) W (.int .i64 (Qux m.js x y)):=by
 have u:W.cell? ⟨c,0,none⟩=some (.pointer (some ⟨b,0,none⟩)):=by rw[(o.Q5z).cell];rfl
 have v:=o.Qs (Ent.drop _ _);have t:W.cell? ⟨b,0+3,none⟩=some (.map (some e)):=by rw[(v.Q5z).cell];rfl
 have w:=v.Qs (Ent.drop _ _);obtain⟨J,clock,s,q⟩:=w.isMap;have H:=w.Qs (Ent.drop _ _);have p:Dx W:=fun i F=>(Dc.head (Γ:=[]++Γ) (W:=n)).cell H (k i F);have G:=fun j=>L7 h.Y4 E j
 have a:∀j:Nat,∃r:Int,(Yh (j:Int) l).getD (.agg #[.int .i64 0,.int .u16 0])=.agg #[.int .i64 r,bsv (Rf m.js j)]:=fun j=>by
  rw[G j,Rf];cases look m.js j with
  | none=>exact⟨0,rfl⟩
  | some x=>exact⟨_,rfl⟩
 obtain⟨D,g⟩:=a x;obtain⟨C,f⟩:=a y;have I:=Zex (Rf m.js x);have B:=Zex (Rf m.js y);refine Spec.Ht Tryz.func128 rfl Tryz.ntmps128 rfl ?_;intro z d;show S _ z [(0,.int .u32 (x:Int)),(1,.int .u32 (y:Int)),(2,.pointer (some ⟨c,0,none⟩))] (Wo W::d) _;refine ZS (ZY 5 ?_);refine Zd ([Wo W]) [] [0,1,2,3,4,5,6,8,9,10,11,12,13,14] ?_;refine Zw ef (Bk Eo.h rfl u) (ZY 2 ?_);refine Zw ef (Bk Eo.h rfl t) (Zy ?_);refine Zw ef (Qgt l (.agg #[.int .i64 D,bsv (Rf m.js x)]) Tryz.underlying117 Tryz.underlying31 Tryz.Qj3.h rfl rfl rfl s q g.symm) (Zy ?_);refine Zw ef (Bk Eo.h rfl u) (ZY 2 ?_);refine Zw ef (Bk Eo.h rfl t) (Zy ?_);refine Zw ef (Qgt l (.agg #[.int .i64 C,bsv (Rf m.js y)]) Tryz.underlying117 Tryz.underlying31 Tryz.Qj3.h rfl rfl rfl s q f.symm) (Zy ?_);refine Z1 (i:=7) ef ef ?_;refine  (Zcp Ze (Qs0 (Rf m.js x) p) ?_);refine Zk [] ?_;refine Z1 (i:=15) ef ef ?_;refine  (Zcp Ze (Qs0 (Rf m.js y) p) ?_);refine Zk [16,17] ?_;refine Zw ef (Zm ef ef) (Zy ?_);refine ZD (Zy ?_);exact Zf ef Zq (⟨rfl,rfl⟩)
theorem Qai{m:Mx}(b:W6 m){x:Jb}(a:x∈m.js):Rf m.js x.id=x.ns:=by rw[Rf,Ci b.Y4 a];rfl
theorem Qpi{m:Mx}(c:W6 m){r:Nat}{p f:List Nat}(A:f.Perm p)(B:p.Perm ((Hy m r).map (·.id)))(z:f.Pairwise fun a b=>Go.Proofs.ltOf (Qux m.js) b a=false):f=(Hy m r).map (·.id):=by
 have d:=A.trans B;have s:∀j∈f,∃x∈Hy m r,x.id=j:=fun j C=>Qq.1 (d.mem_iff.1 C)
 have D:((Hy m r).map (·.id)).Nodup:=Ww.2 (Tx.imp_of_mem fun {a b} k i h e=>by
  rw[Ng c.Y4 ((Wx c).1 k).1 ((Wx c).1 i).1 e]at h;omega)
 have g:f.Nodup:=d.nodup_iff.2 D
 refine Qoy (le:=fun a b=>tz (Rf m.js a)<tz (Rf m.js b)) (fun a b _ _ l q=>Qb) ?_ ?_ d
 ·refine(z.and g).imp_of_mem fun {a b} k i h=>?_;obtain⟨l,q⟩:=h;rw[ltR]at l;have l:=Qi2 l;obtain⟨x,w,rfl⟩:=s a k;obtain⟨y,v,rfl⟩:=s b i;obtain⟨o,u⟩:=(Wx c).1 w;obtain⟨n,t⟩:=(Wx c).1 v;rw[Qai c o,Qai c n]at l ⊢;refine W7 fun E=>?_;have e:tz x.ns=tz y.ns:=Qb
  exact c.dis x o y n q (u.trans t.symm) (tz x.ns) (Vw.1 (Gj (c.some x o))) (by rw[e];exact Vw.1 (Gj (c.some y n)))
 ·refine Ww.2 (Tx.imp_of_mem fun {a b} k i h=>?_);rw[Qai c ((Wx c).1 k).1,Qai c ((Wx c).1 i).1];exact h
theorem Qrk{m:Mx}(a:W6 m)(r:Nat):(m.js.filter fun x=>decide (x.row=r)).Perm (Hy m r):=
 (Qwb ((a.Y4.imp fun h e=>by rw[e]at h;omega:m.js.Nodup).filter _) Qs8).2 fun x=>by rw[Wx a,Y5,Zz]
theorem Qg3{d o:Type}{f:d→o}{l m:List o}(h:l.Perm m):∀ {js:List d},js.map f=m→∃jl:List d,jl.Perm js∧l=jl.map f:=by
 induction h with
 | nil=>intro js c;exact⟨[],by rw[Fs.1 c],rfl⟩
 | cons x _ p=>
  intro js c;cases js with
  | nil=>cases c
  | cons j js=>
   simp only[Z7,Hw]at c;obtain⟨jl,n,k⟩:=p c.2;exact⟨j::jl,n.cons _,by rw[Z7,c.1,k]⟩
 | swap x y l=>
  intro js c
  match js,c with
  | a::b::js,c=>
   simp only[Z7,Hw]at c;exact⟨b::a::js,.swap _ _ _,by rw[Z7,Z7,c.1,c.2.1,c.2.2]⟩
 | trans _ _ i g=>
  intro js c;obtain⟨jl,n,k⟩:=g c;obtain⟨e,r,q⟩:=i k.symm;exact⟨e,r.trans n,q⟩
theorem Nh{a:Type}{l:List a}{i:Nat}{x:a}(h:l[i]?=some x):l.Perm (x::l.eraseIdx i):=by
 induction l generalizing i with
 | nil=>simp at h
 | cons y l b=>
  cases i with
  | zero=>simp only[Qsi,Km]at h;subst h;exact .refl _
  | succ i=>exact((b (by simpa using h)).cons y).trans (.swap _ _ _)
abbrev Q3t(d b a:Nat)(m:Mx)(c:SV)(l:List (Int×Value))(W:World):List Assn:=[blk d 63 #[.pointer (some ⟨b,0,none⟩)],blk b 124 (mxC m a c).toArray,Qz a .u32 l,Wo W]
theorem Q16(c b d:Nat)(m:Mx)(e:SV)(l:List (Int×Value))(i:W6 m)(o:l.Perm (m.js.map jbE)){W:World}(q:Dx W)(s:SV)(f:List Nat)(p:f.length<4611686018427387904) :
  Spec Tryz.prog 127 [s.v,.func (.func 128) #[] #[.pointer (some ⟨c,0,none⟩)]] (own s 31 1 (Yp f)::Q3t c b d m e l W) fun g _ k=>∃h:List Nat,h.Perm f∧h.Pairwise (fun a b=>Go.Proofs.ltOf (Qux m.js) b a=false)∧k=own s 31 1 (Yp h)::blk c 63 #[.pointer (some ⟨b,0,none⟩)]::blk b 124 (mxC m d e).toArray::Qz d .u32 l::Wo W::g:=
 Qr6 Tryz.Qwt {Tryz.Qwt with} (fun j:Nat=>Value.int .u32 (j:Int)) (fun _=>rfl) (Qux m.js) (Q71 m.js) 128 [.pointer (some ⟨c,0,none⟩)]
  (enters_of Tryz.func128 (by kernel_rfl) rfl) (Q3t c b d m e l W) (fun x y r g n=>Zjm c b d m e l i o x y q r g n) 31 s f p
theorem Qy3(b:Nat)(m:Mx)(z:Int){W:World}(hW:Dx W):Spec Tryz.prog 85 [.pointer (some ⟨b,0,none⟩),.int .i64 z] [MI b m,Wo W] fun D v U=>∃sv:SV,v=sv.v∧sv.n=(Yq m z).length∧U=own sv 31 1 (Yp (Yq m z))::MI b m::Wo W::D:=by
 refine Zbd Tryz.func85 rfl Tryz.ntmps85 fun w0 D=>Zsh (ZY 2 (Zp (S.box (cs:=[_]) rfl rfl rfl ?_)));intro P;refine ZY 7 (Zp (Zcp Ze (Qkd b m z) (ZY 2 ?_)))
 refine Zi ef (fun N=>?_) (fun N=>?_)
 ·have u:Yq m z=[]:=by rw[Yq,show Ko m z=false by simpa using N];rfl
  refine ZY 5 ?_;refine S.Qs (Δ:=own SV.nil 31 1 (Yp (Yq m z))::MI b m::Wo W::D) (by rw[u];exact Sub.Qs.trans (Ent.Xb _ _)) ?_;exact Zf ef Zq (⟨SV.nil,rfl,by rw[u];rfl,rfl⟩)
 ·have t:Ko m z=true:=by simpa using N
  obtain⟨r,rfl⟩:∃r:Nat,z=r:=⟨z.toNat,by have:=Uk.1 t;omega⟩;have u:Yq m r=(Hy m r).map (·.id):=by rw[Yq,Qh t,K0]
  refine S.Hi b m fun mb tv l c E Aa=>?_;have a1:=Q28 m c;obtain⟨K,y,L⟩:=Qg3 E rfl;have Z:l.length=m.js.length:=by rw[E.length_eq,Qo]
  refine ZY 3 (S.Qs (Ent.Xb 31 1) (ZY 8 (Zy (Zp (S.range Tryz.underlying117 rfl rfl ?_)))));intro g;refine ZY 2 ?_;refine Zl (fun k o p=>∃(left:List (Int×Value)) (j:Option (Int×Value)) (jl dn:List Jb) (sv:SV) (n:List Value),k=left.length∧left=jl.map jbE∧(dn++jl.filter fun x=>decide (x.row=r)).Perm (m.js.filter fun x=>decide (x.row=r))∧jl.length+dn.length≤m.js.length∧sv.n=dn.length∧n=Yp (dn.map (·.id)) ∧   o=[(1,.int .i64 (r:Int)),(2,.pointer (some ⟨P,0,none⟩)),(5,sv.v),(16,.pointer (some ⟨g,0,none⟩))]∧p=G3 g mb .u32 l left j::own sv 31 1 n::blk P 63 #[.pointer (some ⟨b,0,none⟩)]::blk b 124 (mxC m mb tv).toArray::own tv 119 1 (tks m)::Wo W::D) (m:=_) (⟨l,none,K,[],SV.nil,[],rfl,L,by simpa using y.filter _,by rw[y.length_eq];simp,rfl,rfl,rfl,rfl⟩) ?_;rintro k o p ⟨left,j,jl,dn,sv,n,hk,G,H,V,T,f,rfl,rfl⟩;refine ZY 2 ?_
  refine Zp (S.Xh rfl rfl (fun Q=>?_) (fun a I J B=>?_))
  ·have hj:jl=[]:=Fs.1 (G.symm.trans Q);subst hj;rw[List.filter_nil,X3]at H;subst f;refine S.conv (G3 g mb .u32 l left j) (Ent.G3 _) (ZY 8 (Zy ?_));refine Zp (Zc1 Ze (Q16 P b mb m tv l c E hW sv (dn.map (·.id)) (by simp;omega)) ?_);rintro v U ⟨l',w,Bt,rfl⟩;have X:=Qpi c (r:=r) w ((H.trans (Qrk c r)).map _) Bt;have R:sv.n=(Yq m r).length:=by rw[u,←X,w.length_eq,Qo,T]
   rw[X,←u];refine ZY 7 (S.Wj (b:=b) (m:=m) (mb:=mb) (tv:=tv) rfl rfl rfl c E Aa ?_);exact Zf ef Zq (⟨sv,rfl,R,rfl⟩)
  ·obtain⟨x,Y,q⟩:∃x,jl[a]?=some x∧jbE x=(I,J):=by
    rw[G,Q8]at B;exact Df.1 B
   simp only[jbE,Hx]at q;obtain⟨rfl,rfl⟩:=q;have i:=Nh Y;have M:=i.length_eq;rw[Ka]at M;have d:(left.eraseIdx a)=(jl.eraseIdx a).map jbE:=by rw[G,Vr]
   have F:(left.eraseIdx a).length<k:=by rw[d,hk,G,Qo,Qo];omega
   refine ZY 8 (Zv (Cf rfl) (ZY 2 (Zp (S.alloc Tryz.Qjg.h rfl ?_))));intro b7;refine Zy (Zp (Zs ef ef (cs':=[_,_]) ef (ZY 8 ?_)))
   refine Zj ef (fun h3=>?_) (fun h3=>?_)
   ·have h:x.row=r:=Qb
    have A:=i.filter (fun x=>decide (x.row=r));rw[Qox (by simpa using h)]at A
    have e:((dn++[x])++(jl.eraseIdx a).filter fun x=>decide (x.row=r)).Perm (m.js.filter fun x=>decide (x.row=r)):=by
     rw[Wb];exact(Qor dn A.symm).trans H
    have a0:(dn++[x]).length=dn.length+1:=Q2
    have C:n++[.int .u32 (x.id:Int)]=Yp ((dn++[x]).map (·.id)):=by rw[f];simp
    refine ZY 3 ?_;refine Zp (S.buildSlice (pvs:=[(_,_)]) [_] Tryz.underlying53 Tryz.H9.h rfl rfl ⟨⟨rfl,rfl⟩,trivial⟩ rfl rfl ?_);intro O;refine Zp (S.Z6 (s:=sv) (1) ([.int .u32 (x.id:Int)]) Tryz.underlying53 Tryz.H9.h rfl rfl rfl (Yb (b:=O) rfl (by unfold maxLen;omega)) (by first|rfl|exact Qw _) (⟨Qb,Qb⟩) rfl ?_);intro s2 Da;refine ZY 2 ?_;first|exact ZX (left.eraseIdx a).length ⟨left.eraseIdx a,some ((x.id:Int),jbV x),jl.eraseIdx a,dn++[x],s2,_,rfl,d,e,Qb,Qb,C,rfl,rfl⟩ F|exact ZX (left.eraseIdx a).length ⟨left.eraseIdx a,some ((x.id:Int),jbV x),jl.eraseIdx a,dn,sv,n,rfl,d,e,Qb,T,f,rfl,rfl⟩ F
   ·have h:¬x.row=r:=Qb
    have A:=i.filter (fun x=>decide (x.row=r));rw[Qow (by simpa using h)]at A;have e:=(Qor dn A.symm).trans H;refine Zy ?_;first|exact ZX (left.eraseIdx a).length ⟨left.eraseIdx a,some ((x.id:Int),jbV x),jl.eraseIdx a,dn++[x],s2,_,rfl,d,e,Qb,Qb,C,rfl,rfl⟩ F|exact ZX (left.eraseIdx a).length ⟨left.eraseIdx a,some ((x.id:Int),jbV x),jl.eraseIdx a,dn,sv,n,rfl,d,e,Qb,T,f,rfl,rfl⟩ F
def atJ(js:List Jb)(r i:Nat):Nat:=((js.find? fun x=>decide (x.row=r)&&x.ns.getLsbD i).map (·.id)).getD 0
def atR(m:Mx)(z y:Int):Nat:=if Ko m z&&K7 m y then atJ m.js z.toNat y.toNat else 0
theorem Q8g{m:Mx}(f:W6 m){r i:Nat}{x:Jb}(c:x∈m.js)(e:x.row=r)(d:x.ns.getLsbD i=true):atJ m.js r i=x.id:=by
 unfold atJ;cases a:m.js.find? fun x=>decide (x.row=r)&&x.ns.getLsbD i with
 | none=>
  have:=List.find?_eq_none.1 a x c;simp[e,d]at this
 | some y=>
  have g:=List.mem_of_find?_eq_some a;have b:=List.find?_some a;rw[Z5,Zz]at b;refine W7 fun h=>?_;exact f.dis y g x c h (b.1.trans e.symm) i b.2 d
theorem Q8h{js:List Jb}{r i:Nat}(h:∀x∈js,x.row=r→x.ns.getLsbD i=false):atJ js r i=0:=by
 unfold atJ
 rw[List.find?_eq_none.2 fun x a=>?_]
 ·rfl
 ·by_cases e:x.row=r
  ·simp[h x a e]
  ·simp[e]
theorem Znw(b:Nat)(m:Mx)(z y:Int):Spec Tryz.prog 115 [.pointer (some ⟨b,0,none⟩),.int .i64 z,.int .i64 y] [MI b m] fun I v T=>v=.int .u32 (atR m z y:Nat)∧T=MI b m::I:=by
 refine Zbd Tryz.func115 rfl Tryz.ntmps115 fun Z I=>Zsh (ZY 8 (Zy (Zp (Zcp Ze (Qkd b m z) (Zy ?_)))))
 refine Zbb 12 ef (fun c=>?_) (fun c=>?_)
 ·refine ZY 2 (Zg ef ef ef (Zcp Ze (Lo b m y) (ZY 2 ?_)))
  refine Zi ef (fun G=>?_) (fun G=>?_)
  ·have U:=Uk.1 c;have V:=Ue.1 G;obtain⟨r,rfl⟩:∃r:Nat,z=r:=⟨z.toNat,Qb⟩;obtain⟨i,rfl⟩:∃i:Nat,y=i:=⟨y.toNat,Qb⟩;have D:atR m r i=atJ m.js r i:=by rw[atR,c,G];rfl
   refine S.Hi b m fun mb tv l h M R=>?_;have L5:=h.Ra;obtain⟨L,C,N⟩:=Qg3 M rfl;refine ZY 6 (Zp (S.range Tryz.underlying117 rfl rfl ?_));intro g;refine ZY 2 ?_;refine Zl (fun k w A=>∃(left:List (Int×Value)) (q:Option (Int×Value)) (jl:List Jb),k=left.length∧left=jl.map jbE∧(∀x∈jl,x∈m.js)∧(∀x∈m.js,x∈jl∨(x.row=r→x.ns.getLsbD i=false)) ∧   w=[(1,.int .i64 (r:Int)),(2,.int .i64 (i:Int)),(21,.pointer (some ⟨g,0,none⟩))]∧A=G3 g mb .u32 l left q::blk b 124 (mxC m mb tv).toArray::own tv 119 1 (tks m)::I) (m:=_) (⟨l,none,L,rfl,N,fun x j=>C.mem_iff.1 j,fun x j=>.inl (C.mem_iff.2 j),rfl,rfl⟩) ?_;rintro k w A ⟨left,q,jl,W,H,t,e,rfl,rfl⟩;refine ZY 2 ?_
   refine Zp (S.Xh rfl rfl (fun P=>?_) (fun a J K E=>?_))
   ·have X:jl=[]:=Fs.1 (H.symm.trans P);subst X;have s:atR m r i=0:=by rw[D];exact Q8h fun x j=>(e x j).resolve_left Q2
    refine S.conv (G3 g mb .u32 l left q) (Ent.G3 _) (S.Wj (b:=b) (m:=m) (mb:=mb) (tv:=tv) rfl rfl rfl h M R (ZY 8 (ZY 2 ?_)));exact Zf ef Zq (⟨by rw[s];rfl,rfl⟩)
   ·obtain⟨x,j,B⟩:∃x,jl[a]?=some x∧jbE x=(J,K):=by
     rw[H,Q8]at E;exact Df.1 E
    simp only[jbE,Hx]at B;obtain⟨rfl,rfl⟩:=B;have d:=Nh j;have O:=d.length_eq;rw[Ka]at O;have o:(left.eraseIdx a)=(jl.eraseIdx a).map jbE:=by rw[H,Vr]
    have Q:(left.eraseIdx a).length<k:=by rw[o,W,H,Qo,Qo];omega
    have Y:=t x (Yn j);refine ZY 8 (Zv (Cf rfl) (ZY 2 (Zp (S.alloc Tryz.Qjg.h rfl ?_))));intro b8;refine Zy (Zp (Zs ef ef (cs':=[_,_]) ef (ZY 8 ?_)))
    refine Zb 31 ef (fun p=>?_) (fun p=>?_)
    ·refine ZY 3 (Zg ef ef ef (Zcp Ze (Qrd x.ns i i rfl Qb) (ZY 2 ?_)))
     refine Zi ef (fun F=>?_) (fun F=>?_)
     ·have s:atR m r i=x.id:=by rw[D];exact Q8g h Y Qb F
      refine S.conv (G3 g mb .u32 l (left.eraseIdx a) (some ((x.id:Int),jbV x))) (Ent.G3 _) (S.Wj (b:=b) (m:=m) (mb:=mb) (tv:=tv) rfl rfl rfl h M R (ZY 6 ?_));exact Zf ef Zq (⟨by rw[s];rfl,rfl⟩)
     ·refine Zy ?_
      have u:∀y∈m.js,y∈jl.eraseIdx a∨(y.row=r→y.ns.getLsbD i=false):=fun y n=>by
       rcases e y n with f|f
       ·rcases Yf.1 (d.mem_iff.1 f) with e9|f
        ·exact .inr fun e8=>by rw[e9]at e8 ⊢;first|exact F|exact absurd e8 Qb
        ·exact .inl f
       ·exact .inr f
      exact ZX ((left.eraseIdx a).length) (⟨left.eraseIdx a,some ((x.id:Int),jbV x),jl.eraseIdx a,rfl,o,fun y n=>t y (d.mem_iff.2 (Ym _ n)),u,rfl,rfl⟩) (Q)
    ·refine ZY 8 ?_
     have u:∀y∈m.js,y∈jl.eraseIdx a∨(y.row=r→y.ns.getLsbD i=false):=fun y n=>by
      rcases e y n with f|f
      ·rcases Yf.1 (d.mem_iff.1 f) with e9|f
       ·exact .inr fun e8=>by rw[e9]at e8 ⊢;first|exact F|exact absurd e8 Qb
       ·exact .inl f
      ·exact .inr f
     exact ZX ((left.eraseIdx a).length) (⟨left.eraseIdx a,some ((x.id:Int),jbV x),jl.eraseIdx a,rfl,o,fun y n=>t y (d.mem_iff.2 (Ym _ n)),u,rfl,rfl⟩) (Q)
  ·have s:atR m z y=0:=by rw[atR,G,Tc];rfl
   refine ZY 6 ?_;exact Zf ef Zq (⟨by rw[s];rfl,rfl⟩)
 ·have s:atR m z y=0:=by rw[atR,c];rfl
  refine ZY 8 (ZY 4 ?_);exact Zf ef Zq (⟨by rw[s];rfl,rfl⟩)
set_option maxHeartbeats 1000000 in
theorem Qqi(a:Nat)(l:List (Int×Value)):Spec Tryz.prog 98 [.map (some a)] [Qz a .u32 l] fun b v d=>∃c,v=.map (some c)∧d=Qz c .u32 l::Qz a .u32 l::b:=by
 refine Zbd Tryz.func98 rfl Tryz.ntmps98 fun e b=>Zsh (ZY 8 (Zv (Hz Tryz.underlying117 rfl rfl) (Zy (ZF ef (ZY 4 (Zv (E6 (by rw[Tryz.underlying117]) rfl) (Zp (S.clone Tryz.func135 (by kernel_rfl) (by kernel_rfl) (by kernel_rfl) (by kernel_rfl) rfl rfl ?_))))))));intro c;refine Zv (Q4d Tryz.underlying117 rfl) (ZY 3 ?_);exact Zf ef Zq (⟨c,rfl,rfl⟩)
theorem Qpo(s:SV)(xs:List Value)(a:Ee xs=true)(b:s.n≤1000∧0<s.n):Spec Tryz.prog 99 [s.v] [own s 119 1 xs] fun d v e=>∃s2:SV,v=s2.v∧s2.n=s.n∧e=own s2 119 1 xs::own s 119 1 xs::d:=by
 refine Zbd Tryz.func99 rfl Tryz.ntmps99 fun j d=>Zsh ?_;refine S.Q7 s b.2 fun sb k i h m g=>(ZY 8 (ZY 2 ?_))
 refine Zi ef (fun c=>?_) (fun c=>?_)
 ·rw[i]at c;cases c
 ·refine ZY 3 (Zp (S.Ev Tryz.underlying122 Tryz.Qnr.h rfl ?_));intro s5 f;refine Zy ?_;refine Zp (S.Z6 (s:=s5) (s.n) (xs) Tryz.underlying122 Tryz.Qnr.h rfl rfl rfl (fun w b=>(Uo.head).Tq (b.Qs (Ent.drop _ _))) (a) (⟨Qb,Qb⟩) rfl ?_);intro s2 l;rw[Gf];refine ZY 3 ?_;exact Zf ef Zq (⟨s2,rfl,Qb,rfl⟩)
theorem Q98(m:Mx):Ee (tks m)=true:=Kn.2 fun v a=>by
 obtain⟨r,_,rfl⟩:=Qq.1 a;rfl
theorem Zka(b:Nat)(m:Mx):Spec Tryz.prog 60 [.pointer (some ⟨b,0,none⟩)] [MI b m] fun e v d=>∃c,v=.pointer (some ⟨c,0,none⟩)∧d=MI c m::MI b m::e:=by
 refine Zbd Tryz.func60 rfl Tryz.ntmps60 fun o e=>Zsh ?_;refine S.Hi b m fun mb tv l a f n=>?_;have j:=a.R8;have k:=a.R1;refine ZY 8 (ZY 2 (ZF ef (ZY 6 (Zp (S.alloc Tryz.z124.h rfl ?_)))));intro g;refine Zp (Zs ef ef (cs':=[_,_,_,_,_]) ef (ZY 2 ?_));refine Zd ([blk b 124 (mxC m mb tv).toArray]) [11,13] [0,1,2,3,5,6,7,8] (ZY 8 ?_);refine Z1 (i:=4) ef ef ?_;refine  (Zc1 Ze (Qqi mb l) ?_);rintro v d ⟨h,rfl,rfl⟩;refine Zk [] ?_;refine Z1 (i:=9) ef ef ?_;refine  (Zc1 Ze (Qpo tv (tks m) (Q98 m) ⟨Qb,Qb⟩) ?_);rintro v d ⟨s2,rfl,p,rfl⟩;refine Zk [10] (Zy ?_);refine Z1 (i:=11) ef ef ?_;refine(S.store (cs':=[_,_,_,_,_]) Eo.h rfl rfl rfl rfl rfl ?_);refine ZL ([blk b 124 (mxC m mb tv).toArray]) [12] (Zy ?_);refine Z1 (i:=13) ef ef ?_;refine(S.store (cs':=[_,_,_,_,_]) Eo.h rfl rfl rfl rfl rfl ?_);refine Zk [] ?_;refine ZD (ZY 5 (S.Wj (b:=b) (m:=m) (mb:=mb) (tv:=tv) rfl rfl rfl a f n (S.Wj (b:=g) (m:=m) (mb:=h) (tv:=s2) rfl rfl rfl a f Qb ?_)));exact Zf ef Zq (⟨g,rfl,rfl⟩)
def W4(a:Bs×List Jb)(x:Jb):Bs×List Jb:=if x.ns &&& a.1=0#16 then (a.1 ||| x.ns,a.2++[x]) else a
def J9(m:Mx)(r:Nat):Nat→Bs×List Jb
 | 0=>(tk m.js r,[])
 | o+1=>if o=r then J9 m r o else (Hy m o).foldl W4 (J9 m r o)
def Xc(m:Mx)(z:Int):List Nat:=if Ko m z then (J9 m z.toNat m.R).2.map (·.id) else []
theorem Ty(m:Mx)(r:Nat):(Hy m r).length≤16:=by
 have:=List.length_filterMap_le (fun i=>m.js.find? fun x=>decide (x.row=r)&&decide (tz x.ns=i)) (List.range 16);rw[Ft]at this;exact this
theorem Qrg(l:List Jb):∀a:Bs×List Jb,(l.foldl W4 a).2.length≤a.2.length+l.length:=by
 induction l with
 | nil=>intro a;exact Q1 _
 | cons x l b=>
  intro a;have d:=b (W4 a x)
  have c:(W4 a x).2.length≤a.2.length+1:=by
   unfold W4
   split
   ·simp
   ·omega
  rw[Mi,Ka];omega
theorem Sx(m:Mx)(r:Nat):∀o,(J9 m r o).2.length≤16*o
 | 0=>Q1 _
 | o+1=>by
  have h:=Sx m r o;unfold J9
  split
  ·omega
  ·have b:=Qrg (Hy m o) (J9 m r o);have a:=Ty m o;omega
theorem Zcs{js:List Jb}{q:Nat}{x:Jb}(h:js[q]?=some x):(Yp (js.map (·.id)))[q]?=some (.int .u32 (x.id:Int)):=by
 show ((js.map (·.id)).map _)[q]?=_;rw[Q8,Q8,h];rfl
theorem Zj8(b:Nat)(m:Mx)(z:Int){W:World}(hW:Dx W):Spec Tryz.prog 91 [.pointer (some ⟨b,0,none⟩),.int .i64 z] [MI b m,Wo W] fun E v Θ=>∃sv:SV,v=sv.v∧sv.n=(Xc m z).length∧Θ=own sv 31 1 (Yp (Xc m z))::MI b m::Wo W::E:=by
 refine Spec.Q0o fun f=>?_;refine Zbd Tryz.func91 rfl Tryz.ntmps91 fun w0 E=>Zsh ?_;have a5:=f.R8;refine ZY 8 (Zy (Zp (Zcp Ze (Qkd b m z) (ZY 2 ?_))))
 refine Zi ef (fun X=>?_) (fun X=>?_)
 ·have M:Xc m z=[]:=by rw[Xc,show Ko m z=false by simpa using X];rfl
  refine ZY 5 ?_;refine S.Qs (Δ:=own SV.nil 31 1 (Yp (Xc m z))::MI b m::Wo W::E) (by rw[M];exact Ent.Xb _ _) ?_;exact Zf ef Zq (⟨SV.nil,rfl,by rw[M];rfl,rfl⟩)
 ·have H:Ko m z=true:=by simpa using X
  have a0:=Uk.1 H;obtain⟨r,rfl⟩:∃r:Nat,z=r:=⟨z.toNat,Qb⟩;have M:Xc m r=(J9 m r m.R).2.map (·.id):=by rw[Xc,Qh H,K0]
  refine S.Hi b m fun mb tv l _ L Aa=>?_;refine S.Q7 tv Qb fun tb tf F a3 Bt a2=>(ZY 8 (ZY 4 (Zv (Zx (r) ef (F) ef Qb) ?_)));refine Zv (Zo (tv) (r) ef (F) (Bd (show r<m.R by omega))) (ZY 8 (Zy (S.Wj (b:=b) (m:=m) (mb:=mb) (tv:=tv) rfl rfl rfl f L Aa (S.Qs (Ent.Xb 31 1) (ZY 3 ?_)))));refine Zl (fun k g h=>∃(o:Nat) (i:Bs) (out:List Jb) (sv:SV) (D:List Value),k=m.R-o∧o≤m.R∧J9 m r o=(i,out)∧sv.n=out.length∧D=Yp (out.map (·.id)) ∧   g=[(0,.pointer (some ⟨b,0,none⟩)),(1,.int .i64 (r:Int)),(5,sv.v),(6,bsv i),(25,.int .i64 (m.R:Int)),(26,.int .i64 (o:Int))]∧h=own sv 31 1 D::MI b m::Wo W::E) (m:=_) (⟨0,tk m.js r,[],SV.nil,[],rfl,Qb,rfl,rfl,rfl,rfl,rfl⟩) ?_;rintro k g h ⟨o,i,out,sv,D,hk,a1,u,O,w,rfl,rfl⟩;have J:=Sx m r o;rw[u]at J;simp only at J;refine ZY 2 ?_
  skip
  refine ZY 3 ?_
  refine Zj ef (fun h2=>?_) (fun h2=>?_)
  ·refine ZY 8 (ZY 7 ?_)
   refine Zj ef (fun h3=>?_) (fun h3=>?_)
   ·have y:o=r:=Qb
    have t:J9 m r (o+1)=(i,out):=by rw[J9,Qh y];exact u
    refine ZY 2 (Zv (Za ef ef) (ZY 2 ?_));first|exact ZX (k-1) ⟨o+1,i,out,sv,D,Qb,Qb,t,O,w,rfl,rfl⟩ Qb|exact ZX (k-1) ⟨o+1,c,a,s2,d,Qb,Qb,t.trans n,P,p,rfl,rfl⟩ Qb
   ·have y:¬o=r:=Qb
    have t:J9 m r (o+1)=(Hy m o).foldl W4 (i,out):=by rw[J9,Qe y,u]
    refine ZY 5 (Zp (Zc1 Ze (Qy3 b m o hW) ?_));rintro v Θ ⟨B,rfl,G,rfl⟩;have T:Yq m o=(Hy m o).map (·.id):=by rw[Yq,Qh (Uk.2 Qb),K0]
    rw[T]at G ⊢;rw[Qo]at G;have a7:=Ty m o;refine S.Hi b m fun mb tv l _ L Aa=>?_;refine S.Xn B fun a8 ab a9=>(ZY 4 ?_);refine Zl (fun C g h=>∃(q:Nat) (c:Bs) (a:List Jb) (s2:SV) (d:List Value),C=(Hy m o).length-q∧q≤(Hy m o).length∧((Hy m o).take q).foldl W4 (i,out)=(c,a)∧s2.n=a.length∧d=Yp (a.map (·.id)) ∧   g=[(0,.pointer (some ⟨b,0,none⟩)),(1,.int .i64 (r:Int)),(5,s2.v),(6,bsv c),(25,.int .i64 (m.R:Int)),(26,.int .i64 (o:Int)),(34,B.v),(35,.int .i64 B.n),(36,.int .i64 (q:Int))] ∧   h=own s2 31 1 d::own B 31 1 (Yp ((Hy m o).map (·.id)))::blk b 124 (mxC m mb tv).toArray::Qz mb .u32 l::own tv 119 1 (tks m)::Wo W::E) (m:=_) (⟨0,i,out,sv,D,rfl,Qb,rfl,O,w,rfl,rfl⟩) ?_;rintro C g h ⟨q,c,a,s2,d,a4,hq,n,P,p,rfl,rfl⟩;have A:=Qrg ((Hy m o).take q) (i,out);rw[n]at A;rw[V9]at A;simp only at A;refine ZY 5 ?_
    refine Zj ef (fun h4=>?_) (fun h4=>?_)
    ·obtain⟨x,R⟩:=Xs (show q<(Hy m o).length by omega);have Dj:=((Wx f).1 (Yn R)).1;refine S.Q7 B Qb fun rb rf I _ _ _=>?_;have Jr:Yh (x.id:Int) l=some (jbV x):=by rw[L7 f.Y4 L,Ci f.Y4 Dj];rfl
     have N:((Hy m o).take (q+1)).foldl W4 (i,out)=W4 (c,a) x:=by rw[X2,R,Ha,n];rfl
     refine ZY 5 (Zv (Zx (q) ef (I) ef Qb) (Zv (Zo (B) (q) ef (I) (Zcs R)) (ZY 8 (Zy ?_))));refine Zv (Qx (jbV x) Tryz.underlying117 Tryz.underlying31 Tryz.Qj3.h rfl rfl rfl (by rw[Jr];rfl)) (Zp (S.alloc Tryz.Qjg.h rfl ?_));intro a6;refine Zp (Zs ef ef (cs':=[_,_]) ef (ZY 6 (Zv (Qb7 (x.ns) (c) rfl rfl (rfl) (rfl)) (ZY 2 ?_))))
     refine Zj ef (fun V=>?_) (fun V=>?_)
     ·have Q:x.ns &&& c=0#16:=Ej.1 V;have j:W4 (c,a) x=(c ||| x.ns,a++[x]):=Qh Q;have K:d++[.int .u32 (x.id:Int)]=Yp ((a++[x]).map (·.id)):=by rw[p];simp
      have aa:(a++[x]).length=a.length+1:=Q2
      refine ZY 5 (Zv (Qw5 (c) (x.ns) rfl rfl (rfl) (rfl)) (ZY 5 ?_));refine Zp (S.buildSlice (pvs:=[(_,_)]) [_] Tryz.underlying53 Tryz.H9.h rfl rfl ⟨⟨rfl,rfl⟩,trivial⟩ rfl rfl ?_);intro Y;refine Zp (S.Z6 (s:=s2) (1) ([.int .u32 (x.id:Int)]) Tryz.underlying53 Tryz.H9.h rfl rfl rfl (Yb (b:=Y) rfl (by unfold maxLen;omega)) (by first|rfl|exact Qw _) (⟨Qb,Qb⟩) rfl ?_);intro s3 J8;refine ZY 3 (Zv (Za ef ef) (ZY 2 ?_));first|exact ZX (C-1) ⟨q+1,c ||| x.ns,a++[x],s3,d++[.int .u32 (x.id:Int)],Qb,Qb,N.trans j,Qb,K,rfl,rfl⟩ Qb|exact ZX (C-1) ⟨q+1,c,a,s2,d,Qb,Qb,N.trans j,P,p,rfl,rfl⟩ Qb
     ·have Q:¬x.ns &&& c=0#16:=fun e=>V (Ej.2 e);have j:W4 (c,a) x=(c,a):=Qe Q;refine ZY 2 (Zv (Za ef ef) (ZY 2 ?_));first|exact ZX (C-1) ⟨q+1,c ||| x.ns,a++[x],s3,d++[.int .u32 (x.id:Int)],Qb,Qb,N.trans j,Qb,K,rfl,rfl⟩ Qb|exact ZX (C-1) ⟨q+1,c,a,s2,d,Qb,Qb,N.trans j,P,p,rfl,rfl⟩ Qb
    ·have U:q=(Hy m o).length:=Qb
     rw[U,Wh]at n;refine S.Wj (b:=b) (m:=m) (mb:=mb) (tv:=tv) rfl rfl rfl f L Aa (ZY 2 (Zv (Za ef ef) (ZY 2 ?_)));first|exact ZX (k-1) ⟨o+1,i,out,sv,D,Qb,Qb,t,O,w,rfl,rfl⟩ Qb|exact ZX (k-1) ⟨o+1,c,a,s2,d,Qb,Qb,t.trans n,P,p,rfl,rfl⟩ Qb
  ·have Z:o=m.R:=Qb
   have Wz:Xc m r=out.map (·.id):=by rw[M,←Z,u]
   rw[w,←Wz];refine ZY 7 ?_;exact Zf ef Zq (⟨sv,rfl,by rw[Wz,Qo];exact O,rfl⟩)
theorem Zk1{b:Nat}{e:TypeId}{cs:List Value}{m a:Nat}(f:cs.length=m*a)(d:m≤maxLen):RdS (blk b e cs.toArray) ⟨some ⟨b,0,none⟩,m,m⟩ m a cs:=fun Γ w c=>Yb (b:=b) (Γ:=blk b e cs.toArray::Γ) f d w c
abbrev Cd:=Nat×Int
abbrev cdC(x:Cd):List Value:=[.int .u32 (x.1:Int),.int .u8 x.2]
theorem Qn5:∀x,(cdC x).length=2:=fun _=>rfl
def V2(a b:Int):Int:=if a<b then -1 else if b<a then 1 else 0
theorem Ly(x:Int)(W:World):J4 Tryz.prog 201 [.int .u8 x] W (.bool false):=by
 refine Zbd Tryz.func201 rfl Tryz.ntmps201 fun b a=>Zsh (ZY 8 (ZY 4 ?_));exact Zf ef Zq (⟨by simp only[Vt];rw[Q6 (fun h=>h rfl)],rfl⟩)
theorem A4(x:Int)(W:World):J4 Tryz.prog 192 [.int .u32 x] W (.bool false):=by
 refine Zbd Tryz.func192 rfl Tryz.ntmps192 fun b a=>Zsh (ZY 8 (ZY 4 ?_));exact Zf ef Zq (⟨by simp only[Vt];rw[Q6 (fun h=>h rfl)],rfl⟩)
theorem Qk3(x:Int):Spec Tryz.prog 152 [.int .i64 x] [] fun a v b=>v=.bool false∧b=a:=by
 refine Zbd Tryz.func152 rfl Tryz.ntmps152 fun c a=>Zsh (ZY 8 (ZY 4 ?_));exact Zf ef Zq (⟨by simp only[Vt];rw[Q6 (fun h=>h rfl)],rfl⟩)
theorem S9(x y:Int)(W:World):J4 Tryz.prog 170 [.int .u8 x,.int .u8 y] W (.int .i64 (V2 x y)):=by
 refine Zbd Tryz.func170 rfl Tryz.ntmps170 fun e d=>Zsh (ZY 7 ?_);refine Zp (S.K9 Eo.h (vs:=[_]) ⟨rfl,trivial⟩ (fun w a=>Ly x w) rfl (ZY 5 ?_));refine Zp (S.K9 Eo.h (vs:=[_]) ⟨rfl,trivial⟩ (fun w a=>Ly y w) rfl (ZY 7 (ZF ef (ZY 6 (ZF ef (ZY 8 ?_))))))
 refine Zj ef (fun c=>?_) (fun c=>?_)
 ·refine ZY 5 ?_;exact Zf ef Zq (⟨by simp only[Vt,V2];rw[Qh (by assumption)],rfl⟩)
 ·refine ZY 8 ?_
  refine Zj ef (fun b=>?_) (fun b=>?_)
  ·refine ZY 5 ?_;exact Zf ef Zq (⟨by simp only[Vt,V2];rw[Qe (by assumption),Qh (by assumption)],rfl⟩)
  ·refine ZY 6 ?_;exact Zf ef Zq (⟨by simp only[Vt,V2];rw[Qe (by assumption),Qe (by assumption)],rfl⟩)
theorem B1(x y:Int)(W:World):J4 Tryz.prog 171 [.int .u32 x,.int .u32 y] W (.int .i64 (V2 x y)):=by
 refine Zbd Tryz.func171 rfl Tryz.ntmps171 fun e d=>Zsh (ZY 7 ?_);refine Zp (S.K9 Eo.h (vs:=[_]) ⟨rfl,trivial⟩ (fun w a=>A4 x w) rfl (ZY 5 ?_));refine Zp (S.K9 Eo.h (vs:=[_]) ⟨rfl,trivial⟩ (fun w a=>A4 y w) rfl (ZY 7 (ZF ef (ZY 6 (ZF ef (ZY 8 ?_))))))
 refine Zj ef (fun c=>?_) (fun c=>?_)
 ·refine ZY 5 ?_;exact Zf ef Zq (⟨by simp only[Vt,V2];rw[Qh (by assumption)],rfl⟩)
 ·refine ZY 8 ?_
  refine Zj ef (fun b=>?_) (fun b=>?_)
  ·refine ZY 5 ?_;exact Zf ef Zq (⟨by simp only[Vt,V2];rw[Qe (by assumption),Qh (by assumption)],rfl⟩)
  ·refine ZY 6 ?_;exact Zf ef Zq (⟨by simp only[Vt,V2];rw[Qe (by assumption),Qe (by assumption)],rfl⟩)
theorem Qed(x y:Int):Spec Tryz.prog 122 [.int .i64 x,.int .i64 y] [] fun a v b=>v=.int .i64 (V2 x y)∧b=a:=by
 refine Zbd Tryz.func122 rfl Tryz.ntmps122 fun e a=>Zsh (ZY 7 (Zp (Zcp Ze (Qk3 x) (ZY 5 (Zp (Zcp Ze (Qk3 y) (ZY 7 (ZF ef (ZY 6 (ZF ef (ZY 8 ?_)))))))))))
 refine Zj ef (fun d=>?_) (fun d=>?_)
 ·refine ZY 5 ?_;exact Zf ef Zq (⟨by simp only[Vt,V2];rw[Qh (by assumption)],rfl⟩)
 ·refine ZY 8 ?_
  refine Zj ef (fun c=>?_) (fun c=>?_)
  ·refine ZY 5 ?_;exact Zf ef Zq (⟨by simp only[Vt,V2];rw[Qe (by assumption),Qh (by assumption)],rfl⟩)
  ·refine ZY 6 ?_;exact Zf ef Zq (⟨by simp only[Vt,V2];rw[Qe (by assumption),Qe (by assumption)],rfl⟩)
def orI:List Int→Int
 | []=>0
 | x::l=>if x≠0 then x else orI l
theorem Q8w(s:SV)(l:List Int)(W:World)(u:s.n=l.length)(h0:Ez W s.v l.length 1 (ints l)):J4 Tryz.prog 121 [s.v] W (.int .i64 (orI l)):=by
 have e:=Tp h0;unfold maxLen at e;refine Zbd Tryz.func121 rfl Tryz.ntmps121 fun t j=>Zsh (ZY 8 (ZY 8 ?_));refine Zl (fun m c d=>∃k:Nat,m+k=l.length∧orI l=orI (l.drop k)∧c=[(3,.int .i64 0),(6,s.v),(7,.int .i64 s.n),(8,.int .i64 k)]∧d=Wo W::j) (m:=_) (⟨0,rfl,rfl,rfl,rfl⟩) ?_;rintro m c d ⟨k,n,a,rfl,rfl⟩;refine ZY 5 ?_
 refine Zj ef (fun q=>?_) (fun q=>?_)
 ·obtain⟨x,f⟩:=Xs (l:=l) (i:=k) Qb;obtain⟨b,off,o,r⟩:=F1 h0 Qb
  have h:l.drop k=x::l.drop (k+1):=by
   have g:=(Yz.1 f);rw[R2 g.1,g.2]
  refine ZY 5 (Zv (Zx (k) ef (o) ef Qb) ?_);refine Zv (Bk Eo.h rfl (r _ _ (by rw[Kz,Q8,f];rfl))) ?_;refine ZY 8 ?_
  refine Zj ef (fun p=>?_) (fun p=>?_)
  ·refine ZY 6 ?_;exact Zf ef Zq (⟨by simp only[Vt];rw[a,h,orI,Qh (by assumption)],rfl⟩)
  ·refine ZY 2 (Zv (Za ef ef) (ZY 2 ?_));exact ZX (m-1) (⟨k+1,Qb,by rw[a,h,orI,Qe (by assumption)],rfl,rfl⟩) Qb
 ·refine ZY 7 ?_;exact Zf ef Zq (⟨by simp only[Vt];rw[a,Qlt Qb,orI],rfl⟩)
theorem Zrt(R:Assn)(s:SV)(l:List Int)(y:s.n=l.length)(e:RdS R s s.n 1 (ints l)):Spec Tryz.prog 121 [s.v] [R] fun d v n=>v=.int .i64 (orI l)∧n=R::d:=by
 refine Zbd Tryz.func121 rfl Tryz.ntmps121 fun u d=>Zsh ?_;refine S.T6 e fun _ q p=>(ZY 8 (ZY 8 ?_));refine Zl (fun m b c=>∃k:Nat,m+k=l.length∧orI l=orI (l.drop k)∧b=[(3,.int .i64 0),(6,s.v),(7,.int .i64 s.n),(8,.int .i64 k)]∧c=R::d) (m:=_) (⟨0,rfl,rfl,rfl,rfl⟩) ?_;rintro m b c ⟨k,o,a,rfl,rfl⟩;refine ZY 5 ?_
 refine Zj ef (fun t=>?_) (fun t=>?_)
 ·obtain⟨x,f⟩:=Xs (l:=l) (i:=k) Qb;refine S.Ao e Qb fun sb w g=>?_
  have j:l.drop k=x::l.drop (k+1):=by
   have h:=(Yz.1 f);rw[R2 h.1,h.2]
  refine ZY 5 (Zv (Zx (k) ef (g) ef Qb) (Zv (Bl e k Eo.h rfl g Qb Qb (Lz f)) (ZY 8 ?_)))
  refine Zj ef (fun r=>?_) (fun r=>?_)
  ·refine ZY 6 ?_;exact Zf ef Zq (⟨by simp only[Vt];rw[a,j,orI,Qh (by assumption)],rfl⟩)
  ·refine ZY 2 (Zv (Za ef ef) (ZY 2 ?_));exact ZX (m-1) (⟨k+1,Qb,by rw[a,j,orI,Qe (by assumption)],rfl,rfl⟩) Qb
 ·refine ZY 7 ?_;exact Zf ef Zq (⟨by simp only[Vt];rw[a,Qlt Qb,orI],rfl⟩)
def Qb9(a b:Cd):Int:=orI [V2 a.2 b.2,V2 (b.1:Int) (a.1:Int)]
def bfC(a b:Cd):Bool:=decide (a.2<b.2∨(a.2=b.2∧b.1<a.1))
theorem ltC(a b:Cd):Go.Proofs.ltOf Qb9 a b=bfC a b:=by
 show decide (Qb9 a b<0)=bfC a b;unfold Qb9 orI orI orI V2 bfC;refine Wn.2 ?_;split <;> split <;> (try split) <;> (try split) <;> (try split) <;> omega
theorem Zgt:Go.Sort.SWO (Go.Proofs.ltOf Qb9) where
 irrefl x:=by rw[ltC];exact Q6 Qb
 trans x y z h1 h2:=by
  rw[ltC]at *;simp only[bfC,Zz]at *;omega
 ntrans x y z h1 h2:=by
  rw[ltC]at *;simp only[bfC,Af]at *;omega
theorem Pz(x y:Cd)(W:World):J4 Tryz.prog 178 [.agg (cdC x).toArray,.agg (cdC y).toArray] W (.int .i64 (Qb9 x y)):=by
 refine Zbd Tryz.func178 rfl Tryz.ntmps178 fun g f=>Zsh (ZY 2 (Zp (S.box (cs:=[_,_]) rfl rfl rfl ?_)));intro e;refine Zp (S.box (cs:=[_,_]) rfl rfl rfl ?_);intro d;refine ZY 3 ?_;refine Zd ([blk e 152 (cdC x).toArray,blk d 152 (cdC y).toArray]) [] [0,1,2,3,5,6,7,8] (ZY 8 ?_);refine Z1 (i:=4) ef ef ?_;refine(S.K9 Eo.h (vs:=[_,_]) ⟨rfl,rfl,trivial⟩ (fun w c=>S9 x.2 y.2 w) rfl ?_);refine Zk [] ?_;refine Z1 (i:=9) ef ef ?_;refine(S.K9 Eo.h (vs:=[_,_]) ⟨rfl,rfl,trivial⟩ (fun w c=>B1 (y.1:Int) (x.1:Int) w) rfl ?_);refine Zk [] ?_;refine Z1 (i:=10) ef ef ?_;refine(S.buildSlice (pvs:=[(_,_),(_,_)]) [_,_] Tryz.underlying66 Tryz.N3.h rfl rfl ⟨⟨rfl,rfl⟩,⟨rfl,rfl⟩,trivial⟩ rfl rfl ?_);intro a;refine Zk [] ?_;refine Z1 (i:=11) ef ef ?_;refine(S.K9 Eo.h (vs:=[_]) ⟨rfl,trivial⟩ (fun w c=>Q8w ⟨some ⟨a,0,none⟩,2,2⟩ [V2 x.2 y.2,V2 (y.1:Int) (x.1:Int)] w rfl (Yb (b:=a) rfl (show 2≤maxLen by unfold maxLen;omega) w c)) rfl ?_);refine Zk [12] (Zy ?_);refine ZD (Zy ?_);exact Zf ef Zq (⟨rfl,rfl⟩)
theorem Qoc(s:SV)(l:List Cd)(g:l.length≤1000000):Spec Tryz.prog 177 [s.v,.func (.func 178) #[] #[]] [own s 152 2 (l.flatMap cdC)] fun f _ e=>
  ∃c:List Cd,c.Perm l∧c.Pairwise (fun a b=>bfC b a=false)∧e=own s 152 2 (c.flatMap cdC)::f:=by
 have h:=S7 Tryz.Zam 2 Tryz.isAgg152 Tryz.sizeOf152 cdC Qn5 Qb (fun x v d=>by simp only[cdC,Yf,Hp,Ho]at d;rcases d with rfl|rfl <;> rfl) Qb9 Zgt 178 (enters_of Tryz.func178 (by kernel_rfl) rfl) Pz 152 s l Qb;simp only[ltC]at h;exact h
def Qmf(l:List Cd):List Cd:=l.mergeSort fun a b=>!bfC b a
theorem Hq(l:List Cd):(Qmf l).Perm l:=Qoq _ _
theorem Zak{l g:List Cd}(v:l.Pairwise (fun a b=>a.1≠b.1))(d:g.Perm l)(t:g.Pairwise (fun a b=>bfC b a=false)):g=Qmf l:=by
 have w:(Qmf l).Pairwise (fun a b=>(!bfC b a)=true):=Qvy (fun a b c s r=>by
   simp only[bfC,Qi0,Af]at *;omega) (fun a b=>by
   simp only[bfC,E2,Qi0,Af];omega) l
 refine Qoy (le:=fun a b:Cd=>bfC b a=false) (fun a b m k s r=>?_) t (w.imp fun h=>by simpa using h) (d.trans (Hq l).symm);have m:a∈l:=d.mem_iff.1 m;have k:b∈l:=(Hq l).mem_iff.1 k;simp only[bfC,Af]at s r;have e1:a.1=b.1:=Qb
 refine W7 fun u=>?_;obtain⟨i,q,o⟩:=Pq m;obtain⟨j,p,n⟩:=Pq k;have d:=Jy.1 v
 by_cases e:i=j
 ·subst e;exact u (o.symm.trans n)
 ·rcases Nat.lt_or_gt_of_ne e with h|h
  ·have f:=d i j q p h;rw[o,n]at f;exact f e1
  ·have f:=d j i p q h;rw[o,n]at f;exact f e1.symm
def upN(m:Mx)(l:List Nat):Nat→Nat
 | 0=>0
 | q+1=>if Ji m (l.getD q 0:Nat) then upN m l q+1 else upN m l q
theorem Qsz(m:Mx)(l:List Nat):∀q,upN m l q≤q
 | 0=>Q1 _
 | q+1=>by have:=Qsz m l q;rw[upN];split <;> omega
def Qum(m:Mx)(j:Nat):Nat:=upN m (ofR m j).2.1 (ofR m j).2.1.length
theorem Qxl(m:Mx)(j:Nat):(ofR m j).2.1.length≤16:=by
 unfold ofR;cases look m.js j with
 | none=>simp
 | some x=>exact Qng x.ns
theorem Zds(b:Nat)(m:Mx)(j:Nat){W:World}(s:Dx W):Spec Tryz.prog 151 [.pointer (some ⟨b,0,none⟩),.int .u32 (j:Int)] [MI b m,Wo W] fun g v l=>v=.int .i64 (Qum m j:Nat)∧l=MI b m::Wo W::g:=by
 refine Zbd Tryz.func151 rfl Tryz.ntmps151 fun y g=>Zsh ?_;obtain⟨a,c⟩:∃a,a=(ofR m j).2.1:=⟨_,rfl⟩;have f:=Qxl m j;rw[←c]at f;refine ZY 8 (ZY 4 (Zp (Zc1 Ze (Zj0 b m j s) ?_)));rintro v l ⟨sv,rfl,w,rfl⟩;rw[←c]at w ⊢;refine ZY 8 (ZY 8 ?_);refine Zl (fun q d e=>∃i:Nat,q=a.length-i∧i≤a.length∧d=[(0,.pointer (some ⟨b,0,none⟩)),(5,.int .i64 (upN m a i:Nat)),(18,sv.v),(19,.int .i64 sv.n),(20,.int .i64 (i:Int))]∧e=own sv 3 1 (nds a)::MI b m::Wo W::g) (m:=_) (⟨0,rfl,Qb,rfl,rfl⟩) ?_;rintro q d e ⟨i,A,B,rfl,rfl⟩;have r:=Qsz m a i;refine ZY 5 ?_
 refine Zj ef (fun t=>?_) (fun t=>?_)
 ·refine S.Q7 sv Qb fun sb z o _ _ _=>?_;obtain⟨x,n⟩:=Xs (show i<a.length by omega);have p:a.getD i 0=x:=by simp[List.getD,n]
  refine ZY 5 (Zv (Zx (i) ef (o) ef Qb) ?_);refine Zv (Zo (sv) (i) ef (o) (by rw[Q8,n];rfl)) ?_;refine ZY 6 (Zp (Zcp Ze (Qoe b m x) (Zy ?_)))
  refine Zi ef (fun k=>?_) (fun k=>?_)
  ·have h:upN m a (i+1)=upN m a i+1:=by rw[upN,p,Qh k]
   refine ZY 2 (Zv (Bm rfl rfl (Xy Qb Qb)) (ZY 3 (Zv (Za ef ef) (ZY 2 ?_))));first|exact ZX (q-1) ⟨i+1,Qb,Qb,by rw[h],rfl⟩ Qb
  ·have h:upN m a (i+1)=upN m a i:=by rw[upN,p,Qe (by rw[k];simp)]
   refine ZY 2 (Zv (Za ef ef) (ZY 2 ?_));first|exact ZX (q-1) ⟨i+1,Qb,Qb,by rw[h],rfl⟩ Qb
 ·have u:upN m a i=Qum m j:=by rw[Qum,←c,show i=a.length by omega]
  rw[u];refine ZY 7 ?_;exact Zf ef Zq (⟨rfl,rfl⟩)
abbrev A3(l:List Cd):List Nat:=l.map (·.1)
theorem Zh2(R:Assn)(s:SV)(l:List Cd)(E:s.n=l.length)(B:l.length≤1000)(f:RdS R s s.n 2 (l.flatMap cdC)):Spec Tryz.prog 124 [s.v] [R] fun d v k=>∃u:SV,v=u.v∧u.n=l.length∧k=own u 31 1 (Yp (A3 l))::R::d:=by
 refine Zbd Tryz.func124 rfl Tryz.ntmps124 fun n d=>Zsh ?_;refine S.T6 f fun _ w t=>(ZY 8 (ZY 3 (S.Qs (Ent.Xb 31 1) ?_)));show S _ n _ (own SV.nil 31 1 (Yp (A3 (l.take 0)))::_) _;refine ZY 5 ?_;refine Zl (fun q a c=>∃(i:Nat) (u:SV),q=l.length-i∧i≤l.length∧u.n=i∧a=[(3,u.v),(6,s.v),(7,.int .i64 s.n),(8,.int .i64 (i:Int))]∧c=own u 31 1 (Yp (A3 (l.take i)))::R::d) (m:=_) (⟨0,SV.nil,rfl,Qb,rfl,rfl,rfl⟩) ?_;rintro q a c ⟨i,u,A,C,p,rfl,rfl⟩;refine ZY 5 ?_
 refine Zj ef (fun y=>?_) (fun y=>?_)
 ·refine S.Ao f Qb fun sb z j=>?_;obtain⟨x,h⟩:=Xs (show i<l.length by omega)
  have e:Yp (A3 (l.take i))++[.int .u32 (x.1:Int)]=Yp (A3 (l.take (i+1))):=by
   rw[X2,h];simp
  refine ZY 5 (Zv (Zx (i) ef (j) ef Qb) ?_);refine Zv (Lm f (i*2) (cdC x) Eo.h rfl j Qb rfl rfl (Wr (enc:=cdC) (sz:=2) (fun _=>rfl) h)) (Zp (S.alloc Tryz.z152.h rfl ?_));intro D;refine Zp (Zs ef ef (cs':=[_,_]) ef (ZY 5 ?_));refine Zp (S.buildSlice (pvs:=[(_,_)]) [_] Tryz.underlying53 Tryz.H9.h rfl rfl ⟨⟨rfl,rfl⟩,trivial⟩ rfl rfl ?_);intro g;refine Zp (S.Z6 (s:=u) (1) ([.int .u32 (x.1:Int)]) Tryz.underlying53 Tryz.H9.h rfl rfl rfl (Yb (b:=g) rfl (by unfold maxLen;omega)) (by first|rfl|exact Qw _) (⟨Qb,Qb⟩) rfl ?_);intro o r;refine ZY 3 (Zv (Za ef ef) (ZY 2 ?_));rw[e];exact ZX (q-1) (⟨i+1,o,Qb,Qb,Qb,rfl,rfl⟩) Qb
 ·rw[show i=l.length by omega,Wh];refine ZY 7 ?_;exact Zf ef Zq (⟨u,rfl,Qb,rfl⟩)
def Qfn(l:List Cd):Nat→Int
 | 0=>0
 | i+1=>max (Qfn l i) ((l.getD i (0,0)).2+1)
def La(l:List Cd):Int:=Qfn l l.length
theorem Zez(R:Assn)(s:SV)(l:List Cd)(A:s.n=l.length)(e:RdS R s s.n 2 (l.flatMap cdC))(j:∀x∈l,0≤x.2∧x.2≤255):Spec Tryz.prog 123 [s.v] [R] fun c v g=>v=.int .i64 (La l)∧g=R::c:=by
 refine Zbd Tryz.func123 rfl Tryz.ntmps123 fun t c=>Zsh ?_;refine S.T6 e fun _ o n=>(ZY 8 (ZY 8 ?_));refine Zl (fun q a b=>∃i:Nat,q=l.length-i∧i≤l.length∧a=[(3,.int .i64 (Qfn l i)),(6,s.v),(7,.int .i64 s.n),(8,.int .i64 (i:Int))]∧b=R::c) (m:=_) (⟨0,rfl,Qb,rfl,rfl⟩) ?_;rintro q a b ⟨i,w,y,rfl,rfl⟩;refine ZY 5 ?_
 refine Zj ef (fun p=>?_) (fun p=>?_)
 ·refine S.Ao e Qb fun sb u f=>?_;obtain⟨x,d⟩:=Xs (show i<l.length by omega);have h:=j x (Yn d);have r:l.getD i (0,0)=x:=by simp[List.getD,d]
  have k:Qfn l (i+1)=max (Qfn l i) (x.2+1):=by rw[Qfn,r]
  refine ZY 5 (Zv (Zx (i) ef (f) ef Qb) ?_);refine Zv (Lm e (i*2) (cdC x) Eo.h rfl f Qb rfl rfl (Wr (enc:=cdC) (sz:=2) (fun _=>rfl) d)) (Zp (S.alloc Tryz.z152.h rfl ?_));intro z;refine Zp (Zs ef ef (cs':=[_,_]) ef (ZY 5 ?_));refine Zv (Vu Tryz.it3.h (by rw[Tryz.underlying5];rfl) rfl (Xy Qb Qb)) (Zv (Bm rfl rfl (Xy Qb Qb)) ?_);refine Zv (Qd0 (Qfn l (i+1)) rfl rfl (by rw[k];omega)) (ZY 3 (Zv (Za ef ef) (ZY 2 ?_)));exact ZX (q-1) (⟨i+1,Qb,Qb,rfl,rfl⟩) Qb
 ·rw[show i=l.length by omega];refine ZY 7 ?_;exact Zf ef Zq (⟨rfl,rfl⟩)
def H7(m:Mx)(row tier:Int)(l:List Cd):Nat→List Cd
 | 0=>[]
 | i+1=>if (l.getD i (0,0)).1∈(l.take i).map (·.1) then H7 m row tier l i else
  if ((ofR m (l.getD i (0,0)).1).2.2&&decide ((ofR m (l.getD i (0,0)).1).1=row)&&decide ((l.getD i (0,0)).2<tier))=true then H7 m row tier l i++[l.getD i (0,0)] else H7 m row tier l i
theorem A1{m:Mx}{row tier:Int}{l:List Cd}{x:Cd}:∀ {i:Nat},i≤l.length→x∈H7 m row tier l i→x∈l.take i
 | 0,_,h=>by cases h
 | i+1,c,h=>by
  have a:=Ju (show i<l.length by omega);have b:l.getD i (0,0)=l[i]:=by simp[List.getD,a]
  rw[H7,b]at h;rw[X2,a,Xu]
  split at h
  ·exact .inl (A1 Qb h)
  ·split at h
   ·rw[Xu]at h
    rcases h with h|h
    ·exact .inl (A1 Qb h)
    ·exact .inr (by simpa using h)
   ·exact .inl (A1 Qb h)
theorem Qch(m:Mx)(row tier:Int)(l:List Cd):∀i,(H7 m row tier l i).length≤i
 | 0=>Q1 _
 | i+1=>by
  have:=Qch m row tier l i;rw[H7]
  split
  ·omega
  ·split
   ·rw[Yd,Y0];omega
   ·omega
theorem Qqn{m:Mx}{row tier:Int}{l:List Cd}:∀ {i:Nat},i≤l.length→(H7 m row tier l i).Pairwise (fun a b=>a.1≠b.1)
 | 0,_=>List.Pairwise.nil
 | i+1,j=>by
  have d:=Qqn (m:=m) (row:=row) (tier:=tier) (l:=l) (i:=i) Qb;rw[H7]
  split
  ·exact d
  ·rename_i h
   split
   ·refine Qjc.2 ⟨d,Qdj _ _,fun a g c f e=>?_⟩;rw[Vd]at f;subst f;exact h (Qq.2 ⟨a,A1 Qb g,e⟩)
   ·exact d
def Qhs(m:Mx)(row tier:Int)(l:List Cd):List Cd:=Qmf (H7 m row tier l l.length)
theorem Q5p(b:Nat)(m:Mx)(row tier:Int)(R:Assn)(s:SV)(l:List Cd)(Jq:s.n=l.length)(hl:l.length≤1000)(M:RdS R s s.n 2 (l.flatMap cdC)){W:World}(hW:Dx W):Spec Tryz.prog 150 [.pointer (some ⟨b,0,none⟩),.int .i64 row,s.v,.int .u8 tier] [MI b m,R,Wo W] fun F v E=>
  ∃u:SV,v=u.v∧u.n=(Qhs m row tier l).length∧E=own u 152 2 ((Qhs m row tier l).flatMap cdC)::MI b m::R::Wo W::F:=by
 refine Zbd Tryz.func150 rfl Tryz.ntmps150 fun w0 F=>Zsh ?_;refine S.T6 M fun _ a2 a1=>(ZY 6 (Zp (S.makeMap .u32 rfl ?_)));intro C;refine ZY 4 (S.Qs (Ent.Xb 152 2) ?_);show S _ w0 _ (own SV.nil 152 2 (([]:List Cd).flatMap cdC)::_) _;refine ZY 8 (ZY 2 ?_);refine Zl (fun q n p=>∃(i:Nat) (u:SV) (o:List Cd) (K:List (Int×Value)),q=l.length-i∧i≤l.length∧o=H7 m row tier l i∧u.n=o.length∧(∀z:Nat,Yh (z:Int) K=if z∈(l.take i).map (·.1) then some (.agg #[]) else none) ∧   n=[(0,.pointer (some ⟨b,0,none⟩)),(1,.int .i64 row),(3,.int .u8 tier),(9,.map (some C)),(10,u.v),(19,s.v),(20,.int .i64 s.n),(21,.int .i64 (i:Int))]∧p=own u 152 2 (o.flatMap cdC)::Qz C .u32 K::MI b m::R::Wo W::F) (m:=_) (⟨0,SV.nil,[],[],rfl,Qb,rfl,rfl,fun z=>(by simp;rfl),rfl,rfl⟩) ?_;rintro q n p ⟨i,u,o,K,hq,hi,y,g,O,rfl,rfl⟩;have I:=Qch m row tier l i;rw[←y]at I;refine ZY 5 ?_
 refine Zj ef (fun h1=>?_) (fun h1=>?_)
 ·refine S.Ao M Qb fun sb so X=>?_;obtain⟨x,G⟩:=Xs (show i<l.length by omega);have Ah:l.getD i (0,0)=x:=by simp[List.getD,G]
  have Z:(l.take (i+1)).map (·.1)=(l.take i).map (·.1)++[x.1]:=by rw[X2,G];simp
  obtain⟨seen,j⟩:∃seen,seen=decide (x.1∈(l.take i).map (·.1)):=⟨_,rfl⟩;have N:=O x.1;refine ZY 5 (Zv (Zx (i) ef (X) ef Qb) ?_);refine Zv (Lm M (i*2) (cdC x) Eo.h rfl X Qb rfl rfl (Wr (enc:=cdC) (sz:=2) (fun _=>rfl) G)) (Zp (S.alloc Tryz.z152.h rfl ?_));intro a4;refine Zp (Zs ef ef (cs':=[_,_]) ef (ZY 7 ?_));refine Zv (M1 (.agg #[]) (seen) Tryz.underlying262 Tryz.underlying31 Tryz.Q2q.h rfl rfl rfl (by rw[N,j];by_cases h:x.1∈(l.take i).map (·.1);(rw[Qh h,Zh h]);(rw[Qe h,Q6 h]))) (ZY 3 (Zp (S.alloc Tryz.Q2s.h rfl ?_)));intro a3;refine Zp (Zs ef ef (cs':=[]) ef (ZY 6 ?_))
  refine Zi ef (fun Q=>?_) (fun Q=>?_)
  ·have k:x.1∈(l.take i).map (·.1):=by rw[Q]at j;exact U4 j.symm
   have a:o=H7 m row tier l (i+1):=by rw[H7,Ah,Qh k,y]
   have c:∀z:Nat,Yh (z:Int) K=if z∈(l.take (i+1)).map (·.1) then some (.agg #[]) else none:=fun z=>by
    rw[O,Z]
    by_cases h:z∈(l.take i).map (·.1)
    ·rw[Qh h,Qh (Xu.2 (.inl h))]
    ·rw[Qe h,Qe];rw[Xu,Vd]
     rintro (B|rfl)
     ·exact h B
     ·exact h k
   refine ZY 2 (Zv (Za ef ef) (ZY 2 ?_));first|(rw[Wv cdC o x];exact ZX (q-1) ⟨i+1,t,o++[x],Xl (x.1:Int) (.agg #[]) K,Qb,Qb,a,by rw[Yd,Y0];omega,c,rfl,rfl⟩ Qb)|exact ZX (q-1) ⟨i+1,u,o,Xl (x.1:Int) (.agg #[]) K,Qb,Qb,a,g,c,rfl,rfl⟩ Qb|exact ZX (q-1) ⟨i+1,u,o,K,Qb,Qb,a,g,c,rfl,rfl⟩ Qb
  ·have k:¬x.1∈(l.take i).map (·.1):=by rw[Q]at j;exact Qi2 j.symm
   have c:∀z:Nat,Yh (z:Int) (Xl (x.1:Int) (.agg #[]) K)=if z∈(l.take (i+1)).map (·.1) then some (.agg #[]) else none:=fun z=>by
    rw[Hu,O,Z]
    by_cases h:z∈(l.take i).map (·.1)
    ·rw[Qh h,Qh (Xu.2 (.inl h))];split <;> rfl
    ·rw[Qe h]
     by_cases e:z=x.1
     ·subst e;rw[Qh rfl,Qh (Xu.2 (.inr (Vd.2 rfl)))]
     ·rw[Qe Qb,Qe];rw[Xu,Vd]
      rintro (B|B)
      ·exact h B
      ·exact e B
   obtain⟨r,U,ok,w⟩:∃r U ok,ofR m x.1=(r,U,ok):=⟨_,_,_,rfl⟩;have D:H7 m row tier l (i+1)=if (ok&&decide (r=row)&&decide (x.2<tier))=true then o++[x] else o:=by rw[H7,Ah,Qe k,w,y]
   refine ZY 6 ?_;refine Zv (Ye (pvs:=[]) [] Tryz.Q2s.h Tryz.Zld.h trivial rfl) (Zp (S.mapUpdate Tryz.underlying262 Tryz.underlying31 rfl rfl rfl rfl (ZY 6 (Zp (Zc1 Ze (Zj0 b m x.1 hW) ?_)))));rintro v E ⟨sv,rfl,Y,rfl⟩;rw[w]at Y ⊢;simp only at Y ⊢;refine ZY 8 (ZY 4 ?_)
   refine Zbb 46 ef (fun d=>?_) (fun d=>?_)
   ·refine ZY 5 ?_
    refine Zb 51 ef (fun f=>?_) (fun f=>?_)
    ·refine ZY 6 ?_
     refine Zj ef (fun P=>?_) (fun P=>?_)
     ·have a:o++[x]=H7 m row tier l (i+1):=by rw[D,d,Zh f,Zh P];rfl
      refine ZY 3 ?_;refine Zp (S.buildSlice (pvs:=[(_,_)]) [_,_] Tryz.underlying150 Tryz.Qcm.h rfl rfl ⟨⟨rfl,rfl⟩,trivial⟩ rfl rfl ?_);intro T;refine Zp (S.Z6 (s:=u) (1) (cdC x) Tryz.underlying150 Tryz.Qcm.h rfl rfl rfl (Yb (b:=T) rfl (by unfold maxLen;omega)) (by first|rfl|exact Qw _) (⟨Qb,Qb⟩) rfl ?_);intro t a0;refine ZY 3 (Zv (Za ef ef) (ZY 2 ?_));first|(rw[Wv cdC o x];exact ZX (q-1) ⟨i+1,t,o++[x],Xl (x.1:Int) (.agg #[]) K,Qb,Qb,a,by rw[Yd,Y0];omega,c,rfl,rfl⟩ Qb)|exact ZX (q-1) ⟨i+1,u,o,Xl (x.1:Int) (.agg #[]) K,Qb,Qb,a,g,c,rfl,rfl⟩ Qb|exact ZX (q-1) ⟨i+1,u,o,K,Qb,Qb,a,g,c,rfl,rfl⟩ Qb
     ·have a:o=H7 m row tier l (i+1):=by rw[D,d,Zh f,Q6 P];rfl
      refine ZY 2 (Zv (Za ef ef) (ZY 2 ?_));first|(rw[Wv cdC o x];exact ZX (q-1) ⟨i+1,t,o++[x],Xl (x.1:Int) (.agg #[]) K,Qb,Qb,a,by rw[Yd,Y0];omega,c,rfl,rfl⟩ Qb)|exact ZX (q-1) ⟨i+1,u,o,Xl (x.1:Int) (.agg #[]) K,Qb,Qb,a,g,c,rfl,rfl⟩ Qb|exact ZX (q-1) ⟨i+1,u,o,K,Qb,Qb,a,g,c,rfl,rfl⟩ Qb
    ·have a:o=H7 m row tier l (i+1):=by rw[D,d,Q6 f];rfl
     refine ZY 8 (Zy (Zv (Za ef ef) (ZY 2 ?_)));first|(rw[Wv cdC o x];exact ZX (q-1) ⟨i+1,t,o++[x],Xl (x.1:Int) (.agg #[]) K,Qb,Qb,a,by rw[Yd,Y0];omega,c,rfl,rfl⟩ Qb)|exact ZX (q-1) ⟨i+1,u,o,Xl (x.1:Int) (.agg #[]) K,Qb,Qb,a,g,c,rfl,rfl⟩ Qb|exact ZX (q-1) ⟨i+1,u,o,K,Qb,Qb,a,g,c,rfl,rfl⟩ Qb
   ·have a:o=H7 m row tier l (i+1):=by rw[D,d];rfl
    refine ZY 8 (ZY 6 (Zv (Za ef ef) (ZY 2 ?_)));first|(rw[Wv cdC o x];exact ZX (q-1) ⟨i+1,t,o++[x],Xl (x.1:Int) (.agg #[]) K,Qb,Qb,a,by rw[Yd,Y0];omega,c,rfl,rfl⟩ Qb)|exact ZX (q-1) ⟨i+1,u,o,Xl (x.1:Int) (.agg #[]) K,Qb,Qb,a,g,c,rfl,rfl⟩ Qb|exact ZX (q-1) ⟨i+1,u,o,K,Qb,Qb,a,g,c,rfl,rfl⟩ Qb
 ·have L:i=l.length:=Qb
  refine ZY 4 (Zp (Zc1 Ze (Qoc u o Qb) ?_));rintro v E ⟨l',V,H,rfl⟩;have J:l'=Qhs m row tier l:=by rw[Qhs,←L,←y];exact Zak (by rw[y];exact Qqn Qb) V H
  have A:=V.length_eq;rw[J]at A ⊢;refine ZY 7 ?_;exact Zf ef Zq (⟨u,rfl,Qb,rfl⟩)
def L4(m:Mx)(a:List Cd)(h0:Nat):Nat→Nat
 | 0=>h0
 | i+1=>L4 m a h0 i+Qum m (a.getD i (0,0)).1
theorem Qyj(m:Mx)(j:Nat):Qum m j≤16:=by
 have b:=Qsz m (ofR m j).2.1 (ofR m j).2.1.length;have a:=Qxl m j;unfold Qum;omega
theorem Qlc{m:Mx}{al:List Cd}{h0:Nat}(h:h0≤16):∀i,L4 m al h0 i≤16+16*i
 | 0=>h
 | i+1=>by
  have b:=Qlc (m:=m) (al:=al) h i;have a:=Qyj m (al.getD i (0,0)).1;rw[L4];omega
def N9(m:Mx)(a:List Cd)(h0:Nat)(k:Int):Nat→Option Nat
 | 0=>none
 | i+1=>match N9 m a h0 k i with
  | some r=>some r
  | none=>if k≤(L4 m a h0 i:Nat) then some i else none
theorem Qfl{m:Mx}{a:List Cd}{h0:Nat}{k:Int}{r:Nat}:∀ {p i:Nat},N9 m a h0 k i=some r→i≤p→N9 m a h0 k p=some r
 | 0,i,h,b=>by rwa [show i=0 by omega]at h
 | p+1,i,h,b=>by
  by_cases e:i=p+1
  ·rwa [e]at h
  ·rw[N9,Qfl h Qb]
def ofV(m:Mx)(row tier k:Int)(l:List Cd):List Cd×Bool:=
 if k<1∨row<0∨(m.R:Int)≤row then ([],false)
 else match N9 m (Qhs m row tier l) (Ma m row) k ((Qhs m row tier l).length+1) with
  | some i=>((Qhs m row tier l).take i,true)
  | none=>([],false)
theorem Q7n(m:Mx)(z:Int):Ma m z≤16:=by
 unfold Ma
 split
 ·exact Qng _
 ·omega
theorem Qhr(m:Mx)(row tier:Int)(l:List Cd):(Qhs m row tier l).length≤l.length:=by
 rw[Qhs,(Hq _).length_eq];exact Qch m row tier l _
theorem P6{c:Type}{a:c→List Value}{b:Nat}(d:∀x,(a x).length=b)(os:List c)(k:Nat):(os.flatMap a).take (k*b)=(os.take k).flatMap a:=by
 induction os generalizing k with
 | nil=>simp
 | cons x l e=>
  cases k with
  | zero=>simp
  | succ k=>
   rw[G2,List.take_succ_cons,G2,Qje,d,Dh (by rw[d,Cz];omega),show (k+1)*b-b=k*b by rw[Cz];omega,e]
set_option maxHeartbeats 1000000 in
theorem Zpb(b:Nat)(m:Mx)(row tier k:Int)(R:Assn)(s:SV)(l:List Cd)(N:s.n=l.length)(E:l.length≤1000)(G:RdS R s s.n 2 (l.flatMap cdC)){W:World}(A:Dx W):Spec Tryz.prog 120 [.pointer (some ⟨b,0,none⟩),.int .i64 row,s.v,.int .u8 tier,.int .i64 k] [MI b m,R,Wo W] fun r v y=>
  ∃u:SV,v=.tuple #[u.v,.bool (ofV m row tier k l).2]∧u.n=(ofV m row tier k l).1.length∧y=own u 152 2 ((ofV m row tier k l).1.flatMap cdC)::MI b m::R::Wo W::r:=by
 refine Zbd Tryz.func120 rfl Tryz.ntmps120 fun o r=>Zsh ?_;obtain⟨al,e⟩:∃al,al=Qhs m row tier l:=⟨_,rfl⟩;have n:=Qhr m row tier l;rw[←e]at n;have w:=Q7n m row;refine ZY 8 (Zy (Zp (Zcp Ze (Qvg b m) (ZY 8 (ZY 3 ?_)))))
 refine Zb 24 ef (fun d=>?_) (fun d=>?_)
 ·have a:ofV m row tier k l=([],false):=by rw[ofV,Qh (.inl d)]
  refine ZY 8 (ZY 8 (S.Qs (Ent.Xb 152 2) ?_));show S _ o _ (own SV.nil 152 2 (([]:List Cd).flatMap cdC)::_) _;exact Zf ef Zq (⟨SV.nil,by rw[a];rfl,by rw[a];rfl,by rw[a]⟩)
 ·refine ZY 4 ?_
  refine Zb 28 ef (fun c=>?_) (fun c=>?_)
  ·have a:ofV m row tier k l=([],false):=by rw[ofV,Qh (.inr (.inl c))]
   refine ZY 8 (ZY 4 (S.Qs (Ent.Xb 152 2) ?_));show S _ o _ (own SV.nil 152 2 (([]:List Cd).flatMap cdC)::_) _;exact Zf ef Zq (⟨SV.nil,by rw[a];rfl,by rw[a];rfl,by rw[a]⟩)
  ·refine ZY 5 ?_
   refine Zj ef (fun J=>?_) (fun J=>?_)
   ·have a:ofV m row tier k l=([],false):=by rw[ofV,Qh (.inr (.inr Qb))]
    refine ZY 6 (S.Qs (Ent.Xb 152 2) ?_);show S _ o _ (own SV.nil 152 2 (([]:List Cd).flatMap cdC)::_) _;exact Zf ef Zq (⟨SV.nil,by rw[a];rfl,by rw[a];rfl,by rw[a]⟩)
   ·have j:ofV m row tier k l=match N9 m al (Ma m row) k (al.length+1) with|some i=>(al.take i,true)|none=>([],false):=by rw[ofV,Qe Qb,←e]
    refine ZY 5 (Zp (Zcp Ze (Zj6 b m row) (ZY 8 (Zp (Zc1 Ze (Q5p b m row tier R s l N E G A) ?_)))));rintro v y ⟨u,rfl,t,rfl⟩;rw[←e]at t ⊢;refine S.Xn u fun K L M=>(ZY 7 ?_);refine Zl (fun q f g=>∃i:Nat,q=al.length-i∧i≤al.length∧N9 m al (Ma m row) k i=none∧f=[(0,.pointer (some ⟨b,0,none⟩)),(4,.int .i64 k),(14,.int .i64 (L4 m al (Ma m row) i:Nat)),(15,u.v),(16,.int .i64 (i:Int))]∧g=own u 152 2 (al.flatMap cdC)::MI b m::R::Wo W::r) (m:=_) (⟨0,rfl,Qb,rfl,rfl,rfl⟩) ?_;rintro q f g ⟨i,T,U,B,rfl,rfl⟩;have D:=Qlc (m:=m) (al:=al) w i;refine ZY 8 (Zy ?_)
    refine Zj ef (fun I=>?_) (fun I=>?_)
    ·have p:N9 m al (Ma m row) k (i+1)=some i:=by rw[N9,B];exact Qh Qb
     have a:ofV m row tier k l=(al.take i,true):=by rw[j,Qfl p Qb]
     refine ZY 4 (Zv (Qb4 (i) Eo.h rfl rfl rfl Qb) (ZY 4 (S.conv (own u 152 2 (al.flatMap cdC)) (Ent.Qm6 u 152 2 _ (k:=i) Qb _) ?_)));rw[P6 Qn5 al i];exact Zf ef Zq (⟨⟨u.a,i,u.c⟩,by rw[a];rfl,by rw[a];show i=(al.take i).length;rw[V9];omega,by rw[a]⟩)
    ·have p:N9 m al (Ma m row) k (i+1)=none:=by rw[N9,B];exact Qe Qb
     refine ZY 8 (Zy ?_)
     refine Zj ef (fun H=>?_) (fun H=>?_)
     ·have a:ofV m row tier k l=([],false):=by rw[j,show al.length+1=i+1 by omega,p]
      refine ZY 6 (S.Qs (Ent.Xb 152 2) ?_);show S _ o _ (own SV.nil 152 2 (([]:List Cd).flatMap cdC)::_) _;exact Zf ef Zq (⟨SV.nil,by rw[a];rfl,by rw[a];rfl,by rw[a]⟩)
     ·refine S.Q7 u Qb fun Q P h _ _ _=>?_;obtain⟨x,z⟩:=Xs (show i<al.length by omega);have O:al.getD i (0,0)=x:=by simp[List.getD,z]
      have C:L4 m al (Ma m row) (i+1)=L4 m al (Ma m row) i+Qum m x.1:=by rw[L4,O]
      have F:=Qyj m x.1;refine ZY 6 (Zv (Zx (i) ef (h) ef Qb) (Zy (Zv (Zo (u) (i*2+0) ef (h) (flat_get (enc:=cdC) (sz:=2) (k:=0) (v:=.int .u32 (x.1:Int)) Qn5 z rfl)) (Zp (Zcp Ze (Zds b m x.1 A) (Zv (Bm rfl rfl (Xy Qb Qb)) (ZY 4 (Zv (Bm rfl rfl (Xy Qb Qb)) (ZY 2 ?_)))))))));exact ZX (q-1) (⟨i+1,Qb,Qb,p,by rw[C],rfl⟩) Qb
def Q70(v w:List Cd):Int:=orI [V2 (v.length:Int) (w.length:Int),V2 (La v) (La w)]
def Qc4(m:Mx)(tier k:Int)(l:List Cd):Nat→List Cd×Nat×Bool
 | 0=>([],0,false)
 | i+1=>if ((ofV m (i:Nat) tier k l).2&&(!(Qc4 m tier k l i).2.2 || decide (Q70 (ofV m (i:Nat) tier k l).1 (Qc4 m tier k l i).1<0)))=true then ((ofV m (i:Nat) tier k l).1,i,true) else Qc4 m tier k l i
def Pb(m:Mx)(tier k:Int)(l:List Cd):List Cd×Nat×Bool:=Qc4 m tier k l m.R
theorem Q5q{m:Mx}{row tier:Int}{l:List Cd}{x:Cd}(h:x∈Qhs m row tier l):x∈l:=by
 have a:=(Hq _).mem_iff.1 h;exact Qop (A1 (Q1 _) a)
theorem Qxk{m:Mx}{row tier k:Int}{l:List Cd}{x:Cd}(h:x∈(ofV m row tier k l).1):x∈l:=by
 unfold ofV at h
 split at h
 ·cases h
 ·split at h
  ·exact Q5q (Qop h)
  ·cases h
theorem Zbw(m:Mx)(row tier k:Int)(l:List Cd):(ofV m row tier k l).1.length≤l.length:=by
 have:=Qhr m row tier l;unfold ofV
 split
 ·simp
 ·split
  ·simp only[V9];omega
  ·simp
set_option maxHeartbeats 1000000 in
theorem Qsc(b:Nat)(m:Mx)(tier k:Int)(R:Assn)(s:SV)(l:List Cd)(X:s.n=l.length)(P:l.length≤1000)(M:∀x∈l,0≤x.2∧x.2≤255)(U:RdS R s s.n 2 (l.flatMap cdC)){W:World}(Q:Dx W):Spec Tryz.prog 82 [.pointer (some ⟨b,0,none⟩),s.v,.int .u8 tier,.int .i64 k] [MI b m,R,Wo W] fun E v H=>
  ∃u:SV,v=.tuple #[.agg #[.int .i64 ((Pb m tier k l).2.1:Nat),u.v],.bool (Pb m tier k l).2.2]∧u.n=(Pb m tier k l).1.length∧H=own u 31 1 (Yp (A3 (Pb m tier k l).1))::MI b m::R::Wo W::E:=by
 refine Spec.Q0o fun J=>?_;refine Zbd Tryz.func82 rfl Tryz.ntmps82 fun N E=>Zsh ?_;have T:=J.R8;refine ZY 2 (Zp (S.alloc Tryz.z154.h rfl ?_));intro G;refine ZY 8 (ZY 6 (Zp (Zcp Ze (Qvg b m) (ZY 8 (Zy (S.Qs (Ent.Xb 152 2) ?_))))));show S _ N _ (own SV.nil 152 2 (([]:List Cd).flatMap cdC)::_) _;refine ZY 4 ?_;refine Zl (fun q o p=>∃(i:Nat) (g:SV) (a:List Cd) (row:Nat) (found:Bool),q=m.R-i∧i≤m.R∧Qc4 m tier k l i=(a,row,found)∧g.n=a.length∧a.length≤1000∧(∀x∈a,x∈l) ∧   o=[(0,.pointer (some ⟨b,0,none⟩)),(1,s.v),(2,.int .u8 tier),(3,.int .i64 k),(8,.pointer (some ⟨G,0,none⟩)),(10,g.v),(11,.int .i64 (row:Int)),(12,.bool found),(23,.int .i64 (m.R:Int)),(24,.int .i64 (i:Int))] ∧   p=own g 152 2 (a.flatMap cdC)::blk G 154 #[.int .i64 0,.slice none 0 0]::MI b m::R::Wo W::E) (m:=_) (⟨0,SV.nil,[],0,false,rfl,Qb,rfl,rfl,Q2,fun _ h=>(by cases h),rfl,rfl⟩) ?_;rintro q o p ⟨i,g,a,row,found,Y,Z,C,n,z,y,rfl,rfl⟩;obtain⟨vl,ok,F⟩:∃vl ok,ofV m (i:Nat) tier k l=(vl,ok):=⟨_,_,rfl⟩;have w:=Zbw m (i:Nat) tier k l;have t:∀x∈vl,x∈l:=fun x B=>Qxk (m:=m) (row:=(i:Nat)) (tier:=tier) (k:=k) (by rw[F];exact B);rw[F]at w;have w:vl.length≤l.length:=w;obtain⟨c,r⟩:∃c,c=(ok&&(!found || decide (Q70 vl a<0))):=⟨_,rfl⟩;have A:Qc4 m tier k l (i+1)=if c=true then (vl,i,true) else (a,row,found):=by rw[Qc4,C,F,r]
 refine ZY 5 ?_
 refine Zj ef (fun V=>?_) (fun V=>?_)
 ·refine ZY 8 (ZY 7 (Zp (Zc1 Ze (Zpb b m (i:Nat) tier k R s l X P U Q) ?_)));rintro v H ⟨u,rfl,j,rfl⟩;rw[F]at j ⊢;simp only at j ⊢;refine ZY 7 ?_
  refine Zc (fun o p=>o=[(0,.pointer (some ⟨b,0,none⟩)),(1,s.v),(2,.int .u8 tier),(3,.int .i64 k),(8,.pointer (some ⟨G,0,none⟩)),(10,g.v),(11,.int .i64 (row:Int)),(12,.bool found),(15,.int .i64 (i:Int)),(16,u.v),(23,.int .i64 (m.R:Int)),(24,.int .i64 (i:Int)),(55,.bool c)] ∧   p=own u 152 2 (vl.flatMap cdC)::own g 152 2 (a.flatMap cdC)::blk G 154 #[.int .i64 0,.slice none 0 0]::MI b m::R::Wo W::E) ?_ ?_
  ·refine ZY 3 ?_
   refine Zbb 37 ef (fun d=>?_) (fun d=>?_)
   ·refine ZY 3 ?_
    refine Zbb 40 ef (fun f=>?_) (fun f=>?_)
    ·refine ZY 8 (ZY 8 ?_);first|(have e:c=decide (orI [V2 u.n g.n,V2 (La vl) (La a)]<0):=(by rw[r,d,f,Q70,j,n];rfl) ;rw[e] ;exact S.meet ⟨rfl,rfl⟩ ⟨rfl,rfl,rfl,rfl,rfl,rfl,rfl,rfl,rfl,rfl,rfl,rfl,rfl,trivial⟩ Sub.Qs)|(have e:c=true:=(by rw[r,d,f];rfl) ;rw[e] ;exact S.meet ⟨rfl,rfl⟩ ⟨rfl,rfl,rfl,rfl,rfl,rfl,rfl,rfl,rfl,rfl,rfl,rfl,rfl,trivial⟩ Sub.Qs)|(have e:c=false:=(by rw[r,d];rfl) ;rw[e] ;exact S.meet ⟨rfl,rfl⟩ ⟨rfl,rfl,rfl,rfl,rfl,rfl,rfl,rfl,rfl,rfl,rfl,rfl,rfl,trivial⟩ Sub.Qs)
    ·refine ZY 4 (Zg ef ef ef (Zcp Ze (Qed u.n g.n) (Zy ?_)));refine Zg ef ef ef (Zcp Ze (Zez (own u 152 2 (vl.flatMap cdC)) u vl j RdS.own (fun x B=>M x (t x B))) (Zy ?_));refine Zg ef ef ef (Zcp Ze (Zez (own g 152 2 (a.flatMap cdC)) g a n RdS.own (fun x B=>M x (y x B))) (Zg ef ef ef (Zcp Ze (Qed (La vl) (La a)) ?_)));refine Zg ef ef ef (S.buildSlice (pvs:=[(_,_),(_,_)]) [_,_] Tryz.underlying66 Tryz.N3.h rfl rfl ⟨⟨rfl,rfl⟩,⟨rfl,rfl⟩,trivial⟩ rfl rfl ?_);intro D;refine Zg ef ef ef (Zcp Ze (Zrt (blk D 3 #[.int .i64 (V2 u.n g.n),.int .i64 (V2 (La vl) (La a))]) ⟨some ⟨D,0,none⟩,2,2⟩ [V2 u.n g.n,V2 (La vl) (La a)] rfl (Zk1 (cs:=[.int .i64 (V2 u.n g.n),.int .i64 (V2 (La vl) (La a))]) rfl (by unfold maxLen;omega))) (ZY 4 ?_));first|(have e:c=decide (orI [V2 u.n g.n,V2 (La vl) (La a)]<0):=(by rw[r,d,f,Q70,j,n];rfl) ;rw[e] ;exact S.meet ⟨rfl,rfl⟩ ⟨rfl,rfl,rfl,rfl,rfl,rfl,rfl,rfl,rfl,rfl,rfl,rfl,rfl,trivial⟩ Sub.Qs)|(have e:c=true:=(by rw[r,d,f];rfl) ;rw[e] ;exact S.meet ⟨rfl,rfl⟩ ⟨rfl,rfl,rfl,rfl,rfl,rfl,rfl,rfl,rfl,rfl,rfl,rfl,rfl,trivial⟩ Sub.Qs)|(have e:c=false:=(by rw[r,d];rfl) ;rw[e] ;exact S.meet ⟨rfl,rfl⟩ ⟨rfl,rfl,rfl,rfl,rfl,rfl,rfl,rfl,rfl,rfl,rfl,rfl,rfl,trivial⟩ Sub.Qs)
   ·refine ZY 8 (ZY 8 (ZY 3 ?_));first|(have e:c=decide (orI [V2 u.n g.n,V2 (La vl) (La a)]<0):=(by rw[r,d,f,Q70,j,n];rfl) ;rw[e] ;exact S.meet ⟨rfl,rfl⟩ ⟨rfl,rfl,rfl,rfl,rfl,rfl,rfl,rfl,rfl,rfl,rfl,rfl,rfl,trivial⟩ Sub.Qs)|(have e:c=true:=(by rw[r,d,f];rfl) ;rw[e] ;exact S.meet ⟨rfl,rfl⟩ ⟨rfl,rfl,rfl,rfl,rfl,rfl,rfl,rfl,rfl,rfl,rfl,rfl,rfl,trivial⟩ Sub.Qs)|(have e:c=false:=(by rw[r,d];rfl) ;rw[e] ;exact S.meet ⟨rfl,rfl⟩ ⟨rfl,rfl,rfl,rfl,rfl,rfl,rfl,rfl,rfl,rfl,rfl,rfl,rfl,trivial⟩ Sub.Qs)
  ·rintro o p ⟨rfl,rfl⟩
   refine Zi ef (fun K=>?_) (fun K=>?_)
   ·rw[Qh K]at A;refine ZY 8 (Zv (Za ef ef) (ZY 2 ?_));first|exact ZX (q-1) ⟨i+1,u,vl,i,true,Qb,Qb,A,j,Qb,t,rfl,rfl⟩ Qb|exact ZX (q-1) ⟨i+1,g,a,row,found,Qb,Qb,A,n,z,y,rfl,rfl⟩ Qb
   ·rw[Qe (by rw[K];simp)]at A;refine ZY 2 (Zv (Za ef ef) (ZY 2 ?_));first|exact ZX (q-1) ⟨i+1,u,vl,i,true,Qb,Qb,A,j,Qb,t,rfl,rfl⟩ Qb|exact ZX (q-1) ⟨i+1,g,a,row,found,Qb,Qb,A,n,z,y,rfl,rfl⟩ Qb
 ·have L:Pb m tier k l=(a,row,found):=by rw[Pb,←C,show i=m.R by omega]
  refine ZY 5 (Zp (Zc1 Ze (Zh2 (own g 152 2 (a.flatMap cdC)) g a n z RdS.own) ?_));rintro v H ⟨O,rfl,I,rfl⟩;refine Zv (Ye (pvs:=[(_,_),(_,_)]) [_,_] Tryz.z154.h Tryz.Zo7.h ⟨⟨rfl,rfl⟩,⟨rfl,rfl⟩,trivial⟩ rfl) (Zy (Zp (Zs ef ef (cs':=[_,_]) ef (ZY 3 ?_))));exact Zf ef Zq (⟨O,by rw[L];rfl,by rw[L];exact I,by rw[L]⟩)
def Cb(js:List Jb)(j a:Nat):List Jb:=js.map fun x=>if x.id=j then ⟨x.id,a,x.ns⟩ else x
theorem Qzy(js:List Jb)(j t:Nat):(Cb js j t).map (·.id)=js.map (·.id):=by
 rw[Cb,Kk];refine De fun x _=>?_;simp only[Function.comp];split <;> rfl
theorem Zcr{js c:List Jb}(h:c.map (·.id)=js.map (·.id))(e:js.Pairwise (fun a b=>a.id<b.id)):c.Pairwise (fun a b=>a.id<b.id):=by
 have d:(js.map (·.id)).Pairwise (· < ·):=Ww.2 e;rw[←h]at d;exact Ww.1 d
theorem Q0p{js:List Jb}(f:js.Pairwise (fun a b=>a.id<b.id)){x:Jb}(d:x∈js)(t:Nat)(y:Jb):y∈Cb js x.id t↔y=⟨x.id,t,x.ns⟩∨(y∈js∧y.id≠x.id):=by
 rw[Cb,Qq]
 constructor
 ·rintro ⟨z,c,rfl⟩
  by_cases e:z.id=x.id
  ·rw[Qh e,Ng f c d e];exact .inl rfl
  ·rw[Qe e];exact .inr ⟨c,e⟩
 ·rintro (rfl|⟨h,g⟩)
  ·exact⟨x,d,Qh rfl⟩
  ·exact⟨y,h,Qe g⟩
theorem Qy0{m:Mx}(a:W6 m){x:Jb}(c:x∈m.js)(t:Nat):(m.del x.id).add ⟨x.id,t,x.ns⟩={m with js:=Cb m.js x.id t}:=by
 have:Mg ⟨x.id,t,x.ns⟩ (S2 x.id m.js)=Cb m.js x.id t:=by
  refine Zaj (Qba (Qrr a.Y4) fun y b=>(U1.1 b).2) (Zcr (Qzy _ _ _) a.Y4) fun y=>?_;rw[Um,U1,Q0p a.Y4 c]
 simp only[Mx.add,Mx.del,this]
theorem Qta{js:List Jb}(f:js.Pairwise (fun a b=>a.id<b.id)){x:Jb}(d:x∈js):Cb js x.id x.row=js:=by
 refine(De fun y c=>?_).trans (List.map_id _)
 by_cases e:y.id=x.id
 ·rw[Qh e,Ng f c d e];rfl
 ·rw[Qe e];rfl
theorem Qqd(m:Mx)(s:Bs)(c:∀i,s.getLsbD i=true→i<m.N):∀k,k≤(lst s).length→Hr m ((lst s).map fun i:Nat=>(i:Int)) k=true
 | 0,_=>rfl
 | k+1,f=>by
  have d:=Jy.1 (Az s);have a:k<(lst s).length:=Qb
  have e1:((lst s).map fun i:Nat=>(i:Int)).getD k 0=((lst s)[k]:Int):=by simp[List.getD,List.getElem?_eq_getElem a]
  rw[Hr,Qqd m s c k Qb,e1,Ue.2 ⟨Qb,by have:=c _ (Vw.1 (Qdf a));omega⟩,Tb,Tb,E2,Zz,Zz]
  by_cases e:k=0
  ·exact .inl e
  ·refine .inr ?_;have b:k-1<(lst s).length:=Qb
   have e2:((lst s).map fun i:Nat=>(i:Int)).getD (k-1) 0=((lst s)[k-1]:Int):=by simp[List.getD,List.getElem?_eq_getElem b]
   rw[e2];have:=d (k-1) k b a Qb;omega
theorem Q44(s:Bs):nats ((lst s).map fun i:Nat=>(i:Int))=lst s:=by
 rw[nats,Kk];exact(De fun i _=>by simp[Function.comp]).trans (List.map_id _)
theorem Qz5{m:Mx}(c:W6 m){x:Jb}(b:x∈m.js)(z:Int):Uc (m.del x.id) x.id z ((lst x.ns).map fun i:Nat=>(i:Int)) =
  if Ko m z=false then (1,m.del x.id) else if tk (S2 x.id m.js) z.toNat &&& x.ns≠0#16 then (15,m.del x.id) else (0,{m with js:=Cb m.js x.id z.toNat}):=by
 have k:=c.P3 x b
 have j:0<(lst x.ns).length:=by
  cases e:lst x.ns with
  | nil=>exact absurd (Qnf.1 e) (c.some x b)
  | cons a l=>simp
 have d:Hr (m.del x.id) ((lst x.ns).map fun i:Nat=>(i:Int)) ((lst x.ns).map fun i:Nat=>(i:Int)).length=true:=by
  rw[Qo];exact Qqd (m.del x.id) x.ns (fun i g=>c.ns x b i g) _ (Q1 _)
 have f:Vv (m.del x.id) x.id z ((lst x.ns).map fun i:Nat=>(i:Int))=Ko m z:=by
  rw[Vv,Qo,Zh (show ((x.id:Nat):Int)≠0 by omega),Zh (show (((lst x.ns).length:Nat):Int) > 0 by omega),Tb,Qov];rfl
 have h:look (m.del x.id).js x.id=none:=by
  cases e:look (m.del x.id).js x.id with
  | none=>rfl
  | some y=>obtain⟨q1,q2⟩:=J6 e;exact absurd q2 (U1.1 q1).2
 rw[Uc,f,d,Qov,h,Q44,Zby]
 by_cases e:Ko m z=false
 ·rw[Qh e,Qh e]
 ·rw[Qe e,Qe e,←Qy0 c b];rfl
def Ku(m:Mx)(x:Jb)(z:Int):Bool:=Ko m z&&decide (tk (S2 x.id m.js) z.toNat &&& x.ns=0#16)
def Ug(m:Mx)(j:Nat)(z:Int):Option (Nat×Int×Int)×Mx:=match look m.js j with
 | none=>(none,m)
 | some x=>if Ku m x z then (some (j,(x.row:Int),z),{m with js:=Cb m.js j z.toNat}) else (none,m)
theorem W6.Zbx{m:Mx}(a:W6 m){x:Jb}(b:x∈m.js){t:Nat}(d:t<m.R)(e:tk (S2 x.id m.js) t &&& x.ns=0#16):W6 {m with js:=Cb m.js x.id t}:=by
 rw[←Qy0 a b];exact(a.del x.id).add (fun y c=>(U1.1 c).2) (a.P3 x b) (a.Rx x b) d (a.some x b) (a.ns x b) e
theorem Qhj{m:Mx}(b:W6 m)(j:Nat)(z:Int):W6 (Ug m j z).2:=by
 unfold Ug;cases h:look m.js j with
 | none=>exact b
 | some x=>
  obtain⟨d,c⟩:=J6 h;simp only
  by_cases a:Ku m x z=true
  ·rw[Qh a];rw[Ku,Z5,Zz]at a;have e:=Uk.1 a.1;rw[←c];exact b.Zbx d Qb a.2
  ·rw[Qe a];exact b
abbrev Mv:=Nat×Int×Int
def Je(m:Mx)(j:Nat):Nat→Option (Mv×Mx)
 | 0=>none
 | i+1=>match Je m j i with
  | some r=>some r
  | none=>match Ug m j i with
   | (some x,a)=>some (x,a)
   | (none,_)=>none
def Gk(j:Nat)(ids:List Nat)(a:Mx×List Mv):Nat→Mx×List Mv
 | 0=>a
 | q+1=>match Je (Gk j ids a q).1 (ids.getD q 0) j with
  | some r=>(r.2,(Gk j ids a q).2++[r.1])
  | none=>Gk j ids a q
def T0(m:Mx):Nat→Mx×List Mv
 | 0=>(m,[])
 | k+1=>Gk (k+1) (Yq (T0 m k).1 ((k+1:Nat):Int)) (T0 m k) (Yq (T0 m k).1 ((k+1:Nat):Int)).length
def Hc(m:Mx):Mx×List Mv:=T0 m (m.R-1)
theorem Qxt(m:Mx)(j:Nat)(z:Int):(Ug m j z).2.R=m.R∧(Ug m j z).2.N=m.N∧(Ug m j z).2.up=m.up:=by
 unfold Ug;cases look m.js j with
 | none=>exact⟨rfl,rfl,rfl⟩
 | some x=>simp only;split <;> exact⟨rfl,rfl,rfl⟩
theorem Qhi{m:Mx}{j:Nat}{z:Int}{x:Mv}{b:Mx}(h:Ug m j z=(some x,b)):∃y,look m.js j=some y∧Ku m y z=true∧x=(j,(y.row:Int),z)∧b={m with js:=Cb m.js j z.toNat}:=by
 unfold Ug at h;cases c:look m.js j with
 | none=>rw[c]at h;simp at h
 | some y=>
  rw[c]at h;simp only at h
  by_cases a:Ku m y z=true
  ·rw[Qh a]at h;simp only[Hx,Km]at h;exact⟨y,rfl,a,h.1.symm,h.2.symm⟩
  ·rw[Qe a]at h;simp at h
theorem Qhk{m:Mx}{j:Nat}{z:Int}{c:Mx}(h:Ug m j z=(none,c)):c=m∧∀y,look m.js j=some y→Ku m y z=false:=by
 unfold Ug at h;cases d:look m.js j with
 | none=>rw[d]at h;simp only[Hx,B3]at h;exact⟨h.symm,fun y e=>by cases e⟩
 | some y=>
  rw[d]at h;simp only at h
  by_cases b:Ku m y z=true
  ·rw[Qh b]at h;simp at h
  ·rw[Qe b]at h;simp only[Hx,B3]at h;exact⟨h.symm,fun f a=>by cases a;simpa using b⟩
theorem Qzt{m:Mx}{f:Nat}(a:f<m.R):Yq m f=(Hy m f).map (·.id):=by rw[Yq,Qh (Uk.2 ⟨Qb,Qb⟩),K0]
theorem Qtv{m:Mx}(a:W6 m){f:Nat}(c:f<m.R){j:Nat}:j∈Yq m f↔∃x∈m.js,x.row=f∧x.id=j:=by
 rw[Qzt c,Qq]
 constructor
 ·rintro ⟨x,b,rfl⟩;exact⟨x,((Wx a).1 b).1,((Wx a).1 b).2,rfl⟩
 ·rintro ⟨x,e,d,rfl⟩;exact⟨x,(Wx a).2 ⟨e,d⟩,rfl⟩
abbrev casts(l:List Nat):List Int:=l.map fun i:Nat=>(i:Int)
theorem Ze0(s:SV)(T:TypeId)(l:List Nat):RdS (own s T 1 (nds l)) s s.n 1 (ints (casts l)):=by
 have e:ints (casts l)=nds l:=Q2
 rw[e];exact RdS.own
theorem Cj{l:List Nat}{i x:Nat}(h:l[i]?=some x):(Yp l)[i]?=some (.int .u32 (x:Int)):=by
 show (l.map _)[i]?=_;rw[Q8,h];rfl
abbrev mvC(x:Mv):List Value:=[.int .u32 (x.1:Int),.int .i64 x.2.1,.int .i64 x.2.2]
abbrev mvV(x:Mv):Value:=.agg #[.int .u32 (x.1:Int),.int .i64 x.2.1,.int .i64 x.2.2]
def mvR(o:Option Mv):Mv:=o.getD (0,0,0)
theorem Aq{m:Mx}(d:W6 m){x:Jb}(c:x∈m.js)(z:Int):(Ku m x z=true→Uc (m.del x.id) x.id z ((lst x.ns).map fun i:Nat=>(i:Int))=(0,{m with js:=Cb m.js x.id z.toNat})) ∧
  (Ku m x z=false→∃e:Int,e≠0∧Uc (m.del x.id) x.id z ((lst x.ns).map fun i:Nat=>(i:Int))=(e,m.del x.id)):=by
 rw[Qz5 d c]
 constructor
 ·intro h;rw[Ku,Z5,Zz]at h;rw[Qe (by rw[h.1];simp),Qe (fun e=>e h.2)]
 ·intro h
  by_cases a:Ko m z=false
  ·rw[Qh a];exact⟨1,Qb,rfl⟩
  ·rw[Qe a]
   by_cases b:tk (S2 x.id m.js) z.toNat &&& x.ns≠0#16
   ·rw[Qh b];exact⟨15,Qb,rfl⟩
   ·exfalso;rw[Ku,show Ko m z=true by simpa using a,decide_eq_true (Classical.byContradiction b)]at h;cases h
theorem Qz4{m:Mx}(b:W6 m){x:Jb}(a:x∈m.js):Uc (m.del x.id) x.id (x.row:Int) ((lst x.ns).map fun i:Nat=>(i:Int))=(0,m):=by
 have d:=b.row x a
 have c:Ku m x (x.row:Int)=true:=by
  rw[Ku,Uk.2 ⟨Qb,Qb⟩,Tb,Zz,K0,Qwk b a,Qh rfl];refine Qdm fun i _=>?_;rw[C2,C2,Qdl];cases x.ns.getLsbD i <;> simp
 rw[(Aq b a _).1 c,K0,Qta b.Y4 a]
theorem Zht(b:Nat)(m:Mx)(j:Nat)(z:Int)(t:j≤4294967295){W:World}(y:Dx W):Spec Tryz.prog 86 [.pointer (some ⟨b,0,none⟩),.int .u32 (j:Int),.int .i64 z] [MI b m,Wo W] fun r v q=>v=.tuple #[mvV (mvR (Ug m j z).1),.bool (Ug m j z).1.isSome]∧q=MI b (Ug m j z).2::Wo W::r:=by
 refine Spec.Q0o fun d=>?_;refine Zbd Tryz.func86 rfl Tryz.ntmps86 fun B r=>Zsh (ZY 2 (Zp (S.alloc Tryz.Q2r.h rfl ?_)));intro C;refine ZY 6 (Zp (Zc1 Ze (Zj0 b m j y) ?_));rintro v q ⟨sv,rfl,o,rfl⟩;refine ZY 8 (ZY 6 ?_)
 refine Zi ef (fun k=>?_) (fun k=>?_)
 ·have w:look m.js j=none:=by cases h:look m.js j with|none=>rfl|some x=>rw[Es h]at k;cases k
  have a:Ug m j z=(none,m):=by simp only[Ug,w]
  refine ZY 2 ?_;refine Zv (Ye (pvs:=[]) [_,_,_] Tryz.Q2r.h Tryz.Zhn.h trivial rfl) (Zp (Zs ef ef (cs':=[_,_,_]) ef (ZY 3 ?_)));exact Zf ef Zq (⟨by rw[a];rfl,by rw[a]⟩)
 ·obtain⟨x,g⟩:∃x,look m.js j=some x:=by cases h:look m.js j with|none=>rw[Qaf h]at k;cases k|some x=>exact⟨x,rfl⟩
  obtain⟨n,c⟩:=J6 g;rw[Es g]at o ⊢;simp only at o ⊢;refine ZY 5 (Zp (Zcp Ze (Qr7 b m j) ?_));rw[Mz g];refine ZY 8 (Zp (Zcp Ze (Q8v b (m.del j) j z (own sv 3 1 (nds (lst x.ns))) sv (casts (lst x.ns)) (by rw[o,Qo]) (Ze0 sv 3 (lst x.ns)) t) (ZY 2 ?_)))
  refine Zj ef (fun p=>?_) (fun p=>?_)
  ·have f:Ku m x z=false:=by
    cases h:Ku m x z with
    | false=>rfl
    | true=>
     have i:=(Aq d n z).1 h;rw[c]at i;exact absurd (by rw[i]) p
   obtain⟨e,_,u⟩:=(Aq d n z).2 f;rw[c]at u;have l:=Qz4 d n;rw[c]at l;have a:Ug m j z=(none,m):=by simp only[Ug,g];rw[Qe (by rw[f];simp)]
   rw[u];refine ZY 6 (Zp (Zcp Ze (Q8v b (m.del j) j (x.row:Int) (own sv 3 1 (nds (lst x.ns))) sv (casts (lst x.ns)) (by rw[o,Qo]) (Ze0 sv 3 (lst x.ns)) t) ?_));rw[l];refine ZY 3 ?_;refine Zv (Ye (pvs:=[]) [_,_,_] Tryz.Q2r.h Tryz.Zhn.h trivial rfl) (Zp (Zs ef ef (cs':=[_,_,_]) ef (ZY 3 ?_)));exact Zf ef Zq (⟨by rw[a];rfl,by rw[a]⟩)
  ·have f:Ku m x z=true:=by
    cases h:Ku m x z with
    | true=>rfl
    | false=>
     obtain⟨e,A,i⟩:=(Aq d n z).2 h;rw[c]at i;exact absurd (by rw[i];exact A) p
   have s:=(Aq d n z).1 f;rw[c]at s;have a:Ug m j z=(some (j,(x.row:Int),z),{m with js:=Cb m.js j z.toNat}):=by simp only[Ug,g];rw[Qh f]
   rw[s];refine ZY 6 ?_;refine Zv (Ye (pvs:=[(_,_),(_,_),(_,_)]) [_,_,_] Tryz.Q2r.h Tryz.Zhn.h ⟨⟨rfl,rfl⟩,⟨rfl,rfl⟩,⟨rfl,rfl⟩,trivial⟩ rfl) (Zp (Zs ef ef (cs':=[_,_,_]) ef (ZY 3 ?_)));exact Zf ef Zq (⟨by rw[a];rfl,by rw[a]⟩)
theorem Qpx(b:Nat)(m:Mx):Spec Tryz.prog 84 [.pointer (some ⟨b,0,none⟩)] [MI b m] fun a v c=>v=.int .i64 (m.R:Int)∧c=MI b m::a:=by
 refine Zbd Tryz.func84 rfl Tryz.ntmps84 fun d a=>Zsh (ZY 7 (Zp (Zcp Ze (Qvg b m) (ZY 8 (ZY 4 ?_)))));exact Zf ef Zq (⟨rfl,rfl⟩)
theorem F5(m:Mx)(z:Int):(Yq m z).length≤16:=by
 unfold Yq
 split
 ·rw[Qo];exact Ty m _
 ·simp
theorem Qdw{m:Mx}{j:Nat}:∀ {p:Nat},Je m j p=none→∀i,i<p→(Ug m j i).1=none
 | 0,_,i,c=>by omega
 | p+1,h,i,c=>by
  rw[Je]at h;cases a:Je m j p with
  | some r=>rw[a]at h;cases h
  | none=>
   rw[a]at h;simp only at h;cases b:Ug m j p with
   | mk x d=>
    rw[b]at h;cases x with
    | some x=>cases h
    | none=>
     by_cases e:i=p
     ·rw[e,b]
     ·exact Qdw a i Qb
theorem Qdx{m:Mx}{j:Nat}{r:Mv×Mx}:∀ {p q:Nat},Je m j p=some r→p≤q→Je m j q=some r
 | p,0,h,a=>by rwa [show p=0 by omega]at h
 | p,q+1,h,a=>by
  by_cases e:p=q+1
  ·rwa [e]at h
  ·rw[Je,Qdx h Qb]
theorem Qdv{m:Mx}(e:W6 m){j:Nat}{r:Mv×Mx}:∀ {p:Nat},Je m j p=some r→W6 r.2∧r.2.R=m.R∧∃i,i<p∧Ug m j i=(some r.1,r.2)
 | 0,h=>by cases h
 | p+1,h=>by
  rw[Je]at h;cases d:Je m j p with
  | some g=>
   rw[d]at h;simp only[Km]at h;subst h;obtain⟨b,a,i,l,f⟩:=Qdv e d;exact⟨b,a,i,Qb,f⟩
  | none=>
   rw[d]at h;simp only at h;cases c:Ug m j p with
   | mk x k=>
    rw[c]at h;cases x with
    | none=>cases h
    | some x=>
     simp only[Km]at h;subst h;have b:=Qhj e j p;have a:=(Qxt m j p).1;rw[c]at b a;exact⟨b,a,p,Qb,c⟩
theorem Q8u(b:Nat)(m:Mx){W:World}(hW:Dx W):Spec Tryz.prog 45 [.pointer (some ⟨b,0,none⟩)] [MI b m,Wo W] fun F v X=>∃(c:Nat) (sv:SV),v=.tuple #[.pointer (some ⟨c,0,none⟩),sv.v]∧sv.n=(Hc m).2.length ∧
  X=own sv 161 3 ((Hc m).2.flatMap mvC)::MI c (Hc m).1::MI b m::Wo W::F:=by
 refine Spec.Q0o fun C=>?_;refine Zbd Tryz.func45 rfl Tryz.ntmps45 fun w0 F=>Zsh ?_;have aa:=C.R8;have ab:=C.R1;refine ZY 8 (Zp (Zc1 Ze (Zka b m) ?_));rintro v X ⟨c,rfl,rfl⟩;refine ZY 8 (Zy (S.Qs (Ent.Xb 161 3) ?_));show S _ w0 _ (own SV.nil 161 3 (([]:List Mv).flatMap mvC)::_) _;refine ZY 3 ?_;refine Zl (fun q a d=>∃(j k:Nat) (sv:SV) (xs:List Mv) (e:Mx),q=m.R-j∧j=k+1∧j≤m.R∧T0 m k=(e,xs)∧W6 e∧e.R=m.R∧xs.length≤16*k∧sv.n=xs.length∧a=[(4,.pointer (some ⟨c,0,none⟩)),(5,sv.v),(6,.int .i64 (j:Int))] ∧   d=own sv 161 3 (xs.flatMap mvC)::MI c e::MI b m::Wo W::F) (m:=_) (⟨1,0,SV.nil,[],m,rfl,rfl,Qb,rfl,C,rfl,Q1 _,rfl,rfl,rfl⟩) ?_;rintro q a d ⟨j,k,sv,xs,e,hq,a0,hj,K,D,N,Tg,G5,rfl,rfl⟩;refine ZY 5 (Zp (Zcp Ze (Qpx c e) ?_));rw[N];refine ZY 2 ?_
 refine Zj ef (fun h1=>?_) (fun h1=>?_)
 ·obtain⟨ids,g⟩:∃ids,ids=Yq e j:=⟨_,rfl⟩;have a2:=F5 e j;rw[←g]at a2
  have Q:∀y∈ids,y≤4294967295:=fun y G=>by
   rw[g]at G;obtain⟨x,h1,_,h3⟩:=(Qtv D Qb).1 G;rw[←h3];exact D.Rx x h1
  have T:T0 m (k+1)=Gk j ids (e,xs) ids.length:=by rw[T0,K,g,a0]
  refine ZY 7 (Zp (Zc1 Ze (Qy3 c e j hW) ?_));rintro v X ⟨o,rfl,Y,rfl⟩;rw[←g]at Y ⊢;refine ZY 4 ?_;refine Zl (fun q2 a d=>∃(p:Nat) (s2:SV) (f:List Mv) (m2:Mx),q2=ids.length-p∧p≤ids.length∧Gk j ids (e,xs) p=(m2,f)∧W6 m2∧m2.R=m.R∧f.length≤16*k+p∧s2.n=f.length∧a=[(4,.pointer (some ⟨c,0,none⟩)),(5,s2.v),(6,.int .i64 (j:Int)),(22,o.v),(23,.int .i64 o.n),(24,.int .i64 (p:Int))] ∧   d=own s2 161 3 (f.flatMap mvC)::own o 31 1 (Yp ids)::MI c m2::MI b m::Wo W::F) (m:=_) (⟨0,sv,xs,e,rfl,Qb,rfl,D,N,Qb,G5,rfl,rfl⟩) ?_;rintro q2 a d ⟨p,s2,f,m2,a9,hp,u,w,A,a6,Da,rfl,rfl⟩;refine ZY 5 ?_
  refine Zj ef (fun h2=>?_) (fun h2=>?_)
  ·refine S.Q7 o Qb fun rb rf M _ _ _=>?_;obtain⟨y,G⟩:=Xs (show p<ids.length by omega);have I:ids.getD p 0=y:=by simp[List.getD,G]
   have a4:=Q y (Yn G);refine ZY 2 ?_
   refine Zc (fun a d=>∃(n:SV) (h:List Mv) (l:Mx),Gk j ids (e,xs) (p+1)=(l,h)∧W6 l∧l.R=m.R∧h.length≤16*k+(p+1)∧n.n=h.length∧a=[(4,.pointer (some ⟨c,0,none⟩)),(5,n.v),(6,.int .i64 (j:Int)),(22,o.v),(23,.int .i64 o.n),(24,.int .i64 (p:Int))] ∧   d=own n 161 3 (h.flatMap mvC)::own o 31 1 (Yp ids)::MI c l::MI b m::Wo W::F) ?_ ?_
   ·refine ZY 3 (Zv (Zx (p) ef (M) ef Qb) (Zv (Zo (o) (p) ef (M) (Cj G)) (ZY 8 ?_)));refine Zl (fun q3 a d=>∃i:Nat,q3=j-i∧i≤j∧Je m2 y i=none∧a=[(4,.pointer (some ⟨c,0,none⟩)),(5,s2.v),(6,.int .i64 (j:Int)),(8,.int .u32 (y:Int)),(22,o.v),(23,.int .i64 o.n),(24,.int .i64 (p:Int)),(28,.int .i64 (j:Int)),(29,.int .i64 (i:Int))] ∧   d=own s2 161 3 (f.flatMap mvC)::own o 31 1 (Yp ids)::MI c m2::MI b m::Wo W::F) (m:=_) (⟨0,rfl,Qb,rfl,rfl,rfl⟩) ?_;rintro q3 a d ⟨i,a8,hi,t,rfl,rfl⟩;refine ZY 5 ?_
    refine Zj ef (fun h3=>?_) (fun h3=>?_)
    ·refine ZY 8 (ZY 5 (Zp (Zcp Ze (Zht c m2 y i a4 hW) (ZY 3 (Zp (S.alloc Tryz.Q2r.h rfl ?_))))));intro ad;refine Zp (Zs ef ef (cs':=[_,_,_]) ef (ZY 6 ?_))
     refine Zi ef (fun R=>?_) (fun R=>?_)
     ·obtain⟨x,m3,B⟩:∃x m3,Ug m2 y i=(some x,m3):=by
       cases B:Ug m2 y i with
       | mk x m'=>
        rw[B]at R;cases x with
        | none=>cases R
        | some x=>exact⟨x,m',rfl⟩
      have z:Je m2 y (i+1)=some (x,m3):=by rw[Je,t];simp only[B]
      have U:=Qdx z (show i+1≤j by omega);have r:Gk j ids (e,xs) (p+1)=(m3,f++[x]):=by rw[Gk,u,I,U]
      obtain⟨O,a5,_⟩:=Qdv w U;have V:m3.R=m.R:=a5.trans A;rw[B];simp only[mvR,Tf];refine ZY 4 ?_;refine Zp (S.buildSlice (pvs:=[(_,_)]) [_,_,_] Tryz.underlying92 Tryz.Q54.h rfl rfl ⟨⟨rfl,rfl⟩,trivial⟩ rfl rfl ?_);intro a3;refine Zp (S.Z6 (s:=s2) (1) (mvC x) Tryz.underlying92 Tryz.Q54.h rfl rfl rfl (Yb (b:=a3) rfl (by unfold maxLen;omega)) (by first|rfl|exact Qw _) (⟨Qb,Qb⟩) rfl ?_);intro s4 a7;refine ZY 3 ?_;first|(rw[Wv mvC f x];exact S.meet ⟨s4,f++[x],m3,r,O,V,by rw[Yd,Y0];omega,by rw[Yd,Y0];omega,rfl,rfl⟩ ⟨rfl,rfl,rfl,rfl,rfl,rfl,trivial⟩ Sub.Qs)|exact S.meet ⟨s2,f,m2,r,w,A,Qb,Da,rfl,rfl⟩ ⟨rfl,rfl,rfl,rfl,rfl,rfl,trivial⟩ Sub.Qs
     ·have z:Je m2 y (i+1)=none∧(Ug m2 y i).2=m2:=by
       cases B:Ug m2 y i with
       | mk x m'=>
        rw[B]at R;cases x with
        | some x=>cases R
        | none=>exact⟨by rw[Je,t];simp only[B],(Qhk B).1⟩
      rw[z.2];refine ZY 2 (Zv (Za ef ef) (ZY 2 ?_));exact ZX (q3-1) (⟨i+1,Qb,Qb,z.1,rfl,rfl⟩) Qb
    ·have a1:i=j:=Qb
     rw[a1]at t;have r:Gk j ids (e,xs) (p+1)=(m2,f):=by rw[Gk,u,I,t]
     refine Zy ?_;first|(rw[Wv mvC f x];exact S.meet ⟨s4,f++[x],m3,r,O,V,by rw[Yd,Y0];omega,by rw[Yd,Y0];omega,rfl,rfl⟩ ⟨rfl,rfl,rfl,rfl,rfl,rfl,trivial⟩ Sub.Qs)|exact S.meet ⟨s2,f,m2,r,w,A,Qb,Da,rfl,rfl⟩ ⟨rfl,rfl,rfl,rfl,rfl,rfl,trivial⟩ Sub.Qs
   ·rintro a d ⟨n,h,l,L,P,E,H,J,rfl,rfl⟩;refine Zy (Zv (Za ef ef) (ZY 2 ?_));exact ZX (q2-1) (⟨p+1,n,h,l,Qb,Qb,L,P,E,H,J,rfl,rfl⟩) Qb
  ·have Z:p=ids.length:=Qb
   rw[Z]at u;rw[u]at T;refine ZY 3 (Zv (Za ef ef) (ZY 2 ?_));exact ZX (q-1) (⟨j+1,k+1,s2,f,m2,Qb,Qb,Qb,T,w,A,Qb,Da,rfl,rfl⟩) Qb
 ·have Wz:Hc m=(e,xs):=by rw[Hc,show m.R-1=k by omega,K]
  refine ZY 8 (Zy ?_);exact Zf ef Zq (⟨c,sv,rfl,by rw[Wz];exact G5,by rw[Wz]⟩)
end Go.Proofs.YtdackcibfkkniaaGreatDoor
namespace Go.Proofs.YtdackcibfkkniaaGreatDoor
namespace PR
open Go.RowKit
structure It where
 id:Int
 tier:Int
 since:Int
 deriving DecidableEq
instance:Inhabited It:=⟨⟨0,0,0⟩⟩
abbrev itC(x:It):List Value:=[.int .u32 x.id,.int .u8 x.tier,.int .u32 x.since]
theorem Gi:∀x,(itC x).length=3:=fun _=>rfl
def V2(a b:Int):Int:=if a<b then -1 else if b<a then 1 else 0
def bf(a b:It):Bool:=decide (b.tier<a.tier∨(a.tier=b.tier∧(a.since<b.since∨(a.since=b.since∧a.id<b.id))))
theorem Zjr(a:It):bf a a=false:=Q6 Qb
theorem Q8a{a b c:It}(e:bf a b=true)(d:bf b c=true):bf a c=true:=by
 simp only[bf,Zz]at *;omega
theorem Zgd{a b:It}(c:bf a b=true):bf b a=false:=by
 simp only[bf,Zz,Af]at *;omega
theorem Zgc{a b c:It}(e:bf a b=false)(d:bf b c=false):bf a c=false:=by
 simp only[bf,Af]at *;omega
theorem Q8b{a b:It}(h:a.id≠b.id):bf a b=true∨bf b a=true:=by
 simp only[bf,Zz];omega
theorem Ly(x:Int)(W:World):J4 Tryz.prog 201 [.int .u8 x] W (.bool false):=by
 refine Zbd Tryz.func201 rfl Tryz.ntmps201 fun b a=>Zsh (ZY 8 (ZY 4 ?_));exact Zf ef Zq (⟨by simp only[Vt];rw[Q6 (fun h=>h rfl)],rfl⟩)
theorem A4(x:Int)(W:World):J4 Tryz.prog 192 [.int .u32 x] W (.bool false):=by
 refine Zbd Tryz.func192 rfl Tryz.ntmps192 fun b a=>Zsh (ZY 8 (ZY 4 ?_));exact Zf ef Zq (⟨by simp only[Vt];rw[Q6 (fun h=>h rfl)],rfl⟩)
theorem S9(x y:Int)(W:World):J4 Tryz.prog 170 [.int .u8 x,.int .u8 y] W (.int .i64 (V2 x y)):=by
 refine Zbd Tryz.func170 rfl Tryz.ntmps170 fun e d=>Zsh (ZY 7 ?_);refine Zp (S.K9 Eo.h (vs:=[_]) ⟨rfl,trivial⟩ (fun w a=>Ly x w) rfl (ZY 5 ?_));refine Zp (S.K9 Eo.h (vs:=[_]) ⟨rfl,trivial⟩ (fun w a=>Ly y w) rfl (ZY 7 (ZF ef (ZY 6 (ZF ef (ZY 8 ?_))))))
 refine Zj ef (fun c=>?_) (fun c=>?_)
 ·refine ZY 5 ?_;exact Zf ef Zq (⟨by simp only[Vt,V2];rw[Qh (by assumption)],rfl⟩)
 ·refine ZY 8 ?_
  refine Zj ef (fun b=>?_) (fun b=>?_)
  ·refine ZY 5 ?_;exact Zf ef Zq (⟨by simp only[Vt,V2];rw[Qe (by assumption),Qh (by assumption)],rfl⟩)
  ·refine ZY 6 ?_;exact Zf ef Zq (⟨by simp only[Vt,V2];rw[Qe (by assumption),Qe (by assumption)],rfl⟩)
theorem B1(x y:Int)(W:World):J4 Tryz.prog 171 [.int .u32 x,.int .u32 y] W (.int .i64 (V2 x y)):=by
 refine Zbd Tryz.func171 rfl Tryz.ntmps171 fun e d=>Zsh (ZY 7 ?_);refine Zp (S.K9 Eo.h (vs:=[_]) ⟨rfl,trivial⟩ (fun w a=>A4 x w) rfl (ZY 5 ?_));refine Zp (S.K9 Eo.h (vs:=[_]) ⟨rfl,trivial⟩ (fun w a=>A4 y w) rfl (ZY 7 (ZF ef (ZY 6 (ZF ef (ZY 8 ?_))))))
 refine Zj ef (fun c=>?_) (fun c=>?_)
 ·refine ZY 5 ?_;exact Zf ef Zq (⟨by simp only[Vt,V2];rw[Qh (by assumption)],rfl⟩)
 ·refine ZY 8 ?_
  refine Zj ef (fun b=>?_) (fun b=>?_)
  ·refine ZY 5 ?_;exact Zf ef Zq (⟨by simp only[Vt,V2];rw[Qe (by assumption),Qh (by assumption)],rfl⟩)
  ·refine ZY 6 ?_;exact Zf ef Zq (⟨by simp only[Vt,V2];rw[Qe (by assumption),Qe (by assumption)],rfl⟩)
def orI:List Int→Int
 | []=>0
 | x::l=>if x≠0 then x else orI l
abbrev ints(l:List Int):List Value:=l.map (Value.int .i64)
theorem Q8w(s:SV)(l:List Int)(W:World)(u:s.n=l.length)(h0:Ez W s.v l.length 1 (ints l)):J4 Tryz.prog 121 [s.v] W (.int .i64 (orI l)):=by
 have e:=Tp h0;unfold maxLen at e;refine Zbd Tryz.func121 rfl Tryz.ntmps121 fun t j=>Zsh (ZY 8 (ZY 8 ?_));refine Zl (fun m c d=>∃k:Nat,m+k=l.length∧orI l=orI (l.drop k)∧c=[(3,.int .i64 0),(6,s.v),(7,.int .i64 s.n),(8,.int .i64 k)]∧d=Wo W::j) (m:=_) (⟨0,rfl,rfl,rfl,rfl⟩) ?_;rintro m c d ⟨k,n,a,rfl,rfl⟩;refine ZY 5 ?_
 refine Zj ef (fun q=>?_) (fun q=>?_)
 ·obtain⟨x,f⟩:=Xs (l:=l) (i:=k) Qb;obtain⟨b,off,o,r⟩:=F1 h0 Qb
  have h:l.drop k=x::l.drop (k+1):=by
   have g:=(Yz.1 f);rw[R2 g.1,g.2]
  refine ZY 5 (Zv (Zx (k) ef (o) ef Qb) ?_);refine Zv (Bk Eo.h rfl (r _ _ (by rw[Kz,Q8,f];rfl))) ?_;refine ZY 8 ?_
  refine Zj ef (fun p=>?_) (fun p=>?_)
  ·refine ZY 6 ?_;exact Zf ef Zq (⟨by simp only[Vt];rw[a,h,orI,Qh (by assumption)],rfl⟩)
  ·refine ZY 2 (Zv (Za ef ef) (ZY 2 ?_));exact ZX (m-1) (⟨k+1,Qb,by rw[a,h,orI,Qe (by assumption)],rfl,rfl⟩) Qb
 ·refine ZY 7 ?_;exact Zf ef Zq (⟨by simp only[Vt];rw[a,Qlt Qb,orI],rfl⟩)
def Q0f(a b:It):Int:=orI [V2 b.tier a.tier,V2 a.since b.since,V2 a.id b.id]
theorem Qxh(a b:It):decide (Q0f a b<0)=bf a b:=by
 unfold Q0f orI orI orI orI V2 bf;refine Wn.2 ?_;split <;> split <;> (try split) <;> (try split) <;> (try split) <;> (try split) <;> omega
set_option maxRecDepth 20000 in
theorem Pz(x y:It)(W:World):J4 Tryz.prog 143 [.agg (itC x).toArray,.agg (itC y).toArray] W (.int .i64 (Q0f x y)):=by
 refine Zbd Tryz.func143 rfl Tryz.ntmps143 fun g f=>Zsh (ZY 2 (Zp (S.box (cs:=[_,_,_]) rfl rfl rfl ?_)));intro e;refine Zp (S.box (cs:=[_,_,_]) rfl rfl rfl ?_);intro d;refine ZY 3 ?_;refine Zd ([blk e 183 (itC x).toArray,blk d 183 (itC y).toArray]) [] [0,1,2,3,5,6,7,8,10,11,12,13] (ZY 8 (ZY 4 ?_));refine Z1 (i:=4) ef ef ?_;refine(S.K9 Eo.h (vs:=[_,_]) ⟨rfl,rfl,trivial⟩ (fun w c=>S9 y.tier x.tier w) rfl ?_);refine Zk [] ?_;refine Z1 (i:=9) ef ef ?_;refine(S.K9 Eo.h (vs:=[_,_]) ⟨rfl,rfl,trivial⟩ (fun w c=>B1 x.since y.since w) rfl ?_);refine Zk [] ?_;refine Z1 (i:=14) ef ef ?_;refine(S.K9 Eo.h (vs:=[_,_]) ⟨rfl,rfl,trivial⟩ (fun w c=>B1 x.id y.id w) rfl ?_);refine Zk [] ?_;refine Z1 (i:=15) ef ef ?_;refine(S.buildSlice (pvs:=[(_,_),(_,_),(_,_)]) [_,_,_] Tryz.underlying66 Tryz.N3.h rfl rfl ⟨⟨rfl,rfl⟩,⟨rfl,rfl⟩,⟨rfl,rfl⟩,trivial⟩ rfl rfl ?_);intro a;refine Zk [] ?_;refine Z1 (i:=16) ef ef ?_;refine(S.K9 Eo.h (vs:=[_]) ⟨rfl,trivial⟩ (fun w c=>Q8w ⟨some ⟨a,0,none⟩,3,3⟩ [V2 y.tier x.tier,V2 x.since y.since,V2 x.id y.id] w rfl (Yb (b:=a) rfl (show 3≤maxLen by unfold maxLen;omega) w c)) rfl ?_);refine Zk [17] (Zy ?_);refine ZD (Zy ?_);exact Zf ef Zq (⟨rfl,rfl⟩)
theorem Zeq(x y:It)(W:World):J4 Tryz.prog 272 [.agg (itC x).toArray,.agg (itC y).toArray] W (.bool (bf x y)):=by
 refine Zbd Tryz.func272 rfl Tryz.ntmps272 fun b a=>Zsh (ZY 2 (Zp (S.box (cs:=[_,_,_]) rfl rfl rfl ?_)));intro e;refine Zp (S.box (cs:=[_,_,_]) rfl rfl rfl ?_);intro d;refine ZY 6 ?_;refine Zp (S.K9 Eo.h (vs:=[_,_]) ⟨rfl,rfl,trivial⟩ (fun w c=>Pz x y w) rfl (ZY 4 ?_));exact Zf ef Zq (⟨by simp only[Vt];rw[Qxh],rfl⟩)
end PR
end Go.Proofs.YtdackcibfkkniaaGreatDoor
namespace Go.Proofs.YtdackcibfkkniaaGreatDoor
namespace PR
def Ok(L:List It)(c:Nat):Prop:=∀a p,L[c]?=some a→L[(c-1) / 2]?=some p→bf a p=false
def Heaped(n:Nat)(L:List It):Prop:=∀c,0<c→c<n→Ok L c
def Q15(n:Nat)(L:List It)(j:Nat):Prop:=(∀c,0<c→c<n→c≠j→Ok L c)∧(0<j→∀c,c<n→0<c→(c-1) / 2=j→∀a p,L[c]?=some a→L[(j-1) / 2]?=some p→bf a p=false)
def swp(L:List It)(i j:Nat)(x y:It):List It:=(L.set i y).set j x
theorem Zaf(L:List It)(i j:Nat)(x y:It):(swp L i j x y).length=L.length:=by simp[swp]
theorem swp_get{L:List It}{i j:Nat}{x y:It}(b:L[i]?=some x)(a:L[j]?=some y)(k:Nat):(swp L i j x y)[k]?=if k=j then some x else if k=i then some y else L[k]?:=by
 have d:=(Yz.1 b).1;have c:=(Yz.1 a).1;unfold swp;rw[Fq,Fq,Xf]
 by_cases e1:k=j
 ·subst e1;simp[c]
 ·rw[Qe (Qee e1),Qe e1]
  by_cases e2:k=i
  ·subst e2;simp[d]
  ·rw[Qe (Qee e2),Qe e2]
theorem Q26{L:List It}{i j:Nat}{x y:It}(b:L[i]?=some x)(a:L[j]?=some y):(swp L i j x y).Perm L:=by
 obtain⟨d,e1⟩:=Yz.1 b;obtain⟨c,e2⟩:=Yz.1 a;have:=List.set_set_perm d c;rw[e1,e2]at this;exact this
theorem Qwi{n:Nat}{L:List It}(h:Q15 n L 0):Heaped n L:=fun c h0 a=>h.1 c h0 a Qb
theorem Q20{n:Nat}{L:List It}{j:Nat}(h:Q15 n L j){x y:It}(g:L[(j-1) / 2]?=some x)(f:L[j]?=some y)(k:bf y x=false):Heaped n L:=fun c h0 i=>by
 by_cases e:c=j
 ·subst e;intro a p d b;rw[f]at d;rw[g]at b;cases d;cases b;exact k
 ·exact h.1 c h0 i e
theorem Zgo{n:Nat}{L:List It}{j:Nat}(h:Q15 n L j)(h0:0<j)(o:j<n){x y:It}(e:L[(j-1) / 2]?=some x)(k:L[j]?=some y)(l:bf y x=true):Q15 n (swp L ((j-1) / 2) j x y) ((j-1) / 2):=by
 obtain⟨g,m⟩:=h
 refine⟨fun c c0 cn ce a p d b=>?_,fun i0 c cn c0 ce a p d b=>?_⟩
 ·rw[swp_get e k]at d b
  by_cases e1:c=j
  ·subst e1;rw[Qh rfl]at d;cases d;rw[Qe Qb,Qh rfl]at b;cases b;exact Zgd l
  ·rw[Qe e1,Qe ce]at d
   by_cases e2:(c-1) / 2=j
   ·rw[Qh e2]at b;cases b;exact m h0 c cn c0 e2 a x d e
   ·rw[Qe e2]at b
    by_cases e3:(c-1) / 2=(j-1) / 2
    ·rw[Qh e3]at b;cases b;have f:=g c c0 cn e1 a x d (by rw[e3];exact e);cases i:bf a y with
     | false=>rfl
     | true=>rw[Q8a i l]at f;cases f
    ·rw[Qe e3]at b;exact g c c0 cn e1 a p d b
 ·rw[swp_get e k]at d b;rw[Qe Qb,Qe Qb]at b;have f:=g ((j-1) / 2) i0 Qb Qb x p e b
  by_cases e1:c=j
  ·rw[Qh e1]at d;cases d;exact f
  ·rw[Qe e1,Qe Qb]at d;have:=g c c0 cn e1 a x d (by rw[ce];exact e);exact Zgc this f
def Srt(l:List It):Prop:=l.Pairwise (fun a b=>bf a b=true)
def ins(x:It):List It→List It
 | []=>[x]
 | y::l=>if bf x y then x::y::l else y::ins x l
theorem Qat(x:It):∀l,(ins x l).Perm (x::l)
 | []=>.refl _
 | y::l=>by
  unfold ins
  split
  ·exact .refl _
  ·exact((Qat x l).cons y).trans (.swap x y l)
theorem Qnp{x:It}:∀ {l:List It},Srt l→(∀y∈l,y.id≠x.id)→Srt (ins x l)
 | [],_,_=>by simp[ins,Srt]
 | y::l,h,d=>by
  unfold ins;have c:=Ws.1 h
  split
  ·rename_i b;refine Ws.2 ⟨fun z a=>?_,h⟩
   rcases Yf.1 a with rfl|a
   ·exact b
   ·exact Q8a b (c.1 z a)
  ·rename_i b;refine Ws.2 ⟨fun z a=>?_,Qnp c.2 fun z a=>d z (Ym _ a)⟩
   rcases Yf.1 ((Qat x l).mem_iff.1 a) with rfl|a
   ·exact(Q8b (d y (Z0 ..))).resolve_right b
   ·exact c.1 z a
theorem Qfy:∀ {l m:List It},Srt l→Srt m→l.Perm m→l=m
 | [],m,_,_,c=>(Qvx.1 c).symm
 | a::l,[],_,_,c=>by have:=c.length_eq;simp at this
 | a::l,b::m,h,g,c=>by
  have f:=Ws.1 h;have d:=Ws.1 g
  have e:a=b:=by
   rcases Yf.1 (c.mem_iff.1 (Z0 ..)) with e|j
   ·exact e
   ·rcases Yf.1 (c.mem_iff.2 (Z0 ..)) with e|i
    ·exact e.symm
    ·have:=Zgd (f.1 b i);rw[d.1 a j]at this;cases this
  subst e;rw[Qfy f.2 d.2 (Qoo c)]
def Cy(L:List It)(M:List (Int×Value)):Prop:=(∀(i:Nat) x,L[i]?=some x→Yh x.id M=some (.int .i64 i))∧(∀z v,Yh z M=some v→∃(i:Nat) (x:It),L[i]?=some x∧x.id=z)
theorem Cy.inj{L:List It}{M:List (Int×Value)}(h:Cy L M){i j:Nat}{x y:It}(c:L[i]?=some x)(b:L[j]?=some y)(e:x.id=y.id):i=j:=by
 have a:=h.1 i x c;rw[e,h.1 j y b]at a;simp only[Km,Value.int.injEq,B3]at a;omega
theorem Cy.swap{L:List It}{M:List (Int×Value)}(h:Cy L M){i j:Nat}{x y:It}(c:L[i]?=some x)(b:L[j]?=some y):Cy (swp L i j x y) (Xl x.id (.int .i64 j) (Xl y.id (.int .i64 i) M)):=by
 refine⟨fun k z a=>?_,fun z v d=>?_⟩
 ·rw[swp_get c b]at a;rw[Hu,Hu]
  by_cases e1:k=j
  ·rw[Qh e1]at a;cases a;rw[Qh rfl,e1]
  ·rw[Qe e1]at a
   by_cases e2:k=i
   ·rw[Qh e2]at a;cases a;rw[Qe (fun e=>e1 (e2.trans (h.inj b c e).symm)),Qh rfl,e2]
   ·rw[Qe e2]at a;rw[Qe (fun e=>e2 (h.inj a c e)),Qe (fun e=>e1 (h.inj a b e))];exact h.1 k z a
 ·rw[Hu,Hu]at d
  by_cases e1:z=x.id
  ·exact⟨j,x,by rw[swp_get c b,Qh rfl],e1.symm⟩
  ·rw[Qe e1]at d
   by_cases e2:z=y.id
   ·refine⟨i,y,?_,e2.symm⟩;rw[swp_get c b]
    by_cases e3:i=j
    ·rw[Qh e3];subst e3;rw[c]at b;exact b
    ·rw[Qe e3,Qh rfl]
   ·rw[Qe e2]at d;obtain⟨k,w,a,f⟩:=h.2 z v d;refine⟨k,w,?_,f⟩
    rw[swp_get c b,Qe (fun e=>e2 ?_),Qe (fun e=>e1 ?_)]
    ·exact a
    ·subst e;rw[c]at a;cases a;exact f.symm
    ·subst e;rw[b]at a;cases a;exact f.symm
theorem Cy.push{L:List It}{M:List (Int×Value)}(h:Cy L M){x:It}(d:Yh x.id M=none):Cy (L++[x]) (Xl x.id (.int .i64 L.length) M):=by
 refine⟨fun k z a=>?_,fun z v b=>?_⟩
 ·rw[Hu]
  by_cases e:k<L.length
  ·rw[Qlv e]at a;have c:=h.1 k z a;rw[Qe (fun e=>by rw[e,d]at c;cases c)];exact c
  ·rw[Qlu Qb]at a;have g:=(Yz.1 a).1;simp at g;have i:k=L.length:=Qb
   subst i;simp at a;subst a;rw[Qh rfl]
 ·rw[Hu]at b
  by_cases e:z=x.id
  ·exact⟨L.length,x,Q2,e.symm⟩
  ·rw[Qe e]at b;obtain⟨k,w,a,f⟩:=h.2 z v b;exact⟨k,w,by rw[Qlv (Yz.1 a).1];exact a,f⟩
section
variable {P:Program}{n:Nat}{ρ:Env}{Γ:List Assn}{ty:TypeId}{pos:String}{af:Array Edge}{gd:Option (Nat×Bool)}{ds:Option Tmp}
theorem Zhd{t a:TypeId}{x y:Operand}(j:Nat)(c:ev ρ x=some (.int .i64 ((j:Int)-1)))(b:ev ρ y=some (.int .i64 2))(d:j≤1000000):Qv P n ρ Γ ⟨ds,.binOp .quo t x y a,ty,pos,af,gd⟩ (.int .i64 ((j-1) / 2:Nat)):=
 Fx c b fun w=>by
  have h0:((j:Int)-1).tdiv 2=(((j-1) / 2:Nat):Int):=by
   cases j with
   | zero=>rfl
   | succ j=>
    rw[Znx Qb];omega
  simp[binOp,Op.intDiv,h0,G6 (k:=.i64) (Xy (x:=((j-1:Nat):Int) / 2) Qb Qb)]
end
abbrev hpC(lv:SV)(m:Nat):Array Value:=#[lv.v,.map (some m)]
theorem Zh9(t m:Nat)(lv:SV):Spec Tryz.prog 268 [.pointer (some ⟨t,0,none⟩)] [blk t 219 (hpC lv m)] fun Γ v a=>v=.int .i64 lv.n∧a=blk t 219 (hpC lv m)::Γ:=by
 refine Zbd Tryz.func268 rfl Tryz.ntmps268 fun b Γ=>Zsh (ZY 8 (ZY 6 ?_));exact Zf ef Zq (⟨rfl,rfl⟩)
theorem H2(t m:Nat)(lv:SV)(L:List It)(i j:Nat)(x y:It)(e:L[i]?=some x)(d:L[j]?=some y) :
  Spec Tryz.prog 269 [.pointer (some ⟨t,0,none⟩),.int .i64 i,.int .i64 j] [blk t 219 (hpC lv m),own lv 183 3 (L.flatMap itC)] fun Γ v f=>v=.bool (bf x y)∧f=blk t 219 (hpC lv m)::own lv 183 3 (L.flatMap itC)::Γ:=by
 refine Zbd Tryz.func269 rfl Tryz.ntmps269 fun k Γ=>Zsh ?_;have h:=(Yz.1 e).1;have g:=(Yz.1 d).1;refine S.Xn lv fun a _ _=>?_;rw[Y1 Gi]at a;refine S.Q7 lv Qb fun b off c _ _ _=>(ZY 5 ?_);refine Zd ([blk t 219 (hpC lv m),own lv 183 3 (L.flatMap itC)]) [] (Zra 0 14) (ZY 5 ?_);refine Zw ef (Zx (i) ef (c) ef Qb) ?_;refine Zw ef (Ub (lv) (i*3) [_,_,_] Eo.h rfl c (by first|rfl|exact Xr _ _ _|omega) rfl (Wr (enc:=itC) (sz:=3) (fun _=>rfl) e)) (ZY 5 ?_);refine Zw ef (Zx (j) ef (c) ef Qb) ?_;refine Zw ef (Ub (lv) (j*3) [_,_,_] Eo.h rfl c (by first|rfl|exact Xr _ _ _|omega) rfl (Wr (enc:=itC) (sz:=3) (fun _=>rfl) d)) ?_;refine Z1 (i:=14) ef ef ?_;refine(S.K9 Eo.h (vs:=[_,_]) ⟨rfl,rfl,trivial⟩ (fun w l=>Zeq x y w) rfl ?_);refine Zk [15] (Zy ?_);refine ZD (Zy ?_);exact Zf ef Zq (⟨rfl,rfl⟩)
theorem Zjy(t m:Nat)(lv:SV)(L:List It)(M:List (Int×Value))(g:Cy L M)(i j:Nat)(x y:It)(f:L[i]?=some x)(c:L[j]?=some y) :
  Spec Tryz.prog 271 [.pointer (some ⟨t,0,none⟩),.int .i64 i,.int .i64 j] [blk t 219 (hpC lv m),own lv 183 3 (L.flatMap itC),Qz m .u32 M] fun Γ _ s=>s=blk t 219 (hpC lv m)::own lv 183 3 ((swp L i j x y).flatMap itC)::Qz m .u32 (Xl x.id (.int .i64 j) (Xl y.id (.int .i64 i) M))::Γ:=by
 refine Zbd Tryz.func271 rfl Tryz.ntmps271 fun A Γ=>Zsh ?_;have p:=(Yz.1 f).1;have n:=(Yz.1 c).1;refine S.Xn lv fun d _ _=>?_;rw[Y1 Gi]at d;refine S.Q7 lv Qb fun b off a _ _ _=>?_;have r:=swp_get f c
 have q:(swp L i j x y)[i]?=some y:=by
  rw[r]
  by_cases e:i=j
  ·subst e;rw[Qh rfl];rw[f]at c;exact c
  ·rw[Qe e,Qh rfl]
 have o:(swp L i j x y)[j]?=some x:=by rw[r,Qh rfl]
 have z:=Zaf L i j x y;have k:=g.1 i x f;have h:=g.1 j y c
 obtain⟨B,l⟩:∃v,Yh x.id (Xl y.id (.int .i64 i) M)=some v:=by
  rw[Hu]
  by_cases e:x.id=y.id
  ·rw[Qh e];exact⟨_,rfl⟩
  ·rw[Qe e];exact⟨_,k⟩
 refine Zy ?_;refine Zd ([blk t 219 (hpC lv m),own lv 183 3 (L.flatMap itC)]) [25] (Zra 0 9) (ZY 8 (Zy ?_));refine ZP 9 (Zra 10 15) ef (Y8 rfl) ef (ZY 5 ?_);refine Zw ef (Zx (j) ef (a) ef Qb) ?_;refine Zw ef (Ub (lv) (j*3) [_,_,_] Eo.h rfl a (by first|rfl|exact Xr _ _ _|omega) rfl (Wr (enc:=itC) (sz:=3) (fun _=>rfl) c)) (ZY 5 ?_);refine Zw ef (Zx (i) ef (a) ef Qb) ?_;refine Zw ef (Ub (lv) (i*3) [_,_,_] Eo.h rfl a (by first|rfl|exact Xr _ _ _|omega) rfl (Wr (enc:=itC) (sz:=3) (fun _=>rfl) f)) ?_;refine Zw ef (Zx (i) ef (a) ef Qb) ?_;refine Z1 (i:=25) ef ef ?_;refine(S.Qfr (lv) (i*3) Eo.h rfl rfl rfl rfl a (by first|rfl|exact Xr _ _ _|omega) (by rw[Y1 Gi];show i*3+3≤_;omega) (Qh7 Gi p y) ?_);refine ZL ([]) [26] ?_;refine Zw ef (Zx (j) ef (a) ef Qb) ?_;refine Z1 (i:=27) ef ef ?_;refine(S.Qfr (lv) (j*3) Eo.h rfl rfl rfl rfl a (by first|rfl|exact Xr _ _ _|omega) (by rw[Y1 Gi,Xf];show j*3+3≤_;omega) (show _=(swp L i j x y).flatMap itC from Qh7 Gi (by rw[Xf];exact n) x) ?_);refine Zk [] ?_;refine ZD ?_;refine Zd ([blk t 219 (hpC lv m),own lv 183 3 ((swp L i j x y).flatMap itC)]) [26] (Zra 0 24) (ZY 8 (Zy ?_));refine Zw ef (Zx (i) ef (a) ef Qb) (Zy ?_);refine Zw ef (Zo (lv) (i*3) ef (a) (Wr (enc:=itC) (sz:=3) (fun _=>rfl) q 0 _ rfl)) (ZY 8 (Zy ?_));refine Zw ef (Zx (j) ef (a) ef Qb) (Zy ?_);refine Zw ef (Zo (lv) (j*3) ef (a) (Wr (enc:=itC) (sz:=3) (fun _=>rfl) o 0 _ rfl)) ?_;refine ZP 24 [] ef (Y8 rfl) ef ?_;refine ZP 25 [] ef (Y8 rfl) ef ?_;refine Z1 (i:=26) ef ef ?_;refine(S.mapEntry Tryz.underlying44 Tryz.underlying31 rfl rfl rfl (h) rfl ?_);intro w;refine ZL ([]) [27] (Zy ?_);refine Z1 (i:=28) ef ef ?_;refine(S.entryStore rfl rfl rfl ?_);refine Zk [] ?_;refine Z1 (i:=29) ef ef ?_;refine(S.mapEntry Tryz.underlying44 Tryz.underlying31 rfl rfl rfl (l) rfl ?_);intro u;refine Zk [30] (Zy ?_);refine Z1 (i:=31) ef ef ?_;refine(S.entryStore rfl rfl rfl ?_);refine Zk [] ?_;refine ZD ?_;exact Zfn ef Zq (rfl)
theorem Zcu(t m:Nat)(lv:SV)(L:List It)(M:List (Int×Value))(x:It)(l:L.length≤1000) :
  Spec Tryz.prog 270 [.pointer (some ⟨t,0,none⟩),.iface 183 (.agg (itC x).toArray)] [blk t 219 (hpC lv m),own lv 183 3 (L.flatMap itC),Qz m .u32 M] fun e _ h=>∃a:SV,h=blk t 219 (hpC a m)::own a 183 3 ((L++[x]).flatMap itC)::Qz m .u32 (Xl x.id (.int .i64 L.length) M)::e:=by
 refine Zbd Tryz.func270 rfl Tryz.ntmps270 fun k e=>Zsh ?_;refine S.Xn lv fun c _ _=>?_;rw[Y1 Gi]at c;have j:lv.n=L.length:=Qb
 refine ZY 3 (Zv (Qth (by rw[Tryz.underlying183]) rfl) (ZY 3 (Zp (S.alloc Tryz.z183.h rfl ?_))));intro g;refine Zp (Zs ef ef (cs':=[_,_,_]) ef (ZY 6 (ZT ef (Zy ?_))));refine Zd ([blk t 219 (hpC lv m),blk g 183 (itC x).toArray]) [11] (Zra 0 11) (ZY 8 (ZY 3 ?_));refine Z1 (i:=11) ef ef ?_;refine(S.mapUpdate Tryz.underlying44 Tryz.underlying31 rfl rfl rfl rfl ?_);rw[show (lv.n:Int)=L.length by omega];refine ZL ([]) [] ?_;refine ZD ?_;refine Zd ([blk t 219 (hpC lv m),blk g 183 (itC x).toArray]) [10] (Zra 0 6) (ZY 6 ?_);refine Z1 (i:=6) ef ef ?_;refine(S.buildSlice (pvs:=[(_,_)]) [_,_,_] Tryz.underlying184 Tryz.Qnq.h rfl rfl ⟨⟨rfl,rfl⟩,trivial⟩ rfl rfl ?_);intro d;refine Zk [] ?_;refine Z1 (i:=7) ef ef ?_;refine(S.Z6 (s:=lv) (1) (itC x) Tryz.underlying184 Tryz.Qnq.h rfl rfl rfl (Yb (b:=d) rfl (by unfold maxLen;omega)) (by first|rfl|exact Qw _) (⟨Qb,Qb⟩) rfl ?_);intro a f;rw[Wv itC L x];refine Zk [8,9] (ZY 2 ?_);refine Z1 (i:=10) ef ef ?_;refine(S.store (cs':=[_,_]) Eo.h rfl rfl rfl rfl rfl ?_);refine ZL ([]) [] ?_;refine ZD ?_;exact Zfn ef Zq (⟨a,rfl⟩)
abbrev HB(t m:Nat)(lv:SV)(L:List It)(M:List (Int×Value))(a:List Assn):List Assn:=blk t 219 (hpC lv m)::own lv 183 3 (L.flatMap itC)::Qz m .u32 M::a
theorem Zou(t m:Nat)(lv:SV)(n:Nat)(L:List It)(M:List (Int×Value))(j:Nat)(F:j<n)(H:n≤L.length)(I:L.length≤1000)(B:Cy L M)(C:Q15 n L j) :
  Spec Tryz.prog 168 [.iface 221 (.pointer (some ⟨t,0,none⟩)),.int .i64 j] [blk t 219 (hpC lv m),own lv 183 3 (L.flatMap itC),Qz m .u32 M] fun w _ u=>
   ∃a e,a.Perm L∧Cy a e∧Heaped n a∧(∀k,n≤k→a[k]?=L[k]?)∧u=HB t m lv a e w:=by
 refine Zbd Tryz.func168 rfl Tryz.ntmps168 fun G w=>Zsh (Zy ?_);refine Zl (fun z q r=>∃a e,z<n∧a.Perm L∧Cy a e∧Q15 n a z∧(∀k,n≤k→a[k]?=L[k]?)∧q=[(0,.iface 221 (.pointer (some ⟨t,0,none⟩))),(1,.int .i64 z)]∧r=HB t m lv a e w) (m:=_) (⟨L,M,F,.refl _,B,C,fun _ _=>rfl,rfl,rfl⟩) ?_;rintro j q r ⟨a,e,A,d,b,c,p,rfl,rfl⟩;have D:a.length=L.length:=d.length_eq;obtain⟨x,h⟩:=Xs (l:=a) (i:=(j-1) / 2) Qb;obtain⟨y,g⟩:=Xs (l:=a) (i:=j) Qb;refine ZY 4 (Zv (Zm ef ef) (Zv (Zhd j rfl rfl Qb) (ZY 8 (Zy ?_))))
 refine Zb 11 ef (fun o=>?_) (fun o=>?_)
 ·refine ZY 8 (Zy ?_);exact Zfn ef Zq (⟨a,e,d,b,by first|exact Qwi ((show j=0 by omega) ▸ c)|exact Q20 c h g (by simpa using s),p,rfl⟩)
 ·refine ZY 3 ?_;refine Zg ef ef ef (S.Qys (f:=269) (vs:=[_,_]) (by kernel_rfl) Eo.h rfl ⟨rfl,rfl,trivial⟩ (H2 t m lv a j ((j-1) / 2) y x g h) rfl ?_);rintro v u ⟨rfl,rfl⟩;refine ZY 3 ?_
  refine Zi ef (fun s=>?_) (fun s=>?_)
  ·refine Zy ?_;exact Zfn ef Zq (⟨a,e,d,b,by first|exact Qwi ((show j=0 by omega) ▸ c)|exact Q20 c h g (by simpa using s),p,rfl⟩)
  ·refine ZY 6 ?_;refine Zp (S.Qys (f:=271) (vs:=[_,_]) (by kernel_rfl) Eo.h rfl ⟨rfl,rfl,trivial⟩ (Zjy t m lv a e b ((j-1) / 2) j x y h g) rfl ?_);rintro v u rfl;refine ZY 5 ?_;exact ZX ((j-1) / 2) (⟨swp a ((j-1) / 2) j x y,_,Qb,(Q26 h g).trans d,b.swap h g,Zgo c Qb A h g (by simpa using s),fun k E=>by rw[swp_get h g,if_neg Qb,if_neg Qb];exact p k E,rfl,rfl⟩) Qb
theorem Zdl(t m:Nat)(lv:SV)(L:List It)(M:List (Int×Value))(x:It)(u:L.length≤999)(l:Cy L M)(r:Heaped L.length L)(q:Yh x.id M=none) :
  Spec Tryz.prog 140 [.iface 221 (.pointer (some ⟨t,0,none⟩)),.iface 183 (.agg (itC x).toArray)] [blk t 219 (hpC lv m),own lv 183 3 (L.flatMap itC),Qz m .u32 M] fun n _ i=>
   ∃b e j,e.Perm (x::L)∧Cy e j∧Heaped e.length e∧i=HB t m b e j n:=by
 refine Zbd Tryz.func140 rfl Tryz.ntmps140 fun s n=>Zsh (ZY 4 ?_);refine Zp (S.Qys (f:=270) (vs:=[_]) (by kernel_rfl) Eo.h rfl ⟨rfl,trivial⟩ (Zcu t m lv L M x Qb) rfl ?_);rintro v i ⟨b,rfl⟩;refine S.Xn b fun d _ _=>?_;rw[Y1 Gi]at d;simp only[Yd,Ka,Dd]at d;refine ZY 4 ?_;refine Zp (S.Qys (f:=268) (vs:=[]) (by kernel_rfl) Eo.h rfl trivial (Zh9 t m b) rfl ?_);rintro v i ⟨rfl,rfl⟩;refine Zv (Zm ef ef) ?_;rw[show ((b.n:Int)-1)=((L.length:Nat):Int) by omega];refine Zp (Zc1 Ze (Zou t m b (L.length+1) (L++[x]) (Xl x.id (.int .i64 L.length) M) L.length Qb Q2 (by simp;omega) (l.push q) ⟨fun c c0 cn ce=>(by intro a p o g;rw[Qlv Qb]at o g;exact r c c0 Qb a p o g),fun _ c cn c0 ce=>Qb⟩) ?_);rintro v i ⟨e,j,g,h,k,_,rfl⟩;refine Zy ?_;exact Zfn ef Zq (⟨b,e,j,g.trans (Qv1 x L),h,by rw[g.length_eq];simpa using k,rfl⟩)
def HI(pa:Option Addr):Option (List It)→Assn
 | none=>fun _=>pa=none
 | some l=>fun h=>∃t m lv L M,pa=some ⟨t,0,none⟩∧L.Perm l∧Srt l∧Heaped L.length L∧Cy L M∧stars [blk t 219 (hpC lv m),own lv 183 3 (L.flatMap itC),Qz m .u32 M] h
section
variable {pa:Option Addr}{l:List It}
theorem Ent.Qfd{t m:Nat}{lv:SV}{L:List It}{M:List (Int×Value)}(d:L.Perm l)(c:Srt l)(e:Heaped L.length L)(f:Cy L M)(Γ:List Assn):Ent (HB t m lv L M Γ) (HI (some ⟨t,0,none⟩) (some l)::Γ):=fun h a=>by
 have:=(Wi (Γ:=[blk t 219 (hpC lv m),own lv 183 3 (L.flatMap itC),Qz m .u32 M]) (Δ:=Γ)).1 a;exact Ent.Kg Γ (fun y b=>⟨t,m,lv,L,M,rfl,d,c,e,f,b⟩) h this
theorem Ent.Qtq(a:List Assn):Ent a (HI none none::a):=fun h b=>⟨HL.emp,h,HL.J2 _,HL.Hm _,HL.le.refl _,rfl,b⟩
theorem Sat.Qm8{w:World}{Γ:List Assn}(f:Sat w (HI pa (some l)::Γ)):∃t m lv L M,pa=some ⟨t,0,none⟩∧L.Perm l∧Srt l∧Heaped L.length L∧Cy L M∧lv.n=L.length∧Sat w (HB t m lv L M Γ):=by
 obtain⟨h,e,i,g,d,c,b,⟨t,m,lv,L,M,e1,e2,e3,j,e5,a⟩,s⟩:=f;refine⟨t,m,lv,L,M,e1,e2,e3,j,e5,?_,h,e,(Wi (Γ:=[blk t 219 (hpC lv m),own lv 183 3 (L.flatMap itC),Qz m .u32 M]) (Δ:=Γ)).2 ⟨i,g,d,c,b,a,s⟩⟩;obtain⟨_,n,_,_,_,_,_,k,_,_,_,p,_⟩:=a;have:=p.1;rw[Y1 Gi]at this;omega
theorem Spec.Qm8{P:Program}{f:FuncId}{args:List Value}{pre:List Assn}{post:List Assn→Value→List Assn→Prop}(h:∀t m lv L M,pa=some ⟨t,0,none⟩→L.Perm l→Srt l→Heaped L.length L→Cy L M→lv.n=L.length→Spec P f args (HB t m lv L M pre) post):Spec P f args (HI pa (some l)::pre) post:=by
 intro b w c;obtain⟨t,m,lv,L,M,e1,e2,e3,e,e5,d,a⟩:=Sat.Qm8 c;exact h t m lv L M e1 e2 e3 e e5 d b w a
theorem Spec.Qtq{P:Program}{f:FuncId}{args:List Value}{pre:List Assn}{post:List Assn→Value→List Assn→Prop}(h:pa=none→Spec P f args pre post):Spec P f args (HI pa none::pre) post:=by
 intro b w a;have e:pa=none:=by obtain⟨x,_,p⟩:=a.head;exact p
 exact h e b w (a.Qs (Ent.drop _ _))
end
theorem Zj5:Spec Tryz.prog 108 [] [] fun a v d=>∃pa,v=.pointer pa∧d=HI pa (some [])::a:=by
 refine Zbd Tryz.func108 rfl Tryz.ntmps108 fun f a=>Zsh (ZY 6 (Zp (S.makeMap .u32 rfl ?_)));intro e;refine Zv (Ye (pvs:=[(_,_)]) [_,_] Tryz.Zot.h Tryz.Zo5.h ⟨⟨rfl,rfl⟩,trivial⟩ rfl) ?_;refine Zv (Ye (pvs:=[(_,_)]) [_,_] Tryz.Zos.h Tryz.Zo4.h ⟨⟨rfl,rfl⟩,trivial⟩ rfl) (Zp (S.box (cs:=[_,_]) rfl rfl rfl ?_));intro b;refine ZY 3 ?_;refine S.Qs (show Ent _ (own SV.nil 183 3 (([]:List It).flatMap itC)::_) from Ent.Xb 183 3) ?_;refine S.Qs ((Sub.Qs:Ent _ (HB b e SV.nil [] [] a)).trans (Ent.Qfd (.refl _) List.Pairwise.nil (fun c c0 cn=>by simp at cn) ⟨fun i x h=>by simp at h,fun z v h=>by simp[Yh]at h⟩ a)) ?_;exact Zf ef Zq (⟨some ⟨b,0,none⟩,rfl,rfl⟩)
abbrev HSt:=Option (List It)
def Ss(id:Int)(l:List It):Bool:=l.any fun x=>decide (x.id=id)
def Zq0(id:Int):HSt→Bool
 | none=>false
 | some l=>Ss id l
def H4(x:It):HSt→Int×HSt
 | none=>(6,none)
 | some l=>if Ss x.id l then (7,some l) else (0,some (ins x l))
def Lx:HSt→Nat
 | none=>0
 | some l=>l.length
theorem Qld{id:Int}{L l:List It}(h:L.Perm l):Ss id L=Ss id l:=by
 unfold Ss;rw[Qon,Pm,Pm];exact⟨fun⟨x,b,a⟩=>⟨x,h.mem_iff.1 b,a⟩,fun⟨x,b,a⟩=>⟨x,h.mem_iff.2 b,a⟩⟩
theorem Cy.has{L:List It}{M:List (Int×Value)}(h:Cy L M)(id:Int):(Yh id M).isSome=Ss id L:=by
 unfold Ss;rw[Qon,Pm]
 constructor
 ·intro b;obtain⟨v,c⟩:=B2.1 b;obtain⟨i,x,a,e⟩:=h.2 id v c;exact⟨x,Yn a,Zh e⟩
 ·rintro ⟨x,b,a⟩;obtain⟨i,d⟩:=Dg b;rw[←U4 a,h.1 i x d];rfl
theorem Q2u(id:Int):Spec Tryz.prog 167 [.pointer none,.int .u32 id] [] fun a v b=>v=.tuple #[.int .i64 0,.bool false]∧b=a:=by
 refine Zbd Tryz.func167 rfl Tryz.ntmps167 fun c a=>Zsh (ZY 8 (ZY 3 (ZT ef (ZY 6 ?_))));exact Zf ef Zq (⟨rfl,rfl⟩)
theorem Q92(t m:Nat)(lv:SV)(M:List (Int×Value))(id:Int):Spec Tryz.prog 167 [.pointer (some ⟨t,0,none⟩),.int .u32 id] [blk t 219 (hpC lv m),Qz m .u32 M] fun a v b=>
  v=.tuple #[(Yh id M).getD (.int .i64 0),.bool (Yh id M).isSome]∧b=blk t 219 (hpC lv m)::Qz m .u32 M::a:=by
 refine Zbd Tryz.func167 rfl Tryz.ntmps167 fun c a=>Zsh (ZY 8 (ZY 3 (ZF ef (ZY 8 (Zy ?_)))));refine Zv (M1 ((Yh id M).getD (.int .i64 0)) ((Yh id M).isSome) Tryz.underlying44 Tryz.underlying31 Tryz.zv3.h rfl rfl rfl (by cases Yh id M <;> rfl)) (ZY 8 (ZY 6 ?_));exact Zf ef Zq (⟨rfl,rfl⟩)
theorem Znv(c:Option Addr)(st:HSt)(id:Int):Spec Tryz.prog 139 [.pointer c,.int .u32 id] [HI c st] fun a v b=>v=.bool (Zq0 id st)∧b=HI c st::a:=by
 cases st with
 | none=>
  refine Spec.Qtq fun e=>?_;subst e
  have h0:Spec Tryz.prog 139 [.pointer none,.int .u32 id] [] fun a v b=>v=.bool false∧b=a:=by
   refine Zbd Tryz.func139 rfl Tryz.ntmps139 fun d a=>Zsh (ZY 8 (Zp (Zcp Ze (Q2u id) (ZY 8 (ZY 4 ?_)))));exact Zf ef Zq (⟨rfl,rfl⟩)
  refine h0.weaken fun a=>⟨a,Ent.refl _,?_⟩;rintro v b ⟨rfl,rfl⟩;exact⟨_,⟨rfl,rfl⟩,Ent.Qtq _⟩
 | some l=>
  refine Spec.Qm8 fun t m lv L M e1 e2 e3 f e5 g=>?_;subst e1
  have h0:Spec Tryz.prog 139 [.pointer (some ⟨t,0,none⟩),.int .u32 id] [blk t 219 (hpC lv m),Qz m .u32 M] fun a v b=>v=.bool (Yh id M).isSome∧b=blk t 219 (hpC lv m)::Qz m .u32 M::a:=by
   refine Zbd Tryz.func139 rfl Tryz.ntmps139 fun d a=>Zsh (ZY 8 (Zp (Zcp Ze (Q92 t m lv M id) (ZY 8 (ZY 4 ?_)))));exact Zf ef Zq (⟨rfl,rfl⟩)
  refine h0.weaken fun a=>⟨own lv 183 3 (L.flatMap itC)::a,by simp only[Nx,Gf];exact Sub.Qs,?_⟩;rintro v b ⟨rfl,rfl⟩;refine⟨_,⟨by rw[e5.has,Qld e2];rfl,rfl⟩,?_⟩;exact(Sub.Qs:Ent _ (HB t m lv L M a)).trans (Ent.Qfd e2 e3 f e5 a)
theorem Spec.Q6w{a:Option Addr}{l:List It}{P:Program}{f:FuncId}{args:List Value}{pre:List Assn}{post:List Assn→Value→List Assn→Prop}(h:∀t,a=some ⟨t,0,none⟩→Spec P f args (HI a (some l)::pre) post):Spec P f args (HI a (some l)::pre) post:=by
 intro c w b
 have:∃t,a=some ⟨t,0,none⟩:=by
  obtain⟨x,_,t,_,_,_,_,e,_⟩:=b.head;exact⟨t,e⟩
 obtain⟨t,e⟩:=this;exact h t e c w b
theorem S.Q6x{n:Nat}{h:Bool}{g:WM h}{d:Env}{f e:List Assn}{c:Act→World→Prop}(t:Nat)(l:List It)[p:Pick (HI (some ⟨t,0,none⟩) (some l)) f e](k:∀m lv L M,L.Perm l→Srt l→Heaped L.length L→Cy L M→lv.n=L.length→S n g d (HB t m lv L M e) c):S n g d f c:=by
 intro a w o j i;obtain⟨s,m,lv,L,M,e1,e2,e3,r,e5,q,b⟩:=Sat.Qm8 (j.Qs p.Qs);cases e1;exact k m lv L M e2 e3 r e5 q a w o b i
theorem Quk{x:It}{l:List It}(h:Ss x.id l=false):∀y∈l,y.id≠x.id:=fun y a e=>by
 unfold Ss at h;rw[Qvw]at h;exact h y a (Zh e)
theorem Zeo(h:Option Addr)(st:HSt)(x:It)(z:Lx st≤999):Spec Tryz.prog 109 [.pointer h,.agg (itC x).toArray] [HI h st] fun a v b=>v=.int .i64 (H4 x st).1∧b=HI h (H4 x st).2::a:=by
 cases st with
 | none=>
  refine Spec.Qtq fun e=>?_;subst e
  have h0:Spec Tryz.prog 109 [.pointer none,.agg (itC x).toArray] [] fun a v b=>v=.int .i64 6∧b=a:=by
   refine Zbd Tryz.func109 rfl Tryz.ntmps109 fun s a=>Zsh (ZY 2 (Zp (S.box (cs:=[_,_,_]) rfl rfl rfl ?_)));intro r;refine ZY 8 (ZY 2 (ZT ef (ZY 5 ?_)));exact Zf ef Zq (⟨rfl,rfl⟩)
  refine h0.weaken fun a=>⟨a,Ent.refl _,?_⟩;rintro v b ⟨rfl,rfl⟩;exact⟨_,⟨rfl,rfl⟩,Ent.Qtq _⟩
 | some l=>
  refine Spec.Q6w fun t e=>?_;subst e;simp only[Lx]at z;refine Zbd Tryz.func109 rfl Tryz.ntmps109 fun s a=>Zsh (ZY 2 (Zp (S.box (cs:=[_,_,_]) rfl rfl rfl ?_)));intro r;refine ZY 8 (ZY 2 (ZF ef (ZY 5 ?_)));refine Zp (Zcp Ze (Znv (some ⟨t,0,none⟩) (some l) x.id) (ZY 2 ?_))
  refine Zi ef (fun o=>?_) (fun o=>?_)
  ·have g:Ss x.id l=true:=o;refine ZY 5 ?_;exact Zf ef Zq (⟨by simp only[Vt,H4];rw[Qh g],by simp only[H4];rw[Qh g]⟩)
  ·refine S.Q6x t l fun m lv L M k w A f C=>?_;have y:=k.length_eq;have q:Ss x.id l=false:=o
   have B:Yh x.id M=none:=by
    have:=f.has x.id;rw[Qld k,q]at this;exact Option.not_isSome_iff_eq_none.1 (by rw[this];simp)
   have p:=Qnp w (Quk q);have c:H4 x (some l)=(0,some (ins x l)):=by simp only[H4,q];rfl
   refine ZY 2 ?_;refine Zd ([blk r 183 (itC x).toArray]) [] (Zra 0 6) (ZY 3 ?_);refine Zw ef (E6 (by rw[Tryz.underlying221]) rfl) (Zy ?_);refine Zw ef (E6 (by rw[Tryz.underlying183]) rfl) ?_;refine Z1 (i:=6) ef ef ?_;refine  (Zc1 Ze (Zdl t m lv L M x Qb f A B) ?_);rintro v b ⟨u,E,D,j,d,n,rfl⟩;refine S.Qs (Ent.Qfd (l:=ins x l) (j.trans ((k.cons x).trans (Qat x l).symm)) p n d _) ?_;refine Zk [] ?_;refine ZD (ZY 5 ?_);exact Zf ef Zq (⟨by simp only[Vt];rw[c],by rw[c]⟩)
theorem Zck(l:List It):Ee (l.flatMap itC)=true:=Kn.2 fun u a=>by
 obtain⟨x,_,h⟩:=Qde.1 a;simp only[itC,Yf,Hp,Ho]at h;rcases h with rfl|rfl|rfl <;> rfl
theorem Qxv(x y:It):Go.Proofs.ltOf Q0f x y=bf x y:=Qxh x y
theorem Zgs:Go.Sort.SWO (Go.Proofs.ltOf Q0f) where
 irrefl x:=by rw[Qxv];exact Zjr x
 trans x y z h1 h2:=by rw[Qxv]at *;exact Q8a h1 h2
 ntrans x y z h1 h2:=by rw[Qxv]at *;exact Zgc h1 h2
theorem Qob(s:SV)(l:List It)(g:l.length≤1000000):Spec Tryz.prog 142 [s.v,.func (.func 143) #[] #[]] [own s 183 3 (l.flatMap itC)] fun f _ e=>
  ∃c:List It,c.Perm l∧c.Pairwise (fun a b=>bf b a=false)∧e=own s 183 3 (c.flatMap itC)::f:=by
 have h:=S7 Tryz.Zao 3 Tryz.isAgg183 Tryz.sizeOf183 itC Gi Qb (fun x v d=>by simp only[itC,Yf,Hp,Ho]at d;rcases d with rfl|rfl|rfl <;> rfl) Q0f Zgs 143 (enters_of Tryz.func143 (by kernel_rfl) rfl) Pz 183 s l Qb;simp only[Qxv]at h;exact h
theorem S.Qm7{n:Nat}{m:Bool}{f:WM m}{d:Env}{b:List Assn}{c:Act→World→Prop}(s:SV){e:TypeId}{l:Nat}{xs:List Value}{j:List Assn}[h:Uo b s e l xs j](k:(s.a.isNone=true→s.n=0)→S n f d b c):S n f d b c:=by
 intro a w q g o;obtain⟨x,_,p⟩:=(g.Qs h.Qs).head;refine k (fun i=>?_) a w q g o
 rcases p.2 with ⟨_,r,_⟩|⟨_,_,_,t,_⟩
 ·exact r
 ·rw[t]at i;cases i
theorem Q2b(s:SV)(l:List It)(k:l.length≤1000000):Spec Tryz.prog 141 [s.v] [own s 183 3 (l.flatMap itC)] fun c v e=>
  ∃u:SV,v=u.v∧e=own u 183 3 (l.flatMap itC)::own s 183 3 (l.flatMap itC)::c:=by
 refine Zbd Tryz.func141 rfl Tryz.ntmps141 fun i c=>Zsh ?_;refine S.Xn s fun a _ _=>?_;rw[Y1 Gi]at a;refine S.Qm7 s fun b=>(ZY 8 (ZY 2 ?_))
 refine Zi ef (fun d=>?_) (fun d=>?_)
 ·refine ZY 5 ?_;obtain rfl:l=[]:=Ae (by have:=b (by simpa using d);omega);refine S.Qs (show Ent _ (own SV.nil 183 3 (([]:List It).flatMap itC)::_) from Ent.Xb 183 3) ?_;exact Zf ef Zq (⟨SV.nil,rfl,rfl⟩)
 ·refine ZY 3 (Zp (S.Ev Tryz.underlying184 Tryz.Qnq.h rfl ?_));intro h g;refine Zy ?_;refine Zp (S.Z6 (s:=h) (s.n) (l.flatMap itC) Tryz.underlying184 Tryz.Qnq.h rfl rfl rfl (fun w f=>Uo.Tq inferInstance f) (Zck l) (⟨Qb,Qb⟩) rfl ?_);intro u j;rw[Gf];refine ZY 3 ?_;exact Zf ef Zq (⟨u,rfl,rfl⟩)
def stL:HSt→List It
 | none=>[]
 | some l=>l
theorem Zgv{L:List It}(e:L.Pairwise (fun a b=>a.id≠b.id))(h:L.Pairwise (fun a b=>bf b a=false)):Srt L:=by
 have:=e.and h;exact this.imp fun⟨d,c⟩=>(Q8b d).resolve_right (by rw[c];simp)
theorem Cy.nodup{L:List It}{M:List (Int×Value)}(h:Cy L M):(L.map (·.id)).Nodup:=by
 rw[Pk,Ww,Jy];intro i j c a b e;have:=h.inj (Ju c) (Ju a) e;omega
theorem Zj3(i:Option Addr)(st:HSt)(q:Lx st≤1000):Spec Tryz.prog 110 [.pointer i] [HI i st] fun c v d=>∃u:SV,v=u.v∧d=own u 183 3 ((stL st).flatMap itC)::HI i st::c:=by
 cases st with
 | none=>
  refine Spec.Qtq fun e=>?_;subst e
  have h0:Spec Tryz.prog 110 [.pointer none] [] fun c v d=>v=.slice none 0 0∧d=c:=by
   refine Zbd Tryz.func110 rfl Tryz.ntmps110 fun o c=>Zsh (ZY 8 (ZY 2 (ZT ef (ZY 5 ?_))));exact Zf ef Zq (⟨rfl,rfl⟩)
  refine h0.weaken fun c=>⟨c,Ent.refl _,?_⟩;rintro v d ⟨rfl,rfl⟩;exact⟨_,⟨SV.nil,rfl,rfl⟩,(Ent.Qtq _).trans (Ent.Xb _ _)⟩
 | some l=>
  refine Spec.Q6w fun t e=>?_;subst e;simp only[Lx]at q;refine Zbd Tryz.func110 rfl Tryz.ntmps110 fun o c=>Zsh ?_;refine S.Q6x t l fun m lv L M k n r g w=>?_;have p:=k.length_eq;refine ZY 8 (ZY 2 (ZF ef (ZY 8 (Zp (Zc1 Ze (Q2b lv L Qb) ?_)))));rintro v d ⟨u,rfl,rfl⟩;refine ZY 5 (Zp (Zc1 Ze (Qob u L Qb) ?_));rintro v d ⟨h,f,j,rfl⟩
  have s:h.Pairwise (fun a b=>a.id≠b.id):=by
   have:=(f.symm.map (fun x:It=>x.id)).nodup g.nodup
   rwa [Pk,Ww]at this
  obtain rfl:h=l:=Qfy (Zgv s j) n (f.trans k);refine S.Qs ((Sub.Qs:Ent _ (HB t m lv L M (own u 183 3 (h.flatMap itC)::c))).trans (Ent.Qfd (t:=t) k n r g _)) (ZY 7 ?_);exact Zf ef Zq (⟨u,rfl,show _=own u 183 3 (h.flatMap itC)::HI (some ⟨t,0,none⟩) (some h)::c from rfl⟩)
end PR
end Go.Proofs.YtdackcibfkkniaaGreatDoor
set_option linter.unusedVariables false
namespace Go.Proofs.YtdackcibfkkniaaGreatDoor
namespace PL
def inI(x:Int):Int:=if x<0 then 0 else if 1099511627776<x then 1099511627776 else x
def Qr1(a b:Int):Int:=inI (inI a+inI b)
theorem Qhw(x:Int):0≤inI x∧inI x≤1099511627776:=by unfold inI;split <;> (try split) <;> omega
theorem Zh5{x:Int}(h:0≤x)(a:x≤1099511627776):inI x=x:=by unfold inI;rw[Qe Qb,Qe Qb]
theorem Zco(x:Int):inI (inI x)=inI x:=Zh5 (Qhw x).1 (Qhw x).2
abbrev Ce:=Int×Int
def ltC(a b:Ce):Bool:=decide (a.2<b.2∨a.2=b.2∧a.1<b.1)
theorem Zb7(a:Ce):ltC a a=false:=Q6 Qb
theorem Q5h{a b c:Ce}(e:ltC a b=true)(d:ltC b c=true):ltC a c=true:=by
 simp only[ltC,Zz]at *;omega
theorem Zhw{a b c:Ce}(e:ltC a b=false)(d:ltC b c=false):ltC a c=false:=by
 simp only[ltC,Af]at *;omega
theorem Zhx{a b:Ce}(c:ltC a b=true):ltC b a=false:=by
 simp only[ltC,Zz,Af]at *;omega
theorem Qxw{a b:Ce}(h:a.1≠b.1):ltC a b=true∨ltC b a=true:=by
 simp only[ltC,Zz];omega
def Q0x(x:Ce):List Ce→List Ce
 | []=>[x]
 | y::l=>if ltC x y then x::y::l else y::Q0x x l
def Qmf:List Ce→List Ce
 | []=>[]
 | x::l=>Q0x x (Qmf l)
theorem Qcl(x:Ce):∀l,(Q0x x l).Perm (x::l)
 | []=>.refl _
 | y::l=>by
  unfold Q0x
  split
  ·exact .refl _
  ·exact((Qcl x l).cons y).trans (.swap _ _ _)
theorem Hq:∀l,(Qmf l).Perm l
 | []=>.refl _
 | x::l=>(Qcl x _).trans ((Hq l).cons x)
abbrev Srt(l:List Ce):Prop:=l.Pairwise fun a b=>ltC a b=true
theorem Qqy{x:Ce}:∀ {l},Srt l→(∀y∈l,x.1≠y.1)→Srt (Q0x x l)
 | [],_,_=>Qdj _ _
 | y::l,h,d=>by
  have c:=Ws.1 h;unfold Q0x
  split
  ·rename_i b;refine Ws.2 ⟨fun z a=>?_,h⟩
   rcases Yf.1 a with rfl|a
   ·exact b
   ·exact Q5h b (c.1 z a)
  ·rename_i b;refine Ws.2 ⟨fun z a=>?_,Qqy c.2 fun z a=>d z (.tail _ a)⟩
   rcases Yf.1 ((Qcl x l).mem_iff.1 a) with rfl|a
   ·exact(Qxw (d y (.head _))).resolve_left (by simpa using b)
   ·exact c.1 z a
abbrev Dif(l:List Ce):Prop:=l.Pairwise fun a b=>a.1≠b.1
theorem Qph:∀ {l},Dif l→Srt (Qmf l)
 | [],_=>.nil
 | x::l,h=>by
  have a:=Ws.1 h;exact Qqy (Qph a.2) fun y b=>a.1 y ((Hq l).mem_iff.1 b)
theorem Qwq:∀ {l m:List Ce},Srt l→Srt m→l.Perm m→l=m
 | [],m,_,_,c=>(Qvx.1 c).symm
 | a::l,[],_,_,c=>by have:=c.length_eq;simp at this
 | a::l,b::m,h,g,c=>by
  have f:=Ws.1 h;have d:=Ws.1 g
  have e:a=b:=by
   rcases Yf.1 (c.mem_iff.1 (Z0 ..)) with e|j
   ·exact e
   ·rcases Yf.1 (c.mem_iff.2 (Z0 ..)) with e|i
    ·exact e.symm
    ·have:=Zhx (f.1 b i);rw[d.1 a j]at this;cases this
  subst e;rw[Qwq f.2 d.2 (Qoo c)]
theorem Qrq{l m:List Ce}(a:l.Perm m)(h:Dif l):Dif m:=by
 have:(m.map (·.1)).Nodup:=((a.map _).nodup_iff).1 (by rw[Pk,Ww];exact h)
 rwa [Pk,Ww]at this
theorem Qzo{l:List Ce}(c:Dif l)(h:l.Pairwise fun a b=>ltC b a=false):Srt l:=
 (c.and h).imp fun⟨e,d⟩=>(Qxw e).resolve_right (by rw[d];simp)
def Qc6:Nat→List Int→List Ce
 | _,[]=>[]
 | k,x::l=>((k:Int),inI x)::Qc6 (k+1) l
abbrev Ed(row:List Int):List Ce:=Qc6 0 row
theorem Gd:∀k row,(Qc6 k row).length=row.length
 | _,[]=>rfl
 | k,_::l=>by simp[Qc6,Gd (k+1) l]
theorem Qim:∀ {k row i},(Qc6 k row)[i]?=(row[i]?).map fun x=>(((k+i:Nat):Int),inI x)
 | _,[],_=>rfl
 | k,x::l,0=>rfl
 | k,x::l,i+1=>by
  simp only[Qc6,List.getElem?_cons_succ];rw[Qim (k:=k+1),show k+1+i=k+(i+1) by omega]
theorem Nj{row:List Int}{i:Nat}:(Ed row)[i]?=(row[i]?).map fun x=>((i:Int),inI x):=by
 rw[Qim,Qj2]
theorem Qrw(row:List Int)(m:Nat)(x:Int)(a:row[m]?=some x):(Ed row).take (m+1)=(Ed row).take m++[((m:Int),inI x)]:=by
 rw[X2,Nj,a];rfl
theorem Qkw{row:List Int}{c:Ce}:c∈Ed row↔∃(i:Nat) (x:Int),row[i]?=some x∧c=((i:Int),inI x):=by
 rw[List.mem_iff_getElem?]
 constructor
 ·rintro ⟨i,h⟩;rw[Nj,Df]at h;obtain⟨x,b,a⟩:=h;exact⟨i,x,b,a.symm⟩
 ·rintro ⟨i,x,b,a⟩;exact⟨i,by rw[Nj,b,a];rfl⟩
theorem Qc5(row:List Int):Dif (Ed row):=by
 rw[Dif,Jy];intro i j f c d e;have b:=Ju f;have a:=Ju c;rw[Nj,Df]at b a;obtain⟨x,_,b⟩:=b;obtain⟨y,_,a⟩:=a;rw[←b,←a]at e;simp only at e;omega
def Y4(row:List Int):List Ce:=Qmf (Ed row)
theorem Ld(row:List Int):(Y4 row).Perm (Ed row):=Hq _
theorem Qwr(row:List Int):Srt (Y4 row):=Qph (Qc5 row)
theorem F0(row:List Int):(Y4 row).length=row.length:=by rw[(Ld row).length_eq,Gd]
theorem Qme{row:List Int}{l:List Ce}(c:l.Perm (Ed row))(h:l.Pairwise fun a b=>ltC b a=false):l=Y4 row:=
 Qwq (Qzo (Qrq c.symm (Qc5 row)) h) (Qwr row) (c.trans (Ld row).symm)
def Q0w(x:Int):List Int→List Int
 | []=>[x]
 | y::l=>if x≤y then x::y::l else y::Q0w x l
def Qs5:List Int→List Int
 | []=>[]
 | x::l=>Q0w x (Qs5 l)
theorem Qck(x:Int):∀l,(Q0w x l).Perm (x::l)
 | []=>.refl _
 | y::l=>by
  unfold Q0w
  split
  ·exact .refl _
  ·exact((Qck x l).cons y).trans (.swap _ _ _)
theorem Dy:∀l,(Qs5 l).Perm l
 | []=>.refl _
 | x::l=>(Qck x _).trans ((Dy l).cons x)
theorem Qqx{x:Int}:∀ {l:List Int},l.Pairwise (·≤·)→(Q0w x l).Pairwise (·≤·)
 | [],_=>Qdj _ _
 | y::l,h=>by
  have b:=Ws.1 h;unfold Q0w
  split
  ·rename_i c;refine Ws.2 ⟨fun z a=>?_,h⟩
   rcases Yf.1 a with rfl|a
   ·exact c
   ·exact Int.le_trans c (b.1 z a)
  ·rename_i c;refine Ws.2 ⟨fun z a=>?_,Qqx b.2⟩
   rcases Yf.1 ((Qck x l).mem_iff.1 a) with rfl|a
   ·omega
   ·exact b.1 z a
theorem Qf0:∀l,(Qs5 l).Pairwise (·≤·)
 | []=>.nil
 | x::l=>Qqx (Qf0 l)
theorem Qpg:∀ {l m:List Int},l.Pairwise (·≤·)→m.Pairwise (·≤·)→l.Perm m→l=m
 | [],m,_,_,c=>(Qvx.1 c).symm
 | a::l,[],_,_,c=>by have:=c.length_eq;simp at this
 | a::l,b::m,h,g,c=>by
  have f:=Ws.1 h;have d:=Ws.1 g
  have e:a=b:=by
   rcases Yf.1 (c.mem_iff.1 (Z0 ..)) with e|j
   ·exact e
   ·rcases Yf.1 (c.mem_iff.2 (Z0 ..)) with e|i
    ·exact e.symm
    ·exact Qvv (f.1 b i) (d.1 a j)
  subst e;rw[Qpg f.2 d.2 (Qoo c)]
theorem Qhl(l:List Int):l.mergeSort (fun x y=>decide (x≤y))=Qs5 l:=by
 refine Qpg ?_ (Qf0 l) ((Qoq l _).trans (Dy l).symm);have:=Qvy (le:=fun x y:Int=>decide (x≤y)) (fun a b c e d=>by simp only[Zz]at *;omega) (fun a b=>by simp only[E2,Zz];omega) l;exact this.imp fun h=>by simpa using h
def kth(row:List Int)(k:Nat):Option Int:=if k≤row.length then ((Y4 row)[k-1]?).map (·.2) else none
def chosen(row:List Int)(k:Nat):List Int:=Qs5 (((Y4 row).take k).map (·.1))
def comb(b:Option (Int×Nat))(i:Nat)(v:Option Int):Option (Int×Nat):=
 match v with
 | none=>b
 | some v=>match b with
  | none=>some (v,i)
  | some (u,j)=>if v<u then some (v,i) else some (u,j)
def Fj(k:Nat)(D:List (List Int)):Nat→Option (Int×Nat)
 | 0=>none
 | n+1=>comb (Fj k D n) n ((D[n]?).bind fun row=>kth row k)
structure St where
 at_:Int
 row:Int
 nodes:List Int
 ok:Bool
 deriving DecidableEq
instance:Inhabited St:=⟨⟨0,0,[],false⟩⟩
def V1(D:List (List Int))(k:Int):St:=
 if k<1 then ⟨0,0,[],false⟩ else match Fj k.toNat D D.length with
  | none=>⟨0,0,[],false⟩
  | some (v,i)=>⟨v,i,chosen (D[i]?.getD []) k.toNat,true⟩
def Qeg(v:Int)(row:List Int)(n:Int):List Int:=if 0≤n∧n<row.length then row.set n.toNat v else row
def F2(v:Int)(row:List Int)(ns:List Int):List Int:=ns.foldl (Qeg v) row
def Sh(D:List (List Int))(r:Int)(ns:List Int)(v:Int):List (List Int):=if 0≤r∧r<D.length then D.set r.toNat (F2 v (D[r.toNat]?.getD []) ns) else D
def Sg(D:List (List Int))(s:St)(len:Int):List (List Int):=
 if s.ok then Sh D s.row s.nodes (Qr1 s.at_ (max len 1)) else D
structure Ak where
 k:Int
 len:Int
 deriving DecidableEq
instance:Inhabited Ak:=⟨⟨0,0⟩⟩
def Ch(D:List (List Int)):List Ak→List St
 | []=>[]
 | a::l=>V1 D a.k::Ch (Sg D (V1 D a.k) a.len) l
theorem Dt:∀(l:List Ak) D,(Ch D l).length=l.length
 | [],_=>rfl
 | a::l,D=>by simp[Ch,Dt l]
theorem Qpq(v:Int)(row:List Int)(n:Int):(Qeg v row n).length=row.length:=by unfold Qeg;split <;> simp
theorem B5(v:Int):∀(ns:List Int) (row:List Int),(F2 v row ns).length=row.length
 | [],_=>rfl
 | n::ns,row=>by
  show (F2 v (Qeg v row n) ns).length=_;rw[B5 v ns,Qpq]
theorem Qp1(D:List (List Int))(r:Int)(ns:List Int)(v:Int):(Sh D r ns v).map List.length=D.map List.length:=by
 unfold Sh
 split
 ·rename_i h;refine E1 fun i=>?_;rw[Q8,Q8,Fq]
  split
  ·rename_i e;subst e;rw[Qh Qb,Ju (show r.toNat<D.length by omega)];simp[B5]
  ·rfl
 ·rfl
theorem Qke(D:List (List Int))(s:St)(len:Int):(Sg D s len).map List.length=D.map List.length:=by
 unfold Sg
 split
 ·exact Qp1 ..
 ·rfl
def M4(D:List (List Int)):List Ak→List (List Int)
 | []=>D
 | a::l=>M4 (Sg D (V1 D a.k) a.len) l
theorem Qd2:∀(l:List Ak) (D:List (List Int)),(M4 D l).map List.length=D.map List.length
 | [],_=>rfl
 | a::l,D=>by
  show (M4 (Sg D (V1 D a.k) a.len) l).map List.length=_;rw[Qd2 l,Qke]
theorem Qd1(a:Ak):∀(l:List Ak) (D:List (List Int)),M4 D (l++[a])=Sg (M4 D l) (V1 (M4 D l) a.k) a.len
 | [],_=>rfl
 | b::l,D=>Qd1 a l _
theorem Qg1(a:Ak):∀(l:List Ak) (D:List (List Int)),Ch D (l++[a])=Ch D l++[V1 (M4 D l) a.k]
 | [],_=>rfl
 | b::l,D=>by
  show V1 D b.k::Ch _ (l++[a])=V1 D b.k::(Ch _ l++[_]);rw[Qg1 a l];rfl
open Go.Sort (SWO putCells putRow mapBlock grow onCells flatK HoldsK putRowK)
theorem Q72(x:Int)(W:World):J4 Tryz.prog 125 [.int .i64 x] W (.int .i64 (inI x)):=by
 refine Zbd Tryz.func125 rfl Tryz.ntmps125 fun b a=>Zsh (ZY 7 ?_);refine Zv (Qd0 (if x<0 then 0 else x) rfl rfl (by split <;> omega)) ?_;refine Zv (Qp3 (inI x) rfl rfl (by unfold inI;split <;> (try split) <;> omega)) (ZY 3 ?_);exact Zf ef Zq (⟨rfl,rfl⟩)
theorem Q75(x y:Int)(W:World):J4 Tryz.prog 134 [.int .i64 x,.int .i64 y] W (.int .i64 (Qr1 x y)):=by
 refine Zbd Tryz.func134 rfl Tryz.ntmps134 fun c b=>Zsh ?_;have e:=Qhw x;have d:=Qhw y;refine ZY 7 ?_;refine Zp (S.K9 Eo.h (vs:=[_]) ⟨rfl,trivial⟩ (fun w a=>Q72 x w) rfl (Zy ?_));refine Zp (S.K9 Eo.h (vs:=[_]) ⟨rfl,trivial⟩ (fun w a=>Q72 y w) rfl (Zv (Za ef ef) ?_));refine Zp (S.K9 Eo.h (vs:=[_]) ⟨rfl,trivial⟩ (fun w a=>Q72 (inI x+inI y) w) rfl (ZY 3 ?_));exact Zf ef Zq (⟨rfl,rfl⟩)
theorem Zla(x:Int)(W:World):J4 Tryz.prog 172 [.int .i64 x] W (.int .i64 (inI x)):=by
 refine Zbd Tryz.func172 rfl Tryz.ntmps172 fun b a=>Zsh ?_;have e:Qr1 x 0=inI x:=by unfold Qr1;rw[show inI 0=0 from rfl,Int.add_zero,Zco]
 refine ZY 7 ?_;refine Zp (S.K9 Eo.h (vs:=[_,_]) ⟨rfl,rfl,trivial⟩ (fun w c=>Q75 x 0 w) rfl (ZY 3 ?_));exact Zf ef Zq (⟨by simp only[Vt];rw[e],rfl⟩)
def V2(a b:Int):Int:=if a<b then -1 else if b<a then 1 else 0
theorem Qx4(x:Int)(W:World):J4 Tryz.prog 152 [.int .i64 x] W (.bool false):=by
 refine Zbd Tryz.func152 rfl Tryz.ntmps152 fun b a=>Zsh (ZY 8 (ZY 4 ?_));exact Zf ef Zq (⟨by simp only[Vt];rw[Q6 (fun h=>h rfl)],rfl⟩)
theorem Qlq(x y:Int)(W:World):J4 Tryz.prog 122 [.int .i64 x,.int .i64 y] W (.int .i64 (V2 x y)):=by
 refine Zbd Tryz.func122 rfl Tryz.ntmps122 fun e d=>Zsh (ZY 7 ?_);refine Zp (S.K9 Eo.h (vs:=[_]) ⟨rfl,trivial⟩ (fun w a=>Qx4 x w) rfl (ZY 5 ?_));refine Zp (S.K9 Eo.h (vs:=[_]) ⟨rfl,trivial⟩ (fun w a=>Qx4 y w) rfl (ZY 7 (ZF ef (ZY 6 (ZF ef (ZY 8 ?_))))))
 refine Zj ef (fun c=>?_) (fun c=>?_)
 ·refine ZY 5 ?_;exact Zf ef Zq (⟨by simp only[Vt,V2];rw[Qh (by assumption)],rfl⟩)
 ·refine ZY 8 ?_
  refine Zj ef (fun b=>?_) (fun b=>?_)
  ·refine ZY 5 ?_;exact Zf ef Zq (⟨by simp only[Vt,V2];rw[Qe (by assumption),Qh (by assumption)],rfl⟩)
  ·refine ZY 6 ?_;exact Zf ef Zq (⟨by simp only[Vt,V2];rw[Qe (by assumption),Qe (by assumption)],rfl⟩)
def orI:List Int→Int
 | []=>0
 | x::l=>if x≠0 then x else orI l
theorem Q8w(s:SV)(l:List Int)(W:World)(u:s.n=l.length)(h0:Ez W s.v l.length 1 (ints l)):J4 Tryz.prog 121 [s.v] W (.int .i64 (orI l)):=by
 have e:=Tp h0;unfold maxLen at e;refine Zbd Tryz.func121 rfl Tryz.ntmps121 fun t j=>Zsh (ZY 8 (ZY 8 ?_));refine Zl (fun m c d=>∃k:Nat,m+k=l.length∧orI l=orI (l.drop k)∧c=[(3,.int .i64 0),(6,s.v),(7,.int .i64 s.n),(8,.int .i64 k)]∧d=Wo W::j) (m:=_) (⟨0,rfl,rfl,rfl,rfl⟩) ?_;rintro m c d ⟨k,n,a,rfl,rfl⟩;refine ZY 5 ?_
 refine Zj ef (fun q=>?_) (fun q=>?_)
 ·obtain⟨x,f⟩:=Xs (l:=l) (i:=k) Qb;obtain⟨b,off,o,r⟩:=F1 h0 Qb
  have h:l.drop k=x::l.drop (k+1):=by
   have g:=(Yz.1 f);rw[R2 g.1,g.2]
  refine ZY 5 (Zv (Zx (k) ef (o) ef Qb) ?_);refine Zv (Bk Eo.h rfl (r _ _ (by rw[Kz,Q8,f];rfl))) ?_;refine ZY 8 ?_
  refine Zj ef (fun p=>?_) (fun p=>?_)
  ·refine ZY 6 ?_;exact Zf ef Zq (⟨by simp only[Vt];rw[a,h,orI,Qh (by assumption)],rfl⟩)
  ·refine ZY 2 (Zv (Za ef ef) (ZY 2 ?_));exact ZX (m-1) (⟨k+1,Qb,by rw[a,h,orI,Qe (by assumption)],rfl,rfl⟩) Qb
 ·refine ZY 7 ?_;exact Zf ef Zq (⟨by simp only[Vt];rw[a,Qlt Qb,orI],rfl⟩)
abbrev ceC(c:Ce):List Value:=[.int .i64 c.1,.int .i64 c.2]
theorem Qa6:∀c,(ceC c).length=2:=fun _=>rfl
def Qb9(a b:Ce):Int:=orI [V2 a.2 b.2,V2 a.1 b.1]
theorem Zbu(a b:Ce):decide (Qb9 a b<0)=ltC a b:=by
 unfold Qb9 orI orI orI V2 ltC;refine Wn.2 ?_;split <;> split <;> (try split) <;> (try split) <;> omega
theorem Qnd(x y:Ce):Go.Proofs.ltOf Qb9 x y=ltC x y:=Zbu x y
theorem Zgt:Go.Sort.SWO (Go.Proofs.ltOf Qb9) where
 irrefl x:=by rw[Qnd];exact Zb7 x
 trans x y z h1 h2:=by rw[Qnd]at *;exact Q5h h1 h2
 ntrans x y z h1 h2:=by rw[Qnd]at *;exact Zhw h1 h2
theorem Pz(x y:Ce)(W:World):J4 Tryz.prog 174 [.agg (ceC x).toArray,.agg (ceC y).toArray] W (.int .i64 (Qb9 x y)):=by
 refine Zbd Tryz.func174 rfl Tryz.ntmps174 fun g f=>Zsh (ZY 2 (Zp (S.box (cs:=[_,_]) rfl rfl rfl ?_)));intro e;refine Zp (S.box (cs:=[_,_]) rfl rfl rfl ?_);intro d;refine ZY 3 ?_;refine Zd ([blk e 232 (ceC x).toArray,blk d 232 (ceC y).toArray]) [] [0,1,2,3,5,6,7,8] (ZY 8 ?_);refine Z1 (i:=4) ef ef ?_;refine(S.K9 Eo.h (vs:=[_,_]) ⟨rfl,rfl,trivial⟩ (fun w c=>Qlq x.2 y.2 w) rfl ?_);refine Zk [] ?_;refine Z1 (i:=9) ef ef ?_;refine(S.K9 Eo.h (vs:=[_,_]) ⟨rfl,rfl,trivial⟩ (fun w c=>Qlq x.1 y.1 w) rfl ?_);refine Zk [] ?_;refine Z1 (i:=10) ef ef ?_;refine(S.buildSlice (pvs:=[(_,_),(_,_)]) [_,_] Tryz.underlying66 Tryz.N3.h rfl rfl ⟨⟨rfl,rfl⟩,⟨rfl,rfl⟩,trivial⟩ rfl rfl ?_);intro a;refine Zk [] ?_;refine Z1 (i:=11) ef ef ?_;refine(S.K9 Eo.h (vs:=[_]) ⟨rfl,trivial⟩ (fun w c=>Q8w ⟨some ⟨a,0,none⟩,2,2⟩ [V2 x.2 y.2,V2 x.1 y.1] w rfl (Yb (b:=a) rfl (show 2≤maxLen by unfold maxLen;omega) w c)) rfl ?_);refine Zk [12] (Zy ?_);refine ZD (Zy ?_);exact Zf ef Zq (⟨rfl,rfl⟩)
theorem Qoc(s:SV)(l:List Ce)(g:l.length≤1000000):Spec Tryz.prog 173 [s.v,.func (.func 174) #[] #[]] [own s 232 2 (l.flatMap ceC)] fun f _ e=>
  ∃c:List Ce,c.Perm l∧c.Pairwise (fun a b=>ltC b a=false)∧e=own s 232 2 (c.flatMap ceC)::f:=by
 have h:=S7 Tryz.Zan 2 Tryz.isAgg232 Tryz.sizeOf232 ceC Qa6 Qb (fun x v d=>by simp only[ceC,Yf,Hp,Ho]at d;rcases d with rfl|rfl <;> rfl) Qb9 Zgt 174 (enters_of Tryz.func174 (by kernel_rfl) rfl) Pz 232 s l Qb;simp only[Qnd]at h;exact h
end PL
open Go.Sort (putCells putRow mapBlock grow onCells Holds)
theorem Qmy(off:Nat)(d:List Int)(a:Array Value):putCells (Value.int .i64) off d.toArray a=putCells id off (ints d).toArray a:=by
 unfold putCells;refine Z3 (fun f=>Array.mapIdx f a) ?_
 funext k x
 have c:(ints d).toArray.size=d.toArray.size:=Q2
 rw[c]
 split
 ·rename_i h;have b:k-off<d.length:=by have:=h.2;simp at this;omega
  rw[Fp d.toArray (k-off) (by simpa using b),getElem!_pos (ints d).toArray (k-off) (by simpa using b)];simp
 ·rfl
theorem Qjj{w:World}{b off n:Nat}{F:Array Value}{os:Array Obj}{a:Array Value}{e:TypeId}(d:Blk w b e a):Blk (grow (mapBlock (Sort.ahead w n) b (putCells id off F)) os) b e (putCells id off F a) ∧
  Keeps (fun i=>i=b) w (grow (mapBlock (Sort.ahead w n) b (putCells id off F)) os):=by
 have g:=d.lt;have f:(mapBlock (Sort.ahead w n) b (putCells id off F)).heap.size=w.heap.size:=by simp[mapBlock]
 have hold:∀i,i<w.heap.size→(grow (mapBlock (Sort.ahead w n) b (putCells id off F)) os).heap[i]?=(w.heap.modify b (onCells (putCells id off F)))[i]?:=fun i c=>by
  show ((mapBlock (Sort.ahead w n) b (putCells id off F)).heap++os)[i]?=_;rw[Qy9 (by rw[f];exact c)];rfl
 refine⟨?_,rfl,rfl,rfl,?_,fun i c h=>?_,?_⟩
 ·unfold Blk;rw[hold b g,Qdg,Qh rfl,show w.heap[b]?=some (.cells a e (0,0)) from d];rfl
 ·show w.heap.size≤((mapBlock (Sort.ahead w n) b (putCells id off F)).heap++os).size;rw[Qze,f];omega
 ·rw[hold i c,Qdg,Qe (fun e=>h e.symm)]
 ·show w.drawn≤w.drawn+n;omega
theorem Qvf{P:Program}{h:Go.Shelf.Ren}(L:Lays.n189 P h)(e:TypeId)(s:SV)(l:List Int)(G:l.length<4611686018427387904) :
  Spec P (h.f 189) [s.v] [own s e 1 (ints l)] fun q _ v=>v=own s e 1 (ints (l.mergeSort fun x y=>decide (x≤y)))::q:=by
 intro q w o;obtain⟨M,k,D⟩:=o.head;have g:=(D.mono k).Qj7;have a:=g.1;rw[Qo,Kz]at a
 by_cases E:s.n=0
 ·refine(show Calls P (h.f 189) #[.slice s.a s.n s.c] w _ from ?_);rw[E];refine(Any.slices_Sort_int_none L s.a s.c w).mono ?_;rintro K z ⟨rfl,rfl⟩;obtain rfl:l=[]:=Ae Qb;exact⟨_,_,rfl,Q2,o,Ext.refl _⟩
 ·rcases g.2 with ⟨_,O,_⟩|⟨b,off,c,cur,q1,q2,i,C,B,A,r⟩
  ·omega
  ·simp only[SV.v,Value.slice.injEq,B3]at q1;obtain⟨q1,rfl⟩:=q1;rw[Kz]at A r
   have I:Holds (Value.int .i64) w b off l.toArray:=by
    intro j t;have p:j<l.length:=by simpa using t
    refine⟨?_,i.frozen _⟩;rw[i.cell]
    have e1:(ints l)[j]?=cur[off+j]?:=by
     rw[←r,Qi6 Qb,Qsf,Pn]
    rw[←e1,Fp l.toArray j t,Q8,Ju p];rfl
   refine(show Calls P (h.f 189) #[.slice s.a s.n s.c] w _ from ?_);have H:=Any.slices_Sort_int L b off s.c l w I i.lt G;rw[q1,←a];refine H.mono ?_;rintro K z ⟨rfl,nn,os,rfl⟩;have d:(l.mergeSort fun x y=>decide (x≤y)).length=l.length:=(Qoq l _).length_eq;generalize N:(l.mergeSort fun x y=>decide (x≤y))=m at d
   have J:∀w:World,putRow (Value.int .i64) w b off m.toArray=mapBlock w b (putCells id off (ints m).toArray):=fun w=>by
    unfold putRow
    congr 1
    funext cur
    exact Qmy off m cur
   rw[J];obtain⟨k1,f⟩:=Qjj (off:=off) (n:=nn) (F:=(ints m).toArray) (os:=os) i;have u:(ints m).toArray.size=s.n:=by simp[d,a]
   refine⟨_,_,rfl,rfl,?_,f.os,f.tape,f.output,f.size,fun _=>f.drawn⟩
   refine o.Qg5 (b:=b) ⟨?_,.inr ⟨b,off,s.c,_,by simp only[SV.v,q1],rfl,k1,C,B,?_,?_⟩⟩ (by rw[q1];rfl) f
   ·simp[d,a]
   ·simp only[putCells,Qvz];omega
   ·have:=B7 (off:=off) (F:=(ints m).toArray) (cur:=cur) (by rw[u];omega);rw[u]at this;rw[Kz];exact this
end Go.Proofs.YtdackcibfkkniaaGreatDoor
namespace Go.Proofs.YtdackcibfkkniaaGreatDoor
namespace PL
open Go.RowKit
theorem Zel(s:SV)(l:List Int)(c:l.length≤1000000):Spec Tryz.prog 147 [s.v] [own s 3 1 (ints l)] fun b _ a=>a=own s 3 1 (ints (Qs5 l))::b:=by
 have h:=Qvf Tryz.Zcg 3 s l Qb;rw[Qhl]at h;exact h
def Qf2(row:List Int)(k:Int):List Ce:=if k≤row.length then (Y4 row).take k.toNat else []
theorem P6{c:Type}{a:c→List Value}{b:Nat}(d:∀x,(a x).length=b)(os:List c)(k:Nat):(os.flatMap a).take (k*b)=(os.take k).flatMap a:=by
 induction os generalizing k with
 | nil=>simp
 | cons x l e=>
  cases k with
  | zero=>simp
  | succ k=>
   rw[G2,List.take_succ_cons,G2,Qje,d,Dh (by rw[d,Cz];omega),show (k+1)*b-b=k*b by rw[Cz];omega,e]
theorem Qzp(R:Assn)(s:SV)(row:List Int)(k:Int)(H:1≤k)(G:row.length≤1000)(j:RdS R s row.length 1 (ints row)) :
  Spec Tryz.prog 146 [s.v,.int .i64 k] [R] fun e v o=>∃u:SV,(k≤row.length→u.n=k.toNat)∧v=.tuple #[u.v,.bool (decide (k≤row.length))]∧o=own u 232 2 ((Qf2 row k).flatMap ceC)::R::e:=by
 obtain⟨kn,rfl⟩:∃kn:Nat,k=(kn:Int):=⟨k.toNat,Qb⟩;rw[K0];have t:Qf2 row (kn:Int)=if (kn:Int)≤row.length then (Y4 row).take kn else []:=rfl
 refine Zbd Tryz.func146 rfl Tryz.ntmps146 fun C e=>Zsh ?_;refine S.T6 j fun F _ _=>(ZY 7 ?_);refine S.Qs (show Ent _ (own SV.nil 232 2 (((Ed row).take 0).flatMap ceC)::_) from Ent.Xb 232 2) (ZY 8 (ZY 2 ?_));refine Zl (fun m a c=>∃(i:Nat) (lv:SV),m+i=row.length∧a=[(1,.int .i64 kn),(6,lv.v),(9,s.v),(10,.int .i64 s.n),(11,.int .i64 i)]∧c=own lv 232 2 (((Ed row).take i).flatMap ceC)::R::e) (m:=_) (⟨0,SV.nil,rfl,rfl,rfl⟩) ?_;rintro m a c ⟨i,lv,z,rfl,rfl⟩;refine S.Xn lv fun d _ _=>?_;rw[Y1 Qa6,V9,Gd,Ny Qb]at d;refine ZY 5 ?_
 refine Zj ef (fun B=>?_) (fun B=>?_)
 ·obtain⟨x,p⟩:=Xs (l:=row) (i:=i) Qb;refine S.Ao j Qb fun b off r=>(ZY 6 (Zv (Zx (i) ef (r) ef Qb) (Zv (Bl j i Eo.h rfl r Qb Qb (Lz p)) (ZY 7 ?_))));refine Zp (S.K9 Eo.h (vs:=[_]) ⟨rfl,trivial⟩ (fun w E=>Zla x w) rfl ?_);refine Zv (Ye (pvs:=[(_,_),(_,_)]) [_,_] Tryz.z232.h Tryz.Zo3.h ⟨⟨rfl,rfl⟩,⟨rfl,rfl⟩,trivial⟩ rfl) ?_;refine Zp (S.buildSlice (pvs:=[(_,_)]) [_,_] Tryz.underlying228 Tryz.Q52.h rfl rfl ⟨⟨rfl,rfl⟩,trivial⟩ rfl rfl ?_);intro n;refine Zp (S.Z6 (s:=lv) (1) (ceC ((i:Int),inI x)) Tryz.underlying228 Tryz.Q52.h rfl rfl rfl (Yb (b:=n) rfl (by unfold maxLen;omega)) (by first|rfl|exact Qw _) (⟨Qb,Qb⟩) rfl ?_);intro f q;rw[show ((Ed row).take i).flatMap ceC++ceC ((i:Int),inI x)=((Ed row).take (i+1)).flatMap ceC by rw[Qrw row i x p,Qja];rfl];refine ZY 3 (Zv (Za ef ef) (ZY 2 ?_));exact ZX (m-1) (⟨i+1,f,Qb,rfl,rfl⟩) Qb
 ·refine ZY 8 (Zy ?_)
  refine Zj ef (fun A=>?_) (fun A=>?_)
  ·obtain rfl:i=row.length:=Qb
   refine ZY 6 ?_;refine S.Qs (show Ent _ (own SV.nil 232 2 (([]:List Ce).flatMap ceC)::_) from Ent.Xb 232 2) ?_;exact Zf ef Zq (⟨SV.nil,fun h=>Qb,by rw[Q6 Qb];rfl,by rw[t,Qe Qb]⟩)
  ·obtain rfl:i=row.length:=Qb
   rw[Dh (by rw[Gd];exact Q1 _)];refine ZY 4 ?_;refine Zp (Zc1 Ze (Qoc lv (Ed row) (by rw[Gd];omega)) ?_);rintro v o ⟨D,y,g,rfl⟩;obtain rfl:=Qme y g;refine ZY 5 (S.conv (own lv 232 2 ((Y4 row).flatMap ceC)) (Ent.Qm6 lv 232 2 _ (k:=kn) Qb _) (Zv (Qb4 (kn) Eo.h rfl rfl rfl Qb) (ZY 4 ?_)));exact Zf ef Zq (⟨⟨lv.a,kn,lv.c⟩,fun _=>rfl,by rw[Zh Qb];rfl,by rw[t,Qh Qb,←P6 Qa6]⟩)
set_option linter.unusedVariables false
structure RW where
 v:SV
 d:List Int
instance:Inhabited RW:=⟨⟨SV.nil,[]⟩⟩
abbrev rwC(r:RW):List Value:=[r.v.v]
theorem Gg:∀r,(rwC r).length=1:=fun _=>rfl
abbrev rwB(r:RW):Assn:=own r.v 3 1 (ints r.d)
abbrev dat(rs:List RW):List (List Int):=rs.map RW.d
structure RdP(R:Assn)(s:SV)(rs:List RW):Prop where
 top:RdS R s rs.length 1 (rs.flatMap rwC)
 row:∀ {i:Nat} {r:RW},rs[i]?=some r→RdS R r.v r.d.length 1 (ints r.d)
def prof(s:SV)(rs:List RW):Assn:=stars [own s 66 1 (rs.flatMap rwC),alls rs rwB]
theorem Ent.prof(s:SV)(rs:List RW)(a:List Assn):Ent (own s 66 1 (rs.flatMap rwC)::alls rs rwB::a) (prof s rs::a):=Ent.pack [_,_] a
theorem Ent.unprof(s:SV)(rs:List RW)(a:List Assn):Ent (Go.Proofs.YtdackcibfkkniaaGreatDoor.PL.prof s rs::a) (own s 66 1 (rs.flatMap rwC)::alls rs rwB::a):=Ent.unpack [_,_] a
theorem RdP.prof(s:SV)(rs:List RW):RdP (prof s rs) s rs:=by
 refine⟨fun c w d=>?_,fun {i r} f c w d=>?_⟩
 ·have b:=d.Qs (Ent.unprof s rs c);have e:=(Uo.head).Tq b;obtain⟨x,_,p⟩:=b.head;have a:=p.1;rw[Y1 Gg,Kz,Kz]at a
  rwa [←a]at e
 ·have b:=(d.Qs (Ent.unprof s rs c)).Qs ((Ent.drop _ _).trans (Ent.U5 rwB f c));have e:=(Uo.head).Tq b;obtain⟨x,_,p⟩:=b.head;have a:=p.1;rw[Qo,Kz]at a
  rwa [←a]at e
abbrev stC(u:SV)(x:St):List Value:=[.int .i64 x.at_,.int .i64 x.row,u.v,.bool x.ok]
def Qbb(D:List (List Int))(k n:Nat):St:=match Fj k D n with
 | none=>⟨0,0,[],false⟩
 | some (v,i)=>⟨v,i,((Y4 (D[i]?.getD [])).take k).map (·.1),true⟩
theorem Q13{D:List (List Int)}{k n:Nat}{row:List Int}(b:D[n]?=some row)(d:1≤k){ck:Ce}(c:k≤row.length→(Y4 row)[k-1]?=some ck) :
  Qbb D k (n+1)=if (decide (k≤row.length)&&(!(Qbb D k n).ok || decide (ck.2<(Qbb D k n).at_)))=true then ⟨ck.2,n,((Y4 row).take k).map (·.1),true⟩ else Qbb D k n:=by
 unfold Qbb;simp only[Fj,b,Option.bind_some,kth]
 by_cases h:k≤row.length
 ·rw[Qh h,c h];simp only[U3,comb,Zh h,Tb];cases Fj k D n with
  | none=>simp[b]
  | some x=>
   obtain⟨u,j⟩:=x;simp only[Bool.not_true,Qvu,Zz]
   by_cases a:ck.2<u
   ·rw[Qh a,Qh a];simp[b]
   ·rw[Qe a,Qe a]
 ·rw[Qe h];simp[comb,h]
theorem Qup{D:List (List Int)}{k:Nat}(a:1≤k):V1 D k=⟨(Qbb D k D.length).at_,(Qbb D k D.length).row,Qs5 (Qbb D k D.length).nodes,(Qbb D k D.length).ok⟩:=by
 unfold V1 Qbb;rw[Qe Qb,K0];cases Fj k D D.length with
 | none=>rfl
 | some x=>rfl
set_option linter.unusedVariables false
theorem S.Zlh{n:Nat}{p:Bool}{j:WM p}{i:Env}{a:List Assn}{g:Act→World→Prop}(s:SV){e:TypeId}{l:Nat}{xs:List Value}{o:List Assn}[h:Uo a s e l xs o](k:∀b off,(0<s.n→s.a=some ⟨b,off,none⟩)→xs.length=s.n*l→s.n≤s.c→s.c≤maxLen→S n j i a g):S n j i a g:=by
 by_cases m:0<s.n
 ·exact S.Q7 s m fun b off q f d c=>k b off (fun _=>q) f d c
 ·exact S.Xn s fun f d c=>k 0 0 (fun h=>absurd h m) f d c
theorem Qh9{D:List (List Int)}{k:Int}(h:k<1):V1 D k=⟨0,0,[],false⟩:=by unfold V1;rw[Qh h]
theorem Qbs{row:List Int}{k:Nat}(h:k≤row.length):Qf2 row (k:Int)=(Y4 row).take k:=by unfold Qf2;rw[Qh Qb,K0]
theorem Zek{D:List (List Int)}{k n:Nat}(h:∀row∈D,row.length≤1000):(Qbb D k n).nodes.length≤1000:=by
 unfold Qbb;cases Fj k D n with
 | none=>simp
 | some x=>
  obtain⟨v,i⟩:=x;simp only[Qo,V9,F0];cases a:D[i]? with
  | none=>simp
  | some row=>have:=h row (Yn a);simp only[Tf];omega
theorem Zgr{k n:Nat}{ok:Bool}{a b:Int}(h:(!decide ((k:Int)≤n))=true):true=!(decide (k≤n)&&(!ok || decide (a<b))):=by
 have:¬k≤n:=by simpa using h
 rw[Q6 this];rfl
theorem Zgq{k n:Nat}{ok:Bool}{a b:Int}(h:k≤n)(c:ok=false):false=!(decide (k≤n)&&(!ok || decide (a<b))):=by
 rw[Zh h,c];rfl
theorem Zgp{k n:Nat}{ok:Bool}{a b:Int}(h:k≤n)(d:ok=true):decide (b≤a)=!(decide (k≤n)&&(!ok || decide (a<b))):=by
 rw[Zh h,d,Tb,Bool.not_true,Qvu]
 by_cases c:a<b
 ·rw[Zh c,Q6 Qb];rfl
 ·rw[Q6 c,Zh Qb];rfl
theorem Ze4{c T:Bool}(a:c=!T)(h:c=true):T=false:=by subst h;cases T <;> simp_all
theorem Ze5{c T:Bool}(a:c=!T)(h:c=false):T=true:=by subst h;cases T <;> simp_all
set_option maxHeartbeats 1000000 in
theorem Zep(R:Assn)(s:SV)(rs:List RW)(k len:Int)(hl:rs.length≤1000)(E:∀r∈rs,r.d.length≤1000)(K:RdP R s rs) :
  Spec Tryz.prog 113 [s.v,.agg #[.int .i64 k,.int .i64 len]] [R] fun B v N=>∃u:SV,v=.agg (stC u (V1 (dat rs) k)).toArray∧N=own u 3 1 (ints (V1 (dat rs) k).nodes)::R::B:=by
 refine Zbd Tryz.func113 rfl Tryz.ntmps113 fun w0 B=>Zsh ?_;refine S.T6 K.top fun hn _ _=>(ZY 2 (Zp (S.box (cs:=[_,_]) rfl rfl rfl ?_)));intro y;refine Zp (S.alloc Tryz.z146.h rfl ?_);intro z;refine ZY 3 (Zp (S.alloc Tryz.z146.h rfl ?_));intro w;refine ZY 8 ?_
 refine Zj ef (fun W=>?_) (fun W=>?_)
 ·refine ZY 3 (Zp (Zs ef ef (cs':=[_,_,_,_]) ef (ZY 2 ?_)));refine S.Qs (show Ent _ (own SV.nil 3 1 (ints [])::_) from Ent.Xb 3 1) ?_;exact Zf ef Zq (⟨SV.nil,by rw[Qh9 (by assumption)];rfl,by rw[Qh9 (by assumption)]⟩)
 ·obtain⟨kn,rfl⟩:∃kn:Nat,k=(kn:Int):=⟨k.toNat,Qb⟩;refine S.Qs (show Ent _ (own SV.nil 3 1 (ints (St.mk 0 0 [] false).nodes)::_) from Ent.Xb 3 1) (ZY 8 (Zy ?_));refine Zl (fun m d e=>∃(i:Nat) (u:SV) (x:St),m+i=rs.length∧x=Qbb (dat rs) kn i∧d=[(3,.pointer (some ⟨y,0,none⟩)),(4,.pointer (some ⟨z,0,none⟩)),(5,.pointer (some ⟨w,0,none⟩)),(16,s.v),(17,.int .i64 s.n),(18,.int .i64 i)]∧e=blk w 146 (stC u x).toArray::own u 3 1 (ints x.nodes)::blk y 139 #[.int .i64 kn,.int .i64 len]::blk z 146 #[.int .i64 0,.int .i64 0,.slice none 0 0,.bool false]::R::B) (m:=_) (⟨0,SV.nil,⟨0,0,[],false⟩,rfl,rfl,rfl,rfl⟩) ?_;rintro m d e ⟨i,u,x,a2,Q,rfl,rfl⟩;refine ZY 5 ?_
  refine Zj ef (fun h2=>?_) (fun h2=>?_)
  ·obtain⟨r,C⟩:=Xs (l:=rs) (i:=i) Qb;have T:r.d.length≤1000:=E r (Yn C)
   obtain⟨ck,G⟩:∃ck,kn≤r.d.length→(Y4 r.d)[kn-1]?=some ck:=by
    by_cases h:kn≤r.d.length
    ·obtain⟨c,J⟩:=Xs (l:=Y4 r.d) (i:=kn-1) (by rw[F0];omega);exact⟨c,fun _=>J⟩
    ·exact⟨(0,0),fun h'=>absurd h' h⟩
   have g:=Q13 (D:=dat rs) (n:=i) (by rw[Q8,C];rfl) (show 1≤kn by omega) G;rw[←Q]at g;refine S.Ao K.top Qb fun b off hb=>(ZY 2 ?_)
   refine Zc (fun d e=>∃(q:SV) (O:St),O=Qbb (dat rs) kn (i+1)∧d=[(3,.pointer (some ⟨y,0,none⟩)),(4,.pointer (some ⟨z,0,none⟩)),(5,.pointer (some ⟨w,0,none⟩)),(16,s.v),(17,.int .i64 s.n),(18,.int .i64 i)]∧e=blk w 146 (stC q O).toArray::own q 3 1 (ints O.nodes)::blk y 139 #[.int .i64 kn,.int .i64 len]::blk z 146 #[.int .i64 0,.int .i64 0,.slice none 0 0,.bool false]::R::B) ?_ ?_
   ·refine ZY 4 (Zv (Zx (i) ef (hb) ef Qb) (Zv (Bl K.top (i*1) Eo.h rfl hb Qb rfl (flat_get (enc:=rwC) (sz:=1) (k:=0) Gg C rfl)) (ZY 8 (Zp (Zc1 Ze (Qzp R r.v r.d kn Qb T (K.row C)) ?_)))));rintro v N ⟨t,F,rfl,rfl⟩;rw[K0]at F;refine S.Zlh t fun b' Z o a5 a6 a4=>?_
    have A:kn≤r.d.length→∀j v,(ceC ck)[j]?=some v→((Qf2 r.d kn).flatMap ceC)[(kn-1)*2+j]?=some v:=fun h=>by
     refine Wr (enc:=ceC) (sz:=2) Qa6 ?_;rw[Qbs h,Qi6 Qb];exact G h
    refine ZY 8 ?_
    refine Zc (fun d e=>∃c:Bool,c=!(decide (kn≤r.d.length)&&(!x.ok || decide (ck.2<x.at_)))∧d=[(3,.pointer (some ⟨y,0,none⟩)),(4,.pointer (some ⟨z,0,none⟩)),(5,.pointer (some ⟨w,0,none⟩)),(6,.int .i64 i),(8,t.v),(16,s.v),(17,.int .i64 s.n),(18,.int .i64 i),(47,.bool c)]∧e=own t 232 2 ((Qf2 r.d kn).flatMap ceC)::blk w 146 (stC u x).toArray::own u 3 1 (ints x.nodes)::blk y 139 #[.int .i64 kn,.int .i64 len]::blk z 146 #[.int .i64 0,.int .i64 0,.slice none 0 0,.bool false]::R::B) ?_ ?_
    ·refine Zd ([own t 232 2 ((Qf2 r.d kn).flatMap ceC),blk w 146 (stC u x).toArray,blk y 139 #[.int .i64 kn,.int .i64 len]]) [] [0,1,2] (ZY 3 ?_)
     refine Zbb 32 ef (fun f=>?_) (fun f=>?_)
     ·refine Zr (Zra 3 15) (ZY 8 (ZY 7 ?_));refine ZD ?_;first|exact S.meet ⟨_,by first|exact Zgr f|exact Zgq p a|exact Zgp p a,rfl,rfl⟩ ⟨rfl,rfl,rfl,rfl,rfl,rfl,rfl,rfl,rfl,trivial⟩ Sub.Qs
     ·have p:kn≤r.d.length:=by simpa using f
      refine Zr [3,4,5] (ZY 3 ?_)
      refine Zbb 35 ef (fun a=>?_) (fun a=>?_)
      ·refine Zr (Zra 6 12) (ZY 3 ?_);refine Zwg ef ef ef ef (Zm ef ef) ?_;refine Zwg ef ef ef ef (Zx (kn-1) ef ((o Qb)) ef Qb (Qb)) (Zy ?_);refine Zwg ef ef ef ef (Zo (t) ((kn-1)*2+1) ef ((o Qb)) (A p 1 _ rfl)) (ZY 5 ?_);refine ZD ?_;first|exact S.meet ⟨_,by first|exact Zgr f|exact Zgq p a|exact Zgp p a,rfl,rfl⟩ ⟨rfl,rfl,rfl,rfl,rfl,rfl,rfl,rfl,rfl,trivial⟩ Sub.Qs
      ·refine Zr (Zra 6 12) (ZY 8 (ZY 4 ?_));refine ZD ?_;first|exact S.meet ⟨_,by first|exact Zgr f|exact Zgq p a|exact Zgp p a,rfl,rfl⟩ ⟨rfl,rfl,rfl,rfl,rfl,rfl,rfl,rfl,rfl,trivial⟩ Sub.Qs
    ·rintro d e ⟨c,J,rfl,rfl⟩
     refine Zi ef (fun V=>?_) (fun V=>?_)
     ·have I:(decide (kn≤r.d.length)&&(!x.ok || decide (ck.2<x.at_)))=false:=Ze4 J V;rw[Qe (by rw[I];simp)]at g;refine Zy ?_;first|exact S.meet ⟨u,x,g.symm,rfl,rfl⟩ ⟨rfl,rfl,rfl,rfl,rfl,rfl,trivial⟩ Sub.Qs|exact S.meet ⟨q,⟨ck.2,i,L.map (·.1),true⟩,g.symm,rfl,rfl⟩ ⟨rfl,rfl,rfl,rfl,rfl,rfl,trivial⟩ Sub.Qs
     ·have I:(decide (kn≤r.d.length)&&(!x.ok || decide (ck.2<x.at_)))=true:=Ze5 J V;rw[Qh I]at g;have p:kn≤r.d.length:=by rw[Z5]at I;simpa using I.1
      have a3:=F Qb;obtain⟨L,M⟩:∃L,L=(Y4 r.d).take kn:=⟨_,rfl⟩;have a7:L.length=kn:=by rw[M,V9,F0];omega
      rw[Qbs p,←M]at A;rw[Qbs p,←M];rw[←M]at g;refine ZY 6 (Zv (Zm ef ef) (Zv (Zx (kn-1) ef ((o Qb)) ef Qb (Qb)) (Zy (Zv (Zo (t) ((kn-1)*2+1) ef ((o Qb)) (A p 1 _ rfl)) (Zy ?_)))));refine Zv (Ye (pvs:=[(_,_),(_,_),(_,_)]) [_,_,_,_] Tryz.z146.h Tryz.Zo8.h ⟨⟨rfl,rfl⟩,⟨rfl,rfl⟩,⟨rfl,rfl⟩,trivial⟩ rfl) (Zp (Zs ef ef (cs':=[_,_,_,_]) ef (ZY 3 ?_)));refine S.Qs (show Ent _ (own SV.nil 3 1 (ints ((L.take 0).map (·.1)))::_) from Ent.Xb 3 1) (ZY 5 ?_);refine Zl (fun m d e=>∃(j:Nat) (q:SV),m+j=kn∧d=[(3,.pointer (some ⟨y,0,none⟩)),(4,.pointer (some ⟨z,0,none⟩)),(5,.pointer (some ⟨w,0,none⟩)),(16,s.v),(17,.int .i64 s.n),(18,.int .i64 i),(57,t.v),(58,.int .i64 t.n),(59,.int .i64 j)]∧e=blk w 146 #[.int .i64 ck.2,.int .i64 i,q.v,.bool true]::own q 3 1 (ints ((L.take j).map (·.1)))::own t 232 2 (L.flatMap ceC)::blk y 139 #[.int .i64 kn,.int .i64 len]::blk z 146 #[.int .i64 0,.int .i64 0,.slice none 0 0,.bool false]::R::B) (m:=_) (⟨0,SV.nil,rfl,rfl,rfl⟩) ?_;rintro m2 d e ⟨j,q,a1,rfl,rfl⟩;refine S.Xn q fun Bt _ _=>?_;rw[Qo,Qo,V9,Kz]at Bt;refine ZY 5 ?_
      refine Zj ef (fun h4=>?_) (fun h4=>?_)
      ·obtain⟨c,H⟩:=Xs (l:=L) (i:=j) Qb;refine ZY 5 (Zv (Zx (j) ef ((o Qb)) ef Qb) (Zv (Ub (t) (j*2) [_,_] Eo.h rfl (o Qb) (by first|rfl|exact Xr _ _ _|omega) rfl (Wr (enc:=ceC) (sz:=2) Qa6 H)) (Zp (S.alloc Tryz.z232.h rfl ?_))));intro a8;refine Zp (Zs ef ef (cs':=[_,_]) ef (ZY 6 ?_));refine Zp (S.buildSlice (pvs:=[(_,_)]) [_] Tryz.underlying66 Tryz.N3.h rfl rfl ⟨⟨rfl,rfl⟩,trivial⟩ rfl rfl ?_);intro X;refine Zp (S.Z6 (s:=q) (1) ([.int .i64 c.1]) Tryz.underlying66 Tryz.N3.h rfl rfl rfl (Yb (b:=X) rfl (by unfold maxLen;omega)) (by first|rfl|exact Qw _) (⟨Qb,Qb⟩) rfl ?_);intro u3 a0;rw[show ints ((L.take j).map (·.1))++[Value.int .i64 c.1]=ints ((L.take (j+1)).map (·.1)) by rw[Qzk _ _ _ _ H];simp[ints]];refine ZY 4 (Zv (Za ef ef) (ZY 2 ?_));exact ZX (m2-1) (⟨j+1,u3,Qb,rfl,rfl⟩) Qb
      ·have U:L.take j=L:=Dh Qb;rw[U];refine Zy ?_;first|exact S.meet ⟨u,x,g.symm,rfl,rfl⟩ ⟨rfl,rfl,rfl,rfl,rfl,rfl,trivial⟩ Sub.Qs|exact S.meet ⟨q,⟨ck.2,i,L.map (·.1),true⟩,g.symm,rfl,rfl⟩ ⟨rfl,rfl,rfl,rfl,rfl,rfl,trivial⟩ Sub.Qs
   ·rintro d e ⟨u9,x9,P,rfl,rfl⟩;refine Zy (Zv (Za ef ef) (ZY 2 ?_));exact ZX (m-1) (⟨i+1,u9,x9,Qb,P,rfl,rfl⟩) Qb
  ·obtain rfl:i=rs.length:=Qb
   have Tg:x.nodes.length≤1000:=by rw[Q];exact Zek (fun row C=>by obtain⟨r,W,rfl⟩:=Qq.1 C;exact E r W)
   have Y:=Qup (D:=dat rs) (k:=kn) Qb;rw[Qo,←Q]at Y;refine ZY 5 (Zp (Zc1 Ze (Zel u x.nodes Qb) ?_));rintro v N rfl;refine ZY 4 (Zp (Zs ef ef (cs':=[_,_,_,_]) ef (ZY 2 ?_)));exact Zf ef Zq (⟨u,by rw[Y];rfl,by rw[Y]⟩)
set_option linter.unusedVariables false
theorem S.Q35{n:Nat}{j:Bool}{e:WM j}{d:Env}{a:List Assn}{c:Act→World→Prop}{R:Assn}{s:SV}{m i:Nat}{xs:List Value}(h:RdS R s m i xs){g:List Assn}[p:Pick R a g](k:(s.a.isNone=true→m=0)→S n e d a c):S n e d a c:=by
 by_cases l:0<m
 ·exact S.Ao h l fun b off o=>k fun f=>by rw[o]at f;cases f
 ·exact k fun _=>by omega
theorem Qy4(R:Assn)(s:SV)(l:List Int)(m:l.length≤1000)(a:RdS R s l.length 1 (ints l)):Spec Tryz.prog 117 [s.v] [R] fun c v e=>∃u:SV,v=u.v∧e=own u 3 1 (ints l)::R::c:=by
 refine Zbd Tryz.func117 rfl Tryz.ntmps117 fun j c=>Zsh ?_;refine S.T6 a fun g _ _=>?_;refine S.Q35 a fun b=>(ZY 8 (ZY 2 ?_))
 refine Zi ef (fun d=>?_) (fun d=>?_)
 ·refine ZY 5 ?_;obtain rfl:l=[]:=Ae (b (by simpa using d));refine S.Qs (show Ent _ (own SV.nil 3 1 (ints [])::_) from Ent.Xb 3 1) ?_;exact Zf ef Zq (⟨SV.nil,rfl,rfl⟩)
 ·refine ZY 3 (Zp (S.Ev Tryz.underlying66 Tryz.N3.h rfl ?_));intro i h;refine Zy ?_;refine Zp (S.Z6 (s:=i) (s.n) (ints l) Tryz.underlying66 Tryz.N3.h rfl rfl rfl (fun w f=>by rw[g];exact a.at_ f) (Q50 l) (⟨Qb,Qb⟩) rfl ?_);intro u k;rw[Gf];refine ZY 3 ?_;exact Zf ef Zq (⟨u,rfl,rfl⟩)
theorem Bf{v:Int}{row ns:List Int}{j:Nat}{n:Int}(h:ns[j]?=some n):F2 v row (ns.take (j+1))=Qeg v (F2 v row (ns.take j)) n:=by
 unfold F2;rw[X2,h,Qv0,Ha];rfl
theorem Qpp{v:Int}{row:List Int}{n:Int}(h:0≤n∧n<row.length):Qeg v row n=row.set n.toNat v:=Qh h
theorem Qwv{v:Int}{row:List Int}{n:Int}(h:¬(0≤n∧n<row.length)):Qeg v row n=row:=Qe h
theorem ints_set(l:List Int)(i:Nat)(x:Int):(ints l).set i (.int .i64 x)=ints (l.set i x):=(Qdd).symm
theorem Qwy{rs:List RW}{i:Nat}{r:RW}(a:rs[i]?=some r)(d:List Int):(rs.set i ⟨r.v,d⟩).flatMap rwC=rs.flatMap rwC:=by
 have h:=Qrh (enc:=rwC) (sz:=1) Gg (x':=⟨r.v,d⟩) (k:=0) (v:=r.v.v) a Qb rfl;rw[←h];refine E1 fun j=>?_;rw[Fq]
 split
 ·rename_i e;subst e;have:=flat_get (enc:=rwC) (sz:=1) (k:=0) Gg a rfl;have b:=(Yz.1 this).1;rw[Qh b,this]
 ·rfl
theorem Qyo(rs:List RW)(i:Nat)(r:RW):dat (rs.set i r)=(dat rs).set i r.d:=Qdd
theorem Zaw(A:List Value)(z v:Value)(B:List Value):(A++z::B).set A.length v=A++v::B:=by
 rw[Qsg _ _ (Q1 _),Qiy];rfl
theorem Q3i{a:Type}{l:List a}{i:Nat}{x:a}(h:l[i]?=some x):l.set i x=l:=by
 refine E1 fun j=>?_;rw[Fq]
 split
 ·rename_i e;subst e;rw[Qh (Yz.1 h).1,h]
 ·rfl
theorem Zhu{a:List RW}{k n:Nat}(h:a.length=k)(b:k<n)(r:RW):(a.flatMap rwC++X8 [.slice none 0 0] (n-k)).set (k*1) r.v.v=(a++[r]).flatMap rwC++X8 [.slice none 0 0] (n-(k+1)):=by
 have e:k*1=(a.flatMap rwC).length:=by rw[Y1 Gg,h]
 rw[show n-k=(n-(k+1))+1 by omega,e];refine(Zaw _ _ _ _).trans ?_;simp
theorem Q3x{D:List (List Int)}{x:St}{len:Int}(b:x.ok=true)(a:0≤x.row∧x.row<D.length):Sg D x len=D.set x.row.toNat (F2 (Qr1 x.at_ (max len 1)) (D[x.row.toNat]?.getD []) x.nodes):=by
 unfold Sg Sh;rw[Qh b,Qh a]
theorem Za5{D:List (List Int)}{x:St}{len:Int}(h:¬(x.ok=true∧0≤x.row∧x.row<D.length)):Sg D x len=D:=by
 unfold Sg Sh
 by_cases a:x.ok=true
 ·rw[Qh a,Qe (fun b=>h ⟨a,b⟩)]
 ·rw[Qe a]
theorem S.Zec{n:Nat}{l:Bool}{f:WM l}{d:Env}{b:List Assn}{c:Act→World→Prop}{rs:List RW}{i:Nat}{r:RW}(o:rs[i]?=some r){e:List Assn}[p:Pick (alls rs rwB) b e](k:r.v.n=r.d.length→S n f d b c):S n f d b c:=by
 intro a w q g m;obtain⟨x,_,h⟩:=((g.Qs p.Qs).Qs (Ent.U5 rwB o e)).head;have j:=h.1;rw[Qo,Kz]at j;exact k j.symm a w q g m
theorem Zhh{ok:Bool}{row:Int}{n:Nat}(h:(!ok)=false)(a:row<0):true=!(ok&&decide (0≤row∧row<n)):=by
 rw[Q6 Qb,Tc];rfl
theorem Zhg{ok:Bool}{row:Int}{m n:Nat}(h:(!ok)=false)(b:¬row<0)(e:m=n):decide ((m:Int)≤row)=!(ok&&decide (0≤row∧row<n)):=by
 subst e;rw[show ok=true by simpa using h,Bool.true_and]
 by_cases a:row<m
 ·rw[Q6 Qb,Zh Qb];rfl
 ·rw[Zh Qb,Q6 Qb];rfl
theorem Zhi{ok:Bool}{p:Prop}[Decidable p](h:(!ok)=true):true=!(ok&&decide p):=by cases ok <;> simp_all
set_option maxHeartbeats 1000000 in
theorem Q18(R Q:Assn)(s:SV)(rs:List RW)(u:SV)(x:St)(len:Int)(hl:rs.length≤1000)(I:∀r∈rs,r.d.length≤1000)(W:RdP R s rs)(hQ:RdS Q u x.nodes.length 1 (ints x.nodes)) :
  Spec Tryz.prog 114 [s.v,.agg (stC u x).toArray,.int .i64 len] [R,Q] fun D v Θ=>∃(s':SV) (e:List RW),v=s'.v∧dat e=Sg (dat rs) x len∧Θ=prof s' e::R::Q::D:=by
 refine Zbd Tryz.func114 rfl Tryz.ntmps114 fun w0 D=>Zsh ?_;refine S.T6 W.top fun hn _ _=>?_;refine S.T6 hQ fun a8 a7 a6=>?_;have a3:(dat rs).length=rs.length:=Qo _;refine ZY 2 (Zp (S.box (cs:=[_,_,_,_]) rfl rfl rfl ?_));intro A;refine ZY 6 ?_;refine Zp (S.makeSlice (s.n) (s.n) Tryz.underlying143 Tryz.Ze9.h rfl rfl rfl rfl rfl (Q1 _) (⟨Qb,Qb⟩) rfl ?_);intro ov a9;rw[show X8 [.slice none 0 0] s.n=([]:List RW).flatMap rwC++X8 [.slice none 0 0] (s.n-0) from rfl];refine S.Qs (Ent.Fk rwB _) (ZY 8 (ZY 2 ?_));refine Zl (fun m g n=>∃(i:Nat) (e:List RW),m+i=rs.length∧dat e=(dat rs).take i∧g=[(2,.int .i64 len),(4,.pointer (some ⟨A,0,none⟩)),(7,ov.v),(15,s.v),(16,.int .i64 s.n),(17,.int .i64 i)]∧n=own ov 66 1 (e.flatMap rwC++X8 [.slice none 0 0] (s.n-i))::alls e rwB::blk A 146 (stC u x).toArray::R::Q::D) (m:=_) (⟨0,[],rfl,rfl,rfl,rfl⟩) ?_;rintro m g n ⟨i,e,ab,L,rfl,rfl⟩;have H:e.length=i:=by have:=Z3 List.length L;rw[Qo,V9]at this;omega
 refine ZY 5 ?_
 refine Zj ef (fun X=>?_) (fun X=>?_)
 ·obtain⟨r,U⟩:=Xs (l:=rs) (i:=i) Qb;have Y:r.d.length≤1000:=I r (Yn U);refine S.Ao W.top Qb fun b off hb=>?_;refine S.Q7 ov Qb fun b' F y a1 a2 a0=>(ZY 6 (Zv (Zx (i) ef (hb) ef Qb) (Zv (Bl W.top (i*1) Eo.h rfl hb Qb rfl (flat_get (enc:=rwC) (sz:=1) (k:=0) Gg U rfl)) (ZY 7 (Zp (Zc1 Ze (Qy4 R r.v r.d Y (W.row U)) ?_))))));rintro v Θ ⟨T,rfl,rfl⟩;refine Zv (Zx (i) ef (y) ef Qb) ?_;refine Zp (S.Xa (ov) (i*1) Eo.h rfl rfl rfl y (by first|rfl|exact Xr _ _ _|omega) Qb (Zhu H Qb ⟨T,r.d⟩) (ZY 2 ?_));refine S.U2 (own T 3 1 (ints r.d)) (alls e rwB) (Ent.Ew rwB e ⟨T,r.d⟩ _) (Zv (Za ef ef) (ZY 2 ?_));exact ZX (m-1) (⟨i+1,e++[⟨T,r.d⟩],Qb,by rw[X2,Q8,U,←L];simp,rfl,rfl⟩) Qb
 ·obtain rfl:i=rs.length:=Qb
  rw[Dh Qb]at L;rw[show s.n-rs.length=0 by omega,show X8 [.slice none 0 0] 0=[] from rfl,X3];refine ZY 3 ?_
  refine Zc (fun g n=>∃c:Bool,c=!(x.ok&&decide (0≤x.row∧x.row<rs.length))∧g=[(2,.int .i64 len),(4,.pointer (some ⟨A,0,none⟩)),(7,ov.v),(42,.bool c)]∧n=own ov 66 1 (e.flatMap rwC)::alls e rwB::blk A 146 (stC u x).toArray::R::Q::D) ?_ ?_
  ·refine ZY 5 ?_
   refine Zbb 31 ef (fun d=>?_) (fun d=>?_)
   ·refine ZY 8 (ZY 4 ?_);first|exact S.meet ⟨_,by first|exact Zhi d|exact Zhh d f|exact Zhg d f Qb,rfl,rfl⟩ ⟨rfl,rfl,rfl,rfl,trivial⟩ Sub.Qs
   ·refine ZY 5 ?_
    refine Zb 36 ef (fun f=>?_) (fun f=>?_)
    ·refine ZY 7 ?_;first|exact S.meet ⟨_,by first|exact Zhi d|exact Zhh d f|exact Zhg d f Qb,rfl,rfl⟩ ⟨rfl,rfl,rfl,rfl,trivial⟩ Sub.Qs
    ·refine ZY 7 ?_;first|exact S.meet ⟨_,by first|exact Zhi d|exact Zhh d f|exact Zhg d f Qb,rfl,rfl⟩ ⟨rfl,rfl,rfl,rfl,trivial⟩ Sub.Qs
  ·rintro g n ⟨c,E,rfl,rfl⟩
   refine Zi ef (fun h2=>?_) (fun h2=>?_)
   ·refine ZY 6 (S.Qs (Ent.prof ov e _) ?_);exact Zf ef Zq (⟨ov,e,rfl,by rw[L,Za5 (fun h=>by have:=Ze4 E h2;rw[h.1,Tb,Zh Qb]at this;cases this)],rfl⟩)
   ·have hT:=Ze5 E h2;rw[Z5,Zz]at hT;obtain⟨Z,C8⟩:=hT;obtain⟨rn,G⟩:∃rn:Nat,x.row=rn:=⟨x.row.toNat,Qb⟩;obtain⟨C,J⟩:=Xs (l:=rs) (i:=rn) Qb;have O:(dat rs)[rn]?=some C.d:=by rw[Q8,J];rfl
    have Wz:Sg (dat rs) x len=(dat rs).set rn (F2 (Qr1 x.at_ (max len 1)) C.d x.nodes):=by
     rw[Q3x Z Qb,show x.row.toNat=rn by omega,O];rfl
    have ae:C.d.length≤1000:=I C (Yn J);obtain⟨V,hV⟩:∃V,V=Qr1 x.at_ (max len 1):=⟨_,rfl⟩;rw[←hV]at Wz;refine ZY 8 (ZY 2 ?_);refine Zl (fun m g n=>∃(j:Nat) (a:List RW),m+j=x.nodes.length∧dat a=(dat rs).set rn (F2 V C.d (x.nodes.take j))∧g=[(2,.int .i64 len),(4,.pointer (some ⟨A,0,none⟩)),(7,ov.v),(45,u.v),(46,.int .i64 u.n),(47,.int .i64 j)]∧n=own ov 66 1 (a.flatMap rwC)::alls a rwB::blk A 146 (stC u x).toArray::R::Q::D) (m:=_) (⟨0,e,rfl,by rw[L];exact(Q3i O).symm,rfl,rfl⟩) ?_;rintro m2 g n ⟨j,a,aa,q,rfl,rfl⟩;have af:a.length=rs.length:=by have:=Z3 List.length q;rw[Qo,Xf,a3]at this;exact this
    refine ZY 5 ?_
    refine Zj ef (fun h3=>?_) (fun h3=>?_)
    ·obtain⟨nd,P⟩:=Xs (l:=x.nodes) (i:=j) Qb;obtain⟨o,B⟩:=Xs (l:=a) (i:=rn) Qb
     have t:o.d=F2 V C.d (x.nodes.take j):=by
      have X:(dat a)[rn]?=some o.d:=by rw[Q8,B];rfl
      rw[q,Pp Qb]at X;exact(Hb X).symm
     have Bt:o.d.length=C.d.length:=by rw[t,B5]
     refine S.Zec B fun ad=>?_;refine S.Ao hQ Qb fun bq oq M=>?_;refine S.Q7 ov Qb fun b' F y a1 a2 a0=>(ZY 2 ?_)
     refine Zc (fun g n=>∃z:List RW,dat z=(dat rs).set rn (F2 V C.d (x.nodes.take (j+1)))∧g=[(2,.int .i64 len),(4,.pointer (some ⟨A,0,none⟩)),(7,ov.v),(45,u.v),(46,.int .i64 u.n),(47,.int .i64 j)]∧n=own ov 66 1 (z.flatMap rwC)::alls z rwB::blk A 146 (stC u x).toArray::R::Q::D) ?_ ?_
     ·refine ZY 3 (Zv (Zx (j) ef (M) ef Qb) (Zv (Bl hQ j Eo.h rfl M Qb Qb (Lz P)) (ZY 3 ?_)))
      refine Zc (fun g n=>∃c:Bool,c=decide (0≤nd∧nd<o.d.length)∧g=[(2,.int .i64 len),(4,.pointer (some ⟨A,0,none⟩)),(7,ov.v),(11,.int .i64 nd),(45,u.v),(46,.int .i64 u.n),(47,.int .i64 j),(62,.bool c)]∧n=own ov 66 1 (a.flatMap rwC)::alls a rwB::blk A 146 (stC u x).toArray::R::Q::D) ?_ ?_
      ·refine ZY 4 ?_
       refine Zb 53 ef (fun p=>?_) (fun p=>?_)
       ·refine ZY 4 (Zvg ef ef ef (Zx (rn) ef (y) ef Qb (G)) (Zvg ef ef ef (Zo (ov) (rn*1) ef (y) (flat_get (enc:=rwC) (sz:=1) (k:=0) Gg B rfl)) (ZY 4 ?_)));first|exact S.meet ⟨_,by first|exact(Q6 (fun h=>p h.1)).symm|(refine Wn.2 ?_;omega),rfl,rfl⟩ ⟨rfl,rfl,rfl,rfl,rfl,rfl,rfl,rfl,trivial⟩ Sub.Qs
       ·refine ZY 8 (ZY 2 ?_);first|exact S.meet ⟨_,by first|exact(Q6 (fun h=>p h.1)).symm|(refine Wn.2 ?_;omega),rfl,rfl⟩ ⟨rfl,rfl,rfl,rfl,rfl,rfl,rfl,rfl,trivial⟩ Sub.Qs
      ·rintro g n ⟨c,E,rfl,rfl⟩
       refine Zi ef (fun h4=>?_) (fun h4=>?_)
       ·rw[h4]at E;have K:=U4 E.symm;refine S.conv (alls a rwB) (Ent.U5 rwB B _) ?_;refine S.Q7 o.v Qb fun b3 a5 N _ _ _=>?_;refine Zd ([own ov 66 1 (a.flatMap rwC),own o.v 3 1 (ints o.d),blk A 146 (stC u x).toArray]) [12] (Zra 0 10) (ZY 3 ?_);refine Zw ef (Zx (rn) ef (y) ef Qb (G)) ?_;refine Zw ef (Zo (ov) (rn*1) ef (y) (flat_get (enc:=rwC) (sz:=1) (k:=0) Gg B rfl)) (ZY 4 ?_);refine Zw ef (Qd0 (max len 1) rfl rfl Qb) ?_;refine Z1 (i:=10) ef ef ?_;refine(S.K9 Eo.h (vs:=[_,_]) ⟨rfl,rfl,trivial⟩ (fun w hs=>Q75 x.at_ (max len 1) w) rfl ?_);refine Zk [11] ?_;refine Zw ef (Zx (nd.toNat) ef (N) ef Qb (Qb)) ?_;refine Z1 (i:=12) ef ef ?_;refine(S.Xa (o.v) (nd.toNat*1) Eo.h rfl rfl rfl N (by first|rfl|exact Xr _ _ _|omega) (by rw[Qo];omega) (by rw[Kz,ints_set,←hV]) ?_);refine ZL ([]) [] ?_;refine ZD ?_;first
        | exact ZM ⟨a,by rw[Bf P,Qwv (by rw[←t];exact Us)];exact q,rfl,rfl⟩
        | (refine S.X0 (own o.v 3 1 (ints (o.d.set nd.toNat V))) (alls (a.take rn) rwB) (alls (a.drop (rn+1)) rwB) (Ent.Xo rwB (x':=⟨o.v,o.d.set nd.toNat V⟩) B _) ?_;rw[←Qwy B (o.d.set nd.toNat V)];exact S.meet ⟨a.set rn ⟨o.v,o.d.set nd.toNat V⟩,by rw[Qyo,q,List.set_set,Bf P,Qpp (by rw[←t];exact K),t],rfl,rfl⟩ ⟨rfl,rfl,rfl,rfl,rfl,rfl,trivial⟩ Sub.Qs)
       ·rw[h4]at E;have Us:=Qi2 E.symm;refine Zy ?_;first
        | exact ZM ⟨a,by rw[Bf P,Qwv (by rw[←t];exact Us)];exact q,rfl,rfl⟩
        | (refine S.X0 (own o.v 3 1 (ints (o.d.set nd.toNat V))) (alls (a.take rn) rwB) (alls (a.drop (rn+1)) rwB) (Ent.Xo rwB (x':=⟨o.v,o.d.set nd.toNat V⟩) B _) ?_;rw[←Qwy B (o.d.set nd.toNat V)];exact S.meet ⟨a.set rn ⟨o.v,o.d.set nd.toNat V⟩,by rw[Qyo,q,List.set_set,Bf P,Qpp (by rw[←t];exact K),t],rfl,rfl⟩ ⟨rfl,rfl,rfl,rfl,rfl,rfl,trivial⟩ Sub.Qs)
     ·rintro g n ⟨z,a4,rfl,rfl⟩;refine Zy (Zv (Za ef ef) (ZY 2 ?_));exact ZX (m2-1) (⟨j+1,z,Qb,a4,rfl,rfl⟩) Qb
    ·rw[Dh Qb]at q;refine S.U2 (own ov 66 1 (a.flatMap rwC)) (alls a rwB) (Ent.prof ov a _) (ZY 7 ?_);exact Zf ef Zq (⟨ov,a,rfl,by rw[Wz,q],rfl⟩)
set_option linter.unusedVariables false
structure Sml(D:List (List Int)):Prop where
 rows:D.length≤1000
 row:∀r∈D,r.length≤1000
theorem Sml.Zbv{D E:List (List Int)}(h:Sml D)(e:E.map List.length=D.map List.length):Sml E:=by
 refine⟨by have:=Z3 List.length e;rw[Qo,Qo]at this;have:=h.rows;omega,fun r b=>?_⟩;have a:r.length∈E.map List.length:=Qwc b;rw[e]at a;obtain⟨q,c,d⟩:=Qq.1 a;have:=h.row q c;omega
theorem Sml.at_{D:List (List Int)}(h:Sml D)(l:List Ak):Sml (M4 D l):=h.Zbv (Qd2 l D)
theorem Sml.len{rs:List RW}(h:Sml (dat rs)):rs.length≤1000:=by have:=h.rows;rwa [Qo]at this
theorem Sml.each{rs:List RW}(h:Sml (dat rs)):∀r∈rs,r.d.length≤1000:=fun r a=>h.row r.d (Qwc a)
theorem Zg7{u:SV}{e:TypeId}{l:List Int}:RdS (own u e 1 (ints l)) u l.length 1 (ints l):=fun d w a=>by
 have c:=(Uo.head).Tq a;obtain⟨x,_,p⟩:=a.head;have b:=p.1;rw[Qo,Kz]at b
 rwa [←b]at c
theorem RdP.Qs{A B:Assn}{s:SV}{rs:List RW}(h:RdP A s rs)(e:∀a,∃Δ,Ent (B::a) (A::Δ)):RdP B s rs:=
 ⟨fun a w b=>by obtain⟨Δ,c⟩:=e a;exact h.top _ _ (b.Qs c),fun d a w b=>by obtain⟨Δ,c⟩:=e a;exact h.row d _ _ (b.Qs c)⟩
theorem Zg6(s:SV)(rs:List RW)(R:Assn):RdP (stars [prof s rs,R]) s rs:=(RdP.prof s rs).Qs fun a=>⟨_,Ent.unpack [prof s rs,R] a⟩
theorem Ent.second(A R:Assn)(a:List Assn):Ent (stars [A,R]::a) (R::a):=(Ent.unpack [A,R] a).trans (Ent.drop _ _)
abbrev akC(a:Ak):List Value:=[.int .i64 a.k,.int .i64 a.len]
theorem Zee:∀a,(akC a).length=2:=fun _=>rfl
structure SR where
 v:SV
 x:St
instance:Inhabited SR:=⟨⟨SV.nil,default⟩⟩
abbrev srC(r:SR):List Value:=stC r.v r.x
theorem Qws:∀r,(srC r).length=4:=fun _=>rfl
abbrev srB(r:SR):Assn:=own r.v 3 1 (ints r.x.nodes)
set_option maxHeartbeats 1000000 in
theorem Zjz(R A:Assn)(s:SV)(rs:List RW)(l:SV)(d:List Ak)(K:Sml (dat rs))(O:d.length≤1000)(P:RdP R s rs)(C:RdS A l d.length 2 (d.flatMap akC)) :
  Spec Tryz.prog 77 [s.v,l.v] [R,A] fun h v w=>∃(u:SV) (os:List SR),v=u.v∧os.map SR.x=Ch (dat rs) d∧w=own u 146 4 (os.flatMap srC)::alls os srB::R::A::h:=by
 refine Zbd Tryz.func77 rfl Tryz.ntmps77 fun T h=>Zsh ?_;refine S.T6 C fun N _ _=>(ZY 6 ?_);refine S.Qs (show Ent _ (own SV.nil 146 4 (([]:List SR).flatMap srC)::_) from Ent.Xb 146 4) (S.Qs (Ent.Fk srB _) (ZY 8 (ZY 2 ?_)));refine Zl (fun m o p=>∃(i:Nat) (n:SV) (os:List SR) (X:Assn) (q:SV) (k:List RW),m+i=d.length∧dat k=M4 (dat rs) (d.take i)∧os.map SR.x=Ch (dat rs) (d.take i)∧RdP X q k∧(∀h,Ent (X::h) (R::h))∧o=[(0,q.v),(5,n.v),(9,l.v),(10,.int .i64 l.n),(11,.int .i64 i)]∧p=own n 146 4 (os.flatMap srC)::alls os srB::X::A::h) (m:=_) (⟨0,SV.nil,[],R,s,rs,rfl,rfl,rfl,P,fun h=>Ent.refl _,rfl,rfl⟩) ?_;rintro m o p ⟨i,n,os,X,q,k,M,B,g,I,t,rfl,rfl⟩;have f:Sml (dat k):=by rw[B];exact K.at_ _
 have L:os.length=i:=by have:=Z3 List.length g;rw[Qo,Dt,V9]at this;omega
 refine S.Xn n fun y _ _=>?_;rw[Y1 Qws]at y;refine ZY 5 ?_
 refine Zj ef (fun Q=>?_) (fun Q=>?_)
 ·obtain⟨a,H⟩:=Xs (l:=d) (i:=i) Qb;refine S.Ao C Qb fun b off G=>(ZY 5 (Zv (Zx (i) ef (G) ef Qb) (Zv (Lm C (i*2) (akC a) Eo.h rfl G Qb rfl rfl (Wr (enc:=akC) (sz:=2) Zee H)) (Zp (S.alloc Tryz.z139.h rfl ?_)))));intro V;refine Zp (Zs ef ef (cs':=[_,_]) ef (ZY 5 (Zp (Zc1 Ze (Zep X q k a.k a.len f.len f.each I) ?_))));rintro v w ⟨j,rfl,rfl⟩;obtain⟨e,E⟩:∃e,e=V1 (dat k) a.k:=⟨_,rfl⟩;rw[←E];refine Zp (S.alloc Tryz.z146.h rfl ?_);intro U;refine Zp (Zs ef ef (cs':=[_,_,_,_]) ef (ZY 7 (Zp (Zc1 Ze (Q18 X (own j 3 1 (ints e.nodes)) q k j e a.len f.len f.each I Zg7) ?_))));rintro v w ⟨r,c,rfl,z,rfl⟩;refine ZY 5 ?_;refine Zp (S.buildSlice (pvs:=[(_,_)]) [_,_,_,_] Tryz.underlying140 Tryz.Q55.h rfl rfl ⟨⟨rfl,rfl⟩,trivial⟩ rfl rfl ?_);intro D;refine Zp (S.Z6 (s:=n) (1) (srC ⟨j,e⟩) Tryz.underlying140 Tryz.Q55.h rfl rfl rfl (Yb (b:=D) rfl (by unfold maxLen;omega)) (by first|rfl|exact Qw _) (⟨Qb,Qb⟩) rfl ?_);intro x F;rw[Wv srC os ⟨j,e⟩];refine S.U2 (own j 3 1 (ints e.nodes)) (alls os srB) (Ent.Ew srB os ⟨j,e⟩ _) (S.U2 (prof r c) X (((t _).cons _).trans (Ent.pack [prof r c,R] _)) (ZY 3 ?_));have J:d.take (i+1)=d.take i++[a]:=by rw[X2,H];rfl
  refine Zv (Za ef ef) (ZY 2 ?_);exact ZX (m-1) (⟨i+1,x,os++[⟨j,e⟩],stars [prof r c,R],r,c,Qb,by rw[z,J,Qd1,←B,E],by rw[Vc,g,J,Qg1,←B,E];rfl,Zg6 r c R,Ent.second _ _,rfl,rfl⟩) Qb
 ·rw[Dh Qb]at g;refine S.conv X (t _) (ZY 7 ?_);exact Zf ef Zq (⟨n,os,rfl,g,rfl⟩)
end PL
open Go.MapKept (run_checkKey run_findKey)
section
variable {P:Program}{n:Nat}{md:Bool}{w0:WM md}{ρ:Env}{Γ:List Assn}{ty:TypeId}{pos:String}{af:Array Edge}{gd:Option (Nat×Bool)}{ds:Option Tmp}
theorem Qp4{t h f:TypeId}{q:IntKind}{x y:Operand}{kk:IntKind}{z:Int}{g:Value}(r:P.underlying t=some (.map h f))(j:P.underlying h=some (.int q))(b:(P.info? f).bind (·.zero)=some g)
  (p:ev ρ x=some (.map none)) (o:ev ρ y=some (.int kk z)) (s:q=kk):Qv P n ρ Γ ⟨ds,.lookup t x y true,ty,pos,af,gd⟩ (.tuple #[g,.bool false]):=fun a w l _=>by
 subst s;have u:=run_findKey (P:=P) (w:=w) j (show Instr.findNow (.int q) (.int q z) [] 0=some none from rfl)
 have m:(zeroValue f).run P w=.ok g w:=by
  cases d:P.info? f with
  | none=>simp[d]at b
  | some i=>
   cases c:i.zero with
   | none=>simp[d,c]at b
   | some A=>
    simp only[d,c,Option.bind_some,Km]at b;simp[zeroValue,typeInfo,d,c,b]
 have v:∀e,(Instr.checkKey e 10000 h (.int q z)).run P w=.ok () w:=fun e=>run_checkKey (P:=P) (w:=w) (k:=.int q z) j rfl e 9999;simp[execOp,l.ev p,l.ev o,Instr.lookup,run_underlying r,v,u,m,Result.andThen]
theorem F7{t a b f:TypeId}{x y:Operand}{p:Option Nat}(e:P.underlying t=some (.map b f))(d:ev ρ x=some (.map p))(c:ev ρ y=some (.map none)):Qv P n ρ Γ ⟨ds,.binOp .neq t x y a,ty,pos,af,gd⟩ (.bool p.isSome):=
 Qb5 d c (fun w=>by simp[eqGuard]) (fun w=>by
  simp only[binOp];rw[show Op.equal t (.map p) (.map none)=Op.equalIn (9999+1) t (.map p) (.map none) from rfl];unfold Op.equalIn;cases p <;> simp[run_underlying e])
end
def Vo(s:List Nat):List (Int×Value):=s.map fun x:Nat=>((x:Int),Value.agg #[])
def Xm(s:List Nat)(x:Nat):List Nat:=if x∈s then s else s++[x]
def Jd(s:List Nat)(x:Nat):List Nat:=s.filter (fun y=>decide (y≠x))
theorem Q3k(s:List Nat)(x:Nat):Yh (x:Int) (Vo s)=if x∈s then some (.agg #[]) else none:=by
 induction s with
 | nil=>rfl
 | cons y s a=>
  rw[Vo,Z7,Yh]
  by_cases e:x=y
  ·subst e;rw[Qh rfl,Qh (Z0 ..)]
  ·rw[Qe Qb];show Yh (x:Int) (Vo s)=_;rw[a]
   by_cases h:x∈s
   ·rw[Qh h,Qh (Ym _ h)]
   ·rw[Qe h,Qe (by simp[e,h])]
theorem Q3j(s:List Nat)(x:Nat):Xl (x:Int) (.agg #[]) (Vo s)=Vo (Xm s x):=by
 have key:∀s:List Nat,Xl (x:Int) (.agg #[]) (Vo s)=if x∈s then Vo s else Vo s++[((x:Int),.agg #[])]:=by
  intro s;induction s with
  | nil=>rfl
  | cons y s a=>
   have b:Vo (y::s)=((y:Int),Value.agg #[])::Vo s:=rfl;rw[b,Xl]
   by_cases e:x=y
   ·subst e;rw[Qh rfl,Qh (Z0 ..)]
   ·rw[Qe (by show ¬(x:Int)=y;omega),a]
    by_cases h:x∈s
    ·rw[Qh h,Qh (Ym _ h)]
    ·rw[Qe h,Qe (by simp[e,h])];rfl
 rw[key,Xm]
 split
 ·rfl
 ·simp[Vo]
theorem Qf6{s:List Nat}(h:((Vo s).map (·.1)).Nodup):s.Nodup:=by
 have e:(Vo s).map (·.1)=s.map fun x:Nat=>(x:Int):=by rw[Vo,Kk];rfl
 rw[e]at h;exact Ww.1 h |>.imp fun h e=>h (by rw[e])
theorem Tt{s:List Nat}(x:Nat)(c:s.Nodup):Ge (x:Int) (Vo s)=Vo (Jd s x):=by
 induction s with
 | nil=>rfl
 | cons y s a=>
  obtain⟨f,d⟩:=Vz.1 c;have g:Vo (y::s)=((y:Int),Value.agg #[])::Vo s:=rfl;rw[g,Ge,Jd,Eg]
  by_cases e:x=y
  ·subst e;rw[Qh rfl,Qe Q2]
   congr 1
   refine(Np.2 fun z b=>?_).symm;rw[Zz];intro e;exact f (e ▸ b)
  ·rw[Qe (by show ¬(x:Int)=y;omega),Qh (by rw[Zz];intro h;exact e h.symm),a d];rfl
theorem Al(s:List Nat):(Vo s).length=s.length:=by rw[Vo,Qo]
theorem Qgd{s:List Nat}(h:s.Nodup)(x:Nat):(Jd s x).Nodup:=h.filter _
theorem Hj{s:List Nat}{x y:Nat}:y∈Xm s x↔y∈s∨y=x:=by
 unfold Xm
 split
 ·rename_i h;exact⟨.inl,fun a=>a.elim id fun e=>e ▸ h⟩
 ·rw[Xu,Vd]
def Vp(b:Option Nat)(s:Option (List Nat)):Assn:=match b,s with
 | none,none=>fun _=>True
 | some b,some s=>Qz b .i64 (Vo s)
 | _,_=>fun _=>False
theorem Ent.Qca(Γ:List Assn):Ent Γ (Vp none none::Γ):=fun h a=>⟨HL.emp,h,HL.J2 _,HL.Hm _,HL.le.refl _,trivial,a⟩
theorem Sat.Ze3{w:World}{b:Option Nat}{s:Option (List Nat)}{Γ:List Assn}(h:Sat w (Vp b s::Γ)):b.isSome=s.isSome:=by
 obtain⟨x,_,p⟩:=h.head;cases b <;> cases s <;> first|rfl|exact absurd p id
namespace BN
structure Nt where
 kind:Nat
 node:Nat:=0
 Zga:Nat:=0
 Zll:Nat:=0
 tick:Nat:=0
 gen:Nat:=0
 Qu:Nat:=0
 ver:Nat:=0
 Yl:Nat:=0
 Qg:Nat:=0
 Kc:Nat:=0
 Jz:Nat:=0
 deriving DecidableEq
instance:Inhabited Nt:=⟨⟨0,0,0,0,0,0,0,0,0,0,0,0⟩⟩
abbrev Od:=Nat×Nt
structure Sv where
 ver:Nat
 Qg:Nat
 have_:List Nat
 told:Bool
 bs:List (List Int)
structure Im where
 Qu:Nat
 ver:Nat
 Qg:Nat
 bs:List (List Int)
instance:Inhabited Im:=⟨⟨0,0,0,[]⟩⟩
structure Bj where
 id:Nat
 tier:Nat
 k:Nat
 w:Nat
 state:Nat
 Qg:Nat
 at_:List Nat:=[]
 Xt:Option (List Nat):=none
 work:Nat
 ver:Nat
 Xg:Option Sv:=none
 Wp:Bool:=false
 C5:Nat:=0
 Ql:Option (List Nat):=none
 again:Bool:=false
 done:Bool:=false
 X4:Option (List (Nat×Nat×Nat)):=none
structure Br where
 nodes:Nat
 rows:Nat
 Yv:Nat
 Wu:Nat
 hold:Nat
 now:Nat
 up:List Nat
 js:List Bj
 m:Mx
 Qd:List Od
 Qf:List Im
 done:List Nat
 gen:Nat
 row:Int
 members:List Nat
 fin:Nat
 stops:Option (List Nat)
 Qn:Bool
def Qk(js:List Bj)(id:Nat):Option Bj:=js.find? fun x=>decide (x.id=id)
def Xe(js:List Bj)(x:Bj):List Bj:=js.map fun y=>if y.id=x.id then x else y
def rmJ(js:List Bj)(id:Nat):List Bj:=js.filter fun x=>decide (x.id≠id)
def Hg(x:Bj):List Bj→List Bj
 | []=>[x]
 | y::l=>if x.id<y.id then x::y::l else y::Hg x l
abbrev Br.set(b:Br)(x:Bj):Br:={b with js:=Xe b.js x}
abbrev u32(n:Nat):Nat:=n % 4294967296
def Y6(b:Br)(x:Bj):Br:=
 if x.Ql=some [] then
  if x.again then {b with m:=(Xj b.m x.id).2,js:=Xe b.js {id:=x.id,tier:=x.tier,k:=x.k,w:=x.w,state:=0,Qg:=x.Qg,work:=x.Qg,ver:=x.ver}}
  else {b with m:=(Xj b.m x.id).2,js:=rmJ b.js x.id}
 else b.set x
def Va(id:Nat)(n:Nat):Od:=(n,{kind:=10,Qu:=id})
abbrev W9(x:Bj)(a:Bool)(b:List Nat):Bj:={x with again:=a&&!x.done,Xg:=none,work:=x.Qg,Ql:=some b,state:=3}
def J0(b:Br)(x:Bj):List Nat:=x.at_.filter fun n=>decide (n∈b.up)
def Wd(b:Br)(x:Bj)(again:Bool):Br:=
 match x.Ql with
 | some d=>Y6 b (W9 x again d)
 | none=>Y6 {b with Qd:=b.Qd++(J0 b x).map (Va x.id)} (W9 x again (J0 b x))
def Yj(b:Br)(x:Bj):Br:=
 if x.Qg<x.w∨x.done=true then b.set x else Wd {b with done:=b.done++[x.id]} {x with done:=true} false
def Ey(b:Br)(j:Bj):Bool:=decide (j.id≠0)&&decide (1≤j.k)&&decide (j.k≤b.nodes)&&decide (1≤j.w)&&decide (j.w≤10000)&&decide (j.Qg≤j.w)&&decide (j.tier≤3)
abbrev Kl(id tier k w Qg ver:Nat):Bj:={id:=id,tier:=tier,k:=k,w:=w,state:=0,Qg:=Qg,work:=Qg,ver:=ver}
def Ex(b:Br)(x:Bj):Int×Br:=
 if Ey b x=false then (1,b) else if (Qk b.js x.id).isSome then (7,b) else (0,Yj {b with js:=Hg x b.js} x)
def Xd(b:Br)(id:Nat):Int×Br:=
 match Qk b.js id with
 | none=>(6,b)
 | some x=>match x.Ql with
  | none=>(0,Wd b x false)
  | some _=>if x.again then (0,b.set {x with again:=false}) else (6,b)
def Vh(b:Br)(n:Int)(up:Bool):Int:=if n<0∨(b.nodes:Int)≤n then 1 else if Ji b.m n≠up then 14 else 0
def Ja(b:Br)(n:Int):Int×Br:=if Vh b n false≠0 then (Vh b n false,b) else ((upR b.m n true).1,{b with up:=Xm b.up n.toNat,m:=(upR b.m n true).2})
def W8(x:Bj)(n:Nat):Od:=(n,{kind:=8,Qu:=x.id,ver:=x.ver,Qg:=x.work})
def Xv(b:Br)(x:Bj):Br:=
 if x.work=x.Qg∨x.Xg.isSome∨x.Ql.isSome∨x.state≠2 then b.set x
 else
  let y:={x with ver:=u32 (x.ver+1),Xg:=some ⟨u32 (x.ver+1),x.work,[],false,x.at_.map fun _=>[]⟩}
  {b with js:=Xe b.js y,Qd:=b.Qd++x.at_.map (W8 y)}
def Ve:List (Nat×Nat)→Nat×Nat→Option (Nat×Nat)
 | [],a=>some a
 | x::l,a=>if x.2<x.1 then none else Ve l (max a.1 x.1,min a.2 x.2)
def Vb(l:List (Nat×Nat)):Nat:=
 if l=[] then 0 else match Ve l (0,4294967295) with
  | none=>0
  | some (f,t)=>if t<f then 0 else t-f+1
def Y9(b:Br)(x:Bj):Br:=
 match x.X4 with
 | none=>b.set x
 | some r=>if x.Ql.isSome∨r.length≠x.at_.length then b.set {x with X4:=none}
  else Xv b {x with X4:=none,work:=min (x.work+Vb (r.map (·.2))) x.w}
def each(f:Br→Bj→Br)(b:Br)(ids:List Nat):Br:=ids.foldl (fun b id=>match Qk b.js id with|none=>b|some x=>f b x) b
abbrev Br.ids(b:Br):List Nat:=b.js.map (·.id)
def Zt(b:Br)(n:Nat):Br:=
 match b.stops with
 | none=>b
 | some s=>if Jd s n≠[] then {b with stops:=some (Jd s n)} else each Y9 {b with stops:=none,Qn:=false} b.ids
def Xw(n:Nat)(b:Br)(x:Bj):Br:=
 if n∈x.at_ then match x.Ql with
  | none=>Wd b x true
  | some d=>Y6 b {x with Ql:=some (Jd d n)}
 else b
def Kh(b:Br)(n:Int):Int×Br:=
 if Vh b n true≠0 then (Vh b n true,b)
 else (0,Zt (each (Xw n.toNat) {b with up:=Jd b.up n.toNat,m:=(upR b.m n false).2,Qd:=b.Qd.filter fun o=>decide (o.1≠n.toNat)} b.ids) n.toNat)
def Vn(r:List (Nat×Nat×Nat))(n:Nat)(v:Nat×Nat):List (Nat×Nat×Nat):=
 match r with
 | []=>[(n,v)]
 | y::l=>if n=y.1 then (n,v)::l else y::Vn l n v
def Ut(b:Br)(n:Nat)(x:Nt):Br:=
 if decide (n∈b.stops.getD [])&&b.Qn&&decide (x.gen=b.gen) then
  Zt (match Qk b.js x.Qu with
   | none=>b
   | some y=>match y.X4 with
    | none=>b
    | some r=>if 0<x.Kc∧n∈y.at_ then b.set {y with X4:=some (Vn r n (x.Kc,x.Jz))} else b) n
 else b
def Kp(l:List Nat)(n:Nat):Option Nat:=l.findIdx? (fun y=>decide (y=n))
def Ky(b:Br)(x:Bj)(n:Nat)(t:Nt)(a:List Int):Br:=
 match x.Xg with
 | none=>b
 | some s=>match Kp x.at_ n with
  | none=>b
  | some Yl=>if s.told=true∨t.ver≠s.ver∨t.Yl≠Yl then b
   else
    let s2:Sv:={s with bs:=s.bs.set Yl a,have_:=Xm s.have_ n}
    if s2.have_.length=x.at_.length then {b with js:=Xe b.js {x with Xg:=some {s2 with told:=true}},Qf:=b.Qf++[⟨x.id,s2.ver,s2.Qg,s2.bs⟩]}
    else b.set {x with Xg:=some s2}
def U8(b:Br)(x:Bj)(n:Nat)(t:Nt)(a:List Int):Br:=
 if t.kind=4 then
  if x.state=1 then b.set {x with Xt:=some (Xm (x.Xt.getD []) n),state:=if (Xm (x.Xt.getD []) n).length=x.at_.length then 2 else 1} else b
 else if t.kind=9 then Ky b x n t a
 else if t.kind=11 then match x.Ql with
  | none=>b
  | some d=>Y6 b {x with Ql:=some (Jd d n)}
 else b
def X6(b:Br)(n:Int)(t:Nt)(a:List Int):Int×Br:=
 if Vh b n true≠0 then (Vh b n true,b)
 else if t.kind=7 then (0,Ut b n.toNat t)
 else match Qk b.js t.Qu with
  | none=>(0,b)
  | some x=>if n.toNat∈x.at_ then (0,U8 b x n.toNat t a) else (0,b)
def Vx(b:Br):List Im×Br:=
 (b.Qf.filter fun i=>match Qk b.js i.Qu with
  | none=>false
  | some x=>match x.Xg with
   | none=>false
   | some s=>decide (s.ver=i.ver),{b with Qf:=[]})
def Q5(b:Br)(id ver:Nat)(ok:Bool):Int×Br:=
 match Qk b.js id with
 | none=>(6,b)
 | some x=>match x.Xg with
  | none=>(6,b)
  | some s=>if s.told=false∨s.ver≠ver then (6,b) else (0,Yj b {x with Qg:=if ok then s.Qg else x.Qg,Xg:=none})
def Rw(b:Br):Bool:=!b.members.any fun id=>match Qk b.js id with
 | none=>false
 | some x=>x.Ql.isNone
def Di(b:Br):Br:={b with Qn:=true,Qd:=b.Qd++((List.range b.nodes).filter fun n=>decide (n∈b.stops.getD [])).map fun n=>((n,{kind:=6,gen:=b.gen}):Od)}
def Q4(b:Br)(x:Bj):Br:=
 if x.Wp=true∧x.Ql=none∧(x.C5≤b.now∨(x.work=x.Qg∧x.Xg.isNone)) then Wd b x true else b
def Rp(b:Br):List PR.It:=PR.stL ((b.js.filter fun x=>decide (x.state=0)&&x.Ql.isNone).foldl (fun h x=>(PR.H4 ⟨x.id,x.tier,0⟩ h).2) (some []))
def Wf(b:Br):List Nat:=(Rp b).map fun x=>x.id.toNat
def Lx(b:Br)(x:Bj):Nat:=(x.w-x.Qg)*b.rows
def V5(b:Br)(r n:Nat):Int:=
 if Ji b.m n then match Qk b.js (atR b.m r n) with
  | none=>0
  | some x=>max 1 (Lx b x)
 else 1099511627776
def Bn(b:Br):List (List Int):=(List.range b.rows).map fun r=>(List.range b.nodes).map fun n=>V5 b r n
def Bz(b:Br):List PL.Ak:=(Wf b).map fun id=>match Qk b.js id with
 | none=>⟨0,0⟩
 | some x=>⟨x.k,Lx b x⟩
def Vk(x:Bj)(ns:List Nat):List Od:=ns.mapIdx fun Yl n=>((n,{kind:=3,Qu:=x.id,ver:=x.ver,Yl:=Yl,Qg:=x.Qg}):Od)
def Jh(b:Br)(x:Bj)(s:PL.St):Br:=
 if (Uc b.m x.id s.row s.nodes).1≠0 then {b with m:=(Uc b.m x.id s.row s.nodes).2}
 else {b with m:=(Uc b.m x.id s.row s.nodes).2,js:=Xe b.js {x with at_:=nats s.nodes,Xt:=some [],state:=1},Qd:=b.Qd++Vk x (nats s.nodes)}
def Xp(b:Br):List (Nat×PL.St)→Br
 | []=>b
 | (id,s)::l=>Xp (if s.ok=true∧s.at_=0 then match Qk b.js id with|none=>b|some x=>Jh b x s else b) l
def Q9(b:Br):Br:=Xp b ((Wf b).zip (PL.Ch (Bn b) (Bz b)))
def Xi(t n:Nat):Nat:=min (t+n) 4294967295
def Hv(b:Br):List Cd:=(b.js.filter fun x=>decide (x.state=2) || decide (x.state=1)).map fun x=>(x.id,(x.tier:Int))
def Ur(b:Br)(x:Bj):Br:=
 {b with js:=Xe b.js {x with Wp:=true,C5:=Xi b.now b.Wu},Qd:=b.Qd++x.at_.map fun n=>((n,{kind:=12,Qu:=x.id,tick:=Xi b.now b.Wu}):Od)}
def Qy(b:Br):Br:=
 match Wf b with
 | []=>b
 | id::_=>if b.js.any (fun x=>x.Wp || x.Ql.isSome) then b else
  match Qk b.js id with
  | none=>b
  | some y=>each Ur b (A3 (Pb b.m y.tier y.k (Hv b)).1)
def X1(b:Br)(l:List Nat):List Nat:=l.filter fun id=>match Qk b.js id with
 | none=>false
 | some x=>decide (x.state=2)&&x.Ql.isNone&&decide (x.work<x.w)
def V8(b:Br)(x:Bj):Br:=
 {b with js:=Xe b.js {x with X4:=some []},stops:=some (x.at_.foldl Xm (b.stops.getD [])),Qd:=b.Qd++x.at_.map fun n=>((n,{kind:=5,gen:=b.gen,Qu:=x.id}):Od)}
def Jm(l:List Nat):List Nat:=l.mergeSort fun a b=>decide (a≤b)
def Tv(b:Br)(l:List Nat):Br:=each V8 {b with gen:=u32 (b.gen+1),members:=Jm l,fin:=Xi b.now b.Yv,stops:=some []} (Jm l)
def Xx(b:Br)(row:Int):Nat→Br
 | 0=>b
 | i+1=>if (Xh b.m row).2=false then b
  else if (X1 b (Yq b.m (Xh b.m row).1)).length > 0 then Tv {b with row:=(Xh b.m row).1} (X1 b (Yq b.m (Xh b.m row).1++Xc b.m (Xh b.m row).1))
  else Xx b (Xh b.m row).1 i
def V0(b:Br):Br:=
 let e:=each Q4 b b.ids
 let d:=Q9 e
 let b3:=Qy d
 let c:={b3 with m:=(Hc b3.m).1}
 let a:=each Xv c c.ids
 Xx a a.row a.rows
def Y7(b:Br)(now:Nat):Int×Br:=
 if now≤b.now then (12,b)
 else if now≤b.hold then (0,{b with now:=now})
 else if b.stops.isSome then
  if b.Qn=false∧(b.fin≤now∨Rw b=true) then (0,Di {b with now:=now}) else (0,{b with now:=now})
 else (0,V0 {b with now:=now})
def Qcc(nodes rows Yv Wu hold:Nat):Br:={nodes:=nodes,rows:=rows,Yv:=Yv,Wu:=Wu,hold:=hold,now:=0,up:=[],js:=[],m:={mx0 rows nodes with up:=0#16},Qd:=[],Qf:=[],done:=[],gen:=0,row:=-1,members:=[],fin:=0,stops:=none,Qn:=false}
structure Rk where
 place:Nat
 run:Bool:=false
 gen:Nat:=0
 Kc:Nat:=0
 Jz:Nat:=0
instance:Inhabited Rk:=⟨⟨0,false,0,0,0⟩⟩
abbrev Rs:=List (Nat×Rk)
structure Nd where
 up:Bool
 rk:Rs
 Yy:List Nt
 out:List (Nt×List Int)
 Qj:Bool
instance:Inhabited Nd:=⟨⟨true,[],[],[],false⟩⟩
def Yt{a:Type}(k:Nat):List (Nat×a)→Option a
 | []=>none
 | x::l=>if x.1=k then some x.2 else Yt k l
def Wl{a:Type}(k:Nat)(v:a):List (Nat×a)→List (Nat×a)
 | []=>[(k,v)]
 | x::l=>if x.1=k then (k,v)::l else x::Wl k v l
def Fe{a:Type}(k:Nat):List (Nat×a)→List (Nat×a)
 | []=>[]
 | x::l=>if x.1=k then l else x::Fe k l
def V6(k:Nat)(l:List (Nat×Nat)):Nat:=(Yt k l).getD 0
def Ya(l:Rs):Nat:=match l.find? (·.2.run) with
 | none=>0
 | some x=>x.1
def amB(l:Rs):Bool:=decide ((l.filter (·.2.run)).length≤1)
def Z9(nd:Nd)(x:Nt):Nd:=
 if x.kind=3 then {nd with Qj:=nd.Qj || (Yt x.Qu nd.rk).isSome,rk:=Wl x.Qu {place:=x.Yl} nd.rk,out:=nd.out++[({kind:=4,Qu:=x.Qu},[])]}
 else if x.kind=5 then match Yt x.Qu nd.rk with
  | none=>{nd with Qj:=true}
  | some r=>{nd with Qj:=nd.Qj || decide (Ya nd.rk≠0),rk:=Wl x.Qu {r with run:=true,gen:=x.gen,Kc:=0,Jz:=0} nd.rk}
 else if x.kind=6 then
  if Ya nd.rk≠0 then match Yt (Ya nd.rk) nd.rk with
   | none=>nd
   | some r=>{nd with rk:=Wl (Ya nd.rk) {r with run:=false} nd.rk,out:=nd.out++[({kind:=7,gen:=x.gen,Qu:=Ya nd.rk,Kc:=r.Kc,Jz:=r.Jz},[])]}
  else {nd with out:=nd.out++[({kind:=7,gen:=x.gen},[])]}
 else if x.kind=8 then match Yt x.Qu nd.rk with
  | none=>{nd with Qj:=true}
  | some r=>{nd with Qj:=nd.Qj || r.run,out:=nd.out++[({kind:=9,Qu:=x.Qu,ver:=x.ver,Yl:=r.place},[(r.place:Int),((x.Qg % 256:Nat):Int)])]}
 else if x.kind=10 then {nd with rk:=Fe x.Qu nd.rk,out:=nd.out++[({kind:=11,Qu:=x.Qu},[])]}
 else nd
def Yg(now:Nat)(nd:Nd):Nd:=
 if Ya nd.rk≠0 then match Yt (Ya nd.rk) nd.rk with
  | none=>nd
  | some r=>{nd with rk:=Wl (Ya nd.rk) {r with Jz:=now,Kc:=if r.Kc=0 then now else r.Kc} nd.rk}
 else nd
structure Jo where
 id:Nat
 tier:Nat
 k:Nat
 w:Nat
 deriving DecidableEq
structure Sm where
 b:Br
 cn:Nat
 cr:Nat
 cq:Nat
 cg:Nat
 nd:List Nd
 now:Nat
 next:Nat
 X4:List (Nat×Nat)
 Wy:List Jo
 gone:List Nat
 done:List Nat
 Qf:List Im
 fu:Nat
 ok:Bool
def Ns(js:List Jo)(id:Nat):Option Jo:=js.find? fun j=>decide (j.id=id)
def Ux(l:List Nd):List Nd:=match l with
 | []=>[]
 | x::l=>{x with Qj:=true}::l
def As(l:List Nd)(o:Od):List Nd:=match l[o.1]? with
 | none=>Ux l
 | some x=>if x.up then l.set o.1 {x with Yy:=x.Yy++[o.2]} else Ux l
def U0(l:List Nd)(os:List Od):List Nd:=os.foldl As l
def Jk(p:List Nd×List Nat)(id:Nat):List Nd×List Nat:=(if id∈p.2 then Ux p.1 else p.1,Xm p.2 id)
def X5(s:Sm):Sm:=
 let l:=U0 s.nd s.b.Qd
 let p:=s.b.done.foldl Jk (l,s.done)
 {s with b:={s.b with Qd:=[],Qf:=[],done:=[]},nd:=p.1,done:=p.2,Qf:=s.Qf++(Vx s.b).1,fu:=s.fu+s.b.Qd.length+s.b.Qf.length+s.b.done.length}
def Gc(l:List Nd)(id:Nat):Nat:=(l.filter fun n=>decide (Ya n.rk=id)).length
def T5(l:List Nd)(j:Jo):Bool:=decide (j.id≠0)&&decide (Gc l j.id=j.k)&&decide (0<Gc l j.id)
def Qgp(s:Sm)(l:List Nd):List (Nat×Nat):=s.Wy.foldl (fun r j=>if T5 l j then Wl j.id (V6 j.id r+1) r else r) s.X4
def Qlk(l:List Nd):Bool:=l.all fun n=>amB n.rk
def tkB(s:Sm):Bool:=decide (s.nd.length=s.cn)&&decide (1≤s.cn)&&(s.nd.all fun n=>decide (n.Yy.length≤s.fu)&&decide (n.out.length≤s.fu))&&decide (s.Qf.length≤s.fu)&&decide (s.fu≤100000000000)&&decide (s.b.Qd.length≤900000)&&decide (s.b.Qf.length≤900000)&&decide (s.b.done.length≤900000)
def wsB(b:Br):Bool:=b.js.all fun x=>decide (x.state≠0) || x.Xg.isNone
def stB(s:Sm):Bool:=tkB s&&decide (s.now+1≤4294967295)&&Qlk s.nd&&Qlk (s.nd.map (Yg (s.now+1)))&&wsB s.b&&decide (s.b.Qd.length≤700000)&&decide (s.cn≤16)&&(s.X4.all fun x=>decide (x.2≤s.now))
def ntB(x:Nt×List Int):Bool:=decide (x.1.Yl≤255)&&decide (x.1.Kc≤4294967295)&&decide (x.1.Jz≤4294967295)&&decide (x.2.length≤1000000)
def Y2(s:Sm):Sm:=
 let l:=s.nd.map (Yg (s.now+1))
 let t:=Y7 s.b (s.now+1)
 X5 {s with now:=s.now+1,X4:=Qgp s l,b:=t.2,nd:=if t.1≠0 then Ux l else l,ok:=s.ok&&stB s}
abbrev Ga(s:Sm)(i:Nat)(n:Nd)(x:Nt×List Int)(l:List (Nt×List Int)):Sm:={s with nd:=s.nd.set i {n with out:=l},b:=(X6 s.b i x.1 x.2).2}
abbrev Zej(s:Sm)(i:Nat)(n:Nd)(x:Nt)(l:List Nt):Sm:={s with nd:=s.nd.set i (Z9 {n with Yy:=l} x),fu:=s.fu+1}
def Q3(s:Sm)(i:Nat)(back:Bool):Bool×Sm:=match s.nd[i]? with
 | none=>(false,s)
 | some n=>if n.up=false then (false,s)
  else if back then match n.out with
   | []=>(false,s)
   | x::l=>(true,X5 {Ga s i n x l with ok:=s.ok&&ntB x&&tkB s&&decide (s.b.Qd.length≤800000)&&decide (s.b.Qf.length≤800000)&&tkB (Ga s i n x l)})
  else match n.Yy with
   | []=>(false,s)
   | x::l=>(true,{Zej s i n x l with ok:=s.ok&&amB n.rk&&tkB s})
abbrev M3(s:Sm)(x:Im)(l:List Im)(ok:Bool):Sm:={s with Qf:=l,b:=(Q5 s.b x.Qu x.ver ok).2}
def Yi(s:Sm)(ok:Bool):Bool×Sm:=match s.Qf with
 | []=>(false,s)
 | x::l=>(true,X5 {M3 s x l ok with ok:=s.ok&&tkB s&&decide (s.b.Qd.length≤800000)&&decide (s.b.done.length≤800000)&&tkB (M3 s x l ok)})
def roundUp(s:Sm)(a:Bool):Nat→Bool×Sm
 | 0=>(a,s)
 | i+1=>
  let p:=roundUp s a i
  let q:=Q3 p.2 i false
  let r:=Q3 q.2 i true
  (r.1 || q.1 || p.1,r.2)
def Vy(s:Sm):Nat→Sm
 | 0=>s
 | k+1=>
  let p:=Yi s true
  let q:=roundUp p.2 p.1 p.2.nd.length
  if q.1 then Vy q.2 k else q.2
def U9(s:Sm):Sm:=Vy (Y2 s) 3000
structure Ac where
 Wc:Nat
 n:Nat
 tier:Nat
 k:Nat
 w:Nat
 back:Bool
 fail:Bool
def Qvc(s:Sm)(j:Jo):Bool:=Ey s.b (Kl j.id j.tier j.k j.w 0 0)&&decide (s.b.js.length≤999)&&decide (s.b.Qd.length≤900000)&&decide (s.b.done.length≤900000)&&(s.Wy.all fun x=>decide (x.id≠j.id))&&decide (s.next≤4294967294)
def Ri(s:Sm)(j:Jo):Sm:=if (Ex s.b (Kl j.id j.tier j.k j.w 0 0)).1=0 then {s with b:=(Ex s.b (Kl j.id j.tier j.k j.w 0 0)).2,Wy:=s.Wy++[j],next:=s.next+1} else {s with b:=(Ex s.b (Kl j.id j.tier j.k j.w 0 0)).2}
def Rr(s:Sm)(j:Jo):Sm:=X5 {Ri s j with ok:=s.ok&&Qvc s j&&tkB (Ri s j)}
def Qn8(s:Sm)(id:Nat):Sm:={s with b:=(Xd s.b id).2,gone:=if (Xd s.b id).1=0 then Xm s.gone id else s.gone}
def Tu(s:Sm)(id:Nat):Sm:=X5 {Qn8 s id with ok:=s.ok&&decide (s.b.Qd.length≤900000)&&tkB (Qn8 s id)}
abbrev Qkz(s:Sm)(i:Nat)(n:Nd):Sm:={s with nd:=s.nd.set i {up:=false,rk:=[],Yy:=[],out:=[],Qj:=n.Qj},b:=(Kh s.b i).2}
def E5(s:Sm)(i:Nat):Sm:=match s.nd[i]? with
 | none=>s
 | some n=>if n.up then X5 {Qkz s i n with ok:=s.ok&&decide (s.b.Qd.length≤800000)&&tkB (Qkz s i n)} else s
abbrev up1(s:Sm)(i:Nat)(n:Nd):Sm:={s with nd:=s.nd.set i {n with up:=true},b:=(Ja s.b i).2}
def Qb1(s:Sm)(i:Nat):Sm:=match s.nd[i]? with
 | none=>s
 | some n=>if n.up then s else X5 {up1 s i n with ok:=s.ok&&tkB (up1 s i n)}
def U7(s:Sm)(a:Ac):Sm:=
 let i:=a.n % s.nd.length
 if a.Wc=0∨a.Wc=1 then Y2 s
 else if a.Wc=2 then
  if s.Wy.length<20 then Rr s ⟨s.next,a.tier % 4,1+a.k % s.cn,1+a.w % 20⟩
  else X5 {s with ok:=s.ok&&tkB s}
 else if a.Wc=3 then Tu s (1+a.n % max s.next 1)
 else if a.Wc=4 then E5 s i
 else if a.Wc=5 then Qb1 s i
 else if a.Wc=6∨a.Wc=7∨a.Wc=8∨a.Wc=9 then (Q3 s i a.back).2
 else if a.Wc=10 then (Yi s (!a.fail)).2
 else if a.Wc=11 then U9 s
 else s
def Vg(b:Br)(n:Nd):Bool:=!n.Qj&&(decide (Ya n.rk=0) || match Yt (Ya n.rk) n.rk with
 | none=>false
 | some r=>decide (r.gen=b.gen)&&decide (Ya n.rk∈b.members)&&b.stops.isSome)
def Qgk(s:Sm):Bool:=s.nd.all (Vg s.b)
def Uv(nodes rows Yv Wu:Nat):Sm:=
 {b:=(List.range nodes).foldl (fun b (i:Nat)=>(Ja b i).2) (Qcc nodes rows Yv Wu 0),cn:=nodes,cr:=rows,cq:=Yv,cg:=Wu,nd:=List.replicate nodes ⟨true,[],[],[],false⟩,now:=0,next:=1,X4:=[],Wy:=[],gone:=[],done:=[],Qf:=[],fu:=0,ok:=true}
end BN
theorem Fl{b:Type}{z:Int}{v:b}:∀ {l:List (Int×b)},(l.map (·.1)).Nodup→(z,v)∈l→Yh z l=some v
 | [],_,h=>by cases h
 | x::l,a,h=>by
  rw[Z7,Vz]at a;unfold Yh
  rcases Yf.1 h with rfl|h
  ·rw[Qh rfl]
  ·rw[Qe (fun e=>a.1 (Qq.2 ⟨_,h,e⟩)),Fl a.2 h]
theorem Qva{i:Type}{l a:List (Int×i)}(h:l.Perm a)(g:(l.map (·.1)).Nodup)(z:Int):Yh z l=Yh z a:=by
 have c:(a.map (·.1)).Nodup:=(h.map _).nodup_iff.1 g;cases e:Yh z a with
 | some v=>
  have d:(z,v)∈a:=by
   have:=Hn z a 0;rw[e]at this;cases b:Jl z a 0 with
   | none=>rw[b]at this;cases this
   | some p=>
    obtain⟨j,u⟩:=p;rw[b]at this;cases this;obtain⟨k,_,f,_⟩:=Kv b;exact Yn f
  exact Fl g (h.mem_iff.2 d)
 | none=>
  cases e2:Yh z l with
  | none=>rfl
  | some v=>
   have d:(z,v)∈l:=by
    have:=Hn z l 0;rw[e2]at this;cases b:Jl z l 0 with
    | none=>rw[b]at this;cases this
    | some p=>
     obtain⟨j,u⟩:=p;rw[b]at this;cases this;obtain⟨k,_,f,_⟩:=Kv b;exact Yn f
   rw[Fl c (h.mem_iff.1 d)]at e;cases e
theorem Q1y{a:Type}{z:Int}{v:a}{l:List (Int×a)}(h:Yh z l=none):Xl z v l=l++[(z,v)]:=by
 have:=Hn z l 0;rw[h]at this;cases b:Jl z l 0 with
 | none=>exact(G1 b).1 v
 | some p=>rw[b]at this;cases this
theorem M5{c:Type}{l:List c}{k:Nat}{a:c}(h:l[k]?=some a):l.Perm (a::l.eraseIdx k):=by
 obtain⟨d,e⟩:=Yz.1 h
 have b:l=l.take k++a::l.drop (k+1):=by
  conv=>lhs;rw[←Qlr k l,R2 d,e]
 rw[Qdq]
 conv=>lhs;rw[b]
 exact List.perm_middle
theorem Qvb{b:Type}{z:Int}{v:b}{l m:List (Int×b)}(h:l.Perm ((z,v)::m))(d:(l.map (·.1)).Nodup):(Ge z l).Perm m:=by
 have e:Yh z l=some v:=Fl d (h.mem_iff.2 (Z0 ..));have:=Hn z l 0;rw[e]at this;cases a:Jl z l 0 with
 | none=>rw[a]at this;cases this
 | some p=>
  obtain⟨j,u⟩:=p;rw[a]at this;have c:v=u:=(Hb this).symm;subst c;obtain⟨k,_,g,_,f⟩:=Kv a;rw[f];exact Qoo ((M5 g).symm.trans h)
namespace BN
abbrev Wm(js:List Bj):Prop:=js.Pairwise (fun a b=>a.id<b.id)
theorem Qi{js:List Bj}{id:Nat}{x:Bj}(h:Qk js id=some x):x∈js∧x.id=id:=by
 have a:=List.find?_some h;exact⟨List.mem_of_find?_eq_some h,U4 a⟩
theorem Ys{js:List Bj}(b:Wm js){x:Bj}(h:x∈js):Qk js x.id=some x:=by
 unfold Qk;induction js with
 | nil=>cases h
 | cons y l a=>
  obtain⟨d,c⟩:=Ws.1 b;rw[List.find?_cons]
  rcases Yf.1 h with rfl|h
  ·simp
  ·rw[Q6 (show ¬y.id=x.id by have:=d x h;omega)];exact a c h
theorem Kb{js:List Bj}{id:Nat}(h:Qk js id=none):∀x∈js,x.id≠id:=fun x a e=>by
 have:=List.find?_eq_none.1 h x a;simp[e]at this
theorem Le(js:List Bj)(x:Bj):(Xe js x).map (·.id)=js.map (·.id):=by
 rw[Xe,Kk];refine De fun y _=>?_;show (if y.id=x.id then x else y).id=y.id
 split
 ·rename_i h;exact h.symm
 ·rfl
theorem Zh7{js a:List Bj}(h:Wm js)(e:a.map (·.id)=js.map (·.id)):Wm a:=by
 have b:=Ww.2 h;rw[←e]at b;exact Ww.1 b
theorem Mt{js:List Bj}(h:Wm js)(x:Bj):Wm (Xe js x):=Zh7 h (Le js x)
theorem G8(js:List Bj)(x:Bj):(Xe js x).length=js.length:=Qo ..
theorem Gb(js:List Bj)(x:Bj)(id:Nat):Qk (Xe js x) id=if id=x.id then (Qk js id).map (fun _=>x) else Qk js id:=by
 unfold Qk Xe;induction js with
 | nil=>split <;> rfl
 | cons y l a=>
  rw[Z7,List.find?_cons,List.find?_cons]
  by_cases e:y.id=x.id
  ·by_cases e2:id=x.id
   ·rw[Qh e2]at a;rw[Qh e,Qh e2];have c:decide (x.id=id)=true:=Zh e2.symm;have b:decide (y.id=id)=true:=Zh (e.trans e2.symm);simp only[c,b];rfl
   ·rw[Qe e2]at a;rw[Qh e,Qe e2];have c:decide (x.id=id)=false:=Q6 fun h=>e2 h.symm;have b:decide (y.id=id)=false:=Q6 fun h=>e2 (h.symm.trans e);simp only[c,b];exact a
  ·by_cases e2:id=x.id
   ·rw[Qh e2]at a;rw[Qe e,Qh e2];have b:decide (y.id=id)=false:=Q6 fun h=>e (h.trans e2);simp only[b];exact a
   ·rw[Qe e2]at a;rw[Qe e,Qe e2];cases decide (y.id=id) with
    | true=>rfl
    | false=>exact a
theorem Qf5(js:List Bj){x y:Bj}(h:x.id=y.id):Xe (Xe js x) y=Xe js y:=by
 unfold Xe;rw[Kk];refine De fun z _=>?_;show (if (if z.id=x.id then x else z).id=y.id then y else if z.id=x.id then x else z)=_
 by_cases e:z.id=x.id
 ·rw[Qh e,Qh h,Qh (e.trans h)]
 ·rw[Qe e]
theorem Za3(js:List Bj)(x:Bj):rmJ (Xe js x) x.id=rmJ js x.id:=by
 unfold rmJ Xe;induction js with
 | nil=>rfl
 | cons y l a=>
  rw[Z7,Eg,Eg,a]
  by_cases e:y.id=x.id
  ·rw[Qh e];simp[e]
  ·rw[Qe e]
theorem P5{js:List Bj}(j:Wm js){id:Nat}{x:Bj}(h:Qk js id=some x):∃i,js[i]?=some x∧(∀y:Bj,y.id=id→Xe js y=js.set i y)∧rmJ js id=js.eraseIdx i:=by
 obtain⟨t,m⟩:=Qi h;obtain⟨i,c,e⟩:=Pq t
 refine⟨i,by rw[Ju c,e],fun y o=>?_,?_⟩
 ·refine E1 fun k=>?_;rw[Xe,Q8,Fq]
  by_cases n:i=k
  ·subst n;rw[Qh rfl,Qh c,Ju c,e,U3,Qh (m.trans o.symm)]
  ·rw[Qe n];cases s:js[k]? with
   | none=>rfl
   | some z=>
    rw[U3,Qe];intro e3;obtain⟨f,l⟩:=Yz.1 s
    have p:js[k].id≠js[i].id:=by
     rcases Nat.lt_or_gt_of_ne n with h|h
     ·have:=Jy.1 j i k c f h;omega
     ·have:=Jy.1 j k i f c h;omega
    rw[l,e]at p;exact p (e3.trans (o.trans m.symm))
 ·have d:js=js.take i++x::js.drop (i+1):=by
   conv=>lhs;rw[←Qlr i js,R2 c,e]
  have q:(js.take i++x::js.drop (i+1)).Pairwise (fun a b:Bj=>a.id<b.id):=d ▸ j;rw[Qjc]at q;obtain⟨_,q2,q3⟩:=q;have r:=(Ws.1 q2).1;rw[Qdq,rmJ]
  conv=>lhs;rw[d]
  rw[Gu,Eg,Qe (by simp[m])]
  congr 1
  ·refine Np.2 fun z g=>Zh ?_;have:=q3 z g x (Z0 ..);omega
  ·refine Np.2 fun z g=>Zh ?_;have:=r z g;omega
theorem Qzr{js:List Bj}(b:Wm js){x:Bj}(h:Qk js x.id=some x):Xe js x=js:=by
 obtain⟨i,a,c,_⟩:=P5 b h;rw[c x rfl];refine E1 fun k=>?_
 by_cases e:i=k
 ·subst e;rw[Pp (Yz.1 a).1,a]
 ·rw[Qdo e]
theorem Zg3{js:List Bj}(h:Wm js)(id:Nat):Wm (rmJ js id):=h.filter _
theorem Ks{x y:Bj}:∀ {js:List Bj},y∈Hg x js↔y=x∨y∈js
 | []=>by simp[Hg]
 | z::l=>by
  unfold Hg
  split
  ·simp
  ·rw[Yf,Ks,Yf]
   constructor
   ·rintro (h|h|h)
    ·exact .inr (.inl h)
    ·exact .inl h
    ·exact .inr (.inr h)
   ·rintro (h|h|h)
    ·exact .inr (.inl h)
    ·exact .inl h
    ·exact .inr (.inr h)
theorem Qcj(x:Bj):∀js:List Bj,(Hg x js).Perm (x::js)
 | []=>.refl _
 | y::l=>by
  unfold Hg
  split
  ·exact .refl _
  ·exact((Qcj x l).cons y).trans (.swap x y l)
theorem P2{x:Bj}:∀ {js:List Bj},Wm js→(∀y∈js,y.id≠x.id)→Wm (Hg x js)
 | [],_,_=>Qdj _ _
 | y::l,h,b=>by
  obtain⟨c,e⟩:=Ws.1 h;unfold Hg
  split
  ·rename_i d;refine Ws.2 ⟨fun z a=>?_,h⟩
   rcases Yf.1 a with rfl|a
   ·exact d
   ·have:=c z a;omega
  ·rename_i d;refine Ws.2 ⟨fun z a=>?_,P2 e fun z a=>b z (Ym _ a)⟩
   rcases Ks.1 a with rfl|a
   ·have:=b y (Z0 ..);omega
   ·exact c z a
abbrev jE(ps:Nat→Nat)(x:Bj):Int×Value:=((x.id:Int),.pointer (some ⟨ps x.id,0,none⟩))
theorem Un{ps:Nat→Nat}{js:List Bj}(f:Wm js){l:List (Int×Value)}(a:l.Perm (js.map (jE ps)))(id:Nat):Yh (id:Int) l=(Qk js id).map fun x=>Value.pointer (some ⟨ps x.id,0,none⟩):=by
 have b:((js.map (jE ps)).map (·.1)).Nodup:=by
  rw[Kk];refine Ww.2 (f.imp fun h e=>?_);have e:(_:Int)=_:=e;simp only[Function.comp]at e;omega
 have i:(l.map (·.1)).Nodup:=(a.map _).nodup_iff.2 b;rw[Qva a i];cases c:Qk js id with
 | some x=>
  obtain⟨k,j⟩:=Qi c;exact Fl b (Qq.2 ⟨x,k,by rw[←j]⟩)
 | none=>
  refine Pc fun h=>?_;obtain⟨q,g,e⟩:=Qq.1 h;obtain⟨x,d,e2⟩:=Qq.1 g;subst e2;have e:(x.id:Int)=id:=e;exact Kb c x d Qb
theorem Qt0(ps:Nat→Nat)(js:List Bj)(x:Bj):(Xe js x).map (jE ps)=js.map (jE ps):=by
 have h:=Le js x;have e:∀l:List Bj,l.map (jE ps)=(l.map (·.id)).map fun i:Nat=>((i:Int),Value.pointer (some ⟨ps i,0,none⟩)):=fun l=>by rw[Kk];rfl
 rw[e,e,h]
theorem Zlp{ps:Nat→Nat}{js:List Bj}(a:Wm js){l:List (Int×Value)}(b:l.Perm (js.map (jE ps))){id:Nat}{x:Bj}(h:Qk js id=some x):(Ge (id:Int) l).Perm ((rmJ js id).map (jE ps)):=by
 have f:((js.map (jE ps)).map (·.1)).Nodup:=by
  rw[Kk];refine Ww.2 (a.imp fun h e=>?_);have e:(_:Int)=_:=e;simp only[Function.comp]at e;omega
 have d:(l.map (·.1)).Nodup:=(b.map _).nodup_iff.2 f;obtain⟨i,c,_,g⟩:=P5 a h;obtain⟨j,e⟩:=Yz.1 c;refine Qvb (v:=.pointer (some ⟨ps x.id,0,none⟩)) (b.trans ?_) d;rw[g];have:=(M5 c).map (jE ps);rw[Z7]at this;rw[←(Qi h).2];exact this
end BN
open Go.Sort
abbrev uA(d:Array Int):List Value:=d.toList.map (Value.int .u32)
theorem Vm(d:Array Int):(uA d).length=d.size:=Q2
theorem Yx{d:Array Int}{i:Nat}(h:i<d.size):(uA d)[i]?=some (.int .u32 d[i]!):=by simp[h]
theorem Vl(d:Array Int)(i:Nat)(x:Int):(uA d).set i (.int .u32 x)=uA (d.setIfInBounds i x):=by simp[uA,List.map_set]
theorem E3(d:Array Int)(i j:Nat):(swp d i j).size=d.size:=by simp[swp]
theorem Q5y(x:Int):Spec Tryz.prog 192 [.int .u32 x] [] fun a v b=>v=.bool false∧b=a:=by
 refine Zbd Tryz.func192 rfl Tryz.ntmps192 fun c a=>Zsh (ZY 8 (ZY 4 ?_));exact Zf ef Zq (⟨by simp only[Vt];rw[Q6 (fun h=>h rfl)],rfl⟩)
theorem H2(x y:Int):Spec Tryz.prog 162 [.int .u32 x,.int .u32 y] [] fun a v b=>v=.bool (ltInt x y)∧b=a:=by
 refine Zbd Tryz.func162 rfl Tryz.ntmps162 fun c a=>Zsh (ZY 7 (Zp (Zcp Ze (Q5y x) (ZY 8 (ZY 5 ?_)))));exact Zf ef Zq (⟨rfl,rfl⟩)
theorem insInner_stop{a j:Nat}{d:Array Int}(h:¬(a<j∧ltInt d[j]! d[j-1]! = true)):insInner ltInt a j d=d:=by
 cases j with
 | zero=>rfl
 | succ j=>
  rw[insInner,Qe];simp only[Qdc]at h;simp only[Z5,Zz];exact h
theorem Qjp{a j:Nat}{d:Array Int}(h:a<j)(b:ltInt d[j]! d[j-1]! = true):insInner ltInt a j d=insInner ltInt a (j-1) (swp d j (j-1)):=by
 cases j with
 | zero=>omega
 | succ j=>
  simp only[Qdc]at b ⊢;rw[insInner,Qh];simp only[Z5,Zz];exact⟨h,b⟩
theorem Q0v(s:SV)(d:Array Int)(a b:Nat)(C:a≤b)(I:b≤d.size)(K:d.size≤65535)(J:s.n=d.size):Spec Tryz.prog 156 [s.v,.int .i64 (a:Int),.int .i64 (b:Int)] [own s 31 1 (uA d)] fun p _ w=>w=own s 31 1 (uA (insertionSort ltInt d a b))::p:=by
 refine Zbd Tryz.func156 rfl Tryz.ntmps156 fun F p=>Zsh (ZY 3 (Zv (Za ef ef) (ZY 3 ?_)));refine Zl (fun q c f=>∃(i:Nat) (e:Array Int),q=b-i∧a+1≤i∧i≤65536∧e.size=d.size∧insOuter ltInt a b i e=insertionSort ltInt d a b∧c=[(0,s.v),(1,.int .i64 (a:Int)),(2,.int .i64 (b:Int)),(6,.int .i64 (i:Int))]∧f=own s 31 1 (uA e)::p) (m:=_) (⟨a+1,d,rfl,Qb,Qb,rfl,rfl,rfl,rfl⟩) ?_;rintro q c f ⟨i,e,H,B,A,v,r,rfl,rfl⟩;refine ZY 7 ?_
 refine Zj ef (fun D=>?_) (fun D=>?_)
 ·refine S.Q7 s Qb fun sb G g _ _ _=>(ZY 2 ?_)
  refine Zc (fun c f=>∃e2:Array Int,e2.size=d.size∧e2=insInner ltInt a i e∧c=[(0,s.v),(1,.int .i64 (a:Int)),(2,.int .i64 (b:Int)),(6,.int .i64 (i:Int))]∧f=own s 31 1 (uA e2)::p) ?_ ?_
  ·refine ZY 7 ?_;refine Zl (fun q2 c f=>∃(j:Nat) (z:Int) (e2:Array Int),q2=j∧z=j∧j≤i∧e2.size=d.size∧insInner ltInt a j e2=insInner ltInt a i e∧c=[(0,s.v),(1,.int .i64 (a:Int)),(2,.int .i64 (b:Int)),(6,.int .i64 (i:Int)),(7,.int .i64 z)]∧f=own s 31 1 (uA e2)::p) (m:=_) (⟨i,i,e,rfl,rfl,Q1 _,v,rfl,rfl,rfl⟩) ?_;rintro q2 c f ⟨j,z,e2,x,u,y,n,k,rfl,rfl⟩;refine ZY 2 ?_;refine Zd ([own s 31 1 (uA e2)]) [] (Zra 0 4) (ZY 4 ?_)
   refine Zb 19 ef (fun l=>?_) (fun l=>?_)
   ·refine Zr (Zra 4 9) (ZY 2 ?_);refine Zwg ef ef ef ef (Zx (j) ef (g) ef Qb (u)) ?_;refine Zwg ef ef ef ef (Zo (s) (j) ef (g) (Yx Qb)) (ZY 2 ?_);refine Zwg ef ef ef ef (Zm ef ef) ?_;refine Zwg ef ef ef ef (Zx (j-1) ef (g) ef Qb (Qb)) ?_;refine Zwg ef ef ef ef (Zo (s) (j-1) ef (g) (Yx Qb)) ?_;refine Z1g (i:=13) ef ef ef ef ef (rfl) ?_;refine  (Zcp Ze (H2 (e2[j]!) (e2[j-1]!)) ?_);refine Zk [14] (Zy ?_);refine ZD ?_
    refine Zi ef (fun t=>?_) (fun t=>?_)
    ·have o:=Qjp (a:=a) (j:=j) (d:=e2) Qb t;rw[k]at o;refine ZY 3 ?_;refine Zd ([own s 31 1 (uA e2)]) [15] [0,1] (ZY 2 ?_);refine ZP 2 [] ef (Y8 rfl) ef ?_;refine ZP 3 [] ef (Y8 rfl) ef ?_;refine ZP 4 (Zra 5 10) ef (Qkh rfl rfl (Xy Qb Qb)) ef (ZY 2 ?_);refine Zw ef (Zm ef ef) ?_;refine Zw ef (Zx (j-1) ef (g) ef Qb (Qb)) ?_;refine Zw ef (Zo (s) (j-1) ef (g) (Yx Qb)) (ZY 2 ?_);refine Zw ef (Zx (j) ef (g) ef Qb (u)) ?_;refine Zw ef (Zo (s) (j) ef (g) (Yx Qb)) ?_;refine Zw ef (Zx (j) ef (g) ef Qb (u)) ?_;refine Z1 (i:=15) ef ef ?_;refine(S.Xa (s) (j) Eo.h rfl rfl rfl g (by first|rfl|exact Xr _ _ _|omega) (by rw[Vm];omega) (Vl _ _ _) ?_);refine ZL ([]) [16] ?_;refine Zw ef (Zx (j-1) ef (g) ef Qb (Qb)) ?_;refine Z1 (i:=17) ef ef ?_;refine(S.Xa (s) (j-1) Eo.h rfl rfl rfl g (by first|rfl|exact Xr _ _ _|omega) (by rw[Vm,Gt];omega) (show _=uA (Go.Sort.swp e2 (j) (j-1)) from Vl _ _ _) ?_);refine Zk [] ?_;refine ZD (ZY 2 (Zv (Zm ef ef) (ZY 2 ?_)));exact ZX (j-1) (⟨j-1,z-1,swp e2 j (j-1),rfl,Qb,Qb,by rw[E3,n],o.symm,rfl,rfl⟩) Qb
    ·have o:insInner ltInt a j e2=e2:=insInner_stop (fun h=>by rw[h.2]at t;cases t);refine Zy ?_;exact ZM ⟨e2,n,o.symm.trans k,rfl,rfl⟩
   ·have o:insInner ltInt a j e2=e2:=insInner_stop (fun h=>l Qb);refine Zr (Zra 4 11) (ZY 8 (ZY 3 ?_));refine ZD (ZY 2 ?_);exact ZM ⟨e2,n,o.symm.trans k,rfl,rfl⟩
  ·rintro c f ⟨e2,n,k,rfl,rfl⟩;refine ZY 2 (Zv (Za ef ef) (ZY 2 ?_));exact ZX (q-1) (⟨i+1,e2,Qb,Qb,Qb,n,by rw[k,←r];conv=>rhs;rw[insOuter,Qh Qb],rfl,rfl⟩) Qb
 ·refine Zy ?_;exact Zfn ef Zq (by have E:insertionSort ltInt d a b=e:=(by rw[←r,insOuter,Qe Qb]);rw[E])
theorem Sd(a F:Nat):∀(n r:Nat) (d:Array Int),a-r≤n→(siftDown ltInt a F r d).size=d.size
 | 0,r,d,h=>by rw[siftDown,dif_pos Qb]
 | n+1,r,d,h=>by
  rw[siftDown]
  split
  ·rfl
  split
  ·split
   ·rfl
   split
   ·rw[Sd a F n _ _ Qb,E3]
   ·rfl
  ·split
   ·rfl
   ·rw[Sd a F n _ _ Qb,E3]
theorem Qzq(a F r:Nat)(d:Array Int):(siftDown ltInt a F r d).size=d.size:=Sd a F _ r d (Q1 _)
theorem Qf3(s:SV)(d:Array Int)(j a F:Nat)(N:F+a≤d.size)(w:j≤65535)(P:d.size≤65535)(O:s.n=d.size):Spec Tryz.prog 187 [s.v,.int .i64 (j:Int),.int .i64 (a:Int),.int .i64 (F:Int)] [own s 31 1 (uA d)] fun p _ D=>D=own s 31 1 (uA (siftDown ltInt a F j d))::p:=by
 refine Zbd Tryz.func187 rfl Tryz.ntmps187 fun J p=>Zsh (ZY 6 ?_);refine Zl (fun q b f=>∃(r:Nat) (z:Int) (e:Array Int),q=a-r∧z=r∧r≤65535∧e.size=d.size∧siftDown ltInt a F r e=siftDown ltInt a F j d∧b=[(0,s.v),(1,.int .i64 (j:Int)),(2,.int .i64 (a:Int)),(3,.int .i64 (F:Int)),(8,.int .i64 z)]∧f=own s 31 1 (uA e)::p) (m:=_) (⟨j,j,d,rfl,rfl,w,rfl,rfl,rfl,rfl⟩) ?_;rintro q b f ⟨r,z,e,M,L,G,x,n,rfl,rfl⟩;refine ZY 4 (Zv (Ll rfl rfl (Xy Qb Qb)) (Zv (Za ef ef) (ZY 8 (Zy ?_))))
 refine Zj ef (fun I=>?_) (fun I=>?_)
 ·have t:e=siftDown ltInt a F j d:=by rw[←n,siftDown,dif_pos Qb]
  refine Zy ?_;exact Zfn ef Zq (by rw[←t])
 ·refine S.Q7 s Qb fun sb K g _ _ _=>?_;have C:¬(2*r+1≥a):=Qb
  refine ZY 3 ?_
  refine Zc (fun b f=>∃B:Bool,B=(decide (2*r+1+1<a)&&ltInt e[F+(2*r+1)]! e[F+(2*r+1)+1]!)∧b=[(0,s.v),(1,.int .i64 (j:Int)),(2,.int .i64 (a:Int)),(3,.int .i64 (F:Int)),(8,.int .i64 z),(9,.int .i64 (2*z+1)),(36,.bool B)]∧f=own s 31 1 (uA e)::p) ?_ ?_
  ·refine Zd ([own s 31 1 (uA e)]) [] (Zra 0 5) (Zy ?_);refine Zw ef (Za ef ef) (ZY 3 ?_)
   refine Zb 21 ef (fun o=>?_) (fun o=>?_)
   ·refine Zr (Zra 5 13) (ZY 3 ?_);refine Zwg ef ef ef ef (Za ef ef) ?_;refine Zwg ef ef ef ef (Zx (F+(2*r+1)) ef (g) ef Qb (Qb)) ?_;refine Zwg ef ef ef ef (Zo (s) (F+(2*r+1)) ef (g) (Yx Qb)) (ZY 3 ?_);refine Zwg ef ef ef ef (Za ef ef) ?_;refine Zwg ef ef ef ef (Za ef ef) ?_;refine Zwg ef ef ef ef (Zx (F+(2*r+1)+1) ef (g) ef Qb (Qb)) ?_;refine Zwg ef ef ef ef (Zo (s) (F+(2*r+1)+1) ef (g) (Yx Qb)) ?_;refine Z1g (i:=18) ef ef ef ef ef (rfl) ?_;refine  (Zcp Ze (H2 (e[F+(2*r+1)]!) (e[F+(2*r+1)+1]!)) ?_);refine Zk [19] (Zy ?_);refine ZD ?_;first|(exact S.meet ⟨_,by rw[Zh (show 2*r+1+1<a by omega)];rfl,rfl,rfl⟩ ⟨rfl,rfl,rfl,rfl,rfl,rfl,rfl,trivial⟩ Sub.Qs)|(exact S.meet ⟨_,by rw[Q6 (show ¬2*r+1+1<a by omega)];rfl,rfl,rfl⟩ ⟨rfl,rfl,rfl,rfl,rfl,rfl,rfl,trivial⟩ Sub.Qs)
   ·refine Zr (Zra 5 15) (ZY 8 (ZY 7 ?_));refine ZD ?_;first|(exact S.meet ⟨_,by rw[Zh (show 2*r+1+1<a by omega)];rfl,rfl,rfl⟩ ⟨rfl,rfl,rfl,rfl,rfl,rfl,rfl,trivial⟩ Sub.Qs)|(exact S.meet ⟨_,by rw[Q6 (show ¬2*r+1+1<a by omega)];rfl,rfl,rfl⟩ ⟨rfl,rfl,rfl,rfl,rfl,rfl,rfl,trivial⟩ Sub.Qs)
  ·rintro b f ⟨B,k,rfl,rfl⟩
   refine Zc (fun b f=>∃(c:Nat) (u:Int),u=c∧r<c∧c<a∧(siftDown ltInt a F r e=if (!ltInt e[F+r]! e[F+c]!)=true then e else siftDown ltInt a F c (swp e (F+r) (F+c)))∧b=[(0,s.v),(1,.int .i64 (j:Int)),(2,.int .i64 (a:Int)),(3,.int .i64 (F:Int)),(8,.int .i64 z),(9,.int .i64 u)]∧f=own s 31 1 (uA e)::p) ?_ ?_
   ·refine Zi ef (fun A=>?_) (fun A=>?_)
    ·rw[A]at k
     have h:2*r+2<a:=by
      have:=k.symm;rw[Z5,Zz]at this;omega
     have l:siftDown ltInt a F r e=if (!ltInt e[F+r]! e[F+(2*r+2)]!)=true then e else siftDown ltInt a F (2*r+2) (swp e (F+r) (F+(2*r+2))):=by
      conv=>lhs;rw[siftDown,dif_neg C,Qh k.symm,dif_pos h]
     refine ZY 2 (Zv (Za ef ef) (ZY 2 ?_));first|exact S.meet ⟨2*r+2,2*z+1+1,Qb,Qb,h,l,rfl,rfl⟩ ⟨rfl,rfl,rfl,rfl,rfl,rfl,trivial⟩ Sub.Qs|exact S.meet ⟨2*r+1,2*z+1,Qb,Qb,h,l,rfl,rfl⟩ ⟨rfl,rfl,rfl,rfl,rfl,rfl,trivial⟩ Sub.Qs
    ·rw[A]at k;have h:2*r+1<a:=Qb
     have l:siftDown ltInt a F r e=if (!ltInt e[F+r]! e[F+(2*r+1)]!)=true then e else siftDown ltInt a F (2*r+1) (swp e (F+r) (F+(2*r+1))):=by
      conv=>lhs;rw[siftDown,dif_neg C,Qe (by rw[←k];simp)]
     refine Zy ?_;first|exact S.meet ⟨2*r+2,2*z+1+1,Qb,Qb,h,l,rfl,rfl⟩ ⟨rfl,rfl,rfl,rfl,rfl,rfl,trivial⟩ Sub.Qs|exact S.meet ⟨2*r+1,2*z+1,Qb,Qb,h,l,rfl,rfl⟩ ⟨rfl,rfl,rfl,rfl,rfl,rfl,trivial⟩ Sub.Qs
   ·rintro b f ⟨c,u,v,E,H,l,rfl,rfl⟩;refine ZY 2 ?_;refine Zd ([own s 31 1 (uA e)]) [] (Zra 0 12) (ZY 3 ?_);refine Zw ef (Za ef ef) ?_;refine Zw ef (Zx (F+r) ef (g) ef Qb (Qb)) ?_;refine Zw ef (Zo (s) (F+r) ef (g) (Yx Qb)) (ZY 3 ?_);refine Zw ef (Za ef ef) ?_;refine Zw ef (Zx (F+c) ef (g) ef Qb (Qb)) ?_;refine Zw ef (Zo (s) (F+c) ef (g) (Yx Qb)) ?_;refine Z1 (i:=12) ef ef ?_;refine  (Zcp Ze (H2 (e[F+r]!) (e[F+c]!)) ?_);refine Zk [13] (Zy ?_);refine ZD ?_
    refine Zi ef (fun y=>?_) (fun y=>?_)
    ·have t:e=siftDown ltInt a F j d:=by rw[←n,l,Qh y]
     refine Zy ?_;exact Zf ef Zq (by rw[←t])
    ·have t:siftDown ltInt a F c (swp e (F+r) (F+c))=siftDown ltInt a F j d:=by rw[←n,l,Qe (by rw[y];simp)]
     refine ZY 2 ?_;refine Zd ([own s 31 1 (uA e)]) [21] (Zra 0 4) (ZY 3 ?_);refine Zw ef (Za ef ef) ?_;refine ZP 4 [] ef (Y8 rfl) ef ?_;refine ZP 5 [] ef (Y8 rfl) ef ?_;refine ZP 6 [] ef (Y8 rfl) ef ?_;refine ZP 7 (Zra 8 13) ef (Bm rfl rfl (Xy Qb Qb)) ef (ZY 3 ?_);refine Zw ef (Za ef ef) ?_;refine Zw ef (Zx (F+c) ef (g) ef Qb (Qb)) ?_;refine Zw ef (Zo (s) (F+c) ef (g) (Yx Qb)) (ZY 3 ?_);refine Zw ef (Za ef ef) ?_;refine Zw ef (Zx (F+r) ef (g) ef Qb (Qb)) ?_;refine Zw ef (Zo (s) (F+r) ef (g) (Yx Qb)) ?_;refine Zw ef (Zx (F+r) ef (g) ef Qb (Qb)) ?_;refine Z1 (i:=21) ef ef ?_;refine(S.Xa (s) (F+r) Eo.h rfl rfl rfl g (by first|rfl|exact Xr _ _ _|omega) (by rw[Vm];omega) (Vl _ _ _) ?_);refine ZL ([]) [22] ?_;refine Zw ef (Zx (F+c) ef (g) ef Qb (Qb)) ?_;refine Z1 (i:=23) ef ef ?_;refine(S.Xa (s) (F+c) Eo.h rfl rfl rfl g (by first|rfl|exact Xr _ _ _|omega) (by rw[Vm,Gt];omega) (show _=uA (Go.Sort.swp e (F+r) (F+c)) from Vl _ _ _) ?_);refine Zk [] ?_;refine ZD (ZY 4 ?_);exact ZX (a-c) (⟨c,u,swp e (F+r) (F+c),rfl,v,Qb,by rw[E3,x],t,rfl,rfl⟩) Qb
theorem Qug(s:SV)(d:Array Int)(a b:Nat)(C:a<b)(I:b≤d.size)(K:d.size≤65535)(J:s.n=d.size):Spec Tryz.prog 157 [s.v,.int .i64 (a:Int),.int .i64 (b:Int)] [own s 31 1 (uA d)] fun o _ p=>p=own s 31 1 (uA (heapSort ltInt d a b))::o:=by
 refine Zbd Tryz.func157 rfl Tryz.ntmps157 fun G o=>Zsh ?_
 have n:∀w F r (e:Array Int),F+w≤e.size→r≤65535→e.size=d.size→(siftDown ltInt w F r e).size=d.size:=fun w F r e y _ D=>by
  rw[Qzq,D]
 refine ZY 8 (ZY 5 (Zv (Zm ef ef) (ZY 6 (Zv (Zm ef ef) ?_))));refine Zv (Qdz rfl rfl (⟨Qb,Qb⟩) (Xy Qb Qb)) (ZY 3 ?_);refine Zl (fun q f g=>∃(k:Nat) (z:Int) (e:Array Int),q=k∧z=(k:Int)-1∧k≤65535∧e.size=d.size∧heapBuild ltInt (b-a) a k e=heapBuild ltInt (b-a) a ((b-a-1) / 2+1) d∧f=[(0,s.v),(6,.int .i64 (a:Int)),(7,.int .i64 0),(8,.int .i64 ((b:Int)-a)),(9,.int .i64 z)]∧g=own s 31 1 (uA e)::o) (m:=_) (⟨(b-a-1) / 2+1,((b:Int)-a-1) / 2,d,rfl,Qb,Qb,rfl,rfl,rfl,rfl⟩) ?_;rintro q f g ⟨k,z,e,B,A,u,h,c,rfl,rfl⟩;refine ZY 6 ?_
 refine Zj ef (fun y=>?_) (fun y=>?_)
 ·obtain⟨k,rfl⟩:∃t,k=t+1:=⟨k-1,Qb⟩;refine ZY 8 ?_;refine Zp (Zc1 Ze ((by rw[show z=(k:Int) by omega,show ((b:Int)-a)=((b-a:Nat):Int) by omega];exact Qf3 s e k (b-a) a Qb Qb Qb Qb)) ?_);rintro v p rfl;refine ZY 3 (Zv (Zm ef ef) (ZY 2 ?_));exact ZX (k) (⟨k,z-1,siftDown ltInt (b-a) a k e,rfl,Qb,Qb,n _ _ _ _ Qb Qb h,c,rfl,rfl⟩) Qb
 ·have l:k=0:=Qb
  subst l;have c:e=heapBuild ltInt (b-a) a ((b-a-1) / 2+1) d:=c;have x:heapSort ltInt d a b=heapPop ltInt a (b-a) e:=by rw[c];rfl
  refine S.Q7 s Qb fun sb H j _ _ _=>(ZY 4 (Zv (Zm ef ef) (ZY 3 ?_)));refine Zl (fun q f g=>∃(k:Nat) (z:Int) (e:Array Int),q=k∧z=(k:Int)-1∧k≤b-a∧e.size=d.size∧heapPop ltInt a k e=heapSort ltInt d a b∧f=[(0,s.v),(6,.int .i64 (a:Int)),(7,.int .i64 0),(10,.int .i64 z)]∧g=own s 31 1 (uA e)::o) (m:=_) (⟨b-a,((b:Int)-a)-1,e,rfl,Qb,Qb,h,x.symm,rfl,rfl⟩) ?_;rintro q f g ⟨k,z,e,B,A,u,h,c,rfl,rfl⟩;refine ZY 6 ?_
  refine Zj ef (fun E=>?_) (fun E=>?_)
  ·obtain⟨k,rfl⟩:∃t,k=t+1:=⟨k-1,Qb⟩;refine ZY 4 ?_;refine Zd ([own s 31 1 (uA e)]) [17] [0,1] (ZY 2 ?_);refine ZP 2 [] ef (Y8 rfl) ef ?_;refine ZP 3 [] ef (Y8 rfl) ef ?_;refine ZP 4 [] ef (Y8 rfl) ef ?_;refine ZP 5 (Zra 6 11) ef (Bm rfl rfl (Xy Qb Qb)) ef (ZY 3 ?_);refine Zw ef (Za ef ef) ?_;refine Zw ef (Zx (a+k) ef (j) ef Qb (Qb)) ?_;refine Zw ef (Zo (s) (a+k) ef (j) (Yx Qb)) (ZY 2 ?_);refine Zw ef (Zx (a) ef (j) ef Qb) ?_;refine Zw ef (Zo (s) (a) ef (j) (Yx Qb)) ?_;refine Zw ef (Zx (a) ef (j) ef Qb) ?_;refine Z1 (i:=17) ef ef ?_;refine(S.Xa (s) (a) Eo.h rfl rfl rfl j (by first|rfl|exact Xr _ _ _|omega) (by rw[Vm];omega) (Vl _ _ _) ?_);refine ZL ([]) [18] ?_;refine Zw ef (Zx (a+k) ef (j) ef Qb (Qb)) ?_;refine Z1 (i:=19) ef ef ?_;refine(S.Xa (s) (a+k) Eo.h rfl rfl rfl j (by first|rfl|exact Xr _ _ _|omega) (by rw[Vm,Gt];omega) (show _=uA (Go.Sort.swp e (a) (a+k)) from Vl _ _ _) ?_);refine Zk [] ?_;refine ZD (ZY 5 ?_);refine Zp (Zc1 Ze ((by rw[show z=(k:Int) by omega];exact Qf3 s (swp e a (a+k)) 0 k a (by rw[E3];omega) Qb (by rw[E3];omega) (by rw[E3];omega))) ?_);rintro v p rfl;refine ZY 3 (Zv (Zm ef ef) (ZY 2 ?_));exact ZX (k) (⟨k,z-1,siftDown ltInt k a 0 (swp e a (a+k)),rfl,Qb,Qb,n _ _ _ _ (by rw[E3];omega) Qb (by rw[E3,h]),c,rfl,rfl⟩) Qb
  ·refine Zy ?_;exact Zfn ef Zq (by have l:k=0:=(by omega);subst l;have c:e=heapSort ltInt d a b:=c;rw[←c])
end Go.Proofs.YtdackcibfkkniaaGreatDoor
