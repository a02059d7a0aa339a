/- Texts put together. -/
import Derived.Test.YtdackcibfkkniaaGreatDoorMC4
set_option synthInstance.maxSize 9999
set_option synthInstance.maxHeartbeats 400000
set_option maxRecDepth 100000
namespace Go.Proofs.YtdackcibfkkniaaGreatDoor
open Go.RowKit
namespace BN
abbrev ncE(cr:List (Nat×Nat)):List (Int×Value):=cr.map fun p:Nat×Nat=>((p.1:Int),Value.int .i64 (p.2:Int))
theorem Q63(cr:List (Nat×Nat))(id:Nat):Q1 (id:Int) (ncE cr)=(Yg id cr).map fun v:Nat=>Value.int .i64 (v:Int):=by
 induction cr with
 | nil=>rfl
 | cons x cr ih=>
  simp only[List.map_cons,Q1,Yg]
  by_cases h:x.1=id
  ·rw[if_pos h,if_pos (by omega)];rfl
  ·rw[if_neg h,if_neg (by omega)];exact ih
theorem Q62(cr:List (Nat×Nat))(id v:Nat):Yd (id:Int) (.int .i64 (v:Int)) (ncE cr)=ncE (Xl id v cr):=by
 induction cr with
 | nil=>rfl
 | cons x cr ih=>
  simp only[List.map_cons,Yd,Xl]
  by_cases h:x.1=id
  ·rw[if_pos h,if_pos (by omega)];rfl
  ·rw[if_neg h,if_neg (by omega)];exact congrArg _ ih
def C5(cr:List (Nat×Nat))(n:Nd):List (Nat×Nat):=if Qz n.rk≠0 then Xl (Qz n.rk) (Yn (Qz n.rk) cr+1) cr else cr
def B9(l:List Nd):List (Nat×Nat):=l.foldl C5 []
theorem Qem(l:List Nd)(n:Nd):B9 (l++[n])=C5 (B9 l) n:=by rw[B9,List.foldl_append];rfl
theorem Qce(l:List Nd)(n:Nd)(id:Nat):Kd (l++[n]) id=Kd l id+if Qz n.rk=id then 1 else 0:=by
 unfold Kd;rw[List.filter_append,List.length_append]
 congr 1
 by_cases h:Qz n.rk=id
 ·simp[h]
 ·simp[h]
theorem Qmw(l:List Nd):(keys (B9 l)).Nodup∧∀id,Yg id (B9 l)=if id≠0∧0<Kd l id then some (Kd l id) else none:=by
 have key:∀(l m:List Nd),((keys (B9 m)).Nodup∧∀id,Yg id (B9 m)=if id≠0∧0<Kd m id then some (Kd m id) else none)→((keys (B9 (m++l))).Nodup∧∀id,Yg id (B9 (m++l))=if id≠0∧0<Kd (m++l) id then some (Kd (m++l) id) else none):=by
  intro l;induction l with
  | nil=>intro m h;rw[List.append_nil];exact h
  | cons n l ih=>
   intro m h;have e:m++n::l=(m++[n])++l:=by simp
   rw[e];refine ih (m++[n]) ?_;rw[Qem];unfold C5
   by_cases hr:Qz n.rk≠0
   ·rw[if_pos hr];refine⟨J9 _ _ h.1,fun id=>?_⟩;rw[Jp,Qce]
    by_cases e2:id=Qz n.rk
    ·rw[if_pos e2,if_pos e2.symm,if_pos ⟨by rw[e2];exact hr,by omega⟩]
     congr 1
     rw[Yn,h.2,←e2]
     split
     ·rfl
     ·rename_i h3;have h3:¬(id≠0∧0<Kd m id):=h3
      have:Kd m id=0:=by
       have:id≠0:=by rw[e2];exact hr
       exact Classical.byContradiction fun h4=>h3 ⟨this,by omega⟩
      rw[this];rfl
    ·have hz:(if Qz n.rk=id then 1 else 0)=0:=if_neg (fun e3=>e2 e3.symm);rw[if_neg e2,hz,Nat.add_zero];exact h.2 id
   ·rw[if_neg hr];refine⟨h.1,fun id=>?_⟩;rw[h.2,Qce]
    by_cases e2:Qz n.rk=id
    ·have:id=0:=by rw[←e2];exact Classical.byContradiction hr
     rw[if_neg (fun h=>h.1 this),if_neg (fun h=>h.1 this)]
    ·rw[if_neg e2,Nat.add_zero]
 have:=key l [] ⟨List.nodup_nil,fun id=>by rw[if_neg (fun h=>absurd h.2 (by simp[Kd]))];rfl⟩
 simpa using this
def hit(s:Sm)(l:List Nd)(id:Nat):Bool:=match Uv s.Ym id with
 | none=>false
 | some j=>A5 l j
def Qcr(s:Sm)(l:List Nd)(id:Nat):Nat:=Yn id s.ran+if hit s l id then 1 else 0
theorem Pk(k v:Nat)(l:List (Nat×Nat))(i:Nat):Yn i (Xl k v l)=if i=k then v else Yn i l:=by
 unfold Yn;rw[Jp];split <;> rfl
theorem Qdp(s:Sm)(l:List Nd)(hn:(s.Ym.map (·.id)).Nodup)(id:Nat):Yn id (Cn s l)=Qcr s l id:=by
 unfold Cn Qcr hit
 have key:∀(js:List Jo) (r:List (Nat×Nat)),(js.map (·.id)).Nodup→Yn id (js.foldl (fun r j=>if A5 l j then Xl j.id (Yn j.id r+1) r else r) r)=Yn id r+if (match Uv js id with|none=>false|some j=>A5 l j)=true then 1 else 0:=by
  intro js;induction js with
  | nil=>intro r _;rfl
  | cons j js ih=>
   intro r hn;rw[List.map_cons,List.nodup_cons]at hn;rw[List.foldl_cons,ih _ hn.2]
   have e:Uv (j::js) id=if j.id=id then some j else Uv js id:=by
    unfold Uv;rw[List.find?_cons]
    by_cases h:j.id=id
    ·rw[if_pos h,decide_eq_true h]
    ·rw[if_neg h,decide_eq_false h]
   rw[e]
   by_cases h:j.id=id
   ·have Vb:Uv js id=none:=List.find?_eq_none.2 fun x hx=>by
     have:x.id≠id:=fun e9=>hn.1 (List.mem_map.2 ⟨x,hx,by rw[e9,h]⟩);simp[this]
    rw[if_pos h,Vb];dsimp only
    by_cases hb:A5 l j=true
    ·rw[if_pos hb,if_pos hb,Pk,if_pos h.symm,h];rfl
    ·rw[if_neg hb,if_neg hb];rfl
   ·rw[if_neg h]
    by_cases hb:A5 l j=true
    ·rw[if_pos hb,Pk,if_neg (fun e9=>h e9.symm)]
    ·rw[if_neg hb]
 exact key s.Ym s.ran hn
def Qao(b:Nat)(g:Nat→Nat):Assn:=fun h=>∃l:List (Int×Value),(∀id:Nat,(Q1 (id:Int) l).getD (.int .i64 0)=.int .i64 (g id:Nat))∧Qk b .u32 l h
theorem Ent.Qao{b:Nat}{f:List (Nat×Nat)}{g:Nat→Nat}(h:∀id,g id=Yn id f)(Γ:List Assn):Ent (Sa b f::Γ) (Qao b g::Γ):=Ent.W9 Γ fun _ ⟨l,a,b⟩=>⟨l,fun id=>by rw[a,h],b⟩
theorem Ent.Zae{b:Nat}{f:List (Nat×Nat)}{g:Nat→Nat}(h:∀id,g id=Yn id f)(Γ:List Assn):Ent (BN.Qao b g::Γ) (Sa b f::Γ):=Ent.W9 Γ fun _ ⟨l,a,b⟩=>⟨l,fun id=>by rw[a,h],b⟩
section
variable {n:Nat}{md:Bool}{w0:WM md}{ρ:Env}{Γ Δ:List Assn}{φ:Act→World→Prop}
theorem S.Qfo(b:Nat)(g:Nat→Nat)[q:Pick (Qao b g) Γ Δ](f:∀l:List (Int×Value),(∀id:Nat,(Q1 (id:Int) l).getD (.int .i64 0)=.int .i64 (g id:Nat))→S n w0 ρ (Qk b .u32 l::Δ) φ):S n w0 ρ Γ φ:=by
 intro a w ha hs hx;obtain⟨h0,l0,h1,h2,d,l1,l2,⟨l,q1,q2⟩,s⟩:=hs.Qh q.Qh;exact f l q1 a w ha ⟨h0,l0,h1,h2,d,l1,l2,q2,s⟩ hx
theorem Ent.Nj{b:Nat}{g:Nat→Nat}{l:List (Int×Value)}(h:∀id:Nat,(Q1 (id:Int) l).getD (.int .i64 0)=.int .i64 (g id:Nat))(Γ:List Assn):Ent (Qk b .u32 l::Γ) (BN.Qao b g::Γ):=Ent.W9 Γ fun _ s=>⟨l,h,s⟩
end
theorem Qgb(js:List Jo)(id:Nat):Q1 (id:Int) (js.map joE)=(Uv js id).map fun j=>Value.agg (joC j).toArray:=by
 unfold Uv;induction js with
 | nil=>rfl
 | cons j js ih=>
  rw[List.map_cons,List.find?_cons];simp only[Q1]
  by_cases h:j.id=id
  ·rw[if_pos (by omega),decide_eq_true h];rfl
  ·rw[if_neg (by omega),decide_eq_false h];exact ih
theorem Qcl(z:Int)(v:Value)(l:List (Int×Value))(y:Int):Q1 y (Yd z v l)=if y=z then some v else Q1 y l:=by
 induction l with
 | nil=>
  simp only[Yd,Q1]
 | cons x l ih=>
  simp only[Yd]
  by_cases h:z=x.1
  ·rw[if_pos h];simp only[Q1]
   by_cases h2:y=z
   ·rw[if_pos h2,if_pos h2]
   ·rw[if_neg h2,if_neg h2,if_neg (by omega)]
  ·rw[if_neg h];simp only[Q1]
   by_cases h2:y=x.1
   ·rw[if_pos h2,if_pos h2,if_neg (by omega)]
   ·rw[if_neg h2,if_neg h2,ih]
theorem S.Qiu{n:Nat}{md:Bool}{w0:WM md}{ρ:Env}{Γ:List Assn}{φ:Act→World→Prop}(b:Nat){kk:IntKind}{l:List (Int×Value)}(l':List (Int×Value)){Δ:List Assn}[h:C9 Γ b kk l Δ](hl:l=l')(k:S n w0 ρ (Qk b kk l'::Δ) φ):S n w0 ρ Γ φ:=S.Qh h.Qh (by subst hl;exact k)
theorem Q7y{s:Sm}{l:List Nd}{id:Nat}(h:id∉keys (B9 l)):hit s l id=false:=by
 have h1:=(Qmw l).2 id;rw[Je.2 h]at h1;have h2:¬(id≠0∧0<Kd l id):=fun h2=>by rw[if_pos h2]at h1;cases h1
 unfold hit;cases hj:Uv s.Ym id with
 | none=>rfl
 | some j=>
  have hid:j.id=id:=by have h9:=List.find?_some hj;exact of_decide_eq_true h9
  cases hb:A5 l j with
  | false=>exact hb
  | true=>
   simp only[A5,Bool.and_eq_true,decide_eq_true_eq]at hb;rw[hid]at hb;exact absurd ⟨hb.1.1,hb.2⟩ h2
structure Zc3(s:Sm):Prop where
 tk:Lv s
 now:s.now+1≤4294967295
 am:Qj6 s.nd=true
 am2:Qj6 (s.nd.map (Q2 (s.now+1)))=true
 ws:G4 s.b
 o7:s.b.Qa.length≤700000
 n16:s.cn≤16
 rn:∀id,Yn id s.ran≤s.now
theorem Qtq(now:Nat)(n:Nd):(Q2 now n).Yi=n.Yi∧(Q2 now n).out=n.out∧(Q2 now n).up=n.up∧(Q2 now n).Qf=n.Qf:=by
 unfold Q2
 split
 ·split <;> exact⟨rfl,rfl,rfl,rfl⟩
 ·exact⟨rfl,rfl,rfl,rfl⟩
theorem qLe.tick{l:List Nd}{k:Nat}(h:qLe l k)(now:Nat):qLe (l.map (Q2 now)) k:=fun n hn=>by
 obtain⟨m,hm,rfl⟩:=List.mem_map.1 hn;obtain⟨e1,e2,_⟩:=Qtq now m;rw[e1,e2];exact h m hm
abbrev Qe9(s:Sm):List Nd:=if (Y3 s.b (s.now+1)).1≠0 then Vh (s.nd.map (Q2 (s.now+1))) else s.nd.map (Q2 (s.now+1))
theorem Qdi(s:Sm):Ku s=Vd {s with now:=s.now+1,ran:=Cn s (s.nd.map (Q2 (s.now+1))),b:=(Y3 s.b (s.now+1)).2,nd:=Qe9 s,ok:=s.ok&&stB s}:=rfl
set_option maxHeartbeats 8000000 in
theorem Qnt(p:Nat)(s:Sm)(hk:Zc3 s){W:World}(hW:H6 W):Spec Tryz.prog 55 [pt p] [SP p s,Xa W] fun Γ _ Θ=>Θ=SP p (Ku s)::Xa W::Γ:=by
 have hn1:=hk.tk.n1;have Ql6:=hk.now;have hlen:=hk.tk.len;have hkd:=hk.tk.d;have hki:=hk.tk.i;refine Zbd Tryz.func55 rfl Tryz.ntmps55 fun w0 Γ=>Zsh ?_;refine S.J4 p s fun b ps nv ns rb jb gb db wb iv dv wv hF=>?_;have hnn:=hF.nn;refine S.Qbf jb fun Ql9=>?_
 have hjn:(s.Ym.map (·.id)).Nodup:=by
  rw[List.map_map]at Ql9;refine List.pairwise_map.2 ((List.pairwise_map.1 Ql9).imp fun h e=>h ?_);exact congrArg (fun n:Nat=>(n:Int)) e
 refine S.Yf nv fun hv1 hv2 hv3=>?_;rw[List.length_map]at hv1;have hmx:maxLen≤9223372036854775807:=by unfold maxLen;omega
 obtain⟨L,hL⟩:∃L,L=s.nd.map (Q2 (s.now+1)):=⟨_,rfl⟩;have hLl:L.length=s.cn:=by rw[hL,List.length_map,hlen]
 refine ZY 6 (Zv (Fc rfl rfl (Qpc (by omega) (by omega))) (ZY 6 (Zp (S.makeMap .u32 rfl ?_))));intro b15;refine ZY 5 (S.Qiu b15 (ncE []) rfl (S.Yw p (smC {s with now:=s.now+1} b nv rb jb gb db wb iv dv wv).toArray rfl (ZY 8 ?_)));refine Zl (fun fz ρ' Γ'=>∃(e:Nat) (ns:List No) (cr:List (Nat×Nat)),fz=s.nd.length-e∧e≤s.nd.length∧cr=B9 (L.take e)∧ns.map (·.2)=L.take e++s.nd.drop e∧ρ'=[(0,pt p),(2,.map (some b15)),(19,nv.v),(20,.int .i64 (nv.n:Int)),(21,.int .i64 (e:Int))] ∧   Γ'=Qk b15 .u32 (ncE cr)::blk p 55 (smC {s with now:=s.now+1} b nv rb jb gb db wb iv dv wv).toArray::BP b s.b ps::own nv 103 1 (ns.map noV)::alls ns noB::Sa rb s.ran::Qk jb .u32 (s.Ym.map joE)::Qk gb .u32 (F4 s.gone)::Qk db .u32 (F4 s.done)::imgs iv s.Qe::Qe1 wb::Uz dv s.fu::Uz wv s.fu::Xa W::Γ) (m:=_) (⟨0,ns,[],rfl,by omega,rfl,by rw[List.take_zero,List.drop_zero];exact hF.nd,rfl,rfl⟩) ?_;rintro fz ρ' Γ' ⟨e,ns,cr,hfz,he,hcr,Ly,rfl,rfl⟩;refine ZY 5 ?_
 refine Zj ef (fun h1=>?_) (fun h1=>?_)
 ·refine S.Qp nv (by omega) fun nb nof Am _ _ _=>?_;obtain⟨x,hx⟩:=Yv (show e<s.nd.length by omega);have hLx:L[e]?=some (Q2 (s.now+1) x):=by rw[hL,List.getElem?_map,hx];rfl
  have hLt:L.take (e+1)=L.take e++[Q2 (s.now+1) x]:=by rw[List.take_add_one,hLx];rfl
  have hxx:(L.take e++s.nd.drop e)[e]?=some x:=by
   rw[List.getElem?_append_right (by rw[List.length_take];omega),List.length_take,Nat.min_eq_left (by omega),Nat.sub_self,List.getElem?_drop,Nat.add_zero];exact hx
  obtain⟨q,hq⟩:=Rp Ly hxx;obtain⟨m1,m2⟩:=De hq (Q2 (s.now+1) x)
  have Qjf:(ns.set e (q,Q2 (s.now+1) x)).map (·.2)=L.take (e+1)++s.nd.drop (e+1):=by
   rw[m2,Ly,List.set_append_right _ _ (by rw[List.length_take];omega),List.length_take,Nat.min_eq_left (by omega),Nat.sub_self,hLt,List.append_assoc]
   congr 1
   have Ao:=List.getElem?_eq_some_iff.1 hx;rw[List.drop_eq_getElem_cons Ao.1];rfl
  have ham:amB x.rk=true:=List.all_eq_true.1 hk.am x (List.mem_of_getElem? hx);have Zgt:amB (Q2 (s.now+1) x).rk=true:=List.all_eq_true.1 hk.am2 _ (by rw[←hL];exact List.mem_of_getElem? hLx);have Zcg:B9 (L.take (e+1))=C5 cr (Q2 (s.now+1) x):=by rw[hLt,Qem,hcr]
  have Zgm:∀id,Yn id cr≤1000:=fun id=>by
   rw[Yn,hcr,(Qmw _).2]
   split
   ·have:Kd (L.take e) id≤(L.take e).length:=List.length_filter_le _ _;rw[List.length_take]at this;have:=hk.tk.fu;show Kd (L.take e) id≤1000;have:=hk.n16;omega
   ·exact Nat.zero_le _
  refine S.conv (alls ns noB) (Ent.Wp noB hq _) (ZY 5 (Zv (Zx (e) ef (Am) ef (by omega)) ?_));refine Zv (Zo (nv) (e) ef (Am) (by rw[List.getElem?_map,hq];rfl)) ?_;refine ZY 8 (Zy (Zp (Zc1 Ze (Q1l q x (s.now+1) ham) ?_)));rintro v Θ rfl;refine ZY 4 (Zp (Zcp Ze (Qdj q (Q2 (s.now+1) x) Zgt) ?_));obtain⟨j0,hj0⟩:∃j0,j0=Qz (Q2 (s.now+1) x).rk:=⟨_,rfl⟩;rw[←hj0];refine S.Xb (NI q (Q2 (s.now+1) x)) (alls (ns.take e) noB) (alls (ns.drop (e+1)) noB) (Ent.Yl noB (x':=((q,Q2 (s.now+1) x):No)) hq _) ?_;rw[←m1];refine ZY 7 ?_
  refine Zj ef (fun h2=>?_) (fun h2=>?_)
  ·have Q28:C5 cr (Q2 (s.now+1) x)=Xl j0 (Yn j0 cr+1) cr:=by rw[C5,←hj0,if_pos (by omega)]
   have hlo:=Zgm j0;obtain⟨c0,hc0⟩:∃c0,c0=Yn j0 cr:=⟨_,rfl⟩;rw[←hc0]at Q28 hlo;refine ZY 3 ?_;refine Zv (Qj (.int .i64 (c0:Int)) Tryz.underlying44 Tryz.underlying31 Tryz.zv3.h rfl rfl rfl (by rw[Q63,hc0,Yn];cases Yg j0 cr <;> rfl)) (Zv (Za ef ef) (Zp (S.mapUpdate Tryz.underlying44 Tryz.underlying31 rfl rfl rfl rfl ?_)));rw[show ((c0:Int)+1)=((c0+1:Nat):Int) by omega,Q62];refine ZY 2 (S.Qiu b15 (ncE (B9 (L.take (e+1)))) (by rw[Zcg,Q28]) (Zv (Za ef ef) (ZY 2 ?_)));exact ZX (fz-1) (⟨e+1,ns.set e (q,Q2 (s.now+1) x),B9 (L.take (e+1)),by omega,by omega,rfl,Qjf,rfl,rfl⟩) (by omega)
  ·have Q28:C5 cr (Q2 (s.now+1) x)=cr:=by rw[C5,←hj0,if_neg (by omega)]
   refine ZY 2 (S.Qiu b15 (ncE (B9 (L.take (e+1)))) (by rw[Zcg,Q28]) (Zv (Za ef ef) (ZY 2 ?_)));exact ZX (fz-1) (⟨e+1,ns.set e (q,Q2 (s.now+1) x),B9 (L.take (e+1)),by omega,by omega,rfl,Qjf,rfl,rfl⟩) (by omega)
 ·rw[show L.take e=L by rw[show e=L.length by omega,List.take_length],show s.nd.drop e=[] by rw[show e=s.nd.length by omega,List.drop_length],List.append_nil]at Ly;rw[show L.take e=L by rw[show e=L.length by omega,List.take_length]]at hcr;obtain⟨CR,hCR⟩:∃CR,CR=cr:=⟨_,rfl⟩;rw[←hCR]at hcr ⊢;have hCR:=hcr;obtain⟨hcn,hcg⟩:=Qmw L;rw[←hCR]at hcn hcg;refine S.conv (Sa rb s.ran) (Ent.Qao (g:=fun id=>Yn id s.ran) (fun _=>rfl) _) (ZY 5 (Zp (S.range Tryz.underlying44 rfl rfl ?_)));intro r41;refine ZY 2 ?_;refine Zl (fun fz ρ' Γ'=>∃(left:List (Int×Value)) (cur:Option (Int×Value)) (jl:List (Nat×Nat)) (g:Nat→Nat),fz=left.length∧left=ncE jl∧(∀y∈jl,y∈CR)∧(keys jl).Nodup∧(∀id,g id=if id∈keys jl then Yn id s.ran else Qcr s L id)∧ρ'=[(0,pt p),(41,.pointer (some ⟨r41,0,none⟩))] ∧   Γ'=Kj r41 b15 .u32 (ncE CR) left cur::blk p 55 (smC {s with now:=s.now+1} b nv rb jb gb db wb iv dv wv).toArray::BP b s.b ps::own nv 103 1 (ns.map noV)::alls ns noB::Qao rb g::Qk jb .u32 (s.Ym.map joE)::Qk gb .u32 (F4 s.gone)::Qk db .u32 (F4 s.done)::imgs iv s.Qe::Qe1 wb::Uz dv s.fu::Uz wv s.fu::Xa W::Γ) (m:=_) (⟨ncE CR,none,CR,fun id=>Yn id s.ran,rfl,rfl,fun y hy=>hy,hcn,fun id=>by by_cases hi:id∈keys CR;(rw[if_pos hi]);(rw[if_neg hi,Qcr,Q7y (by rw[←hCR];exact hi)];rfl),rfl,rfl⟩) ?_;rintro fz ρ' Γ' ⟨left,cur,jl,g,hfz,Jt,Qgh,Zgd,hg,rfl,rfl⟩;refine ZY 2 ?_
  refine Zp (S.Yh rfl rfl (fun Zf5=>?_) (fun i42 z42 v42 Q2z=>?_))
  ·obtain rfl:jl=[]:=by
    rw[Zf5]at Jt;exact List.map_eq_nil_iff.1 Jt.symm
   refine S.conv (Qao rb g) (Ent.Zae (f:=Cn s L) (fun id=>by rw[hg,if_neg (by simp),Qdp s L hjn]) _) ?_;obtain⟨s3,Uq⟩:∃s3:Sm,s3={s with now:=s.now+1,ran:=Cn s L,b:=(Y3 s.b (s.now+1)).2,nd:=Qe9 s,ok:=s.ok&&stB s}:=⟨_,rfl⟩;have hT:Ku s=Vd s3:=by rw[Qdi,Uq,hL]
   have Qrn:Qe9 s=if (Y3 s.b (s.now+1)).1≠0 then Vh L else L:=by rw[hL]
   refine S.Us b s.b ps fun hok=>?_;obtain⟨_,hto⟩:=Tu hok hk.ws (now:=s.now+1) hk.now;have htb:=Sm3.tick s.b (s.now+1);have Zjj:=htb.im;have Zjk:=htb.dn;have ho7:=hk.o7
   have hqL:qLe (Qe9 s) s.fu:=by
    rw[Qrn]
    split
    ·rw[hL];exact(hk.tk.q.tick _).Qf
    ·rw[hL];exact hk.tk.q.tick _
   have hlL:(Qe9 s).length=s.cn:=by
    rw[Qrn]
    split
    ·rw[H0,hLl]
    ·exact hLl
   have Ry:Lv s3:=by
    rw[Uq];exact⟨hlL,hn1,hqL,hk.tk.im,hk.tk.fu,by show (Y3 s.b (s.now+1)).2.Qa.length≤_;omega,by show (Y3 s.b (s.now+1)).2.Qe.length≤_;omega,by show (Y3 s.b (s.now+1)).2.done.length≤_;omega⟩
   refine ZY 7 ?_;refine Zd ([blk p 55 (smC {s with now:=s.now+1} b nv rb jb gb db wb iv dv wv).toArray]) [] (Zra 0 8) (ZY 8 ?_);refine Z1 (i:=8) ef ef ?_;refine  (Zcp Ze (Q87 b s.b ps (s.now+1) hk.now hk.ws hk.o7 hW) ?_);refine Zk [9] (Zy ?_);refine ZD ?_
   refine Zj ef (fun h5=>?_) (fun h5=>?_)
   ·rw[if_pos h5]at Qrn;refine S.Qp nv (by omega) fun nb nof Am _ _ _=>?_;obtain⟨x0,Ta⟩:=Yv (show 0<L.length by omega);obtain⟨q0,hq0⟩:=Rp Ly Ta;have hsw:Vh L=L.set 0 {x0 with Qf:=true}:=E1 Ta;obtain⟨m1,m2⟩:=De hq0 {x0 with Qf:=true};rw[Ly]at m2;refine ZY 5 (Zv (Zx (0) ef (Am) ef (by omega)) ?_);refine Zv (Zo (nv) (0) ef (Am) (by rw[List.getElem?_map,hq0];rfl)) ?_;refine S.conv (alls ns noB) (Ent.Wp noB hq0 _) ?_;refine S.Fu q0 x0 fun nrb niv nov rs os hN=>(ZY 4 ?_);refine S.Z7 q0 {x0 with Qf:=true} nrb niv nov rs os ⟨hN.rk,hN.os,hN.i,hN.o⟩ (S.Xb (noB ((q0,{x0 with Qf:=true}):No)) (alls (ns.take 0) noB) (alls (ns.drop (0+1)) noB) (Ent.Yl noB (x':=((q0,{x0 with Qf:=true}):No)) hq0 _) ?_);rw[←m1];refine S.sub (smX p s3 b ps nv (ns.set 0 (q0,{x0 with Qf:=true})) rb jb gb db wb iv dv wv (Xa W::Γ)) (e:=by subst Uq;infer_instance) ?_;refine S.Xo p s3 b ps nv (ns.set 0 (q0,{x0 with Qf:=true})) rb jb gb db wb iv dv wv ⟨by rw[Uq];show _=Qe9 s;rw[m2,Qrn,hsw],by rw[Uq];show nv.n=(Qe9 s).length;omega,by rw[Uq];exact hF.im⟩ (ZY 2 (Zp (Zc1 Ze (Gc p s3 Ry) ?_)));rintro v Θ rfl;refine Zy ?_;exact Zfn ef Zq (by rw[hT])
   ·rw[if_neg h5]at Qrn;refine Zy ?_;refine S.sub (smX p s3 b ps nv ns rb jb gb db wb iv dv wv (Xa W::Γ)) (e:=by subst Uq;infer_instance) ?_;refine S.Xo p s3 b ps nv ns rb jb gb db wb iv dv wv ⟨by rw[Uq];show _=Qe9 s;rw[Ly,Qrn],by rw[Uq];show nv.n=(Qe9 s).length;omega,by rw[Uq];exact hF.im⟩ (ZY 2 (Zp (Zc1 Ze (Gc p s3 Ry) ?_)));rintro v Θ rfl;refine Zy ?_;exact Zfn ef Zq (by rw[hT])
  ·obtain⟨x,hx,hxe⟩:∃x,jl[i42]?=some x∧((x.1:Int),Value.int .i64 (x.2:Int))=(z42,v42):=by
    rw[Jt,List.getElem?_map]at Q2z;exact Option.map_eq_some_iff.1 Q2z
   simp only[Prod.mk.injEq]at hxe;obtain⟨rfl,rfl⟩:=hxe;have Js:=List.mem_of_getElem? hx;have Ub:=U3 (k:=x.1) (v:=x.2) hcn (Qgh x Js);rw[hcg]at Ub
   obtain⟨Ta,hxc,hxk⟩:x.1≠0∧0<Kd L x.1∧Kd L x.1=x.2:=by
    split at Ub
    ·rename_i h;exact⟨h.1,h.2,Option.some.inj Ub⟩
    ·cases Ub
   have An:(left.eraseIdx i42).length<fz:=by
    rw[hfz,List.length_eraseIdx_of_lt (by have:=(List.getElem?_eq_some_iff.1 Q2z).1;exact this)];have:=(List.getElem?_eq_some_iff.1 Q2z).1;omega
   have hle:(left.eraseIdx i42)=ncE (jl.eraseIdx i42):=by rw[Jt];exact(X1 _ jl i42).symm
   have Qeb:∀y∈jl.eraseIdx i42,y∈CR:=fun y hy=>Qgh y (List.mem_of_mem_eraseIdx hy);have Tb:=Dc hx;have Qc1:(x.1::keys (jl.eraseIdx i42)).Nodup:=(Tb.map Prod.fst).nodup_iff.1 Zgd;rw[List.nodup_cons]at Qc1;have hkm:∀id,id∈keys jl↔id=x.1∨id∈keys (jl.eraseIdx i42):=fun id=>((Tb.map Prod.fst).mem_iff).trans List.mem_cons;have hgo:g x.1=Yn x.1 s.ran:=by rw[hg,if_pos ((hkm _).2 (.inl rfl))]
   have hrn:=hk.rn x.1;refine ZY 8 (Zv (Gl rfl) (ZY 6 ?_))
   rcases hj:Uv s.Ym x.1 with _|j
   ·have Qc2:hit s L x.1=false:=by rw[hit,hj]
    refine ZY 7 ?_;refine Zv (Qj (.agg #[.int .u32 0,.int .u8 0,.int .i64 0,.int .i64 0,.int .u8 0,.int .i64 0]) Tryz.underlying49 Tryz.underlying31 Tryz.Qtb.h rfl rfl rfl (by rw[Qgb,hj];rfl)) (ZY 3 ?_)
    refine Zj ef (fun h4=>?_) (fun h4=>?_)
    ·exact absurd h4 (by omega)
    ·have Qc2:hit s L x.1=false:=by
      first
       | exact Qc2
       | (rw[hit,hj];show A5 L j=false;rw[A5,Qw5,decide_eq_false (show ¬Kd L x.1=j.k by omega),Bool.and_false];rfl)
     have hg2:∀id,g id=if id∈keys (jl.eraseIdx i42) then Yn id s.ran else Qcr s L id:=fun id=>by
      rw[hg]
      by_cases hi:id=x.1
      ·rw[if_pos ((hkm id).2 (.inl hi)),if_neg (by rw[hi];exact Qc1.1),Qcr,hi,Qc2];rfl
      ·by_cases h9:id∈keys (jl.eraseIdx i42)
       ·rw[if_pos h9,if_pos ((hkm id).2 (.inr h9))]
       ·rw[if_neg h9,if_neg (fun h=>by rcases (hkm id).1 h with h|h;exact hi h;exact h9 h)]
     refine Zy ?_;first|exact ZX (left.eraseIdx i42).length ⟨left.eraseIdx i42,some ((x.1:Int),Value.int .i64 (x.2:Int)),jl.eraseIdx i42,fun id=>if id=x.1 then g0+1 else g id,rfl,hle,Qeb,Qc1.2,hg2,rfl,rfl⟩ An|exact ZX (left.eraseIdx i42).length ⟨left.eraseIdx i42,some ((x.1:Int),Value.int .i64 (x.2:Int)),jl.eraseIdx i42,g,rfl,hle,Qeb,Qc1.2,hg2,rfl,rfl⟩ An
   ·have Qw5:j.id=x.1:=by have h9:=List.find?_some hj;exact of_decide_eq_true h9
    refine ZY 7 ?_;refine Zv (Qj (.agg (joC j).toArray) Tryz.underlying49 Tryz.underlying31 Tryz.Qtb.h rfl rfl rfl (by rw[Qgb,hj];rfl)) (ZY 3 ?_)
    refine Zj ef (fun h4=>?_) (fun h4=>?_)
    ·have Qc2:hit s L x.1=true:=by rw[hit,hj];simp only[A5,Qw5,Bool.and_eq_true,decide_eq_true_eq];exact⟨⟨Ta,by omega⟩,hxc⟩
     refine S.Qfo rb g fun lst Q2s=>?_;obtain⟨g0,P0⟩:∃g0,g0=g x.1:=⟨_,rfl⟩;have hl0:=Q2s x.1;rw[←P0]at hl0 hgo;refine ZY 6 (Zv (Qj (.int .i64 (g0:Int)) Tryz.underlying44 Tryz.underlying31 Tryz.zv3.h rfl rfl rfl (hl0.symm)) (Zv (Za ef ef) (Zp (S.mapUpdate Tryz.underlying44 Tryz.underlying31 rfl rfl rfl rfl (Zy ?_)))))
     refine S.conv (Qk rb .u32 (Yd (x.1:Int) (.int .i64 ((g0:Int)+1)) lst)) (Ent.Nj (g:=fun id=>if id=x.1 then g0+1 else g id) (fun id=>by
      rw[Qcl]
      by_cases hi:id=x.1
      ·rw[if_pos (by omega),if_pos hi];show Value.int .i64 ((g0:Int)+1)=_;congr 1
      ·rw[if_neg (by omega),if_neg hi];exact Q2s id) _) ?_
     have hg2:∀id,(fun id=>if id=x.1 then g0+1 else g id) id=if id∈keys (jl.eraseIdx i42) then Yn id s.ran else Qcr s L id:=fun id=>by
      show (if id=x.1 then g0+1 else g id)=_
      by_cases hi:id=x.1
      ·rw[if_pos hi,if_neg (by rw[hi];exact Qc1.1),Qcr,hi,Qc2,hgo];rfl
      ·rw[if_neg hi,hg]
       by_cases h9:id∈keys (jl.eraseIdx i42)
       ·rw[if_pos h9,if_pos ((hkm id).2 (.inr h9))]
       ·rw[if_neg h9,if_neg (fun h=>by rcases (hkm id).1 h with h|h;exact hi h;exact h9 h)]
     first|exact ZX (left.eraseIdx i42).length ⟨left.eraseIdx i42,some ((x.1:Int),Value.int .i64 (x.2:Int)),jl.eraseIdx i42,fun id=>if id=x.1 then g0+1 else g id,rfl,hle,Qeb,Qc1.2,hg2,rfl,rfl⟩ An|exact ZX (left.eraseIdx i42).length ⟨left.eraseIdx i42,some ((x.1:Int),Value.int .i64 (x.2:Int)),jl.eraseIdx i42,g,rfl,hle,Qeb,Qc1.2,hg2,rfl,rfl⟩ An
    ·have Qc2:hit s L x.1=false:=by
      first
       | exact Qc2
       | (rw[hit,hj];show A5 L j=false;rw[A5,Qw5,decide_eq_false (show ¬Kd L x.1=j.k by omega),Bool.and_false];rfl)
     have hg2:∀id,g id=if id∈keys (jl.eraseIdx i42) then Yn id s.ran else Qcr s L id:=fun id=>by
      rw[hg]
      by_cases hi:id=x.1
      ·rw[if_pos ((hkm id).2 (.inl hi)),if_neg (by rw[hi];exact Qc1.1),Qcr,hi,Qc2];rfl
      ·by_cases h9:id∈keys (jl.eraseIdx i42)
       ·rw[if_pos h9,if_pos ((hkm id).2 (.inr h9))]
       ·rw[if_neg h9,if_neg (fun h=>by rcases (hkm id).1 h with h|h;exact hi h;exact h9 h)]
     refine Zy ?_;first|exact ZX (left.eraseIdx i42).length ⟨left.eraseIdx i42,some ((x.1:Int),Value.int .i64 (x.2:Int)),jl.eraseIdx i42,fun id=>if id=x.1 then g0+1 else g id,rfl,hle,Qeb,Qc1.2,hg2,rfl,rfl⟩ An|exact ZX (left.eraseIdx i42).length ⟨left.eraseIdx i42,some ((x.1:Int),Value.int .i64 (x.2:Int)),jl.eraseIdx i42,g,rfl,hle,Qeb,Qc1.2,hg2,rfl,rfl⟩ An
theorem Ez{s:Sm}(h:tkB s=true):Lv s:=by
 simp only[tkB,Bool.and_eq_true,decide_eq_true_eq,List.all_eq_true]at h;obtain⟨⟨⟨⟨⟨⟨⟨h1,h2⟩,h3⟩,h4⟩,h5⟩,h6⟩,h7⟩,h8⟩:=h;exact⟨h1,h2,h3,h4,h5,h6,h7,h8⟩
theorem Qio{l:List (Nat×Nat)}{k:Nat}(h:∀x∈l,x.2≤k)(id:Nat):Yn id l≤k:=by
 unfold Yn;cases hg:Yg id l with
 | none=>exact Nat.zero_le _
 | some v=>exact h _ (Eb hg)
theorem Qtw{s:Sm}(h:stB s=true):Zc3 s:=by
 simp only[stB,Bool.and_eq_true,decide_eq_true_eq]at h;obtain⟨⟨⟨⟨⟨⟨⟨h1,h2⟩,h3⟩,h4⟩,h5⟩,h6⟩,h7⟩,h8⟩:=h;refine⟨Ez h1,h2,h3,h4,fun x hx h0=>?_,h6,h7,fun id=>Qio (fun x hx=>of_decide_eq_true (List.all_eq_true.1 h8 x hx)) id⟩;have:=List.all_eq_true.1 h5 x hx;rw[Bool.or_eq_true,decide_eq_true_eq]at this
 rcases this with h9|h9
 ·exact absurd h0 h9
 ·exact Option.isNone_iff_eq_none.1 h9
section
variable {s:Sm}{i:Nat}{n:Nd}
theorem Te{back:Bool}(h:s.nd[i]?=some n)(hu:n.up=false):Zt s i back=(false,s):=by rw[Zt,h];dsimp only;rw[if_pos hu]
theorem Qca(h:s.nd[i]?=some n)(ho:n.out=[]):Zt s i true=(false,s):=by
 rw[Zt,h];dsimp only;rw[ho];split <;> rfl
theorem Qgs{x:Nt×List Int}{l:List (Nt×List Int)}(h:s.nd[i]?=some n)(hu:¬n.up=false)(ho:n.out=x::l):Zt s i true=(true,Vd {Lf s i n x l with ok:=s.ok&&ntB x&&tkB s&&decide (s.b.Qa.length≤800000)&&decide (s.b.Qe.length≤800000)&&tkB (Lf s i n x l)}):=by rw[Zt,h];dsimp only;rw[if_neg hu,if_pos rfl,ho]
theorem Qms(h:s.nd[i]?=some n)(ho:n.Yi=[]):Zt s i false=(false,s):=by
 rw[Zt,h];dsimp only;rw[ho];split <;> rfl
theorem Qxx{x:Nt}{l:List Nt}(h:s.nd[i]?=some n)(hu:¬n.up=false)(ho:n.Yi=x::l):Zt s i false=(true,{Q86 s i n x l with ok:=s.ok&&amB n.rk&&tkB s}):=by rw[Zt,h];dsimp only;rw[if_neg hu,if_neg (by decide),ho]
end
theorem Lv.Ar{s:Sm}(h:Lv s)(o:Bool):Lv {s with ok:=o}:=⟨h.len,h.n1,h.q,h.im,h.fu,h.o,h.i,h.d⟩
theorem Ki(s:Sm):(Vd s).ok=s.ok:=rfl
set_option maxHeartbeats 8000000 in
theorem P6(p:Nat)(s:Sm)(i:Nat)(back:Bool)(hi:i<s.nd.length)(hok:(Zt s i back).2.ok=true):Spec Tryz.prog 57 [pt p,.int .i64 (i:Int),.bool back] [SP p s] fun Γ v Θ=>v=.bool (Zt s i back).1∧Θ=SP p (Zt s i back).2::Γ:=by
 obtain⟨n,hn⟩:=Yv hi;refine Zbd Tryz.func57 rfl Tryz.ntmps57 fun w0 Γ=>Zsh ?_;refine S.J4 p s fun b ps nv ns rb jb gb db wb iv dv wv hF=>?_;have hnn:=hF.nn;refine S.Qp nv (by omega) fun nb nof Am _ _ _=>?_;obtain⟨q,hq⟩:=Rp hF.nd hn;refine S.conv (alls ns noB) (Ent.Wp noB hq _) ?_;refine S.Fu q n fun nrb niv nov rs os hN=>?_;have hNi:=hN.i;have hNo:=hN.o;refine ZY 5 ?_
 cases back
 ·skip
  refine ZY 6 (Zv (Zx (i) ef (Am) ef (by omega)) ?_);refine Zv (Zo (nv) (i) ef (Am) (by rw[List.getElem?_map,hq];rfl)) ?_;refine ZY 8 (ZY 3 ?_)
  refine Zi ef (fun h1=>?_) (fun h1=>?_)
  ·have hd:=Te (back:=false) hn (by simpa using h1);refine ZY 5 (S.Z7 q n nrb niv nov rs os hN (S.Xb (noB ((q,n):No)) (alls (ns.take i) noB) (alls (ns.drop (i+1)) noB) (Ent.Xc noB hq _) (S.Xo p s b ps nv ns rb jb gb db wb iv dv wv hF ?_)));exact Zf ef Zq (⟨by rw[hd];rfl,by rw[hd]⟩)
  ·have hup:¬n.up=false:=by simpa using h1
   refine ZY 8 (ZY 8 (ZY 8 (ZY 6 ?_)))
   refine Zj ef (fun h3=>?_) (fun h3=>?_)
   ·obtain⟨x,l,Mu⟩:∃x l,n.Yi=x::l:=by
     cases ho:n.Yi with
     | nil=>exfalso;rw[ho,List.length_nil]at hNi;omega
     | cons x l=>exact⟨x,l,rfl⟩
    have hd:=Qxx hn hup Mu;rw[hd]at hok ⊢;simp only[Bool.and_eq_true]at hok;obtain⟨⟨k1,k2⟩,k3⟩:=hok;have hk:=Ez k3;have hko:=(hk.q n (List.mem_of_getElem? hn)).2;have hkf:=hk.fu;have hlo:1≤niv.n:=by rw[Mu,List.length_cons]at hNi;omega
    refine S.conv (own niv 72 13 (n.Yi.flatMap niC)) (show Ent _ (own niv 72 13 ((x::l).flatMap niC)::_) by rw[Mu];exact Ent.refl _) ?_;refine S.Qp niv (by omega) fun ob oof hoa _ _ _=>?_;obtain⟨s3,Uq⟩:∃s3:Sm,s3={Q86 s i n x l with ok:=s.ok&&amB n.rk&&tkB s}:=⟨_,rfl⟩;rw[←Uq];obtain⟨m1,m2⟩:=De hq (Q8 {n with Yi:=l} x);rw[hF.nd]at m2;refine ZY 6 (Zv (Zx (0) ef (hoa) ef (by omega)) ?_);refine Zv (X4 (niv) (0*13) [_,_,_,_,_,_,_,_,_,_,_,_,_] Eo.h rfl hoa (by first|rfl|exact Nat.add_assoc _ _ _|omega) rfl (Y8 (enc:=niC) (sz:=13) (fun _=>rfl) (show (x::l)[0]?=some x from rfl))) (Zp (S.alloc Tryz.z72.h rfl ?_));intro b9;refine Zp (Zs ef ef (cs':=[_,_,_,_,_,_,_,_,_,_,_,_,_]) ef (ZY 8 (Zp (S.L2 (s:=niv) (1) Eo.h rfl rfl rfl (hlo) rfl ?_))));intro niv2 Zbu;rw[show ((x::l).flatMap niC).drop (1*13)=l.flatMap niC from List.drop_left' rfl];refine ZY 8 ?_;refine S.Z7 q {n with Yi:=l} nrb niv2 nov rs os ⟨hN.rk,hN.os,by rw[Mu,List.length_cons]at hNi;show niv2.n=l.length;omega,hN.o⟩ ?_;refine Zp (Zc1 Ze (Zc2 q {n with Yi:=l} x k2 (by show n.out.length≤_;omega)) ?_);rintro v Θ rfl;refine ZY 3 (S.Xb (NI q (Q8 {n with Yi:=l} x)) (alls (ns.take i) noB) (alls (ns.drop (i+1)) noB) (Ent.Yl noB (x':=((q,Q8 {n with Yi:=l} x):No)) hq _) ?_);rw[←m1];refine S.conv (Uz dv s.fu) (Ent.Hm dv (k':=s.fu+1) (by omega) _) (S.conv (Uz wv s.fu) (Ent.Hm wv (k':=s.fu+1) (by omega) _) ?_);refine S.sub (smX p s3 b ps nv (ns.set i (q,Q8 {n with Yi:=l} x)) rb jb gb db wb iv dv wv Γ) (e:=by subst Uq;infer_instance) ?_;refine S.Xo p s3 b ps nv (ns.set i (q,Q8 {n with Yi:=l} x)) rb jb gb db wb iv dv wv ⟨by rw[Uq];exact m2,by rw[Uq];show nv.n=(s.nd.set i _).length;rw[List.length_set];exact hnn,by rw[Uq];exact hF.im⟩ (ZY 3 ?_);exact Zf ef Zq (⟨rfl,rfl⟩)
   ·have hd:=Qms hn (show n.Yi=[] from List.eq_nil_of_length_eq_zero (by omega));refine ZY 6 (S.Z7 q n nrb niv nov rs os hN (S.Xb (noB ((q,n):No)) (alls (ns.take i) noB) (alls (ns.drop (i+1)) noB) (Ent.Xc noB hq _) (S.Xo p s b ps nv ns rb jb gb db wb iv dv wv hF ?_)));exact Zf ef Zq (⟨by rw[hd];rfl,by rw[hd]⟩)
 ·skip
  refine ZY 6 (Zv (Zx (i) ef (Am) ef (by omega)) ?_);refine Zv (Zo (nv) (i) ef (Am) (by rw[List.getElem?_map,hq];rfl)) ?_;refine ZY 8 (ZY 3 ?_)
  refine Zi ef (fun h1=>?_) (fun h1=>?_)
  ·have hd:=Te (back:=true) hn (by simpa using h1);refine ZY 5 (S.Z7 q n nrb niv nov rs os hN (S.Xb (noB ((q,n):No)) (alls (ns.take i) noB) (alls (ns.drop (i+1)) noB) (Ent.Xc noB hq _) (S.Xo p s b ps nv ns rb jb gb db wb iv dv wv hF ?_)));exact Zf ef Zq (⟨by rw[hd];rfl,by rw[hd]⟩)
  ·have hup:¬n.up=false:=by simpa using h1
   refine ZY 8 (ZY 6 ?_)
   refine Zj ef (fun h2=>?_) (fun h2=>?_)
   ·obtain⟨x,l,Mu⟩:∃x l,n.out=x::l:=by
     cases ho:n.out with
     | nil=>exfalso;rw[ho,List.length_nil]at hNo;omega
     | cons x l=>exact⟨x,l,rfl⟩
    obtain⟨o,os2,rfl⟩:∃o os2,os=o::os2:=by
     cases ho:os with
     | nil=>have:=hN.os;rw[ho,Mu]at this;cases this
     | cons o os2=>exact⟨o,os2,rfl⟩
    have hoo:=hN.os;rw[Mu,List.map_cons,List.cons.injEq]at hoo;obtain⟨rfl,rfl⟩:=hoo;have hd:=Qgs hn hup Mu;rw[hd]at hok ⊢;rw[Ki]at hok;simp only[Bool.and_eq_true,decide_eq_true_eq]at hok;obtain⟨⟨⟨⟨⟨k1,k2⟩,k3⟩,k4⟩,k5⟩,k6⟩:=hok;have k2':=k2;simp only[ntB,Bool.and_eq_true,decide_eq_true_eq]at k2';obtain⟨⟨⟨e1,e2⟩,e3⟩,e4⟩:=k2';have hlo:1≤nov.n:=by rw[Mu,List.length_cons]at hNo;omega
    refine S.Qp nov (by omega) fun ob oof hoa _ _ _=>(S.conv (alls (o::os2) otB) (Ent.Gx otB o os2 _) ?_);refine S.Yf o.v fun Zbr Wf D5=>?_;rw[Qc5,Nat.mul_one,Nat.mul_one]at Zbr;obtain⟨s3,Uq⟩:∃s3:Sm,s3={Lf s i n (otR o) (os2.map otR) with ok:=s.ok&&ntB (otR o)&&tkB s&&decide (s.b.Qa.length≤800000)&&decide (s.b.Qe.length≤800000)&&tkB (Lf s i n (otR o) (os2.map otR))}:=⟨_,rfl⟩;have Ry:Lv s3:=by rw[Uq];exact(Ez (s:=Lf s i n (otR o) (os2.map otR)) k6).Ar _
    rw[←Uq];obtain⟨m1,m2⟩:=De hq {n with out:=os2.map otR};rw[hF.nd]at m2;refine ZY 6 (Zv (Zx (0) ef (hoa) ef (by omega)) ?_);refine Zv (X4 (nov) (0*13) [_,_,_,_,_,_,_,_,_,_,_,_,_] Eo.h rfl hoa (by first|rfl|exact Nat.add_assoc _ _ _|omega) rfl (Y8 (enc:=otC) (sz:=13) (fun _=>rfl) (show (o::os2)[0]?=some o from rfl))) (Zp (S.alloc Tryz.z72.h rfl ?_));intro b8;refine Zp (Zs ef ef (cs':=[_,_,_,_,_,_,_,_,_,_,_,_,_]) ef (ZY 8 (Zp (S.L2 (s:=nov) (1) Eo.h rfl rfl rfl (hlo) rfl ?_))));intro nov2 Zhz;rw[show ((o::os2).flatMap otC).drop (1*13)=os2.flatMap otC from List.drop_left' (Q1d o)];refine ZY 5 ?_;refine Zd ([blk p 55 (smC s b nv rb jb gb db wb iv dv wv).toArray,blk b8 72 (otC o).toArray]) [] (Zra 0 6) (ZY 6 ?_);refine Z1 (i:=6) ef ef ?_;refine  (Zcp Ze (Q9g b s.b ps i o.x (otB o) o.v o.bs Zbr.symm e4 RdS.own ⟨e2,e3⟩ e1 (by omega) (by omega)) ?_);refine Zk [] ?_;refine ZD (ZY 3 ?_);refine S.Z7 q {n with out:=os2.map otR} nrb niv nov2 rs os2 ⟨hN.rk,rfl,hN.i,by rw[Mu,List.length_cons]at hNo;show nov2.n=(os2.map otR).length;omega⟩ (S.Xb (noB ((q,{n with out:=os2.map otR}):No)) (alls (ns.take i) noB) (alls (ns.drop (i+1)) noB) (Ent.Yl noB (x':=((q,{n with out:=os2.map otR}):No)) hq _) ?_);rw[←m1];refine S.sub (smX p s3 b ps nv (ns.set i (q,{n with out:=os2.map otR})) rb jb gb db wb iv dv wv Γ) (e:=by subst Uq;infer_instance) ?_;refine S.Xo p s3 b ps nv (ns.set i (q,{n with out:=os2.map otR})) rb jb gb db wb iv dv wv ⟨by rw[Uq];exact m2,by rw[Uq];show nv.n=(s.nd.set i _).length;rw[List.length_set];exact hnn,by rw[Uq];exact hF.im⟩ (Zp (Zc1 Ze (Gc p s3 Ry) ?_));rintro v Θ rfl;refine ZY 6 ?_;exact Zf ef Zq (⟨rfl,rfl⟩)
   ·have hd:=Qca hn (show n.out=[] from List.eq_nil_of_length_eq_zero (by omega));refine ZY 8 (ZY 8 (ZY 6 (S.Z7 q n nrb niv nov rs os hN (S.Xb (noB ((q,n):No)) (alls (ns.take i) noB) (alls (ns.drop (i+1)) noB) (Ent.Xc noB hq _) (S.Xo p s b ps nv ns rb jb gb db wb iv dv wv hF ?_)))));exact Zf ef Zq (⟨by rw[hd];rfl,by rw[hd]⟩)
theorem Qu4{s:Sm}{ok:Bool}(h:s.Qe=[]):Z5 s ok=(false,s):=by rw[Z5,h]
theorem Qoi{s:Sm}{ok:Bool}{x:Im}{l:List Im}(h:s.Qe=x::l):Z5 s ok=(true,Vd {Qfu s x l ok with ok:=s.ok&&tkB s&&decide (s.b.Qa.length≤800000)&&decide (s.b.done.length≤800000)&&tkB (Qfu s x l ok)}):=by rw[Z5,h]
set_option maxHeartbeats 4000000 in
theorem Qds(p:Nat)(s:Sm)(ok:Bool)(hok:(Z5 s ok).2.ok=true):Spec Tryz.prog 58 [pt p,.bool ok] [SP p s] fun Γ v Θ=>v=.bool (Z5 s ok).1∧Θ=SP p (Z5 s ok).2::Γ:=by
 refine Zbd Tryz.func58 rfl Tryz.ntmps58 fun w0 Γ=>Zsh ?_;refine S.J4 p s fun b ps nv ns rb jb gb db wb iv dv wv hF=>?_;have him:=hF.im;refine ZY 8 (ZY 6 ?_)
 refine Zj ef (fun h1=>?_) (fun h1=>?_)
 ·have hd:=Qu4 (ok:=ok) (show s.Qe=[] from List.eq_nil_of_length_eq_zero (by omega));refine ZY 5 (S.Xo p s b ps nv ns rb jb gb db wb iv dv wv hF ?_);exact Zf ef Zq (⟨by rw[hd];rfl,by rw[hd]⟩)
 ·obtain⟨x,l,Mu⟩:∃x l,s.Qe=x::l:=by
   cases ho:s.Qe with
   | nil=>exfalso;rw[ho,List.length_nil]at him;omega
   | cons x l=>exact⟨x,l,rfl⟩
  have hd:=Qoi (ok:=ok) Mu;rw[hd]at hok;rw[Ki]at hok;simp only[Bool.and_eq_true,decide_eq_true_eq]at hok;obtain⟨⟨⟨⟨k1,k2⟩,k3⟩,k4⟩,k5⟩:=hok;obtain⟨s3,Uq⟩:∃s3:Sm,s3={Qfu s x l ok with ok:=s.ok&&tkB s&&decide (s.b.Qa.length≤800000)&&decide (s.b.done.length≤800000)&&tkB (Qfu s x l ok)}:=⟨_,rfl⟩;have Ry:Lv s3:=by rw[Uq];exact(Ez (s:=Qfu s x l ok) k5).Ar _
  rw[←Uq]at hd;refine S.Eh iv s.Qe fun io hio=>?_
  obtain⟨o,io2,rfl⟩:∃o io2,io=o::io2:=by
   cases ho:io with
   | nil=>rw[ho,Mu]at hio;cases hio
   | cons o io2=>exact⟨o,io2,rfl⟩
  rw[Mu,List.map_cons,List.cons.injEq]at hio;obtain⟨rfl,rfl⟩:=hio;have hlo:1≤iv.n:=by rw[Mu,List.length_cons]at him;omega
  refine S.Qp iv (by omega) fun ob oof hoa _ _ _=>(ZY 7 (Zv (Zx (0) ef (hoa) ef (by omega)) ?_));refine Zv (X4 (iv) (0*4) [_,_,_,_] Eo.h rfl hoa (by first|rfl|exact Nat.add_assoc _ _ _|omega) rfl (Y8 (enc:=igC) (sz:=4) (fun _=>rfl) (show (o::io2)[0]?=some o from rfl))) (Zp (S.alloc Tryz.z60.h rfl ?_));intro b5;refine Zp (Zs ef ef (cs':=[_,_,_,_]) ef (ZY 8 (Zp (S.L2 (s:=iv) (1) Eo.h rfl rfl rfl (hlo) rfl ?_))));intro iv2 Zb6;rw[show ((o::io2).flatMap igC).drop (1*4)=io2.flatMap igC from List.drop_left' rfl];refine ZY 5 ?_;refine Zd ([blk p 55 (smC s b nv rb jb gb db wb iv2 dv wv).toArray,blk b5 60 (igC o).toArray]) [] (Zra 0 9) (ZY 8 (Zy ?_));refine Z1 (i:=9) ef ef ?_;refine  (Zcp Ze (Qki b s.b ps o.2.Qm o.2.ver ok (by omega) (by omega)) ?_);refine Zk [] ?_;refine ZD (ZY 3 (S.conv (alls (o::io2) igB) ((Ent.Gx igB o io2 _).trans (Ent.drop _ _)) (S.Wj (own iv2 60 4 (io2.flatMap igC)) (alls io2 igB) (Ent.Ts iv2 io2 _) ?_)));refine S.sub (smX p s3 b ps nv ns rb jb gb db wb iv2 dv wv Γ) (e:=by subst Uq;infer_instance) ?_;refine S.Xo p s3 b ps nv ns rb jb gb db wb iv2 dv wv ⟨by rw[Uq];exact hF.nd,by rw[Uq];exact hF.nn,by rw[Uq];rw[Mu,List.length_cons]at him;show iv2.n=(io2.map _).length;omega⟩ (Zp (Zc1 Ze (Gc p s3 Ry) ?_));rintro v Θ rfl;refine ZY 6 ?_;exact Zf ef Zq (⟨by rw[hd];rfl,by rw[hd]⟩)
theorem Gt{s:Sm}{i:Nat}{back:Bool}(h:(Zt s i back).2.ok=true):s.ok=true:=by
 cases hn:s.nd[i]? with
 | none=>rw[Zt,hn]at h;exact h
 | some n=>
  by_cases hu:n.up=false
  ·rw[Te hn hu]at h;exact h
  ·cases back with
   | true=>
    cases ho:n.out with
    | nil=>rw[Qca hn ho]at h;exact h
    | cons x l=>
     rw[Qgs hn hu ho,Ki]at h;simp only[Bool.and_eq_true]at h;exact h.1.1.1.1.1
   | false=>
    cases ho:n.Yi with
    | nil=>rw[Qms hn ho]at h;exact h
    | cons x l=>
     rw[Qxx hn hu ho]at h;simp only[Bool.and_eq_true]at h;exact h.1.1
theorem Qas{s:Sm}{o:Bool}(h:(Z5 s o).2.ok=true):s.ok=true:=by
 cases hi:s.Qe with
 | nil=>rw[Qu4 hi]at h;exact h
 | cons x l=>
  rw[Qoi hi,Ki]at h;simp only[Bool.and_eq_true]at h;exact h.1.1.1.1
theorem E4{s:Sm}{o:Bool}:∀ {i:Nat},(roundUp s o i).2.ok=true→s.ok=true
 | 0,h=>h
 | _+1,h=>E4 (Gt (Gt h))
theorem By:∀ {k:Nat} {s:Sm},(Ju s k).ok=true→s.ok=true
 | 0,_,h=>h
 | k+1,s,h=>by
  simp only[Ju]at h
  split at h
  ·exact Qas (E4 (By h))
  ·exact Qas (E4 h)
theorem T0{s:Sm}(h:(Ku s).ok=true):s.ok=true∧stB s=true:=by
 rw[Qdi,Ki]at h
 simpa only [Bool.and_eq_true] using h
theorem Qqb(s:Sm):(Vd s).nd.length=s.nd.length:=by
 show (List.foldl Jg (Vz s.nd s.b.Qa,s.done) s.b.done).1.length=_;rw[Qcc,Qdw]
theorem C4(s:Sm)(i:Nat)(back:Bool):(Zt s i back).2.nd.length=s.nd.length:=by
 cases hn:s.nd[i]? with
 | none=>rw[Zt,hn]
 | some n=>
  by_cases hu:n.up=false
  ·rw[Te hn hu]
  ·cases back with
   | true=>
    cases ho:n.out with
    | nil=>rw[Qca hn ho]
    | cons x l=>rw[Qgs hn hu ho,Qqb];exact List.length_set
   | false=>
    cases ho:n.Yi with
    | nil=>rw[Qms hn ho]
    | cons x l=>rw[Qxx hn hu ho];exact List.length_set
theorem Rc(s:Sm)(o:Bool):∀i,(roundUp s o i).2.nd.length=s.nd.length
 | 0=>rfl
 | i+1=>by
  show (Zt (Zt (roundUp s o i).2 i false).2 i true).2.nd.length=_;rw[C4,C4,Rc s o i]
theorem Qaj{s:Sm}{o:Bool}{i:Nat}:∀ {k:Nat},(roundUp s o (i+k)).2.ok=true→(roundUp s o i).2.ok=true
 | 0,h=>h
 | k+1,h=>Qaj (k:=k) (Gt (Gt h))
theorem Qj2(s:Sm)(k:Nat):Ju s (k+1)=if (roundUp (Z5 s true).2 (Z5 s true).1 (Z5 s true).2.nd.length).1 then Ju (roundUp (Z5 s true).2 (Z5 s true).1 (Z5 s true).2.nd.length).2 k else (roundUp (Z5 s true).2 (Z5 s true).1 (Z5 s true).2.nd.length).2:=rfl
set_option maxHeartbeats 4000000 in
theorem Qym(p:Nat)(s:Sm)(hok:(R4 s).ok=true){W:World}(hW:H6 W):Spec Tryz.prog 28 [pt p] [SP p s,Xa W] fun Γ _ Θ=>Θ=SP p (R4 s)::Xa W::Γ:=by
 obtain⟨k1,k2⟩:=T0 (By hok);obtain⟨T,hT⟩:∃T,T=R4 s:=⟨_,rfl⟩;rw[←hT]at hok ⊢;refine Zbd Tryz.func28 rfl Tryz.ntmps28 fun w0 Γ=>Zsh ?_;obtain⟨s0,hs0⟩:∃s0,s0=Ku s:=⟨_,rfl⟩;refine ZY 3 (Zp (Zc1 Ze (Qnt p s (Qtw k2) hW) ?_));rintro v Θ rfl;rw[←hs0];refine ZY 6 ?_;refine Zl (fun fz ρ' Γ'=>∃(k:Nat) (t:Sm),fz=3000-k∧k≤3000∧Ju t fz=T∧ρ'=[(0,pt p),(2,.int .i64 (k:Int))]∧Γ'=SP p t::Xa W::Γ) (m:=_) (⟨0,s0,rfl,by omega,by rw[hs0];exact hT.symm,rfl,rfl⟩) ?_;rintro fz ρ' Γ' ⟨k,t,hfz,hk,ht,rfl,rfl⟩;refine ZY 6 ?_
 refine Zj ef (fun h1=>?_) (fun h1=>?_)
 ·obtain⟨fy,rfl⟩:∃fy,fz=fy+1:=⟨fz-1,by omega⟩;rw[Qj2]at ht;obtain⟨t1,ht1⟩:∃t1,t1=Z5 t true:=⟨_,rfl⟩;rw[←ht1]at ht
  have hro:(roundUp t1.2 t1.1 t1.2.nd.length).2.ok=true:=by
   split at ht
   ·rw[←ht]at hok;exact By hok
   ·rw[←ht]at hok;exact hok
  have hpo:(Z5 t true).2.ok=true:=by rw[←ht1];exact E4 hro
  refine ZY 6 (Zp (Zcp Ze (Qds p t true hpo) ?_));rw[←ht1];refine S.J4 p t1.2 fun b ps nv ns rb jb gb db wb iv dv wv hF=>?_;have hnn:=hF.nn;refine S.Yf nv fun hv1 hv2 hv3=>?_;rw[List.length_map]at hv1;have hmx:maxLen≤9223372036854775807:=by unfold maxLen;omega
  refine ZY 8 (ZY 2 (S.Xo p t1.2 b ps nv ns rb jb gb db wb iv dv wv hF (ZY 3 ?_)));refine Zl (fun fy2 ρ' Γ'=>∃(i:Nat) (r:Bool×Sm),fy2=t1.2.nd.length-i∧i≤t1.2.nd.length∧r=roundUp t1.2 t1.1 i∧ρ'=[(0,pt p),(2,.int .i64 (k:Int)),(3,.bool r.1),(17,.int .i64 (nv.n:Int)),(18,.int .i64 (i:Int))]∧Γ'=SP p r.2::Xa W::Γ) (m:=_) (⟨0,t1,rfl,by omega,rfl,rfl,rfl⟩) ?_;rintro fy2 ρ' Γ' ⟨i,r,Zkr,hi,hr,rfl,rfl⟩;refine ZY 5 ?_
  refine Zj ef (fun h2=>?_) (fun h2=>?_)
  ·have hr1:roundUp t1.2 t1.1 (i+1)=((Zt (Zt r.2 i false).2 i true).1 || (Zt r.2 i false).1 || r.1,(Zt (Zt r.2 i false).2 i true).2):=by rw[hr];rfl
   have Zbl:(roundUp t1.2 t1.1 (i+1)).2.ok=true:=Qaj (k:=t1.2.nd.length-(i+1)) (by rw[Nat.add_sub_cancel' (by omega)];exact hro);have hil:i<r.2.nd.length:=by rw[hr,Rc];omega
   obtain⟨q1,hq1⟩:∃q1,q1=Zt r.2 i false:=⟨_,rfl⟩;rw[←hq1]at hr1;obtain⟨q2,hq2⟩:∃q2,q2=Zt q1.2 i true:=⟨_,rfl⟩;rw[←hq2]at hr1;have Q7t:q2.2.ok=true:=by rw[hr1]at Zbl;exact Zbl
   have Zfp:q1.2.ok=true:=by rw[hq2]at Q7t;exact Gt Q7t
   have Zgf:i<q1.2.nd.length:=by rw[hq1,C4];exact hil
   obtain⟨sm,hsm⟩:∃sm,sm=(q1.1 || r.1):=⟨_,rfl⟩;obtain⟨sm2,Q7o⟩:∃sm2,sm2=(q2.1 || sm):=⟨_,rfl⟩;rw[Bool.or_assoc,←hsm,←Q7o]at hr1;refine ZY 2 ?_
   refine Zc (fun ρ' Γ'=>ρ'=[(0,pt p),(2,.int .i64 (k:Int)),(3,.bool sm2),(17,.int .i64 (nv.n:Int)),(18,.int .i64 (i:Int))]∧Γ'=SP p q2.2::Xa W::Γ) ?_ ?_
   ·refine ZY 7 ?_
    refine Zc (fun ρ' Γ'=>ρ'=[(0,pt p),(2,.int .i64 (k:Int)),(3,.bool sm),(4,.int .i64 (i:Int)),(17,.int .i64 (nv.n:Int)),(18,.int .i64 (i:Int))]∧Γ'=SP p q1.2::Xa W::Γ) ?_ ?_
    ·refine ZY 3 ?_;refine Zp (Zcp Ze (P6 p r.2 i false hil (by rw[←hq1];exact Zfp)) ?_);rw[←hq1];refine Zy ?_
     refine Zbb 24 ef (fun hg8_3=>?_) (fun hg8_3=>?_)
     ·refine ZY 4 ?_;rw[hsm,hg8_3];exact ZM ⟨rfl,rfl⟩
     ·refine ZY 4 ?_;rw[hsm,hg8_3];exact ZM ⟨rfl,rfl⟩
    ·rintro ρ' Γ' ⟨rfl,rfl⟩;refine ZY 3 ?_;refine Zp (Zcp Ze (P6 p q1.2 i true Zgf (by rw[←hq2];exact Q7t)) ?_);rw[←hq2];refine Zy ?_
     refine Zbb 30 ef (fun hg9_3=>?_) (fun hg9_3=>?_)
     ·refine ZY 4 ?_;rw[Q7o,hg9_3];exact ZM ⟨rfl,rfl⟩
     ·refine ZY 4 ?_;rw[Q7o,hg9_3];exact ZM ⟨rfl,rfl⟩
   ·rintro ρ' Γ' ⟨rfl,rfl⟩;refine Zy (Zv (Za ef ef) (ZY 2 ?_));exact ZX (fy2-1) (⟨i+1,(sm2,q2.2),by omega,by omega,hr1.symm,rfl,rfl⟩) (by omega)
  ·rw[show i=t1.2.nd.length by omega]at hr;rw[←hr]at ht;refine ZY 6 ?_
   refine Zi ef (fun h3=>?_) (fun h3=>?_)
   ·rw[show r.1=false by simpa using h3]at ht;rw[if_neg (by decide)]at ht;refine Zy ?_;exact Zf ef Zq (by rw[←ht])
   ·rw[show r.1=true by simpa using h3,if_pos rfl]at ht;refine ZY 3 (Zv (Za ef ef) (ZY 2 ?_));exact ZX (fy) (⟨k+1,r.2,by omega,by omega,ht,rfl,rfl⟩) (by omega)
 ·obtain rfl:fz=0:=by omega
  replace ht:t=T:=ht;refine Zy ?_;exact Zfn ef Zq (by rw[←ht])
theorem Qx7(n r q g:Nat)(hn:n≤255)(hr:r≤255)(hq:q≤255)(hg:g≤255):Spec Tryz.prog 10 [.int .u8 (n:Int),.int .u8 (r:Int),.int .u8 (q:Int),.int .u8 (g:Int)] [] fun Γ v Θ=>v=.agg #[.int .i64 ((1+n % 6:Nat):Int),.int .i64 ((1+r % 4:Nat):Int),.int .i64 ((1+q % 6:Nat):Int),.int .i64 ((1+g % 9:Nat):Int)]∧Θ=Γ:=by
 refine Zbd Tryz.func10 rfl Tryz.ntmps10 fun w0 Γ=>Zsh (ZY 2 (Zp (S.alloc Tryz.z25.h rfl ?_)));intro b8;refine ZY 4 ?_;refine Zv (Ae rfl rfl (⟨by omega,by omega⟩)) ?_;refine Zv (Xw Tryz.it3.h (by rw[Tryz.underlying5];rfl) rfl (Y0 (by omega) (by omega))) (Zv (Za ef ef) (Zy ?_));refine Zv (Ae rfl rfl (⟨by omega,by omega⟩)) ?_;refine Zv (Xw Tryz.it3.h (by rw[Tryz.underlying5];rfl) rfl (Y0 (by omega) (by omega))) (Zv (Za ef ef) (Zy ?_));refine Zv (Ae rfl rfl (⟨by omega,by omega⟩)) ?_;refine Zv (Xw Tryz.it3.h (by rw[Tryz.underlying5];rfl) rfl (Y0 (by omega) (by omega))) (Zv (Za ef ef) (Zy ?_));refine Zv (Ae rfl rfl (⟨by omega,by omega⟩)) ?_;refine Zv (Xw Tryz.it3.h (by rw[Tryz.underlying5];rfl) rfl (Y0 (by omega) (by omega))) (Zv (Za ef ef) ?_);refine Zv (Q3 (pvs:=[(_,_),(_,_),(_,_),(_,_)]) [_,_,_,_] Tryz.z25.h Tryz.p25.h ⟨⟨rfl,rfl⟩,⟨rfl,rfl⟩,⟨rfl,rfl⟩,⟨rfl,rfl⟩,trivial⟩ rfl) (Zp (Zs ef ef (cs':=[_,_,_,_]) ef (ZY 2 ?_)));exact Zf ef Zq (⟨rfl,rfl⟩)
abbrev nd0:Nd:=⟨true,[],[],[],false⟩
theorem Zef(b:Nat)(Γ:List Assn):Ent (Qk b .u32 []::Γ) (Sa b []::Γ):=Ent.W9 Γ fun _ s=>⟨[],fun _=>rfl,s⟩
theorem Q1s(k:Nat)(Γ:List Assn):Ent Γ (Uz SV.nil k::Γ):=(show Ent Γ (own SV.nil 31 1 (Q9 [])::Γ) from Ent.Ye 31 1).trans (Ent.lst SV.nil (l:=[]) (Nat.zero_le _) rfl Γ)
theorem niE(p rb:Nat)(up wr:Bool)(Γ:List Assn):Ent (blk p 107 #[.bool up,.map (some rb),SV.nil.v,SV.nil.v,.bool wr]::Qk rb .u32 []::Γ) (NI p ⟨up,[],[],[],wr⟩::Γ):=by
 have h1:Ent Γ (own SV.nil 72 13 (([]:List Nt).flatMap niC)::own SV.nil 72 13 (([]:List Ot).flatMap otC)::alls ([]:List Ot) otB::Γ):=(Ent.Jv otB Γ).trans ((Ent.Ye 72 13).trans (Ent.Ye 72 13));have h2:Ent (blk p 107 #[.bool up,.map (some rb),SV.nil.v,SV.nil.v,.bool wr]::Qk rb .u32 []::Γ) (ndX p ⟨up,[],[],[],wr⟩ rb SV.nil SV.nil [] [] Γ):=Ent.cons _ (Ent.cons _ ((Ent.Jv roB Γ).trans (Ent.cons _ h1)));exact h2.trans ((Ent.pack (ndX p ⟨up,[],[],[],wr⟩ rb SV.nil SV.nil [] [] []) Γ).trans (Ent.W9 Γ fun _ s=>⟨rb,SV.nil,SV.nil,[],[],⟨rfl,rfl,rfl,rfl⟩,s⟩))
theorem ni0(p rb:Nat)(Γ:List Assn):Ent (blk p 107 #[.bool true,.map (some rb),SV.nil.v,SV.nil.v,.bool false]::Qk rb .u32 []::Γ) (NI p nd0::Γ):=niE p rb true false Γ
def R6(b:Br)(i:Nat):Br:=(List.range i).foldl (fun b (i:Nat)=>(Ke b i).2) b
theorem Qdc(b:Br)(i:Nat):R6 b (i+1)=(Ke (R6 b i) (i:Nat)).2:=by rw[R6,List.range_succ,List.foldl_append];rfl
set_option maxHeartbeats 4000000 in
theorem Qpz(N R Q G:Nat)(P2:1≤R)(Sl:R≤8)(hN1:1≤N)(C1:N≤16)(hQ1:1≤Q)(hQ2:Q≤1000)(hG1:1≤G)(hG2:G≤1000) :
  Spec Tryz.prog 19 [.agg #[.int .i64 (N:Int),.int .i64 (R:Int),.int .i64 (Q:Int),.int .i64 (G:Int)]] [] fun Γ v Θ=>∃p,v=pt p∧Θ=SP p (Ut N R Q G)::Γ:=by
 refine Zbd Tryz.func19 rfl Tryz.ntmps19 fun w0 Γ=>Zsh ?_;obtain⟨B0,hB0⟩:∃B0,B0=Ut N R Q G:=⟨_,rfl⟩;obtain⟨n0,hn0⟩:∃n0,n0=Sb N R Q G 0:=⟨_,rfl⟩;rw[←hB0];refine ZY 2 (Zp (S.box (cs:=[_,_,_,_]) rfl rfl rfl ?_));intro b1;refine ZY 5 (Zp (Zc1 Ze (Q9n N R Q G 0 P2 Sl hN1 C1 hQ1 hQ2 hG1 hG2) ?_));rintro v Θ ⟨b,ps,rfl,rfl⟩;rw[←hn0];refine ZY 8 (ZY 8 (ZF ef (ZY 5 (Zp (S.makeMap .u32 rfl ?_)))));intro b20;refine Zp (S.makeMap .u32 rfl ?_);intro b21;refine Zp (S.makeMap .u32 rfl ?_);intro b22;refine Zp (S.makeMap .u32 rfl ?_);intro b23;refine Zp (S.makeMap .u32 rfl ?_);intro b24;refine Zv (Q3 (pvs:=[(_,_),(_,_),(_,_),(_,_),(_,_),(_,_),(_,_),(_,_)]) [_,_,_,_,_,_,_,_,_,_,_,_,_,_,_,_] Tryz.z55.h Tryz.p55.h ⟨⟨rfl,rfl⟩,⟨rfl,rfl⟩,⟨rfl,rfl⟩,⟨rfl,rfl⟩,⟨rfl,rfl⟩,⟨rfl,rfl⟩,⟨rfl,rfl⟩,⟨rfl,rfl⟩,trivial⟩ rfl) (Zp (S.box (cs:=[_,_,_,_,_,_,_,_,_,_,_,_,_,_,_,_]) rfl rfl rfl ?_));intro b26;refine ZY 5 ?_;refine S.Yw b26 (smC B0 b SV.nil b20 b21 b22 b23 b24 SV.nil SV.nil SV.nil).toArray (by rw[hB0];rfl) (S.Qh (Ent.Jv noB _) ?_);refine S.Qh (show Ent _ (own SV.nil 103 1 (([]:List No).map noV)::_) from Ent.Ye 103 1) (ZY 5 ?_);refine Zl (fun fz ρ' Γ'=>∃(i:Nat) (nv:SV) (ns:List No) (b0:Br),fz=N-i∧i≤N∧nv.n=i∧ns.map (·.2)=List.replicate i nd0∧b0=R6 n0 i∧ρ'=[(3,pt b),(5,pt b26),(28,.int .i64 (N:Int)),(29,.int .i64 (i:Int))]∧Γ'=blk b26 55 (smC B0 b nv b20 b21 b22 b23 b24 SV.nil SV.nil SV.nil).toArray::own nv 103 1 (ns.map noV)::alls ns noB::BP b b0 ps::Qk b20 .u32 []::Qk b21 .u32 []::Qk b22 .u32 []::Qk b23 .u32 []::Qk b24 .u32 []::Γ) (m:=_) (⟨0,SV.nil,[],n0,rfl,by omega,rfl,rfl,rfl,rfl,rfl⟩) ?_;rintro fz ρ' Γ' ⟨i,nv,ns,b0,hfz,hi,hnv,Ly,hb0,rfl,rfl⟩;refine ZY 5 ?_
 refine Zj ef (fun h2=>?_) (fun h2=>?_)
 ·refine ZY 8 (ZY 7 (Zp (S.makeMap .u32 rfl ?_)));intro b37;refine Zv (Q3 (pvs:=[(_,_),(_,_)]) [_,_,_,_,_] Tryz.z107.h Tryz.Zat.h ⟨⟨rfl,rfl⟩,⟨rfl,rfl⟩,trivial⟩ rfl) (Zp (S.box (cs:=[_,_,_,_,_]) rfl rfl rfl ?_));intro b39;refine Zp (S.buildSlice (pvs:=[(_,_)]) [_] Tryz.underlying48 Tryz.Qwj.h rfl rfl ⟨⟨rfl,rfl⟩,trivial⟩ rfl rfl ?_);intro b40;refine Zp (S.Qu (s:=nv) (1) ([pt b39]) Tryz.underlying48 Tryz.Qwj.h rfl rfl rfl (Qy (b:=b40) rfl (by unfold maxLen;omega)) (by first|rfl|exact Ql _) (⟨by omega,by omega⟩) rfl ?_);intro nv2 Zj2;rw[show ns.map noV++[pt b39]=(ns++[((b39,nd0):No)]).map noV by rw[List.map_append];rfl];refine ZY 7 (Zp (Zcp Ze (Qsr b b0 ps i) (ZY 2 (S.Wj (blk b39 107 #[.bool true,.map (some b37),SV.nil.v,SV.nil.v,.bool false]) (Qk b37 .u32 []) (ni0 b39 b37 _) (S.Wj (NI b39 nd0) (alls ns noB) (Ent.Hn noB ns ((b39,nd0):No) _) (Zv (Za ef ef) (ZY 2 ?_)))))));exact ZX (fz-1) (⟨i+1,nv2,ns++[(b39,nd0)],(Ke b0 (i:Nat)).2,by omega,by omega,by omega,by rw[List.map_append,Ly,List.replicate_succ'];rfl,by rw[hb0,Qdc],rfl,rfl⟩) (by omega)
 ·obtain rfl:i=N:=by omega
  refine ZY 7 (S.conv (Qk b20 .u32 []) (Zef b20 _) (S.conv (Qk b24 .u32 []) (Ent.war b24 [] _) (S.Qh (Q1s 0 _) (S.Qh (Q1s 0 _) (S.Qh (Qwl _) (S.sub (blk b26 55 (smC B0 b nv b20 b21 b22 b23 b24 SV.nil SV.nil SV.nil).toArray::BP b b0 ps::own nv 103 1 (ns.map noV)::alls ns noB::Sa b20 []::Qk b21 .u32 []::Qk b22 .u32 []::Qk b23 .u32 []::imgs SV.nil []::Qe1 b24::Uz SV.nil 0::Uz SV.nil 0::Γ) ?_))))));refine S.Qh (show Ent _ (smX b26 B0 b ps nv ns b20 b21 b22 b23 b24 SV.nil SV.nil SV.nil Γ) by subst hB0;subst hb0;subst hn0;exact Ent.refl _) ?_;refine S.Xo b26 B0 b ps nv ns b20 b21 b22 b23 b24 SV.nil SV.nil SV.nil ⟨by rw[Ly,hB0];rfl,by rw[hB0,hnv];exact List.length_replicate.symm,by rw[hB0];rfl⟩ ?_;exact Zf ef Zq (⟨b26,rfl,rfl⟩)
def sA:Sm:={Ut 2 1 5 3 with Ym:=[⟨1,0,2,3⟩],b:=(Fx (Ut 2 1 5 3).b (U9 1 0 2 3 0 0)).2}
def aw:Nat→Sm
 | 0=>sA
 | k+1=>R4 (aw k)
theorem Q5v:(aw 200).ok=true∧1∈(aw 200).done∧3≤Yn 1 (aw 200).ran∧(aw 200).b.js=[]:=by decide +kernel
theorem S.Qun{n:Nat}{md:Bool}{w0:WM md}{ρ:Env}{Γ Δ:List Assn}{φ:Act→World→Prop}(b:Nat)(f:List (Nat×Nat))[q:Pick (Sa b f) Γ Δ](k:∀l:List (Int×Value),(∀id:Nat,(Q1 (id:Int) l).getD (.int .i64 0)=.int .i64 (Yn id f:Nat))→S n w0 ρ (Qk b .u32 l::Δ) φ):S n w0 ρ Γ φ:=by
 intro a w ha hs hx;obtain⟨h0,l0,h1,h2,d,l1,l2,⟨l,q1,q2⟩,s⟩:=hs.Qh q.Qh;exact k l q1 a w ha ⟨h0,l0,h1,h2,d,l1,l2,q2,s⟩ hx
theorem Zcy{k:Nat}(h:k≤200):(aw k).ok=true:=by
 have key:∀j,j+k≤200→(aw (j+k)).ok=true→(aw k).ok=true:=by
  intro j;induction j with
  | zero=>intro _ h;rwa [Nat.zero_add]at h
  | succ j ih=>
   intro hj hk;refine ih (by omega) ?_;rw[show j+1+k=(j+k)+1 by omega]at hk;exact(T0 (By hk)).1
 refine key (200-k) (by omega) ?_;rw[show 200-k+k=200 by omega];exact Q5v.1
theorem Q6b:Fm (Ut 2 1 5 3).b (U9 1 0 2 3 0 0)=true∧(Ut 2 1 5 3).b.js.length≤999∧(Ut 2 1 5 3).b.Qa.length≤900000∧(Ut 2 1 5 3).b.done.length≤900000:=by decide +kernel
set_option maxHeartbeats 4000000 in
theorem Q3v{W:World}(hW:H6 W):Spec Tryz.prog 9 [] [Xa W] fun Γ v Θ=>v=.bool true∧Θ=Xa W::Γ:=by
 obtain⟨B0,hB0⟩:∃B0,B0=Ut 2 1 5 3:=⟨_,rfl⟩;obtain⟨d1,d2,d3,d4⟩:=Q6b;rw[←hB0]at d1 d2 d3 d4;obtain⟨A0,hA0⟩:∃A0,A0=sA:=⟨_,rfl⟩;have hA1:A0={B0 with Ym:=[⟨1,0,2,3⟩],b:=(Fx B0.b (U9 1 0 2 3 0 0)).2}:=by rw[hA0,hB0];rfl
 refine Zbd Tryz.func9 rfl Tryz.ntmps9 fun w0 Γ=>Zsh (ZY 6 ?_);refine Zv (Q3 (pvs:=[(_,_),(_,_),(_,_),(_,_)]) [_,_,_,_] Tryz.z25.h Tryz.p25.h ⟨⟨rfl,rfl⟩,⟨rfl,rfl⟩,⟨rfl,rfl⟩,⟨rfl,rfl⟩,trivial⟩ rfl) (Zp (Zc1 Ze (Qpz 2 1 5 3 (by omega) (by omega) (by omega) (by omega) (by omega) (by omega) (by omega) (by omega)) ?_));rintro v Θ ⟨p,rfl,rfl⟩;rw[←hB0];refine ZY 8 (ZF ef (ZY 4 ?_));refine S.J4 p B0 fun b ps nv ns rb jb gb db wb iv dv wv hF=>?_;refine S.Qiu jb [] (by rw[hB0];rfl) (ZY 3 ?_);refine Zv (Q3 (pvs:=[(_,_),(_,_),(_,_)]) [_,_,_,_,_,_] Tryz.z35.h Tryz.p35.h ⟨⟨rfl,rfl⟩,⟨rfl,rfl⟩,⟨rfl,rfl⟩,trivial⟩ rfl) (Zp (S.mapUpdate Tryz.underlying49 Tryz.underlying31 rfl rfl rfl rfl ?_));refine S.Qiu jb (([⟨1,0,2,3⟩]:List Jo).map joE) rfl (ZY 2 ?_);refine Zd ([blk p 55 (smC B0 b nv rb jb gb db wb iv dv wv).toArray,Qk jb .u32 (([⟨1,0,2,3⟩]:List Jo).map joE)]) [] (Zra 0 9) (ZY 8 ?_);refine Zw ef (Qj (.agg (joC ⟨1,0,2,3⟩).toArray) Tryz.underlying49 Tryz.underlying31 Tryz.Qtb.h rfl rfl rfl (rfl)) ?_;refine Z1 (i:=9) ef ef ?_;refine  (Zc1 Ze (Q5y b B0.b ps 1 0 2 3 0 0 0 (by omega) d1 d2 d3 d4) ?_);rintro v Θ ⟨ps2,rfl,rfl⟩;refine Zk [] ?_;refine ZD (ZY 3 ?_);refine S.sub (smX p A0 b ps2 nv ns rb jb gb db wb iv dv wv (Xa W::Γ)) (e:=by rw[hA1];infer_instance) ?_;refine S.Xo p A0 b ps2 nv ns rb jb gb db wb iv dv wv ⟨by rw[hA1];exact hF.nd,by rw[hA1];exact hF.nn,by rw[hA1];exact hF.im⟩ (ZY 3 ?_);refine Zl (fun fz ρ' Γ'=>∃(k:Nat) (t:Sm),fz=200-k∧k≤200∧t=aw k∧ρ'=[(1,pt p),(21,.int .i64 (k:Int))]∧Γ'=SP p t::Xa W::Γ) (m:=_) (⟨0,A0,rfl,by omega,hA0,rfl,rfl⟩) ?_;rintro fz ρ' Γ' ⟨k,t,hfz,hk,ht,rfl,rfl⟩;refine ZY 5 ?_
 refine Zj ef (fun h2=>?_) (fun h2=>?_)
 ·refine ZY 5 ?_;refine Zp (Zc1 Ze (Qym p t (by rw[ht];exact Zcy (k:=k+1) (by omega)) hW) ?_);rintro v Θ rfl;refine ZY 2 (Zv (Za ef ef) (ZY 2 ?_));exact ZX (fz-1) (⟨k+1,R4 t,by omega,by omega,by rw[ht];rfl,rfl,rfl⟩) (by omega)
 ·rw[show k=200 by omega]at ht;obtain⟨_,e1,e2,e3⟩:=Q5v;rw[←ht]at e1 e2 e3;refine S.J4 p t fun b ps nv ns rb jb gb db wb iv dv wv hF=>(ZY 7 ?_);refine Zv (Qj (.bool true) Tryz.underlying50 Tryz.underlying31 Tryz.zv4.h rfl rfl rfl (by rw[show Q1 1 (F4 t.done)=some (.bool true) from (Qab t.done 1).trans (if_pos e1)];rfl)) (ZY 5 ?_);refine S.Qun rb t.ran fun lst Q2s=>?_;obtain⟨c0,hc0⟩:∃c0,c0=Yn 1 t.ran:=⟨_,rfl⟩;have hl0:=Q2s 1;rw[←hc0]at e2 hl0;refine Zvg ef ef ef (Qj (.int .i64 (c0:Int)) Tryz.underlying44 Tryz.underlying31 Tryz.zv3.h rfl rfl rfl (hl0.symm)) (ZY 3 (Zu 39 true ef ((decide_eq_true (by omega))) (ZY 4 (Zg ef ef ef (Zc1 Ze (Q9f b t.b ps) ?_)))));rintro v Θ ⟨tv,rfl,htv,rfl⟩;rw[e3]at htv;refine ZY 6 ?_;exact Zf ef Zq (⟨by rw[decide_eq_true (show (tv.n:Int)=0 by rw[htv];rfl)];rfl,rfl⟩)
def noK(k:Nat)(q:List Nt):Prop:=∀x∈q,x.kind≠k
def Cr(k:Nat)(q:List (Nt×List Int)):Prop:=∀x∈q,x.1.kind≠k
def Qxq(g:Nat)(m:List Nat)(q:List Nt):Prop:=∀x∈q,x.kind=5→x.gen=g∧x.Qm∈m
def B3(g:Nat)(m:List Nat)(rk:Rs):Prop:=∀y∈rk,y.2.run=true→y.2.gen=g∧y.1∈m
theorem noK.app{k:Nat}{q e:List Nt}(h:noK k q)(h2:noK k e):noK k (q++e):=fun x hx=>by
 rcases List.mem_append.1 hx with hx|hx
 ·exact h x hx
 ·exact h2 x hx
theorem Vk.put{l:Rs}(h:Vk l)(k:Nat){r:Rk}(hr:r.run=false):Vk (Xl k r l):=fun y hy=>by
 rcases Va hy with rfl|hy
 ·exact hr
 ·exact h y hy
theorem Vk.del{l:Rs}(h:Vk l)(k:Nat):Vk (Ha k l):=fun y hy=>h y (Gm hy)
theorem B3.put{g:Nat}{m:List Nat}{l:Rs}(h:B3 g m l)(k:Nat){r:Rk}(hr:r.run=true→r.gen=g∧k∈m):B3 g m (Xl k r l):=fun y hy h1=>by
 rcases Va hy with rfl|hy
 ·exact hr h1
 ·exact h y hy h1
theorem B3.del{g:Nat}{m:List Nat}{l:Rs}(h:B3 g m l)(k:Nat):B3 g m (Ha k l):=fun y hy=>h y (Gm hy)
theorem U2.del{l:Rs}(h:U2 l)(k:Nat):U2 (Ha k l):=fun y hy z hz=>h y (Gm hy) z (Gm hz)
theorem U2.put{l:Rs}(h:U2 l)(k:Nat){r:Rk}(hr:r.run=false):U2 (Xl k r l):=fun y hy z hz h1 h2=>by
 rcases Va hy with rfl|hy
 ·rw[show ((k,r):Nat×Rk).2.run=false from hr]at h1;cases h1
 ·rcases Va hz with rfl|hz
  ·rw[show ((k,r):Nat×Rk).2.run=false from hr]at h2;cases h2
  ·exact h y hy z hz h1 h2
theorem Vk.Zel{l:Rs}(h:Vk l)(k:Nat)(r:Rk):U2 (Xl k r l):=fun y hy z hz h1 h2=>by
 rcases Va hy with rfl|hy
 ·rcases Va hz with rfl|hz
  ·rfl
  ·rw[h z hz]at h2;cases h2
 ·rw[h y hy]at h1;cases h1
theorem Ty{l:Rs}(h:U2 l)(hp:pos l)(hn:(keys l).Nodup){r:Rk}(hr:r.run=false):Vk (Xl (Qz l) r l):=by
 intro y hy;have hk:=J9 (Qz l) r hn
 by_cases e:y.1=Qz l
 ·have h1:=U3 (k:=y.1) (v:=y.2) hk hy;rw[Jp,if_pos e]at h1;cases h1;exact hr
 ·rcases Va hy with rfl|hy
  ·exact absurd rfl e
  ·cases hyr:y.2.run with
   | false=>rfl
   | true=>exact absurd (Qh6 h hp hy hyr).symm e
theorem pos.put{l:Rs}(h:pos l){k:Nat}(hk:k≠0)(r:Rk):pos (Xl k r l):=fun y hy=>by
 rcases Va hy with rfl|hy
 ·exact hk
 ·exact h y hy
theorem pos.del{l:Rs}(h:pos l)(k:Nat):pos (Ha k l):=fun y hy=>h y (Gm hy)
inductive Ph (g:Nat) (m:List Nat) (on st:Bool) (rk:Rs) (q:List Nt) (out:List (Nt×List Int)):Prop
 | rest:on=false→noK 5 q→noK 6 q→Cr 7 out→Vk rk→Ph g m on st rk q out
 | go:on=true→st=false→noK 6 q→Cr 7 out→Qxq g m q→B3 g m rk→Ph g m on st rk q out
 | stop (a:List Nt) (s:Nt) (c:List Nt):on=true→st=true→q=a++s::c→s.kind=6→s.gen=g→noK 6 a→noK 5 c→noK 6 c→Qxq g m a→B3 g m rk→Cr 7 out→Ph g m on st rk q out
 | said (a:List (Nt×List Int)) (s:Nt×List Int) (c:List (Nt×List Int)):on=true→st=true→noK 5 q→noK 6 q→Vk rk→out=a++s::c→s.1.kind=7→s.1.gen=g→Cr 7 a→Cr 7 c→Ph g m on st rk q out
theorem Vk.ru{l:Rs}(h:Vk l)(g:Nat)(m:List Nat):B3 g m l:=fun y hy h1=>by rw[h y hy]at h1;cases h1
theorem Ph.ru{g:Nat}{m:List Nat}{on st:Bool}{rk:Rs}{q:List Nt}{out:List (Nt×List Int)}(h:Ph g m on st rk q out):B3 g m rk∧(∀y∈rk,y.2.run=true→on=true):=by
 cases h with
 | rest h1 _ _ _ h5=>exact⟨h5.ru g m,fun y hy h9=>by rw[h5 y hy]at h9;cases h9⟩
 | go h1 _ _ _ _ h6=>exact⟨h6,fun _ _ _=>h1⟩
 | stop a s c h1 _ _ _ _ _ _ _ _ h6 _=>exact⟨h6,fun _ _ _=>h1⟩
 | said a s c h1 _ _ _ h5 _ _ _ _ _=>exact⟨h5.ru g m,fun y hy h9=>by rw[h5 y hy]at h9;cases h9⟩
theorem Ph.app{g:Nat}{m:List Nat}{on st:Bool}{rk:Rs}{q:List Nt}{out:List (Nt×List Int)}(h:Ph g m on st rk q out){e:List Nt}(h5:noK 5 e)(h6:noK 6 e):Ph g m on st rk (q++e) out:=by
 cases h with
 | rest a1 a2 a3 a4 a5=>exact .rest a1 (a2.app h5) (a3.app h6) a4 a5
 | go a1 a2 a3 a4 a5 a6=>exact .go a1 a2 (a3.app h6) a4 (fun x hx hk=>by
   rcases List.mem_append.1 hx with hx|hx
   ·exact a5 x hx hk
   ·exact absurd hk (h5 x hx)) a6
 | stop a s c a1 a2 a3 a4 a5 a6 a7 a8 a9 a10 a11=>exact .stop a s (c++e) a1 a2 (by rw[a3];simp) a4 a5 a6 (a7.app h5) (a8.app h6) a9 a10 a11
 | said a s c a1 a2 a3 a4 a5 a6 a7 a8 a9 a10=>exact .said a s c a1 a2 (a3.app h5) (a4.app h6) a5 a6 a7 a8 a9 a10
theorem Ph.other{g:Nat}{m:List Nat}{on st:Bool}{rk:Rs}{q:List Nt}{x:Nt×List Int}{out:List (Nt×List Int)}(h:Ph g m on st rk q (x::out))(hx:x.1.kind≠7):Ph g m on st rk q out:=by
 have tl:Cr 7 (x::out)→Cr 7 out:=fun h y hy=>h y (List.mem_cons_of_mem _ hy);cases h with
 | rest a1 a2 a3 a4 a5=>exact .rest a1 a2 a3 (tl a4) a5
 | go a1 a2 a3 a4 a5 a6=>exact .go a1 a2 a3 (tl a4) a5 a6
 | stop a s c a1 a2 a3 a4 a5 a6 a7 a8 a9 a10 a11=>exact .stop a s c a1 a2 a3 a4 a5 a6 a7 a8 a9 a10 (tl a11)
 | said a s c a1 a2 a3 a4 a5 a6 a7 a8 a9 a10=>
  cases a with
  | nil=>rw[List.nil_append,List.cons.injEq]at a6;rw[a6.1]at hx;exact absurd a7 hx
  | cons y a=>
   rw[List.cons_append,List.cons.injEq]at a6;exact .said a s c a1 a2 a3 a4 a5 a6.2 a7 a8 (fun z hz=>a9 z (List.mem_cons_of_mem _ hz)) a10
theorem Ph.Qo{g:Nat}{m:List Nat}{on st:Bool}{rk:Rs}{q:List Nt}{x:Nt×List Int}{out:List (Nt×List Int)}(h:Ph g m on st rk q (x::out))(hx:x.1.kind=7):on=true∧st=true∧x.1.gen=g∧∀g' m' st',Ph g' m' false st' rk q out:=by
 have hd:Cr 7 (x::out)→False:=fun h=>h x (List.mem_cons_self ..) hx;cases h with
 | rest a1 a2 a3 a4 a5=>exact(hd a4).elim
 | go a1 a2 a3 a4 a5 a6=>exact(hd a4).elim
 | stop a s c a1 a2 a3 a4 a5 a6 a7 a8 a9 a10 a11=>exact(hd a11).elim
 | said a s c a1 a2 a3 a4 a5 a6 a7 a8 a9 a10=>
  cases a with
  | nil=>
   rw[List.nil_append,List.cons.injEq]at a6;obtain⟨e1,e2⟩:=a6;subst e1 e2;exact⟨a1,a2,a8,fun _ _ _=>.rest rfl a3 a4 a10 a5⟩
  | cons y a=>
   rw[List.cons_append,List.cons.injEq]at a6;exact absurd hx (by rw[a6.1];exact a9 y (List.mem_cons_self ..))
theorem noK.tl{k:Nat}{x:Nt}{q:List Nt}(h:noK k (x::q)):noK k q:=fun y hy=>h y (List.mem_cons_of_mem _ hy)
theorem Qxq.tl{g:Nat}{m:List Nat}{x:Nt}{q:List Nt}(h:Qxq g m (x::q)):Qxq g m q:=fun y hy=>h y (List.mem_cons_of_mem _ hy)
structure Quiet(nd nd':Nd):Prop where
 no:Vk nd.rk→Vk nd'.rk
 ru:∀g m,B3 g m nd.rk→B3 g m nd'.rk
 out:∃o,nd'.out=nd.out++o∧Cr 7 o
theorem Nz(k:Nat):Cr k []:=fun _ h=>by cases h
theorem Qba{k:Nat}{x:Nt×List Int}(h:x.1.kind≠k):Cr k [x]:=fun y hy=>by rw[List.mem_singleton.1 hy];exact h
theorem Qew{nd:Nd}{x:Nt}(h5:x.kind≠5)(h6:x.kind≠6):Quiet nd (Q8 nd x):=by
 unfold Q8
 split
 ·exact⟨fun h=>h.put _ rfl,fun g m h=>h.put _ (fun h=>(by cases h)),_,rfl,Qba (fun e=>by cases e)⟩
 split
 ·split
  ·exact⟨fun h=>h,fun g m h=>h,[],by simp,Nz 7⟩
  ·exact⟨fun h=>h,fun g m h=>h,_,rfl,Qba (fun e=>by cases e)⟩
 split
 ·exact⟨fun h=>h.del _,fun g m h=>h.del _,_,rfl,Qba (fun e=>by cases e)⟩
 ·exact⟨fun h=>h,fun g m h=>h,[],by simp,Nz 7⟩
theorem Cr.app{k:Nat}{q e:List (Nt×List Int)}(h:Cr k q)(h2:Cr k e):Cr k (q++e):=fun x hx=>by
 rcases List.mem_append.1 hx with hx|hx
 ·exact h x hx
 ·exact h2 x hx
theorem Ph.act{g:Nat}{m:List Nat}{on st:Bool}{nd:Nd}{x:Nt}{q:List Nt}(h:Ph g m on st nd.rk (x::q) nd.out)(h1:U2 nd.rk)(hp:pos nd.rk)(hn:(keys nd.rk).Nodup):Ph g m on st (Q8 nd x).rk q (Q8 nd x).out:=by
 by_cases k5:x.kind=5
 ·have e:(Q8 nd x).out=nd.out∧(∀g m,B3 g m nd.rk→x.gen=g∧x.Qm∈m→B3 g m (Q8 nd x).rk):=by
   unfold Q8;rw[if_neg (by omega),if_pos k5]
   split
   ·exact⟨rfl,fun g m h _=>h⟩
   ·exact⟨rfl,fun g m h hx=>h.put _ fun _=>hx⟩
  rw[e.1];cases h with
  | rest a1 a2 a3 a4 a5=>exact absurd k5 (a2 x (List.mem_cons_self ..))
  | go a1 a2 a3 a4 a5 a6=>exact .go a1 a2 a3.tl a4 a5.tl (e.2 g m a6 (a5 x (List.mem_cons_self ..) k5))
  | stop a s c a1 a2 a3 a4 a5 a6 a7 a8 a9 a10 a11=>
   cases a with
   | nil=>rw[List.nil_append,List.cons.injEq]at a3;rw[a3.1]at k5;omega
   | cons y a=>
    rw[List.cons_append,List.cons.injEq]at a3;obtain⟨e1,e2⟩:=a3;subst e1;exact .stop a s c a1 a2 e2 a4 a5 a6.tl a7 a8 a9.tl (e.2 g m a10 (a9 x (List.mem_cons_self ..) k5)) a11
  | said a s c a1 a2 a3 a4 a5 a6 a7 a8 a9 a10=>exact absurd k5 (a3 x (List.mem_cons_self ..))
 by_cases k6:x.kind=6
 ·cases h with
  | rest a1 a2 a3 a4 a5=>exact absurd k6 (a3 x (List.mem_cons_self ..))
  | go a1 a2 a3 a4 a5 a6=>exact absurd k6 (a3 x (List.mem_cons_self ..))
  | stop a s c a1 a2 a3 a4 a5 a6 a7 a8 a9 a10 a11=>
   cases a with
   | cons y a=>
    rw[List.cons_append,List.cons.injEq]at a3;rw[a3.1]at k6;exact absurd k6 (a6 y (List.mem_cons_self ..))
   | nil=>
    rw[List.nil_append,List.cons.injEq]at a3;obtain⟨e1,e2⟩:=a3;subst e1 e2;unfold Q8;rw[if_neg (by omega),if_neg k5,if_pos k6]
    by_cases hr:Qz nd.rk≠0
    ·rw[if_pos hr];obtain⟨r,hr1,Ca⟩:=Kv hr;rw[U3 hn hr1];exact .said nd.out _ [] a1 a2 a7 a8 (Ty h1 hp hn rfl) rfl rfl a5 a11 (Nz 7)
    ·rw[if_neg hr];exact .said nd.out _ [] a1 a2 a7 a8 (E2 hp (Classical.byContradiction hr)) rfl rfl a5 a11 (Nz 7)
  | said a s c a1 a2 a3 a4 a5 a6 a7 a8 a9 a10=>exact absurd k6 (a4 x (List.mem_cons_self ..))
 obtain⟨q1,q2,o,q3,q4⟩:=Qew (nd:=nd) k5 k6;rw[q3];cases h with
 | rest a1 a2 a3 a4 a5=>exact .rest a1 a2.tl a3.tl (a4.app q4) (q1 a5)
 | go a1 a2 a3 a4 a5 a6=>exact .go a1 a2 a3.tl (a4.app q4) a5.tl (q2 g m a6)
 | stop a s c a1 a2 a3 a4 a5 a6 a7 a8 a9 a10 a11=>
  cases a with
  | nil=>rw[List.nil_append,List.cons.injEq]at a3;rw[a3.1]at k6;exact absurd a4 k6
  | cons y a=>
   rw[List.cons_append,List.cons.injEq]at a3;exact .stop a s c a1 a2 a3.2 a4 a5 a6.tl a7 a8 a9.tl (q2 g m a10) (a11.app q4)
 | said a s c a1 a2 a3 a4 a5 a6 a7 a8 a9 a10=>exact .said a s (c++o) a1 a2 a3.tl a4.tl (q1 a5) (by rw[a6];simp) a7 a8 a9 (a10.app q4)
theorem Q31{nd:Nd}{x:Nt}(h:pos nd.rk)(hx:x.kind=3→x.Qm≠0):pos (Q8 nd x).rk:=by
 unfold Q8
 split
 ·exact h.put (hx (by assumption)) _
 split
 ·split
  ·exact h
  ·rename_i r hr;exact h.put (h _ (Eb hr)) _
 split
 ·split
  ·split
   ·exact h
   ·rename_i r hr;exact h.put (h _ (Eb hr)) _
  ·exact h
 split
 ·split <;> exact h
 split
 ·exact h.del _
 ·exact h
theorem Qkc{nd:Nd}{x:Nt}(h:(keys nd.rk).Nodup):(keys (Q8 nd x).rk).Nodup:=by
 unfold Q8
 split
 ·exact J9 _ _ h
 split
 ·split
  ·exact h
  ·exact J9 _ _ h
 split
 ·split
  ·split
   ·exact h
   ·exact J9 _ _ h
  ·exact h
 split
 ·split <;> exact h
 split
 ·exact Qq5 _ h
 ·exact h
theorem Q32{nd:Nd}{x:Nt}(h:U2 nd.rk)(hp:pos nd.rk)(hn:(keys nd.rk).Nodup)(hw:(Q8 nd x).Qf=false):U2 (Q8 nd x).rk:=by
 unfold Q8 at hw ⊢
 split
 ·exact h.put _ rfl
 rename_i k3;rw[if_neg k3]at hw
 split
 ·rename_i k5;rw[if_pos k5]at hw
  split
  ·exact h
  ·rename_i r hr;rw[hr]at hw;simp only[Bool.or_eq_false_iff,decide_eq_false_iff_not]at hw;exact(E2 hp (Classical.byContradiction hw.2)).Zel _ _
 split
 ·split
  ·split
   ·exact h
   ·exact(Ty h hp hn rfl).one
  ·exact h
 split
 ·split <;> exact h
 split
 ·exact h.del _
 ·exact h
theorem Qsp{nd:Nd}{x:Nt}(h:Vk nd.rk)(hx:x.kind≠5):Vk (Q8 nd x).rk:=by
 by_cases k6:x.kind=6
 ·unfold Q8;rw[if_neg (by omega),if_neg hx,if_pos k6,E3 h];exact h
 ·exact(Qew hx k6).no h
theorem Qcm{q:List Nt}:∀ {nd:Nd},Vk nd.rk→noK 5 q→Vk (q.foldl Q8 nd).rk:=by
 induction q with
 | nil=>exact fun h _=>h
 | cons x q ih=>exact fun h hq=>ih (Qsp h (hq x (List.mem_cons_self ..))) hq.tl
theorem Qet{q:List Nt}:∀ {nd:Nd},(keys nd.rk).Nodup→(keys (q.foldl Q8 nd).rk).Nodup:=by
 induction q with
 | nil=>exact fun h=>h
 | cons x q ih=>exact fun h=>ih (Qkc h)
def Pres(b:Br)(i id:Nat):Prop:=∃x,Qg b.js id=some x∧x.Qi=none∧i∈x.at_
def qOf(os:List Od)(i:Nat):List Nt:=(os.filter fun o=>decide (o.1=i)).map (·.2)
theorem Nn(a b:List Od)(i:Nat):qOf (a++b) i=qOf a i++qOf b i:=by rw[qOf,List.filter_append,List.map_append];rfl
theorem N0{os:List Od}{i:Nat}{x:Nt}:x∈qOf os i↔(i,x)∈os:=by
 unfold qOf;rw[List.mem_map]
 constructor
 ·rintro ⟨o,h1,h2⟩;obtain⟨h3,h4⟩:=List.mem_filter.1 h1;have h4:o.1=i:=by simpa using h4
  rw[←h4,←h2];exact h3
 ·exact fun h=>⟨(i,x),List.mem_filter.2 ⟨h,by simp⟩,rfl⟩
structure Qcn(b:Br)(bad:Nat→Nat→Prop)(x:Bj):Prop where
 st:x.state≤3
 q:x.state=0→x.at_=[]∧x.Qi=none∧x.Yt=none∧x.ran=none∧look b.m.js x.id=none
 p:x.state≠0→x.at_.length=x.k∧∃y,look b.m.js x.id=some y∧lst y.ns=x.at_
 d:x.state=3↔x.Qi.isSome=true
 u:x.Qi=none→∀n∈x.at_,n∈b.up∨bad x.id n
 du:∀d,x.Qi=some d→∀n∈d,n∈b.up∨bad x.id n
 da:∀d,x.Qi=some d→∀n∈d,n∈x.at_
structure BrI(b:Br)(bad:Nat→Nat→Prop):Prop where
 ok:Q7 b
 j:∀x∈b.js,Qcn b bad x
 mj:∀y∈b.m.js,(Qg b.js y.id).isSome=true
 up:∀n:Nat,n∈b.up↔V9 b.m n=true
abbrev never:Nat→Nat→Prop:=fun _ _=>False
structure Ux(b:Br)(i:Nat)(n:Nd):Prop where
 kn:(keys n.rk).Nodup
 ps:pos n.rk
 one:U2 n.rk
 wr:n.Qf=false
 right:(fin n.rk (n.Yi++qOf b.Qa i)).Qf=false
 ld:∀x∈n.Yi++qOf b.Qa i,x.kind=3→x.Qm≠0
 here:∀id,(Yg id (fin n.rk (n.Yi++qOf b.Qa i)).rk).isSome=true↔Pres b i id
 ph:Ph b.gen b.members (decide (i∈b.stops.getD [])) b.Qo n.rk (n.Yi++qOf b.Qa i) n.out
structure Eff(b b':Br)(i:Nat)(e:List Nt):Prop where
 go:∀v:Nd,v.Qf=false→(keys v.rk).Nodup→(∀id,(Yg id v.rk).isSome=true↔Pres b i id)→(b.stops=none→Vk v.rk)→(e.foldl Q8 v).Qf=false∧∀id,(Yg id (e.foldl Q8 v).rk).isSome=true↔Pres b' i id
structure Lx(b b':Br)(E:List Od):Prop where
 nodes:b'.nodes=b.nodes
 up:b'.up=b.up
 gen:b'.gen=b.gen
 mem:b'.members=b.members
 stops:b'.stops=b.stops
 Qo:b'.Qo=b.Qo
 ord:b'.Qa=b.Qa++E
 dst:∀o∈E,o.1∈b.up
 k5:∀o∈E,o.2.kind≠5∧o.2.kind≠6∧(o.2.kind=3→o.2.Qm≠0)∧o.2.Qt≤255
 eff:∀i∈b.up,Eff b b' i (qOf E i)
theorem Lx.trans{a b c:Br}{E F:List Od}(h:Lx a b E)(k:Lx b c F):Lx a c (E++F) where
 nodes:=k.nodes.trans h.nodes
 up:=k.up.trans h.up
 gen:=k.gen.trans h.gen
 mem:=k.mem.trans h.mem
 stops:=k.stops.trans h.stops
 Qo:=k.Qo.trans h.Qo
 ord:=by rw[k.ord,h.ord,List.append_assoc]
 dst:=fun o ho=>by
  rcases List.mem_append.1 ho with ho|ho
  ·exact h.dst o ho
  ·rw[←h.up];exact k.dst o ho
 k5:=fun o ho=>by
  rcases List.mem_append.1 ho with ho|ho
  ·exact h.k5 o ho
  ·exact k.k5 o ho
 eff:=fun i hi=>⟨fun v h1 h2 h3 h4=>by
  obtain⟨q1,q2⟩:=(h.eff i hi).go v h1 h2 h3 h4;rw[Nn,List.foldl_append];refine(k.eff i (by rw[h.up];exact hi)).go _ q1 (Qet h2) q2 fun e=>?_;exact Qcm (h4 (by rw[←h.stops];exact e)) fun x hx=>(h.k5 _ (N0.1 hx)).1⟩
theorem Lx.refl(b:Br):Lx b b [] where
 nodes:=rfl
 up:=rfl
 gen:=rfl
 mem:=rfl
 stops:=rfl
 Qo:=rfl
 ord:=by simp
 dst:=fun o ho=>by cases ho
 k5:=fun o ho=>by cases ho
 eff:=fun i _=>⟨fun v h1 _ h3 _=>⟨h1,h3⟩⟩
theorem Ux.rest{b:Br}{i:Nat}{n:Nd}(h:Ux b i n)(hs:b.stops=none):Vk n.rk∧noK 5 (n.Yi++qOf b.Qa i)∧noK 6 (n.Yi++qOf b.Qa i)∧Cr 7 n.out:=by
 have hp:=h.ph;rw[hs]at hp;cases hp with
 | rest _ a2 a3 a4 a5=>exact⟨a5,a2,a3,a4⟩
 | go a1=>simp at a1
 | stop _ _ _ a1=>simp at a1
 | said _ _ _ a1=>simp at a1
theorem Ux.Qxv{b:Br}{i:Nat}{n:Nd}(h:Ux b i n)(hs:b.stops=none):Vk (fin n.rk (n.Yi++qOf b.Qa i)).rk:=Qcm (nd:=⟨true,n.rk,[],[],false⟩) (h.rest hs).1 (h.rest hs).2.1
theorem Ux.step{b b':Br}{E:List Od}(k:Lx b b' E){i:Nat}(hi:i∈b.up){n:Nd}(h:Ux b i n):Ux b' i n:=by
 have hq:n.Yi++qOf b'.Qa i=(n.Yi++qOf b.Qa i)++qOf E i:=by rw[k.ord,Nn,List.append_assoc]
 obtain⟨e1,e2⟩:=(k.eff i hi).go (fin n.rk (n.Yi++qOf b.Qa i)) h.right (Qet (nd:=⟨true,n.rk,[],[],false⟩) h.kn) h.here h.Qxv;have hf:fin n.rk (n.Yi++qOf b'.Qa i)=(qOf E i).foldl Q8 (fin n.rk (n.Yi++qOf b.Qa i)):=by rw[hq,fin,List.foldl_append];rfl
 refine⟨h.kn,h.ps,h.one,h.wr,by rw[hf];exact e1,fun x hx=>?_,fun id=>by rw[hf];exact e2 id,?_⟩
 ·rw[hq]at hx
  rcases List.mem_append.1 hx with hx|hx
  ·exact h.ld x hx
  ·exact(k.k5 _ (N0.1 hx)).2.2.1
 ·rw[hq,k.gen,k.mem,k.stops,k.Qo];exact h.ph.app (fun x hx=>(k.k5 _ (N0.1 hx)).1) (fun x hx=>(k.k5 _ (N0.1 hx)).2.1)
structure GI(b:Br)(nd:List Nd):Prop where
 bi:BrI b never
 len:nd.length=b.nodes
 dst:∀o∈b.Qa,o.1∈b.up
 up:∀(i:Nat) (n:Nd),nd[i]?=some n→n.up=decide (i∈b.up)
 off:∀(i:Nat) (n:Nd),nd[i]?=some n→n.up=false→n.rk=[]∧n.Yi=[]∧n.out=[]∧n.Qf=false
 node:∀(i:Nat) (n:Nd),nd[i]?=some n→n.up=true→Ux b i n
 Eu:∀i∈b.stops.getD [],i∈b.up
theorem GI.step{b b':Br}{E:List Od}{nd:List Nd}(h:GI b nd)(k:Lx b b' E)(hb:BrI b' never):GI b' nd where
 bi:=hb
 len:=h.len.trans k.nodes.symm
 dst:=fun o ho=>by
  rw[k.ord]at ho;rw[k.up]
  rcases List.mem_append.1 ho with ho|ho
  ·exact h.dst o ho
  ·exact k.dst o ho
 up:=fun i n hn=>by rw[k.up];exact h.up i n hn
 off:=h.off
 node:=fun i n hn hu=>(h.node i n hn hu).step k (by
  have:=h.up i n hn;rw[hu]at this;exact of_decide_eq_true this.symm)
 Eu:=fun i hi=>by rw[k.up];rw[k.stops]at hi;exact h.Eu i hi
theorem Qpp{js:List Bj}(k id:Nat):Qg (rmJ js k) id=if id=k then none else Qg js id:=by
 by_cases h:id=k
 ·rw[if_pos h];cases hg:Qg (rmJ js k) id with
  | none=>rfl
  | some x=>
   obtain⟨h1,h2⟩:=Qd hg;have:=(List.mem_filter.1 h1).2;rw[h2,h]at this;simp at this
 ·rw[if_neg h];exact Qub js h
theorem Nr{b:Br}{x y:Bj}(hx:Qg b.js x.id=some x)(hid:y.id=x.id)(os:List Od)(m:Mx)(i id:Nat):Pres {b with js:=Yo b.js y,Qa:=os,m:=m} i id↔if id=x.id then (y.Qi=none∧i∈y.at_) else Pres b i id:=by
 have h1:=El b.js y id;unfold Pres;show (∃z,Qg (Yo b.js y) id=some z∧_)↔_;rw[h1,hid]
 by_cases e:id=x.id
 ·rw[if_pos e,if_pos e,e,hx];simp
 ·rw[if_neg e,if_neg e]
theorem Q06{b:Br}(k:Nat)(os:List Od)(m:Mx)(i id:Nat):Pres {b with js:=rmJ b.js k,Qa:=os,m:=m} i id↔id≠k∧Pres b i id:=by
 unfold Pres;show (∃z,Qg (rmJ b.js k) id=some z∧_)↔_;rw[Qpp]
 by_cases e:id=k
 ·rw[if_pos e];simp[e]
 ·rw[if_neg e];simp[e]
theorem Qv0{js:List Jb}{j k:Nat}:look (Mm j js) k=if k=j then none else look js k:=by
 unfold look Mm;induction js with
 | nil=>simp
 | cons x js ih=>
  rw[List.filter_cons]
  by_cases e:x.id=j
  ·rw[if_neg (by simp[e]),ih]
   by_cases e2:k=j
   ·rw[if_pos e2,if_pos e2]
   ·rw[if_neg e2,if_neg e2,List.find?_cons];simp only[decide_eq_false (show ¬x.id=k by omega)]
  ·rw[if_pos (by simpa using e),List.find?_cons,List.find?_cons,ih]
   by_cases e2:x.id=k
   ·simp only[decide_eq_true e2,if_neg (show ¬k=j by omega)]
   ·simp only[decide_eq_false e2]
theorem Qiv{m:Mx}(hm:Xk m){x:Jb}(hn:look m.js x.id=none)(k:Nat):look (D8 x m.js) k=if k=x.id then some x else look m.js k:=by
 have hs:=Ls hm.Yz (fun y hy=>H8 hn y hy)
 by_cases e:k=x.id
 ·rw[if_pos e,e];exact Ee hs (Wm.2 (.inl rfl))
 ·rw[if_neg e];cases h:look m.js k with
  | some y=>
   obtain⟨h1,h2⟩:=Ka h;rw[←h2];exact Ee hs (Wm.2 (.inr h1))
  | none=>
   cases h3:look (D8 x m.js) k with
   | none=>rfl
   | some y=>
    obtain⟨h4,h5⟩:=Ka h3
    rcases Wm.1 h4 with h4|h4
    ·rw[h4]at h5;exact absurd h5.symm e
    ·exact absurd h5 (H8 h y h4)
theorem Cm(m:Mx)(j k:Nat):look (Z0 m j).2.js k=if k=j then none else look m.js k:=by
 unfold Z0
 split
 ·exact Qv0
 ·rename_i h;have h:look m.js j=none:=by cases hl:look m.js j with|none=>rfl|some x=>rw[hl]at h;simp at h
  by_cases e:k=j
  ·rw[if_pos e,e];exact h
  ·rw[if_neg e]
theorem Qak{m:Mx}{j:Nat}{y:Jb}(hm:Xk m)(h:y∈(Z0 m j).2.js):y∈m.js∧y.id≠j:=by
 unfold Z0 at h
 split at h
 ·exact Ww.1 h
 ·rename_i h2;refine⟨h,fun e=>h2 ?_⟩;have h:y∈m.js:=h;rw[←e,Ee hm.Yz h];rfl
theorem Di{m m':Mx}(h1:m'.up=m.up)(h2:m'.N=m.N)(z:Int):V9 m' z=V9 m z:=by simp only[V9,V8,h1,h2]
theorem G9(m:Mx)(j:Nat):(Z0 m j).2.up=m.up∧(Z0 m j).2.N=m.N:=by unfold Z0;split <;> exact⟨rfl,rfl⟩
theorem Qcn.congr{b b':Br}{bad:Nat→Nat→Prop}{x:Bj}(h:Qcn b bad x)(hl:look b'.m.js x.id=look b.m.js x.id)(hu:b'.up=b.up):Qcn b' bad x:=
 ⟨h.st,fun e=>by rw[hl];exact h.q e,fun e=>by rw[hl];exact h.p e,h.d,fun e=>by rw[hu];exact h.u e,fun d e=>by rw[hu];exact h.du d e,h.da⟩
theorem BrI.same{b b':Br}{bad:Nat→Nat→Prop}(h:BrI b bad)(ok:Q7 b')(hj:b'.js=b.js)(hm:b'.m=b.m)(hu:b'.up=b.up):BrI b' bad:=
 ⟨ok,fun x hx=>by rw[hj]at hx;exact(h.j x hx).congr (by rw[hm]) hu,fun y hy=>by rw[hm]at hy;rw[hj];exact h.mj y hy,fun n=>by rw[hu,hm];exact h.up n⟩
theorem BrI.ord{b:Br}{bad:Nat→Nat→Prop}(h:BrI b bad)(os:List Od):BrI {b with Qa:=os} bad:=h.same (h.ok.oset os) rfl rfl rfl
theorem BrI.put{b:Br}{bad:Nat→Nat→Prop}(h:BrI b bad){x y:Bj}{m:Mx}(hx:Qg b.js x.id=some x)(hid:y.id=x.id)(ok:Q7 {b with m:=m,js:=Yo b.js y})(hl:∀k,k≠x.id→look m.js k=look b.m.js k)(hm:∀z∈m.js,z.id=x.id∨z∈b.m.js)(hu:∀z,V9 m z=V9 b.m z)(hy:Qcn {b with m:=m,js:=Yo b.js y} bad y):BrI {b with m:=m,js:=Yo b.js y} bad where
 ok:=ok
 j:=fun z hz=>by
  obtain⟨w,hw,e⟩:=List.mem_map.1 (show z∈Yo b.js y from hz)
  split at e
  ·subst e;exact hy
  ·rename_i Uk;subst e;exact(h.j w hw).congr (hl w.id (by rw[←hid];exact Uk)) rfl
 mj:=fun z hz=>by
  show (Qg (Yo b.js y) z.id).isSome=true;rw[El]
  rcases hm z hz with e|hz
  ·rw[if_pos (by rw[hid];exact e),e,hx];rfl
  ·split
   ·rw[Option.isSome_map];exact h.mj z hz
   ·exact h.mj z hz
 up:=fun n=>by rw[show ({b with m:=m,js:=Yo b.js y}:Br).m=m from rfl,hu];exact h.up n
theorem BrI.set{b:Br}{bad:Nat→Nat→Prop}(h:BrI b bad){x y:Bj}(hx:Qg b.js x.id=some x)(hid:y.id=x.id)(hk:JOk b.nodes y)(hy:Qcn b bad y):BrI (b.set y) bad:=
 h.put (m:=b.m) hx hid (h.ok.set hk) (fun _ _=>rfl) (fun _ hz=>.inr hz) (fun _=>rfl) (hy.congr rfl rfl)
theorem BrI.gone{b:Br}{bad:Nat→Nat→Prop}(h:BrI b bad){x y:Bj}(hx:Qg b.js x.id=some x)(hid:y.id=x.id)(hk:JOk b.nodes y)(hy:y.Qi≠some []→Qcn b bad y):BrI (Z6 b y) bad:=by
 have ok:=Ek h.ok hk;unfold Z6 at ok ⊢
 split
 ·rename_i hd;rw[if_pos hd]at ok
  split
  ·rename_i ha;rw[if_pos ha]at ok
   refine h.put (y:=anew y) hx hid ok (fun k hk=>?_) (fun z hz=>.inr (Qak h.ok.Hu hz).1) (fun z=>Di (G9 _ _).1 (G9 _ _).2 z) ?_
   ·rw[Cm,if_neg (by rw[hid];exact hk)]
   ·refine⟨Nat.zero_le _,fun _=>⟨rfl,rfl,rfl,rfl,?_⟩,fun e=>absurd rfl e,⟨fun e=>(by cases e),fun e=>(by cases e)⟩,fun _ n hn=>(by cases hn),fun d e=>(by cases e),fun d e=>(by cases e)⟩;show look (Z0 b.m y.id).2.js y.id=none;rw[Cm,if_pos rfl]
  ·rename_i ha;rw[if_neg ha]at ok
   exact {
    ok:=ok
    j:=fun z hz=>by
     obtain⟨h1,h2⟩:=List.mem_filter.1 (show z∈rmJ b.js y.id from hz);have h2:z.id≠y.id:=by simpa using h2
     refine(h.j z h1).congr ?_ rfl;show look (Z0 b.m y.id).2.js z.id=_;rw[Cm,if_neg h2]
    mj:=fun z hz=>by
     obtain⟨h1,h2⟩:=Qak h.ok.Hu hz;show (Qg (rmJ b.js y.id) z.id).isSome=true;rw[Qpp,if_neg h2];exact h.mj z h1
    up:=fun n=>by
     rw[show ({b with m:=(Z0 b.m y.id).2,js:=rmJ b.js y.id}:Br).m=(Z0 b.m y.id).2 from rfl,Di (G9 _ _).1 (G9 _ _).2];exact h.up n}
 ·rename_i hd;exact h.set hx hid hk (hy hd)
theorem Qvd{b:Br}{x:Bj}(hx:Qg b.js x.id=some x)(hd:x.Qi.isSome=true)(i:Nat):¬Pres b i x.id:=fun⟨z,h1,h2,_⟩=>by
 rw[hx]at h1;cases h1;rw[h2]at hd;cases hd
theorem Qdu{b:Br}{x y:Bj}(hx:Qg b.js x.id=some x)(hid:y.id=x.id)(hd:y.Qi.isSome=true)(i id:Nat):Pres (Z6 b y) i id↔id≠x.id∧Pres b i id:=by
 unfold Z6
 split
 ·split
  ·have:=Nr (b:=b) (y:=anew y) hx hid b.Qa (Z0 b.m y.id).2 i id;refine this.trans ?_
   by_cases e:id=x.id
   ·rw[if_pos e];simp[e]
   ·rw[if_neg e];simp[e]
  ·have:=Q06 (b:=b) y.id b.Qa (Z0 b.m y.id).2 i id;rw[←hid];exact this
 ·have:=Nr (b:=b) (y:=y) hx hid b.Qa b.m i id;refine this.trans ?_
  by_cases e:id=x.id
  ·rw[if_pos e]
   constructor
   ·rintro ⟨h1,_⟩;rw[h1]at hd;cases hd
   ·rintro ⟨h1,_⟩;exact absurd e h1
  ·rw[if_neg e];simp[e]
theorem Bo{b:Br}{x y:Bj}(hx:Qg b.js x.id=some x)(hid:y.id=x.id)(hat:y.at_=x.at_)(hd:y.Qi=x.Qi)(os:List Od)(m:Mx)(i id:Nat):Pres {b with js:=Yo b.js y,Qa:=os,m:=m} i id↔Pres b i id:=by
 refine(Nr hx hid os m i id).trans ?_
 by_cases e:id=x.id
 ·rw[if_pos e,hat,hd,e];exact⟨fun h=>⟨x,hx,h.1,h.2⟩,fun⟨z,h1,h2,h3⟩=>by rw[hx]at h1;cases h1;exact⟨h2,h3⟩⟩
 ·rw[if_neg e]
def BS(b b':Br):Prop:=∃E,Lx b b' E
theorem BS.refl(b:Br):BS b b:=⟨[],.refl b⟩
theorem BS.trans{a b c:Br}(h:BS a b)(k:BS b c):BS a c:=by
 obtain⟨E,h⟩:=h;obtain⟨F,k⟩:=k;exact⟨E++F,h.trans k⟩
theorem BS.stops{b b':Br}(h:BS b b'):b'.stops=b.stops:=by obtain⟨_,h⟩:=h;exact h.stops
theorem Q3f{b b':Br}{i:Nat}(h:∀id,Pres b' i id↔Pres b i id):Eff b b' i []:=⟨fun _ h1 _ h3 _=>⟨h1,fun id=>(h3 id).trans (h id).symm⟩⟩
structure Sam(b b':Br):Prop where
 nodes:b'.nodes=b.nodes
 up:b'.up=b.up
 gen:b'.gen=b.gen
 mem:b'.members=b.members
 stops:b'.stops=b.stops
 Qo:b'.Qo=b.Qo
theorem BS.quiet{b b':Br}(h:Sam b b')(ho:b'.Qa=b.Qa)(hp:∀i id,Pres b' i id↔Pres b i id):BS b b':=
 ⟨[],h.nodes,h.up,h.gen,h.mem,h.stops,h.Qo,by rw[ho];simp,fun _ h=>(by cases h),fun _ h=>(by cases h),fun i _=>Q3f (hp i)⟩
theorem Sam.gone(b:Br)(y:Bj):Sam b (Z6 b y):=by
 unfold Z6
 split
 ·split <;> exact⟨rfl,rfl,rfl,rfl,rfl,rfl⟩
 ·exact⟨rfl,rfl,rfl,rfl,rfl,rfl⟩
theorem Qm2{b:Br}{x y:Bj}(hx:Qg b.js x.id=some x)(hid:y.id=x.id)(hat:y.at_=x.at_)(hd:y.Qi=x.Qi):BS b (b.set y):=
 BS.quiet ⟨rfl,rfl,rfl,rfl,rfl,rfl⟩ rfl fun i id=>Bo hx hid hat hd b.Qa b.m i id
theorem Qpx{b:Br}{x y:Bj}(hx:Qg b.js x.id=some x)(hid:y.id=x.id)(h1:x.Qi.isSome=true)(h2:y.Qi.isSome=true):BS b (Z6 b y):=
 BS.quiet (.gone b y) (K7 b y).1 fun i id=>(Qdu hx hid h2 i id).trans ⟨fun h=>h.2,fun h=>⟨fun e=>Qvd hx h1 i (by rw[←e];exact h),h⟩⟩
theorem F7(f:Nat→Nt)(i:Nat):∀ {l:List Nat},l.Nodup→qOf (l.map fun n=>((n,f n):Od)) i=if i∈l then [f i] else []
 | [],_=>rfl
 | n::l,h=>by
  have ih:=F7 f i (List.nodup_cons.1 h).2;unfold qOf at ih ⊢;rw[List.map_cons,List.filter_cons]
  by_cases e:n=i
  ·rw[if_pos (by simpa using e),List.map_cons,ih,if_neg (by rw[←e];exact(List.nodup_cons.1 h).1),if_pos (by rw[e];exact List.mem_cons_self ..),e]
  ·rw[if_neg (by simpa using e),ih]
   by_cases hi:i∈l
   ·rw[if_pos hi,if_pos (List.mem_cons_of_mem _ hi)]
   ·rw[if_neg hi,if_neg (by simp[hi,Ne.symm e])]
theorem Ti{b:Br}{x y:Bj}(hx:Qg b.js x.id=some x)(hid:y.id=x.id)(hat:y.at_=x.at_)(hd:y.Qi=x.Qi)(hk:JOk b.nodes y)(a:Bool):BS b (Y9 b y a):=by
 cases Fz:x.Qi with
 | some d=>
  rw[X5 (hd.trans Fz)];exact Qpx hx hid (by rw[Fz];rfl) rfl
 | none=>
  rw[Xm (hd.trans Fz)];have hs:=Sam.gone {b with Qa:=b.Qa++(V7 b y).map (Xp y.id)} (Vf y a (V7 b y));obtain⟨b',hb'⟩:∃b',b'=Z6 {b with Qa:=b.Qa++(V7 b y).map (Xp y.id)} (Vf y a (V7 b y)):=⟨_,rfl⟩;have hp:∀i id,Pres b' i id↔id≠x.id∧Pres b i id:=fun i id=>by rw[hb'];exact Qdu (b:={b with Qa:=b.Qa++(V7 b y).map (Xp y.id)}) (y:=Vf y a (V7 b y)) hx hid rfl i id
  have ho:b'.Qa=b.Qa++(V7 b y).map (Xp y.id):=by rw[hb'];exact(K7 _ _).1
  have hq:∀i,qOf ((V7 b y).map (Xp y.id)) i=if i∈V7 b y then [{kind:=10,Qm:=y.id}] else []:=fun i=>F7 (fun _=>{kind:=10,Qm:=y.id}) i (Au hk b)
  rw[←hb']at hs ⊢
  refine⟨(V7 b y).map (Xp y.id),hs.nodes,hs.up,hs.gen,hs.mem,hs.stops,hs.Qo,ho,fun o ho=>?_,fun o ho=>?_,fun i hi=>⟨fun v h1 h2 h3 _=>?_⟩⟩
  ·obtain⟨n,hn,rfl⟩:=List.mem_map.1 ho;exact of_decide_eq_true (List.mem_filter.1 hn).2
  ·obtain⟨n,hn,rfl⟩:=List.mem_map.1 ho;exact⟨by show 10≠5;omega,by show 10≠6;omega,fun e=>(by cases e),Nat.zero_le _⟩
  ·rw[hq i]
   have hm:i∈V7 b y↔i∈x.at_:=by
    rw[V7,List.mem_filter,hat];exact⟨fun h=>h.1,fun h=>⟨h,decide_eq_true hi⟩⟩
   by_cases h:i∈x.at_
   ·rw[if_pos (hm.2 h),List.foldl_cons,List.foldl_nil];unfold Q8;rw[if_neg (by show (10:Nat)≠3;omega),if_neg (by show (10:Nat)≠5;omega),if_neg (by show (10:Nat)≠6;omega),if_neg (by show (10:Nat)≠8;omega),if_pos rfl];refine⟨h1,fun id=>?_⟩;show (Yg id (Ha y.id v.rk)).isSome=true↔_;rw[Qvh y.id h2,hp i id,hid]
    by_cases e:id=x.id
    ·rw[if_pos e];simp[e]
    ·rw[if_neg e];exact(h3 id).trans ⟨fun h=>⟨e,h⟩,fun h=>h.2⟩
   ·rw[if_neg (fun e=>h (hm.1 e)),List.foldl_nil];refine⟨h1,fun id=>(h3 id).trans ?_⟩;rw[hp i id];refine⟨fun k=>⟨fun e=>?_,k⟩,fun k=>k.2⟩;obtain⟨z,k1,_,k3⟩:=k;rw[e,hx]at k1;cases k1;exact h k3
theorem Qgt{b:Br}{bad:Nat→Nat→Prop}(h:BrI b bad){x y:Bj}(hx:Qg b.js x.id=some x)(hid:y.id=x.id)(hat:y.at_=x.at_)(hd:y.Qi=x.Qi)(hk:y.k=x.k)(hj:JOk b.nodes y)(a:Bool):BrI (Y9 b y a) bad:=by
 have hX:=h.j x (Qd hx).1
 have key:∀(b1:Br) (d:List Nat),BrI b1 bad→Qg b1.js x.id=some x→b1.m=b.m→b1.up=b.up→b1.nodes=b.nodes→d.Nodup→(d≠[]→x.state≠0)→(∀n∈d,n∈b.up∨bad x.id n)→(∀n∈d,n∈x.at_)→BrI (Z6 b1 (Vf y a d)) bad:=by
  intro b1 d h1 g1 e1 e2 e3 hn h0 hu ha;refine h1.gone g1 hid (by rw[e3];exact hj.Vf a hn) fun Uk=>?_;have hs:x.state≠0:=h0 fun e=>Uk (by show some d=some [];rw[e]);obtain⟨p1,z,p2,p3⟩:=hX.p hs
  refine⟨Nat.le_refl 3,fun e=>(by cases e),fun _=>⟨?_,z,?_,?_⟩,⟨fun _=>rfl,fun _=>rfl⟩,fun e=>(by cases e),fun d' e=>?_,fun d' e=>(by cases e;intro n hn';show n∈y.at_;rw[hat];exact ha n hn')⟩
  ·show y.at_.length=y.k;rw[hat,hk];exact p1
  ·show look b1.m.js y.id=some z;rw[e1,hid];exact p2
  ·show lst z.ns=y.at_;rw[hat];exact p3
  ·cases e;intro n hn';show n∈b1.up∨bad y.id n;rw[e2,hid];exact hu n hn'
 cases Fz:x.Qi with
 | some d=>
  rw[X5 (hd.trans Fz)];exact key b d h hx rfl rfl rfl (hj.drop d (hd.trans Fz)) (fun _ e=>(by rw[(hX.q e).2.1]at Fz;cases Fz)) (hX.du d Fz) (hX.da d Fz)
 | none=>
  rw[Xm (hd.trans Fz)];refine key _ _ (h.ord _) hx rfl rfl rfl (Au hj b) (fun Uk e=>Uk ?_) (fun n hn=>.inl (of_decide_eq_true (List.mem_filter.1 hn).2)) fun n hn=>by have:=(List.mem_filter.1 hn).1;rwa [hat]at this
  rw[V7,hat,(hX.q e).1];rfl
theorem Q3t{b:Br}(ds:List Nat):BS b {b with done:=ds}:=BS.quiet ⟨rfl,rfl,rfl,rfl,rfl,rfl⟩ rfl fun _ _=>Iff.rfl
theorem Qr8{b:Br}{bad:Nat→Nat→Prop}(h:BrI b bad){x y:Bj}(hx:Qg b.js x.id=some x)(hid:y.id=x.id)(hat:y.at_=x.at_)(hd:y.Qi=x.Qi)(hk:y.k=x.k)(hj:JOk b.nodes y)(hy:Qcn b bad y):BS b (Q0 b y)∧BrI (Q0 b y) bad:=by
 unfold Q0
 split
 ·exact⟨Qm2 hx hid hat hd,h.set hx hid hj hy⟩
 ·have hj2:JOk b.nodes {y with done:=true}:=⟨hj.B6,hj.Al,hj.tier,hj.k1,hj.kn,hj.w,hj.cr,hj.wk,hj.Jy,hj.at_,hj.drop,hj.lod,hj.ran,hj.ld,hj.svl⟩;refine⟨(Q3t _).trans (Ti (b:={b with done:=b.done++[y.id]}) (x:=x) (y:={y with done:=true}) hx hid hat hd hj2 false),?_⟩;exact Qgt (b:={b with done:=b.done++[y.id]}) (h.same (h.ok.dset _) rfl rfl rfl) (x:=x) (y:={y with done:=true}) hx hid hat hd hk hj2 false
structure Agr(x y:Bj):Prop where
 id:y.id=x.id
 at_:y.at_=x.at_
 dr:y.Qi=x.Qi
 st:y.state=x.state
 k:y.k=x.k
theorem Qcn.agr{b:Br}{bad:Nat→Nat→Prop}{x y:Bj}(h:Qcn b bad x)(a:Agr x y)(h0:x.state=0→y.Yt=none∧y.ran=none):Qcn b bad y:=by
 refine⟨by rw[a.st];exact h.st,fun e=>?_,fun e=>?_,by rw[a.st,a.dr];exact h.d,by rw[a.dr,a.at_,a.id];exact h.u,by rw[a.dr,a.id];exact h.du,by rw[a.dr,a.at_];exact h.da⟩
 ·rw[a.st]at e;obtain⟨q1,q2,_,_,q5⟩:=h.q e;exact⟨by rw[a.at_];exact q1,by rw[a.dr];exact q2,(h0 e).1,(h0 e).2,by rw[a.id];exact q5⟩
 ·rw[a.st]at e;obtain⟨p1,z,p2,p3⟩:=h.p e;exact⟨by rw[a.at_,a.k];exact p1,z,by rw[a.id];exact p2,by rw[a.at_];exact p3⟩
theorem L4{b:Br}{bad:Nat→Nat→Prop}(h:BrI b bad){x y:Bj}(hx:Qg b.js x.id=some x)(a:Agr x y)(hj:JOk b.nodes y)(h0:x.state=0→y.Yt=none∧y.ran=none):BS b (b.set y)∧BrI (b.set y) bad:=
 ⟨Qm2 hx a.id a.at_ a.dr,h.set hx a.id hj ((h.j x (Qd hx).1).agr a h0)⟩
theorem Gg{l:List Nat}(h:l.Pairwise (· < ·)):l.Nodup:=h.imp fun h=>Nat.ne_of_lt h
theorem Qn2{b:Br}(h:BrI b never)(hs:b.stops=none){x y:Bj}(hx:Qg b.js x.id=some x)(a:Agr x y)(hj:JOk b.nodes y)(h0:x.state=0→y.Yt=none∧y.ran=none):BS b (Yy b y)∧BrI (Yy b y) never:=by
 by_cases hc:y.work=y.Qb∨y.Yt.isSome∨y.Qi.isSome∨y.state≠2
 ·rw[Wb hc];exact L4 h hx a hj h0
 ·rw[We hc]
  have D7:y.Qi=none:=by
   cases hd:y.Qi with
   | none=>rfl
   | some d=>exact absurd (.inr (.inr (.inl (by rw[hd];rfl)))) hc
  have Xf:y.state=2:=Classical.byContradiction fun e=>hc (.inr (.inr (.inr e)));have hX:=h.j x (Qd hx).1;have hup:∀n∈y.at_,n∈b.up:=fun n hn=>(hX.u (by rw[←a.dr];exact D7) n (by rw[←a.at_];exact hn)).resolve_right fun h=>h;have Km:y.state=0→(Wg y).Yt=none∧(Wg y).ran=none:=fun e=>(by rw[Xf]at e;cases e)
  refine⟨⟨y.at_.map (Vu (Wg y)),rfl,rfl,rfl,rfl,rfl,rfl,rfl,fun o ho=>?_,fun o ho=>?_,fun i hi=>⟨fun v h1 h2 h3 h4=>?_⟩⟩,?_⟩
  ·obtain⟨n,hn,rfl⟩:=List.mem_map.1 ho;exact hup n hn
  ·obtain⟨n,hn,rfl⟩:=List.mem_map.1 ho;exact⟨by show 8≠5;omega,by show 8≠6;omega,fun e=>(by cases e),Nat.zero_le _⟩
  ·have hp:∀id,Pres (Br.set {b with Qa:=b.Qa++y.at_.map (Vu (Wg y))} (Wg y)) i id↔Pres b i id:=fun id=>Bo (y:=Wg y) hx a.id a.at_ a.dr _ b.m i id;have hq:qOf (y.at_.map (Vu (Wg y))) i=if i∈y.at_ then [{kind:=8,Qm:=y.id,ver:=u32 (y.ver+1),Qb:=y.work}] else []:=F7 (fun _=>{kind:=8,Qm:=y.id,ver:=u32 (y.ver+1),Qb:=y.work}) i (Gg hj.Jy)
   rw[hq]
   by_cases hm:i∈y.at_
   ·rw[if_pos hm,List.foldl_cons,List.foldl_nil];obtain⟨r,hr⟩:=Option.isSome_iff_exists.1 ((h3 y.id).2 ⟨x,by rw[a.id];exact hx,by rw[←a.dr];exact D7,by rw[←a.at_];exact hm⟩);unfold Q8;rw[if_neg (by show (8:Nat)≠3;omega),if_neg (by show (8:Nat)≠5;omega),if_neg (by show (8:Nat)≠6;omega),if_pos rfl];simp only[hr];refine⟨?_,fun id=>(h3 id).trans (hp id).symm⟩;rw[h1,h4 hs (y.id,r) (Eb hr)];rfl
   ·rw[if_neg hm,List.foldl_nil];exact⟨h1,fun id=>(h3 id).trans (hp id).symm⟩
  ·have hI:=h.ord (b.Qa++y.at_.map (Vu (Wg y)));exact hI.set (y:=Wg y) hx a.id hj.Wg ((hI.j x (Qd hx).1).agr (y:=Wg y) ⟨a.id,a.at_,a.dr,a.st,a.k⟩ fun e=>Km (by rw[a.st];exact e))
theorem Qcd{b:Br}(h:BrI b never)(hs:b.stops=none){x:Bj}(hx:Qg b.js x.id=some x):BS b (Zz b x)∧BrI (Zz b x) never:=by
 have hj:=h.ok.at_ hx;have hX:=h.j x (Qd hx).1;unfold Zz
 split
 ·exact L4 h hx ⟨rfl,rfl,rfl,rfl,rfl⟩ hj fun e=>⟨(hX.q e).2.2.1,(hX.q e).2.2.2.1⟩
 ·split
  ·exact L4 h (y:=Gj x) hx ⟨rfl,rfl,rfl,rfl,rfl⟩ hj.Gj fun e=>⟨(hX.q e).2.2.1,rfl⟩
  ·exact Qn2 h hs (y:=Kb x _) hx ⟨rfl,rfl,rfl,rfl,rfl⟩ (hj.Kb _) fun e=>⟨(hX.q e).2.2.1,rfl⟩
theorem Bx{f:Br→Bj→Br}{C:Br→Prop}{bad:Nat→Nat→Prop}(hf:∀b x,BrI b bad→C b→Qg b.js x.id=some x→BS b (f b x)∧BrI (f b x) bad∧C (f b x)):∀(l:List Nat) (b:Br),BrI b bad→C b→BS b (each f b l)∧BrI (each f b l) bad∧C (each f b l)
 | [],b,h,hc=>⟨.refl b,h,hc⟩
 | id::l,b,h,hc=>by
  have e:each f b (id::l)=each f (match Qg b.js id with|none=>b|some x=>f b x) l:=rfl;rw[e];cases hg:Qg b.js id with
  | none=>exact Bx hf l b h hc
  | some x=>
   obtain⟨h1,h2,h3⟩:=hf b x h hc (by rw[(Qd hg).2];exact hg);obtain⟨k1,k2,k3⟩:=Bx hf l (f b x) h2 h3;exact⟨h1.trans k1,k2,k3⟩
theorem Qsb{b:Br}(h:BrI b never)(hs:b.stops=none)(l:List Nat):BS b (each Zz b l)∧BrI (each Zz b l) never:=
 let ⟨h1,h2,_⟩:=Bx (C:=fun b=>b.stops=none) (fun _ _ h hs hx=>⟨(Qcd h hs hx).1,(Qcd h hs hx).2,(Qcd h hs hx).1.stops.trans hs⟩) l b h hs
 ⟨h1,h2⟩
theorem Qhx{b:Br}(h:BrI b never)(hs:b.stops=none)(l:List Nat):BS b (each Yy b l)∧BrI (each Yy b l) never:=
 let ⟨h1,h2,_⟩:=Bx (f:=Yy) (C:=fun b=>b.stops=none) (fun _ x h hs hx=>
  have hX:=h.j x (Qd hx).1;have k:=Qn2 h hs (y:=x) hx ⟨rfl,rfl,rfl,rfl,rfl⟩ (h.ok.at_ hx) fun e=>⟨(hX.q e).2.2.1,(hX.q e).2.2.2.1⟩
  ⟨k.1,k.2,k.1.stops.trans hs⟩) l b h hs
 ⟨h1,h2⟩
theorem Qi2{b:Br}{bad:Nat→Nat→Prop}(h:BrI b bad){x:Bj}(hx:Qg b.js x.id=some x):BS b (Qx b x)∧BrI (Qx b x) bad:=by
 unfold Qx
 split
 ·exact⟨Ti hx rfl rfl rfl (h.ok.at_ hx) true,Qgt h hx rfl rfl rfl rfl (h.ok.at_ hx) true⟩
 ·exact⟨.refl b,h⟩
theorem Qd6{b:Br}{bad:Nat→Nat→Prop}(h:BrI b bad)(l:List Nat):BS b (each Qx b l)∧BrI (each Qx b l) bad:=
 let ⟨h1,h2,_⟩:=Bx (f:=Qx) (C:=fun _=>True) (fun _ _ h _ hx=>⟨(Qi2 h hx).1,(Qi2 h hx).2,trivial⟩) l b h trivial
 ⟨h1,h2⟩
theorem Qug{b:Br}{bad:Nat→Nat→Prop}(h:BrI b bad):BS b (rep b)∧BrI (rep b) bad:=by
 have hk:=Keep.repack h.ok.Hu
 refine⟨BS.quiet ⟨rfl,rfl,rfl,rfl,rfl,rfl⟩ rfl fun _ _=>Iff.rfl,Qld h.ok,fun x hx=>?_,fun z hz=>?_,fun n=>?_⟩
 ·have hX:=h.j x hx;have hl:=Qrd hk.js x.id
  refine⟨hX.st,fun e=>?_,fun e=>?_,hX.d,hX.u,hX.du,hX.da⟩
  ·obtain⟨q1,q2,q3,q4,q5⟩:=hX.q e;refine⟨q1,q2,q3,q4,?_⟩;rw[q5]at hl;show look (Uu b.m).1.js x.id=none;cases hn:look (Uu b.m).1.js x.id with
   | none=>rfl
   | some y=>rw[hn]at hl;cases hl
  ·obtain⟨p1,z,p2,p3⟩:=hX.p e;rw[p2]at hl
   rcases hn:look (Uu b.m).1.js x.id with _|y
   ·rw[hn]at hl;cases hl
   ·rw[hn]at hl;simp only[Option.map_some,Option.some.injEq]at hl;exact⟨p1,y,rfl,by rw[show y.ns=z.ns from congrArg Prod.snd hl];exact p3⟩
 ·have:z.id∈b.m.js.map (·.id):=by rw[←hk.ids];exact List.mem_map.2 ⟨z,hz,rfl⟩
  obtain⟨w,hw,e⟩:=List.mem_map.1 this;rw[←e];exact h.mj w hw
 ·rw[show (rep b).m=(Uu b.m).1 from rfl,Di hk.up hk.N];exact h.up n
theorem Qni{b:Br}(h:BrI b never){x:Bj}(hx:Qg b.js x.id=some x)(hd:x.Qi=none):BS b (Vv b x)∧BrI (Vv b x) never:=by
 have hX:=h.j x (Qd hx).1;have hj:=h.ok.at_ hx;have hj2:JOk b.nodes {x with Vo:=true,F1:=Ys b.now b.Xe}:=⟨hj.B6,hj.Al,hj.tier,hj.k1,hj.kn,hj.w,hj.cr,hj.wk,hj.Jy,hj.at_,hj.drop,hj.lod,hj.ran,hj.ld,hj.svl⟩;have h0:x.state=0→({x with Vo:=true,F1:=Ys b.now b.Xe}:Bj).Yt=none∧({x with Vo:=true,F1:=Ys b.now b.Xe}:Bj).ran=none:=fun e=>⟨(hX.q e).2.2.1,(hX.q e).2.2.2.1⟩
 refine⟨⟨x.at_.map fun n=>((n,{kind:=12,Qm:=x.id,tick:=Ys b.now b.Xe}):Od),rfl,rfl,rfl,rfl,rfl,rfl,rfl,fun o ho=>?_,fun o ho=>?_,fun i hi=>⟨fun v h1 h2 h3 h4=>?_⟩⟩,?_⟩
 ·obtain⟨n,hn,rfl⟩:=List.mem_map.1 ho;exact(hX.u hd n hn).resolve_right fun h=>h
 ·obtain⟨n,hn,rfl⟩:=List.mem_map.1 ho;exact⟨by show 12≠5;omega,by show 12≠6;omega,fun e=>(by cases e),Nat.zero_le _⟩
 ·have hp:∀id,Pres (Vv b x) i id↔Pres b i id:=fun id=>Bo (y:={x with Vo:=true,F1:=Ys b.now b.Xe}) hx rfl rfl rfl _ b.m i id;have hq:qOf (x.at_.map fun n=>((n,{kind:=12,Qm:=x.id,tick:=Ys b.now b.Xe}):Od)) i=if i∈x.at_ then [{kind:=12,Qm:=x.id,tick:=Ys b.now b.Xe}] else []:=F7 (fun _=>{kind:=12,Qm:=x.id,tick:=Ys b.now b.Xe}) i (Gg hj.Jy)
  rw[hq]
  by_cases hm:i∈x.at_
  ·rw[if_pos hm,List.foldl_cons,List.foldl_nil];unfold Q8;rw[if_neg (by show (12:Nat)≠3;omega),if_neg (by show (12:Nat)≠5;omega),if_neg (by show (12:Nat)≠6;omega),if_neg (by show (12:Nat)≠8;omega),if_neg (by show (12:Nat)≠10;omega)];exact⟨h1,fun id=>(h3 id).trans (hp id).symm⟩
  ·rw[if_neg hm,List.foldl_nil];exact⟨h1,fun id=>(h3 id).trans (hp id).symm⟩
 ·have hI:=h.ord (b.Qa++x.at_.map fun n=>((n,{kind:=12,Qm:=x.id,tick:=Ys b.now b.Xe}):Od));exact hI.set (y:={x with Vo:=true,F1:=Ys b.now b.Xe}) hx rfl hj2 ((hI.j x (Qd hx).1).agr (y:={x with Vo:=true,F1:=Ys b.now b.Xe}) ⟨rfl,rfl,rfl,rfl,rfl⟩ h0)
def Qve(b:Br):Prop:=∀x∈b.js,x.Qi=none
theorem Qve.warn{b:Br}(h:Qve b)(x:Bj)(hd:x.Qi=none):Qve (Vv b x):=fun z hz=>by
 obtain⟨w,hw,e⟩:=List.mem_map.1 (show z∈Yo b.js {x with Vo:=true,F1:=Ys b.now b.Xe} from hz)
 split at e
 ·subst e;exact hd
 ·subst e;exact h w hw
theorem Qax{b:Br}(h:BrI b never):BS b (Qs b)∧BrI (Qs b) never:=by
 unfold Qs
 split
 ·exact⟨.refl b,h⟩
 split
 ·exact⟨.refl b,h⟩
 rename_i hany
 split
 ·exact⟨.refl b,h⟩
 ·have hn:Qve b:=fun x hx=>by
   cases hd:x.Qi with
   | none=>rfl
   | some d=>exact absurd (List.any_eq_true.2 ⟨x,hx,by rw[hd];simp⟩) hany
  obtain⟨h1,h2,_⟩:=Bx (f:=Vv) (C:=Qve) (fun b x h hn hx=>by
   have hd:=hn x (Qd hx).1;exact⟨(Qni h hx hd).1,(Qni h hx hd).2,hn.warn x hd⟩) _ b h hn
  exact⟨h1,h2⟩
end BN
namespace PL
theorem Qcj{D:List (List Int)}{k:Nat}:∀ {n:Nat} {v:Int} {i:Nat},Gw k D n=some (v,i)→∃row,D[i]?=some row∧kth row k=some v
 | 0,_,_,h=>by cases h
 | n+1,v,i,h=>by
  unfold Gw comb at h;cases hr:(D[n]?).bind fun row=>kth row k with
  | none=>rw[hr]at h;exact Qcj h
  | some w=>
   rw[hr]at h
   have hn:∃row,D[n]?=some row∧kth row k=some w:=by
    cases hd:D[n]? with
    | none=>rw[hd]at hr;cases hr
    | some row=>rw[hd]at hr;exact⟨row,rfl,hr⟩
   cases hb:Gw k D n with
   | none=>rw[hb]at h;cases h;exact hn
   | some p=>
    obtain⟨u,j⟩:=p;rw[hb]at h;simp only at h
    split at h
    ·cases h;exact hn
    ·cases h;exact Qcj hb
theorem Qr5{D:List (List Int)}{k:Int}(hok:(Wo D k).ok=true)(h0:(Wo D k).at_=0):(Wo D k).nodes.length=k.toNat∧∀n∈(Wo D k).nodes,∃row∈D,∃(i:Nat) (x:Int),n=i∧row[i]?=some x∧x≤0:=by
 unfold Wo at hok h0 ⊢
 split at hok
 ·cases hok
 rename_i hk;rw[if_neg hk]at h0 ⊢;cases hb:Gw k.toNat D D.length with
 | none=>rw[hb]at hok;cases hok
 | some p=>
  obtain⟨v,i⟩:=p;rw[hb]at h0;have hv:v=0:=h0;subst hv;obtain⟨row,hr,hkt⟩:=Qcj hb;simp only[hr,Option.getD_some];unfold kth at hkt;split at hkt
  case isFalse=>cases hkt
  rename_i hl;obtain⟨c,hc,hc0⟩:=Option.map_eq_some_iff.1 hkt;have hlen:=Gd row
  refine⟨?_,fun n hn=>⟨row,List.mem_of_getElem? hr,?_⟩⟩
  ·rw[chosen,(F3 _).length_eq,List.length_map,List.length_take];omega
  ·rw[chosen,(F3 _).mem_iff]at hn;obtain⟨d,hd,rfl⟩:=List.mem_map.1 hn;obtain⟨j,hj,e⟩:=List.mem_iff_getElem.1 hd;rw[List.length_take]at hj;rw[List.getElem_take]at e;have hdm:d∈Yz row:=by rw[←e];exact List.getElem_mem _
   have hle:d.2≤0:=by
    obtain⟨q1,q2⟩:=List.getElem?_eq_some_iff.1 hc
    by_cases ej:j=k.toNat-1
    ·subst ej;rw[←e,q2,hc0];exact Int.le_refl _
    ·have:=List.pairwise_iff_getElem.1 (Qnv row) j (k.toNat-1) (by omega) q1 (by omega);rw[e,q2]at this;simp only[ltC,decide_eq_true_eq]at this;omega
   obtain⟨i,x,hx,hcx⟩:=Qq8.1 ((T4 row).mem_iff.1 hdm);subst hcx;refine⟨i,x,rfl,hx,?_⟩;simp only[inI]at hle
   split at hle
   ·omega
   split at hle <;> omega
def Fr(D:List (List Int))(U:Nat→Prop):Prop:=∀row∈D,∀(i:Nat) (x:Int),row[i]?=some x→x≤0→U i
theorem Q8k{D:List (List Int)}{U:Nat→Prop}(h:Fr D U){v:Int}(hv:1≤v)(r:Int)(ns:List Int):Fr (A6 D r ns v) U:=by
 unfold A6
 split
 ·have key:∀(ns:List Int) (row:List Int),(∀(i:Nat) (x:Int),row[i]?=some x→x≤0→U i)→∀(i:Nat) (x:Int),(J6 v row ns)[i]?=some x→x≤0→U i:=by
   intro ns;induction ns with
   | nil=>exact fun _ h=>h
   | cons n ns ih=>
    intro row hr;show ∀(i:Nat) (x:Int),(J6 v (R7 v row n) ns)[i]?=some x→x≤0→U i;refine ih _ fun i x hx h0=>?_;unfold R7 at hx
    split at hx
    ·rw[List.getElem?_set]at hx
     split at hx
     ·split at hx
      ·cases hx;omega
      ·cases hx
     ·exact hr i x hx h0
    ·exact hr i x hx h0
  intro row Sg i x hx h0
  rcases List.mem_or_eq_of_mem_set Sg with hm|hm
  ·exact h row hm i x hx h0
  ·subst hm;refine key ns _ (fun i x hx h0=>?_) i x hx h0;cases hd:D[r.toNat]? with
   | none=>rw[hd]at hx;simp at hx
   | some row=>rw[hd]at hx;exact h row (List.mem_of_getElem? hd) i x hx h0
 ·exact h
theorem Qih{U:Nat→Prop}:∀ {l:List Ak} {D:List (List Int)} (_:Fr D U) {i:Nat} {s:St},(Fe D l)[i]?=some s→s.ok=true→s.at_=0→∃a,l[i]?=some a∧s.nodes.length=a.k.toNat∧∀n∈s.nodes,∃i:Nat,n=i∧U i
 | [],_,_,_,_,h,_,_=>by cases h
 | a::l,D,hf,0,s,h,h1,h2=>by
  have e:Wo D a.k=s:=Option.some.inj h;subst e;obtain⟨k1,k2⟩:=Qr5 h1 h2;refine⟨a,rfl,k1,fun n hn=>?_⟩;obtain⟨row,hr,i,x,e,hx,h0⟩:=k2 n hn;exact⟨i,e,hf row hr i x hx h0⟩
 | a::l,D,hf,i+1,s,h,h1,h2=>by
  refine Qih (D:=A4 D (Wo D a.k) a.len) ?_ (i:=i) h h1 h2;unfold A4
  split
  ·refine Q8k hf ?_ _ _;unfold Qj9;have h5:=(Qbq (Wo D a.k).at_).1;have h6:1≤inI (max a.len 1):=by unfold inI;split <;> (try split) <;> omega
   have h7:∀z:Int,1≤z→1≤inI z:=fun z hz=>by unfold inI;split <;> (try split) <;> omega
   exact h7 _ (by omega)
  ·exact hf
end PL
namespace BN
theorem Qoe(i:Nat):∀(l:List Nat) (f:Nat→Nt),l.Nodup→(i∉l→qOf (l.mapIdx fun r n=>((n,f r):Od)) i=[])∧(i∈l→∃r,qOf (l.mapIdx fun r n=>((n,f r):Od)) i=[f r])
 | [],_,_=>⟨fun _=>rfl,fun h=>(by cases h)⟩
 | n::l,f,h=>by
  obtain⟨h1,h2⟩:=List.nodup_cons.1 h;obtain⟨k1,k2⟩:=Qoe i l (fun r=>f (r+1)) h2;rw[List.mapIdx_cons];unfold qOf at k1 k2 ⊢;rw[List.filter_cons]
  by_cases e:n=i
  ·rw[if_pos (by simpa using e),List.map_cons];refine⟨fun hn=>absurd (by rw[e];exact List.mem_cons_self ..) hn,fun _=>⟨0,?_⟩⟩;rw[k1 (by rw[←e];exact h1)]
  ·rw[if_neg (by simpa using e)]
   exact⟨fun hn=>k1 fun hm=>hn (List.mem_cons_of_mem _ hm),fun hm=>by
    obtain⟨r,hr⟩:=k2 ((List.mem_cons.1 hm).resolve_left (Ne.symm e));exact⟨r+1,hr⟩⟩
theorem Q04{m:Mx}{j:Nat}{z:Int}{l:List Int}(h:(X7 m j z l).1≠0):(X7 m j z l).2=m:=by
 unfold X7 at h ⊢
 split
 ·rfl
 rename_i h1;rw[if_neg h1]at h
 split
 ·rfl
 rename_i h2;rw[if_neg h2]at h
 split
 ·rfl
 rename_i h3;rw[if_neg h3]at h;exact absurd rfl h
theorem Q1x{b:Br}(h:BrI b never){x:Bj}{s:PL.St}(hx:Qg b.js x.id=some x)(h0:x.state=0)(hup:∀n∈nats s.nodes,n∈b.up)(hlen:(nats s.nodes).length=x.k):BS b (V3 b x s)∧BrI (V3 b x s) never:=by
 by_cases hp:(X7 b.m x.id s.row s.nodes).1≠0
 ·rw[U5 hp,Q04 hp];exact⟨.refl b,h⟩
 have hX:=h.j x (Qd hx).1;have hj:=h.ok.at_ hx;obtain⟨q1,q2,q3,q4,q5⟩:=hX.q h0;have ok:=Qiw h.ok (s:=s) hj q3;have hp:=Classical.byContradiction hp;obtain⟨p1,p2,p3,p4⟩:=Bm hp;obtain⟨t1,t2⟩:=Ea p1;obtain⟨o1,o2,_⟩:=Qll h.ok.Hu p2 p1;have hp':¬(X7 b.m x.id s.row s.nodes).1≠0:=fun e=>e hp;rw[V2 hp',p4]at ok ⊢;obtain⟨y,hy⟩:∃y,y=N4 x (nats s.nodes):=⟨_,rfl⟩;have hyi:y.id=x.id:=by rw[hy]
 have hya:y.at_=nats s.nodes:=by rw[hy]
 have hyd:y.Qi=none:=by rw[hy];exact q2
 have hyk:y.k=x.k:=by rw[hy]
 have hys:y.state=1:=by rw[hy]
 rw[←hy]at ok ⊢;have hq:=fun i=>Qoe i (nats s.nodes) (fun r=>{kind:=3,Qm:=x.id,ver:=x.ver,Qt:=r,Qb:=x.Qb}) (Gg t1);obtain⟨E,hE⟩:∃E,E=Wk x (nats s.nodes):=⟨_,rfl⟩;rw[←hE]at ok ⊢;have hq:∀i,(i∉nats s.nodes→qOf E i=[])∧(i∈nats s.nodes→∃r,qOf E i=[{kind:=3,Qm:=x.id,ver:=x.ver,Qt:=r,Qb:=x.Qb}]):=fun i=>by rw[hE];exact hq i
 have hm:∀o∈E,o.1∈nats s.nodes∧o.2.kind=3∧o.2.Qm=x.id∧o.2.Qt≤255:=fun o ho=>by
  rw[hE,Wk]at ho;obtain⟨r,hr,e⟩:=List.mem_mapIdx.1 ho;rw[←e];have h16:=Bk t1 t2;have hN:=h.ok.Hu.Bz;exact⟨List.getElem_mem _,rfl,rfl,by show r≤255;omega⟩
 have hP:∀i id,Pres (Br.set {b with m:=b.m.add ⟨x.id,s.row.toNat,ofL (nats s.nodes)⟩,Qa:=b.Qa++E} y) i id↔if id=x.id then (y.Qi=none∧i∈y.at_) else Pres b i id:=fun i id=>Nr hx hyi (b.Qa++E) _ i id
 refine⟨⟨E,rfl,rfl,rfl,rfl,rfl,rfl,rfl,fun o ho=>hup _ (hm o ho).1,fun o ho=>?_,fun i hi=>⟨fun v h1 h2 h3 h4=>?_⟩⟩,?_⟩
 ·obtain⟨_,e1,e2,e3⟩:=hm o ho;exact⟨by omega,by omega,fun _=>by rw[e2];have:=hj.B6;omega,e3⟩
 ·have Vb:¬Pres b i x.id:=fun⟨z,k1,_,k3⟩=>by
   rw[hx]at k1;cases k1;rw[q1]at k3;cases k3
  by_cases D6:i∈nats s.nodes
  ·obtain⟨r,e⟩:=(hq i).2 D6;rw[e,List.foldl_cons,List.foldl_nil];unfold Q8;rw[if_pos rfl]
   have hn:(Yg x.id v.rk).isSome=false:=by
    cases hg:Yg x.id v.rk with
    | none=>rfl
    | some w=>exact absurd ((h3 x.id).1 (by rw[hg];rfl)) Vb
   refine⟨by show (v.Qf || (Yg x.id v.rk).isSome)=false;rw[h1,hn];rfl,fun id=>?_⟩;show (Yg id (Xl x.id _ v.rk)).isSome=true↔_;rw[Jp,hP i id]
   by_cases e:id=x.id
   ·rw[if_pos e,if_pos e,hyd,hya];exact⟨fun _=>⟨rfl,D6⟩,fun _=>rfl⟩
   ·rw[if_neg e,if_neg e];exact h3 id
  ·rw[(hq i).1 D6,List.foldl_nil];refine⟨h1,fun id=>?_⟩;rw[hP i id]
   by_cases e:id=x.id
   ·rw[if_pos e,e,hya];exact⟨fun k=>absurd ((h3 x.id).1 k) Vb,fun k=>absurd k.2 D6⟩
   ·rw[if_neg e];exact h3 id
 ·have hI:=h.ord (b.Qa++E)
  refine hI.put (x:=x) (y:=y) (m:=b.m.add ⟨x.id,s.row.toNat,ofL (nats s.nodes)⟩) hx hyi ok (fun k hk=>?_) (fun z hz=>?_) (fun z=>Di rfl rfl z) ?_
  ·show look (D8 _ b.m.js) k=_;rw[Qiv h.ok.Hu p3,if_neg hk]
  ·rcases Wm.1 (show z∈D8 _ b.m.js from hz) with e|e
   ·exact .inl (by rw[e])
   ·exact .inr e
  ·refine⟨by rw[hys];omega,fun e=>(by rw[hys]at e;cases e),fun _=>⟨by rw[hya,hyk];exact hlen,⟨x.id,s.row.toNat,ofL (nats s.nodes)⟩,?_,by rw[hya];exact o1⟩,?_,fun _ n hn=>.inl (hup n (by rw[←hya];exact hn)),fun d e=>(by rw[hyd]at e;cases e),fun d e=>(by rw[hyd]at e;cases e)⟩
   ·show look (D8 _ b.m.js) y.id=_;rw[Qiv h.ok.Hu p3,hyi,if_pos rfl]
   ·rw[hys,hyd];exact⟨fun e=>(by cases e),fun e=>(by cases e)⟩
theorem Q1w(b:Br)(x:Bj)(s:PL.St):(V3 b x s).up=b.up:=by
 by_cases hp:(X7 b.m x.id s.row s.nodes).1≠0
 ·rw[U5 hp]
 ·rw[V2 hp]
theorem Qa0:∀(zs:List (Nat×PL.St)) (b:Br),BrI b never→(zs.map (·.1)).Nodup→(∀p∈zs,∃x,Qg b.js p.1=some x∧x.state=0∧(p.2.ok=true→p.2.at_=0→(∀n∈nats p.2.nodes,n∈b.up)∧(nats p.2.nodes).length=x.k))→BS b (Yp b zs)∧BrI (Yp b zs) never
 | [],b,h,_,_=>⟨.refl b,h⟩
 | p::zs,b,h,hn,hz=>by
  have e:Yp b (p::zs)=Yp (Vg b p) zs:=by rw[Xq,Xq];rfl
  rw[e];obtain⟨n1,n2⟩:=List.nodup_cons.1 (show (p.1::zs.map (·.1)).Nodup from hn);obtain⟨x,g1,g2,g3⟩:=hz p (List.mem_cons_self ..);have K0:=(Qd g1).2
  by_cases hy:p.2.ok=true∧p.2.at_=0
  ·rw[Db hy g1];obtain⟨g4,g5⟩:=g3 hy.1 hy.2;obtain⟨k1,k2⟩:=Q1x h (s:=p.2) (by rw[K0];exact g1) g2 g4 g5
   obtain⟨l1,l2⟩:=Qa0 zs (V3 b x p.2) k2 n2 fun q hq=>by
    obtain⟨z,m1,m2,m3⟩:=hz q (List.mem_cons_of_mem _ hq);refine⟨z,?_,m2,by rw[Q1w];exact m3⟩;rw[Qbi b p.2 fun e=>n1 (List.mem_map.2 ⟨q,hq,by rw[e,K0]⟩)];exact m1
   exact⟨k1.trans l1,l2⟩
  ·rw[F9 hy];exact Qa0 zs b h n2 fun q hq=>hz q (List.mem_cons_of_mem _ hq)
theorem Q05{b:Br}(h:BrI b never):PL.Fr (Af b) (·∈b.up):=by
 intro row hr i x hx h0;obtain⟨r,_,rfl⟩:=List.mem_map.1 hr;rw[List.getElem?_map]at hx;obtain⟨n,hn,e⟩:=Option.map_eq_some_iff.1 hx;obtain⟨_,rfl⟩:=List.getElem?_eq_some_iff.1 hn;rw[List.getElem_range]at e;rw[h.up];cases hu:V9 b.m i with
 | true=>rfl
 | false=>
  rw[Wh,hu]at e;rw[if_neg (by decide)]at e;omega
theorem Rm{b:Br}(h:BrI b never):BS b (Ya b)∧BrI (Ya b) never:=by
 rw[Ff];refine Qa0 (zsR b) b h (by rw[Ba];exact Cf h.ok.Yz) fun p hp=>?_;have h1:p.1∈Xd b:=by rw[←Ba];exact List.mem_map.2 ⟨p,hp,rfl⟩
 obtain⟨x,g1,g2⟩:=Hb h.ok.Yz h1;simp only[quB,Bool.and_eq_true,decide_eq_true_eq]at g2;refine⟨x,g1,g2.1,fun k1 k2=>?_⟩;obtain⟨i,hi⟩:=List.getElem?_of_mem hp;obtain⟨a1,a2⟩:=List.getElem?_zip_eq_some.1 hi;obtain⟨a,m1,m2,m3⟩:=PL.Qih (Q05 h) a2 k1 k2;rw[Lq,List.getElem?_map,a1]at m1;simp only[Option.map_some,Option.some.injEq]at m1;rw[Qj7 g1]at m1
 refine⟨fun n hn=>?_,?_⟩
 ·obtain⟨z,hz,rfl⟩:=List.mem_map.1 hn;obtain⟨j,rfl,hj⟩:=m3 z hz;exact hj
 ·rw[List.length_map,m2,←m1];rfl
end BN
def Apart(x y:Jb):Prop:=∀i,x.ns.getLsbD i=true→y.ns.getLsbD i=true→False
structure Aq(m:Mx)(k o:Nat)(a:Bs×List Jb):Prop where
 bits:∀i,a.1.getLsbD i=true↔∃x∈Kf m k++a.2,x.ns.getLsbD i=true
 pw:(Kf m k++a.2).Pairwise Apart
 mem:∀x∈a.2,x∈m.js∧x.row≠k∧x.row<o
theorem and_zero{s t:Bs}:s &&& t=0#16↔∀i,s.getLsbD i=true→t.getLsbD i=true→False:=by
 constructor
 ·intro h i h1 h2;have:=congrArg (fun q=>q.getLsbD i) h;simp[h1,h2]at this
 ·intro h;refine BitVec.eq_of_getLsbD_eq fun i _=>?_;rw[BitVec.getLsbD_and];cases h1:s.getLsbD i with
  | false=>simp
  | true=>
   cases h2:t.getLsbD i with
   | false=>simp
   | true=>exact(h i h1 h2).elim
theorem Aq.step{m:Mx}{k o:Nat}{a:Bs×List Jb}(h:Aq m k o a){x:Jb}(hx:x∈m.js)(hxk:x.row≠k)(hxo:x.row<o):Aq m k o (Xj a x)∧(∀i,a.1.getLsbD i=true→(Xj a x).1.getLsbD i=true)∧(∀y∈a.2,y∈(Xj a x).2)∧(x∈(Xj a x).2∨x.ns &&& (Xj a x).1≠0#16):=by
 unfold Xj
 by_cases hz:x.ns &&& a.1=0#16
 ·rw[if_pos hz];have hz:=and_zero.1 hz
  refine⟨⟨fun i=>?_,?_,fun y hy=>?_⟩,fun i hi=>?_,fun y hy=>List.mem_append_left _ hy,.inl (List.mem_append_right _ (List.mem_singleton.2 rfl))⟩
  ·show (a.1 ||| x.ns).getLsbD i=true↔_;rw[BitVec.getLsbD_or,Bool.or_eq_true,h.bits];simp only[List.mem_append,List.mem_singleton]
   constructor
   ·rintro (⟨y,hy,h1⟩|h1)
    ·rcases hy with hy|hy
     ·exact⟨y,.inl hy,h1⟩
     ·exact⟨y,.inr (.inl hy),h1⟩
    ·exact⟨x,.inr (.inr rfl),h1⟩
   ·rintro ⟨y,hy,h1⟩
    rcases hy with hy|hy|rfl
    ·exact .inl ⟨y,.inl hy,h1⟩
    ·exact .inl ⟨y,.inr hy,h1⟩
    ·exact .inr h1
  ·show (Kf m k++(a.2++[x])).Pairwise Apart;rw[←List.append_assoc];refine List.pairwise_append.2 ⟨h.pw,List.pairwise_singleton _ _,fun y hy z hzz i h1 h2=>?_⟩;rw[List.mem_singleton]at hzz;subst hzz;exact hz i h2 ((h.bits i).2 ⟨y,hy,h1⟩)
  ·rcases List.mem_append.1 hy with hy|hy
   ·exact h.mem y hy
   ·rw[List.mem_singleton]at hy;subst hy;exact⟨hx,hxk,hxo⟩
  ·show (a.1 ||| x.ns).getLsbD i=true;rw[BitVec.getLsbD_or,hi,Bool.true_or]
 ·rw[if_neg hz];exact⟨h,fun i hi=>hi,fun y hy=>hy,.inr hz⟩
theorem Aq.fold{m:Mx}{k o:Nat}:∀(l:List Jb) {a:Bs×List Jb},Aq m k o a→(∀x∈l,x∈m.js∧x.row≠k∧x.row<o)→Aq m k o (l.foldl Xj a)∧(∀i,a.1.getLsbD i=true→(l.foldl Xj a).1.getLsbD i=true)∧(∀y∈a.2,y∈(l.foldl Xj a).2)∧∀x∈l,x∈(l.foldl Xj a).2∨x.ns &&& (l.foldl Xj a).1≠0#16
 | [],a,h,_=>⟨h,fun _ hi=>hi,fun _ hy=>hy,fun x hx=>by cases hx⟩
 | x::l,a,h,hl=>by
  obtain⟨h1,h2,h3⟩:=hl x (List.mem_cons_self ..);obtain⟨s1,s2,s3,s4⟩:=h.step h1 h2 h3;obtain⟨f1,f2,f3,f4⟩:=Aq.fold l s1 fun y hy=>hl y (List.mem_cons_of_mem _ hy);refine⟨f1,fun i hi=>f2 i (s2 i hi),fun y hy=>f3 y (s3 y hy),fun y hy=>?_⟩
  rcases List.mem_cons.1 hy with rfl|hy
  ·rcases s4 with s4|s4
   ·exact .inl (f3 _ s4)
   ·refine .inr fun e=>s4 (and_zero.2 fun i h5 h6=>and_zero.1 e i h5 (f2 i h6))
  ·exact f4 y hy
theorem Qb6{m:Mx}(hm:Xk m){k:Nat}:∀o,Aq m k o (Ur m k o)∧∀x∈m.js,x.row<o→x.row≠k→x∈(Ur m k o).2∨x.ns &&& (Ur m k o).1≠0#16
 | 0=>by
  refine⟨⟨fun i=>?_,?_,fun x hx=>by cases hx⟩,fun x _ h=>by omega⟩
  ·show (tk m.js k).getLsbD i=true↔∃x∈Kf m k++[],x.ns.getLsbD i=true;rw[Av,List.append_nil]
   constructor
   ·rintro ⟨x,h1,h2,h3⟩;exact⟨x,(Xn hm).2 ⟨h1,h2⟩,h3⟩
   ·rintro ⟨x,h1,h3⟩;exact⟨x,((Xn hm).1 h1).1,((Xn hm).1 h1).2,h3⟩
  ·show (Kf m k++[]).Pairwise Apart;rw[List.append_nil];refine M9.imp_of_mem fun {x y} hx hy Wq i h1 h2=>?_;obtain⟨x1,x2⟩:=(Xn hm).1 hx;obtain⟨y1,y2⟩:=(Xn hm).1 hy;exact hm.dis x x1 y y1 (fun e=>by rw[Dk hm.Yz x1 y1 e]at Wq;omega) (x2.trans y2.symm) i h1 h2
 | o+1=>by
  obtain⟨h1,h2⟩:=Qb6 hm o;have h1':Aq m k (o+1) (Ur m k o):=⟨h1.bits,h1.pw,fun x hx=>by obtain⟨a,b,c⟩:=h1.mem x hx;exact⟨a,b,by omega⟩⟩;rw[Ur]
  by_cases e:o=k
  ·rw[if_pos e];exact⟨h1',fun x hx hr hk=>h2 x hx (by omega) hk⟩
  ·rw[if_neg e];obtain⟨f1,f2,f3,f4⟩:=Aq.fold (Kf m o) h1' fun x hx=>⟨((Xn hm).1 hx).1,by rw[((Xn hm).1 hx).2];exact e,by rw[((Xn hm).1 hx).2];omega⟩;refine⟨f1,fun x hx hr hk=>?_⟩
   by_cases er:x.row=o
   ·exact f4 x ((Xn hm).2 ⟨hx,er⟩)
   ·rcases h2 x hx (by omega) hk with h3|h3
    ·exact .inl (f3 x h3)
    ·exact .inr fun e2=>h3 (and_zero.2 fun i h5 h6=>and_zero.1 e2 i h5 (f2 i h6))
def goJ(m:Mx)(k:Nat):List Jb:=Kf m k++(Ur m k m.R).2
theorem Q3d{m:Mx}{k:Nat}(hk:k<m.R):Z9 m k++Yq m k=(goJ m k).map (·.id):=by
 rw[Z9,Yq,if_pos (Vi.2 ⟨by omega,by omega⟩),if_pos (Vi.2 ⟨by omega,by omega⟩),Int.toNat_natCast,goJ,List.map_append]
theorem Td{m:Mx}(hm:Xk m){k:Nat}{x:Jb}(h:x∈goJ m k):x∈m.js:=by
 rcases List.mem_append.1 h with h|h
 ·exact((Xn hm).1 h).1
 ·exact((Qb6 hm m.R).1.mem x h).1
theorem Qxr{m:Mx}(hm:Xk m)(k:Nat):(goJ m k).Pairwise Apart:=(Qb6 hm m.R).1.pw
namespace BN
theorem Qd1(x:Nat):∀(l a:List Nat),x∈l.foldl Yj a↔x∈a∨x∈l
 | [],a=>by simp
 | y::l,a=>by
  rw[List.foldl_cons,Qd1 x l (Yj a y)]
  have h:x∈Yj a y↔x∈a∨x=y:=by
   unfold Yj
   split
   ·exact⟨fun h=>.inl h,fun h=>h.elim id fun e=>by subst e;assumption⟩
   ·simp
  rw[h,List.mem_cons]
  constructor
  ·rintro ((h|h)|h)
   ·exact .inl h
   ·exact .inr (.inl h)
   ·exact .inr (.inr h)
  ·rintro (h|h|h)
   ·exact .inl (.inl h)
   ·exact .inl (.inr h)
   ·exact .inr h
end BN
theorem Qr2{m:Mx}(hm:Xk m)(k:Nat):((goJ m k).map (·.id)).Nodup:=by
 rw[List.nodup_iff_pairwise_ne,List.pairwise_map];refine(Qxr hm k).imp_of_mem fun {x y} hx hy ha e=>?_;have:=Dk hm.Yz (Td hm hx) (Td hm hy) e;subst this;refine hm.some x (Td hm hx) (S8 fun i=>?_);rw[show (0#16:Bs).getLsbD i=false by simp];exact⟨fun h=>(ha i h h).elim,fun h=>(by cases h)⟩
theorem Qr3{m:Mx}(hm:Xk m){k:Nat}{x y:Jb}(hx:x∈goJ m k)(hy:y∈goJ m k)(h:x≠y):Apart x y:=by
 obtain⟨i,hi,ex⟩:=List.mem_iff_getElem.1 hx;obtain⟨j,hj,ey⟩:=List.mem_iff_getElem.1 hy;have hp:=List.pairwise_iff_getElem.1 (Qxr hm k)
 rcases Nat.lt_trichotomy i j with hij|hij|hij
 ·have:=hp i j hi hj hij
  rwa [ex,ey]at this
 ·subst hij;exact absurd (ex.symm.trans ey) h
 ·have:=hp j i hj hi hij;rw[ex,ey]at this;exact fun q h1 h2=>this q h2 h1
namespace BN
def C7(b:Br)(id:Nat):List Nat:=match Qg b.js id with
 | none=>[]
 | some x=>x.at_
theorem Es{b:Br}{id:Nat}{x:Bj}(h:Qg b.js id=some x):C7 b id=x.at_:=by rw[C7,h]
def Qmk(g id:Nat):Nt:={kind:=5,gen:=g,Qm:=id}
def Sn(b:Br)(g:Nat)(l:List Nat):List Od:=l.flatMap fun id=>(C7 b id).map fun n=>((n,Qmk g id):Od)
structure GoL(b:Br)(l:List Nat):Prop where
 nd:l.Nodup
 Qm:∀id∈l,∃x,Qg b.js id=some x∧x.state=2∧x.Qi=none
 dis:∀id∈l,∀id'∈l,id≠id'→∀i,i∈C7 b id→i∈C7 b id'→False
theorem Zcr{b:Br}(hn:∀id,(C7 b id).Nodup)(g i:Nat):∀ {l:List Nat},l.Nodup→(∀id∈l,∀id'∈l,id≠id'→i∈C7 b id→i∈C7 b id'→False)→((∀id∈l,i∉C7 b id)∧qOf (Sn b g l) i=[])∨∃id∈l,i∈C7 b id∧qOf (Sn b g l) i=[Qmk g id]
 | [],_,_=>.inl ⟨fun _ h=>(by cases h),rfl⟩
 | id::l,h,hd=>by
  obtain⟨h1,h2⟩:=List.nodup_cons.1 h
  have hq:qOf (Sn b g (id::l)) i=(if i∈C7 b id then [Qmk g id] else [])++qOf (Sn b g l) i:=by
   rw[Sn,List.flatMap_cons,Nn];exact congrArg (·++qOf (Sn b g l) i) (F7 (fun _=>Qmk g id) i (hn id))
  rw[hq]
  rcases Zcr hn g i h2 fun a ha c hc=>hd a (List.mem_cons_of_mem _ ha) c (List.mem_cons_of_mem _ hc) with ⟨k1,k2⟩|⟨c,hc,k1,k2⟩
  ·by_cases hi:i∈C7 b id
   ·exact .inr ⟨id,List.mem_cons_self ..,hi,by rw[if_pos hi,k2];rfl⟩
   ·refine .inl ⟨fun c hc=>?_,by rw[if_neg hi,k2];rfl⟩
    rcases List.mem_cons.1 hc with rfl|hc
    ·exact hi
    ·exact k1 c hc
  ·have hi:i∉C7 b id:=fun hi=>hd id (List.mem_cons_self ..) c (List.mem_cons_of_mem _ hc) (fun e=>h1 (by rw[e];exact hc)) hi k1;exact .inr ⟨c,List.mem_cons_of_mem _ hc,k1,by rw[if_neg hi,k2];rfl⟩
structure Qst(b t:Br)(l:List Nat):Prop where
 bi:BrI t never
 ord:t.Qa=b.Qa++Sn b b.gen l
 Eu:∀i,i∈t.stops.getD []↔∃id∈l,i∈C7 b id
 som:t.stops.isSome=true
 gen:t.gen=b.gen
 mem:t.members=b.members
 Qo:t.Qo=b.Qo
 up:t.up=b.up
 nodes:t.nodes=b.nodes
 Q6x:∀i id,Pres t i id↔Pres b i id
 Qm:∀id x,Qg b.js id=some x→∃y,Qg t.js id=some y∧y.at_=x.at_∧y.Qi=x.Qi∧y.state=x.state
theorem Qst.step{b t:Br}{l:List Nat}(h:Qst b t l){id:Nat}{x:Bj}(hx:Qg b.js id=some x)(h0:x.state=2):Qst b (match Qg t.js id with|none=>t|some x=>W6 t x) (l++[id]):=by
 obtain⟨y,k1,k2,k3,k4⟩:=h.Qm id x hx;rw[k1];have hyi:=(Qd k1).2;have k1':Qg t.js y.id=some y:=by rw[hyi];exact k1
 have hY:=h.bi.j y (Qd k1).1;have hj:=h.bi.ok.at_ k1';have hok:Q7 (W6 t y):=goE.ok t y h.bi.ok k1';have hat:=Es hx
 refine⟨?_,?_,fun i=>?_,rfl,h.gen,h.mem,h.Qo,h.up,h.nodes,fun i id'=>?_,fun id' x' hx'=>?_⟩
 ·have hs:=h.bi.put (x:=y) (y:={y with ran:=some []}) (m:=t.m) k1' rfl (h.bi.ok.set (x:={y with ran:=some []}) ⟨hj.B6,hj.Al,hj.tier,hj.k1,hj.kn,hj.w,hj.cr,hj.wk,hj.Jy,hj.at_,hj.drop,hj.lod,fun r e=>(by cases e;intro y hy;cases hy),hj.ld,hj.svl⟩) (fun _ _=>rfl) (fun z hz=>.inr hz) (fun _=>rfl) ((hY.agr (y:={y with ran:=some []}) ⟨rfl,rfl,rfl,rfl,rfl⟩ fun e=>(by rw[k4,h0]at e;cases e)).congr rfl rfl);exact hs.same hok rfl rfl rfl
 ·show t.Qa++y.at_.map (fun n=>((n,{kind:=5,gen:=t.gen,Qm:=y.id}):Od))=_;rw[h.ord,Sn,Sn,List.flatMap_append,List.append_assoc,h.gen,hyi,k2];simp only[List.flatMap_cons,List.flatMap_nil,List.append_nil,hat];rfl
 ·show i∈(y.at_.foldl Yj (t.stops.getD []))↔_;rw[Qd1,h.Eu,k2]
  constructor
  ·rintro (⟨c,hc,hi⟩|hi)
   ·exact⟨c,List.mem_append_left _ hc,hi⟩
   ·exact⟨id,List.mem_append_right _ (List.mem_singleton.2 rfl),by rw[hat];exact hi⟩
  ·rintro ⟨c,hc,hi⟩
   rcases List.mem_append.1 hc with hc|hc
   ·exact .inl ⟨c,hc,hi⟩
   ·rw[List.mem_singleton.1 hc,hat]at hi;exact .inr hi
 ·exact(Bo (y:={y with ran:=some []}) k1' rfl rfl rfl t.Qa t.m i id').trans (h.Q6x i id')
 ·obtain⟨z,m1,m2⟩:=h.Qm id' x' hx'
  by_cases e:id'=y.id
  ·refine⟨{y with ran:=some []},?_,?_⟩
   ·show Qg (Yo t.js {y with ran:=some []}) id'=_;rw[El,if_pos e,e,k1'];rfl
   ·rw[e,k1']at m1;cases m1;exact m2
  ·refine⟨z,?_,m2⟩;show Qg (Yo t.js {y with ran:=some []}) id'=_;rw[El,if_neg e];exact m1
theorem Q4j{b:Br}:∀(l:List Nat) {t:Br} {d:List Nat},Qst b t d→(∀id∈l,∃x,Qg b.js id=some x∧x.state=2)→Qst b (each W6 t l) (d++l)
 | [],_,_,h,_=>by rw[List.append_nil];exact h
 | id::l,t,d,h,hl=>by
  obtain⟨x,h1,h2⟩:=hl id (List.mem_cons_self ..);have:=Q4j l (h.step h1 h2) fun c hc=>hl c (List.mem_cons_of_mem _ hc);rw[List.append_assoc]at this;exact this
structure GJ(b:Br)(nd:List Nd):Prop where
 gi:GI b nd
 sf:b.stops=none→b.Qo=false
 ork:∀o∈b.Qa,o.2.Qt≤255
theorem GJ.step{b b':Br}{nd:List Nd}(h:GJ b nd)(k:BS b b')(hb:BrI b' never):GJ b' nd:=by
 obtain⟨E,k⟩:=k;refine⟨h.gi.step k hb,by rw[k.stops,k.Qo];exact h.sf,fun o ho=>?_⟩;rw[k.ord]at ho
 rcases List.mem_append.1 ho with ho|ho
 ·exact h.ork o ho
 ·exact(k.k5 o ho).2.2.2
theorem GJ.quiet{b b':Br}{nd:List Nd}(h:GJ b nd)(ok:Q7 b')(hs:Sam b b')(hj:b'.js=b.js)(hm:b'.m=b.m)(ho:b'.Qa=b.Qa):GJ b' nd:=
 h.step (BS.quiet hs ho fun i id=>by unfold Pres;rw[hj]) (h.gi.bi.same ok hj hm hs.up)
theorem GI.Qim{b:Br}{nd:List Nd}(h:GI b nd){i:Nat}{n:Nd}(hn:nd[i]?=some n):n.up=true↔i∈b.up:=by
 rw[h.up i n hn];exact decide_eq_true_iff
theorem Q6e{b:Br}{l:List Nat}(h:BrI b never)(hl:l.length≤1000):Qst (D0 b l) (D0 b l) [] where
 bi:=h.same (Qfj h.ok hl) rfl rfl rfl
 ord:=by simp[Sn]
 Eu:=fun i=>⟨fun h=>(by cases h),fun⟨_,h,_⟩=>(by cases h)⟩
 som:=rfl
 gen:=rfl
 mem:=rfl
 Qo:=rfl
 up:=rfl
 nodes:=rfl
 Q6x:=fun _ _=>Iff.rfl
 Qm:=fun id x hx=>⟨x,hx,rfl,rfl,rfl⟩
theorem Q6d{b:Br}{nd:List Nd}(h:GJ b nd)(hs:b.stops=none){l:List Nat}(hl:l.length≤1000)(hg:GoL b l):GJ (Qfi b l) nd:=by
 have hp:=H7 l;have hg2:GoL b (U0 l):=⟨hp.nodup_iff.2 hg.nd,fun id hid=>hg.Qm id (hp.mem_iff.1 hid),fun id hid id' hid'=>hg.dis id (hp.mem_iff.1 hid) id' (hp.mem_iff.1 hid')⟩;have hR:=Q4j (U0 l) (Q6e h.gi.bi hl) fun id hid=>(hg2.Qm id hid).imp fun x k=>⟨k.1,k.2.1⟩;rw[List.nil_append,←Bi]at hR;obtain⟨t,ht⟩:∃t,t=Qfi b l:=⟨_,rfl⟩;rw[←ht]at hR ⊢
 have hn:∀id,(C7 b id).Nodup:=fun id=>by
  unfold C7;cases hx:Qg b.js id with
  | none=>exact List.nodup_nil
  | some x=>exact Gg (h.gi.bi.ok.Qm x (Qd hx).1).Jy
 have hup:∀id∈U0 l,∀i∈C7 b id,i∈b.up:=fun id hid i hi=>by
  obtain⟨x,k1,k2,k3⟩:=hg2.Qm id hid;rw[Es k1]at hi;exact((h.gi.bi.j x (Qd k1).1).u k3 i hi).resolve_right fun e=>e
 have hsf:=h.sf hs;have hE:t.Qa=b.Qa++Sn b (u32 (b.gen+1)) (U0 l):=hR.ord
 refine⟨⟨hR.bi,h.gi.len.trans hR.nodes.symm,fun o ho=>?_,fun i n k=>by rw[hR.up];exact h.gi.up i n k,h.gi.off,fun i n k hu=>?_,fun i hi=>?_⟩,fun e=>(by have:=hR.som;rw[e]at this;cases this),fun o ho=>?_⟩
 ·rw[hR.up];rw[hE]at ho
  rcases List.mem_append.1 ho with ho|ho
  ·exact h.gi.dst o ho
  ·obtain⟨id,hid,ho⟩:=List.mem_flatMap.1 ho;obtain⟨i,hi,rfl⟩:=List.mem_map.1 ho;exact hup id hid i hi
 ·have hN:=h.gi.node i n k hu;obtain⟨r1,r2,r3,r4⟩:=hN.rest hs;have hfr:=hN.Qxv hs;have hq:n.Yi++qOf t.Qa i=(n.Yi++qOf b.Qa i)++qOf (Sn b (u32 (b.gen+1)) (U0 l)) i:=by rw[hE,Nn,List.append_assoc]
  have hpr:∀id,Pres t i id↔Pres b i id:=fun id=>hR.Q6x i id
  rcases Zcr hn (u32 (b.gen+1)) i hg2.nd (fun id hid id' hid' he=>hg2.dis id hid id' hid' he i) with ⟨g1,g2⟩|⟨id,hid,g1,g2⟩
  ·rw[g2,List.append_nil]at hq;refine⟨hN.kn,hN.ps,hN.one,hN.wr,by rw[hq];exact hN.right,by rw[hq];exact hN.ld,fun id=>by rw[hq];exact(hN.here id).trans (hpr id).symm,?_⟩;rw[hq];exact .rest (decide_eq_false fun e=>by obtain⟨id,hid,hi⟩:=(hR.Eu i).1 e;exact g1 id hid hi) r2 r3 r4 r1
  ·rw[g2]at hq;obtain⟨x,k1,k2,k3⟩:=hg2.Qm id hid;have hi:i∈x.at_:=by rw[←Es k1];exact g1
   obtain⟨r,hr⟩:=Option.isSome_iff_exists.1 ((hN.here id).2 ⟨x,k1,k3,hi⟩);have hf:fin n.rk (n.Yi++qOf t.Qa i)=Q8 (fin n.rk (n.Yi++qOf b.Qa i)) (Qmk (u32 (b.gen+1)) id):=by rw[hq,Qjs]
   have hact:Q8 (fin n.rk (n.Yi++qOf b.Qa i)) (Qmk (u32 (b.gen+1)) id)={fin n.rk (n.Yi++qOf b.Qa i) with Qf:=(fin n.rk (n.Yi++qOf b.Qa i)).Qf || decide (Qz (fin n.rk (n.Yi++qOf b.Qa i)).rk≠0),rk:=Xl id {r with run:=true,gen:=u32 (b.gen+1),W7:=0,Un:=0} (fin n.rk (n.Yi++qOf b.Qa i)).rk}:=by
    exact Qy6 (nd:=fin n.rk (n.Yi++qOf b.Qa i)) (x:=Qmk (u32 (b.gen+1)) id) rfl hr
   refine⟨hN.kn,hN.ps,hN.one,hN.wr,?_,fun y hy=>?_,fun c=>?_,?_⟩
   ·rw[hf,hact];show ((fin n.rk (n.Yi++qOf b.Qa i)).Qf || decide (Qz (fin n.rk (n.Yi++qOf b.Qa i)).rk≠0))=false;rw[hN.right,E3 hfr];rfl
   ·rw[hq]at hy
    rcases List.mem_append.1 hy with hy|hy
    ·exact hN.ld y hy
    ·rw[List.mem_singleton.1 hy];exact fun e=>(by cases e)
   ·rw[hf,hact];show (Yg c (Xl id _ (fin n.rk (n.Yi++qOf b.Qa i)).rk)).isSome=true↔_;rw[Jp,hpr c]
    by_cases e:c=id
    ·rw[if_pos e,e];exact⟨fun _=>⟨x,k1,k3,hi⟩,fun _=>rfl⟩
    ·rw[if_neg e];exact hN.here c
   ·rw[hq]
    refine .go (decide_eq_true ((hR.Eu i).2 ⟨id,hid,g1⟩)) (hR.Qo.trans hsf) (r3.app fun y hy=>?_) r4 (fun y hy h5=>?_) (r1.ru _ _)
    ·rw[List.mem_singleton.1 hy];show 5≠6;omega
    ·rcases List.mem_append.1 hy with hy|hy
     ·exact absurd h5 (r2 y hy)
     ·rw[List.mem_singleton.1 hy,hR.gen,hR.mem];exact⟨rfl,hid⟩
 ·rw[hR.up];obtain⟨id,hid,k⟩:=(hR.Eu i).1 hi;exact hup id hid i k
 ·rw[hE]at ho
  rcases List.mem_append.1 ho with ho|ho
  ·exact h.ork o ho
  ·obtain⟨id,_,ho⟩:=List.mem_flatMap.1 ho;obtain⟨i,_,rfl⟩:=List.mem_map.1 ho;exact Nat.zero_le _
theorem Quh{b:Br}(h:BrI b never){z:Int}(hz:Kg b.m z=true):GoL b (Wl b (Z9 b.m z++Yq b.m z)):=by
 obtain⟨z1,z2⟩:=Vi.1 hz
 have hid:Z9 b.m z++Yq b.m z=(goJ b.m z.toNat).map (·.id):=by
  rw[←Q3d (show z.toNat<b.m.R by omega),show ((z.toNat:Nat):Int)=z by omega]
 have hj:∀id∈Wl b (Z9 b.m z++Yq b.m z),∃x,Qg b.js id=some x∧x.state=2∧x.Qi=none:=fun id h=>by
  have h2:=(List.mem_filter.1 h).2;cases hg:Qg b.js id with
  | none=>rw[hg]at h2;cases h2
  | some x=>
   rw[hg]at h2;simp only[Bool.and_eq_true,decide_eq_true_eq,Option.isNone_iff_eq_none]at h2;exact⟨x,rfl,h2.1.1,h2.1.2⟩
 refine⟨(by rw[Wl,hid];exact(Qr2 h.ok.Hu _).filter _),hj,fun id hi id' hi' Uk i k1 k2=>?_⟩;have hm:=(List.mem_filter.1 hi).1;have hm':=(List.mem_filter.1 hi').1;rw[hid]at hm hm';obtain⟨y,hy,rfl⟩:=List.mem_map.1 hm;obtain⟨y',hy',rfl⟩:=List.mem_map.1 hm';obtain⟨x,g1,g2,g3⟩:=hj y.id hi;obtain⟨x',g1',g2',g3'⟩:=hj y'.id hi';rw[Es g1]at k1;rw[Es g1']at k2
 have key:∀ {y:Jb} {x:Bj},y∈goJ b.m z.toNat→Qg b.js y.id=some x→x.state=2→lst y.ns=x.at_:=fun {y x} hy g1 g2=>by
  obtain⟨_,w,w1,w2⟩:=(h.j x (Qd g1).1).p (by omega);rw[(Qd g1).2,Ee h.ok.Hu.Yz (Td h.ok.Hu hy)]at w1;cases w1;exact w2
 rw[←key hy g1 g2]at k1;rw[←key hy' g1' g2']at k2;exact Qr3 h.ok.Hu hy hy' (fun e=>Uk (by rw[e])) i (X9.1 k1) (X9.1 k2)
theorem Qhk{b:Br}{nd:List Nd}(h:GJ b nd)(hs:b.stops=none):∀(i:Nat) (row:Int),GJ (Y1 b row i) nd
 | 0,_=>by rw[E0];exact h
 | i+1,row=>by
  cases hn:(Yh b.m row).2 with
  | false=>rw[Ax hn];exact h
  | true=>
   by_cases h2:0<(Wl b (Z9 b.m (Yh b.m row).1)).length
   ·rw[Ay hn h2]
    have hz:Kg b.m (Yh b.m row).1=true:=by
     cases hz:Kg b.m (Yh b.m row).1 with
     | true=>rfl
     | false=>rw[Z9,hz]at h2;simp[Wl]at h2
    have hg:=Quh h.gi.bi hz
    have hl:(Wl b (Z9 b.m (Yh b.m row).1++Yq b.m (Yh b.m row).1)).length≤256:=by
     have:=L9 b (Z9 b.m (Yh b.m row).1++Yq b.m (Yh b.m row).1);rw[List.length_append]at this;have:=Gf h.gi.bi.ok.Hu (Yh b.m row).1;have:=C3 h.gi.bi.ok.Hu (Yh b.m row).1;omega
    have hb:GJ {b with row:=(Yh b.m row).1} nd:=h.quiet (h.gi.bi.ok.rset _) ⟨rfl,rfl,rfl,rfl,rfl,rfl⟩ rfl rfl rfl;exact Q6d hb hs (by omega) ⟨hg.nd,hg.Qm,hg.dis⟩
   ·rw[Aw hn h2];exact Qhk h hs i _
theorem Qzv{b:Br}{nd:List Nd}(h:GJ b nd)(hs:b.stops=none):GJ (Ga b) nd:=by
 obtain⟨a1,a2⟩:=Qd6 h.gi.bi b.ids;have h1:=h.step a1 a2;have s1:=a1.stops.trans hs;obtain⟨c1,c2⟩:=Rm a2;have h2:=h1.step c1 c2;have s2:=c1.stops.trans s1;obtain⟨d1,d2⟩:=Qax c2;have h3:=h2.step d1 d2;have s3:=d1.stops.trans s2;obtain⟨e1,e2⟩:=Qug d2;have h4:=h3.step e1 e2;have s4:=e1.stops.trans s3;obtain⟨f1,f2⟩:=Qhx e2 s4 (rep (Qs (Ya (each Qx b b.ids)))).ids;exact Qhk (h4.step f1 f2) (f1.stops.trans s4) _ _
theorem Qfz{b:Br}{nd:List Nd}(h:GJ b nd){now:Nat}(hn:now≤4294967295):GJ {b with now:=now} nd:=
 h.quiet ⟨h.gi.bi.ok.R,h.gi.bi.ok.N,h.gi.bi.ok.Hu,h.gi.bi.ok.Yz,fun x hx=>h.gi.bi.ok.Qm x hx,h.gi.bi.ok.Ev,h.gi.bi.ok.q1,h.gi.bi.ok.q2,h.gi.bi.ok.g1,h.gi.bi.ok.g2,hn,h.gi.bi.ok.fin,h.gi.bi.ok.mem,h.gi.bi.ok.Eu⟩ ⟨rfl,rfl,rfl,rfl,rfl,rfl⟩ rfl rfl rfl
theorem Qdb{b:Br}(h:BrI b never){i:Nat}(hi:i∈b.up):i<b.nodes:=by
 have:=(h.up i).1 hi
 have h1:V8 b.m i=true:=by
  unfold V9 at this;simp only[Bool.and_eq_true]at this;exact this.1
 have:=(Ws.1 h1).2;rw[h.ok.N]at this;omega
theorem Qz6{b:Br}{nd:List Nd}(h:GJ b nd)(hs:b.stops.isSome=true)(Xf:b.Qo=false):GJ (F2 b) nd:=by
 obtain⟨E,hE⟩:∃E:List Od,E=(((List.range b.nodes).filter fun n=>decide (n∈b.stops.getD [])).map fun n=>((n,{kind:=6,gen:=b.gen}):Od)):=⟨_,rfl⟩;have ok:Q7 (F2 b):=⟨h.gi.bi.ok.R,h.gi.bi.ok.N,h.gi.bi.ok.Hu,h.gi.bi.ok.Yz,fun x hx=>h.gi.bi.ok.Qm x hx,h.gi.bi.ok.Ev,h.gi.bi.ok.q1,h.gi.bi.ok.q2,h.gi.bi.ok.g1,h.gi.bi.ok.g2,h.gi.bi.ok.now,h.gi.bi.ok.fin,h.gi.bi.ok.mem,h.gi.bi.ok.Eu⟩
 have hq:∀i,qOf E i=if i∈b.stops.getD [] then [{kind:=6,gen:=b.gen}] else []:=fun i=>by
  rw[hE];refine(F7 (fun _=>{kind:=6,gen:=b.gen}) i (List.nodup_range.filter _)).trans ?_
  by_cases hi:i∈b.stops.getD []
  ·rw[if_pos hi,if_pos (List.mem_filter.2 ⟨List.mem_range.2 (Qdb h.gi.bi (h.gi.Eu i hi)),decide_eq_true hi⟩)]
  ·rw[if_neg hi];exact if_neg fun e=>hi (by simpa using (List.mem_filter.1 e).2)
 have ho:(F2 b).Qa=b.Qa++E:=by rw[hE];rfl
 refine⟨⟨h.gi.bi.same ok rfl rfl rfl,h.gi.len,fun o k=>?_,h.gi.up,h.gi.off,fun i n k hu=>?_,h.gi.Eu⟩,fun e=>(by rw[show (F2 b).stops=b.stops from rfl]at e;rw[e]at hs;cases hs),fun o k=>?_⟩
 ·rw[ho]at k
  rcases List.mem_append.1 k with k|k
  ·exact h.gi.dst o k
  ·rw[hE]at k;obtain⟨n,hn,rfl⟩:=List.mem_map.1 k;exact h.gi.Eu n (of_decide_eq_true (List.mem_filter.1 hn).2)
 ·have hN:=h.gi.node i n k hu;have hqq:n.Yi++qOf (F2 b).Qa i=(n.Yi++qOf b.Qa i)++qOf E i:=by rw[ho,Nn,List.append_assoc]
  by_cases hi:i∈b.stops.getD []
  ·rw[hq i,if_pos hi]at hqq;have hf:fin n.rk (n.Yi++qOf (F2 b).Qa i)=Q8 (fin n.rk (n.Yi++qOf b.Qa i)) {kind:=6,gen:=b.gen}:=by rw[hqq,Qjs]
   obtain⟨V,hV⟩:∃V,V=fin n.rk (n.Yi++qOf b.Qa i):=⟨_,rfl⟩;have hr:=hN.right;have hh:=hN.here;rw[←hV]at hf hr hh
   have hact:(Q8 V {kind:=6,gen:=b.gen}).Qf=V.Qf∧∀c,(Yg c (Q8 V {kind:=6,gen:=b.gen}).rk).isSome=(Yg c V.rk).isSome:=by
    unfold Q8;rw[if_neg (by show (6:Nat)≠3;omega),if_neg (by show (6:Nat)≠5;omega),if_pos rfl]
    split
    ·split
     ·exact⟨rfl,fun _=>rfl⟩
     ·rename_i r hr;refine⟨rfl,fun c=>?_⟩;show (Yg c (Xl (Qz V.rk) _ V.rk)).isSome=_;rw[Jp]
      split
      ·rename_i e;rw[e,hr];rfl
      ·rfl
    ·exact⟨rfl,fun _=>rfl⟩
   refine⟨hN.kn,hN.ps,hN.one,hN.wr,by rw[hf,hact.1];exact hr,fun y hy=>?_,fun c=>by rw[hf,hact.2];exact hh c,?_⟩
   ·rw[hqq]at hy
    rcases List.mem_append.1 hy with hy|hy
    ·exact hN.ld y hy
    ·rw[List.mem_singleton.1 hy];exact fun e=>(by cases e)
   ·rw[hqq];have hp:=hN.ph;rw[decide_eq_true hi,Xf]at hp;show Ph b.gen b.members (decide (i∈b.stops.getD [])) true n.rk _ n.out;rw[decide_eq_true hi];cases hp with
    | rest a1=>cases a1
    | go _ _ a3 a4 a5 a6=>exact .stop _ _ [] rfl rfl rfl rfl rfl a3 (fun _ k=>(by cases k)) (fun _ k=>(by cases k)) a5 a6 a4
    | stop _ _ _ _ a2=>cases a2
    | said _ _ _ _ a2=>cases a2
  ·rw[hq i,if_neg hi,List.append_nil]at hqq;refine⟨hN.kn,hN.ps,hN.one,hN.wr,by rw[hqq];exact hN.right,by rw[hqq];exact hN.ld,fun c=>by rw[hqq];exact hN.here c,?_⟩;rw[hqq];have hp:=hN.ph;show Ph b.gen b.members (decide (i∈b.stops.getD [])) true n.rk _ n.out;rw[decide_eq_false hi]at hp ⊢;cases hp with
   | rest a1 a2 a3 a4 a5=>exact .rest a1 a2 a3 a4 a5
   | go a1=>cases a1
   | stop _ _ _ a1=>cases a1
   | said _ _ _ a1=>cases a1
 ·rw[ho]at k
  rcases List.mem_append.1 k with k|k
  ·exact h.ork o k
  ·rw[hE]at k;obtain⟨n,_,rfl⟩:=List.mem_map.1 k;exact Nat.zero_le _
theorem Qnp{b:Br}{nd:List Nd}(h:GJ b nd){now:Nat}(hn:now≤4294967295):GJ (Y3 b now).2 nd:=by
 unfold Y3
 split
 ·exact h
 split
 ·exact Qfz h hn
 split
 ·rename_i hs
  split
  ·rename_i k;exact Qz6 (Qfz h hn) hs k.1
  ·exact Qfz h hn
 ·rename_i hs;exact Qzv (Qfz h hn) (by cases hb:b.stops with|none=>rfl|some d=>rw[hb]at hs;exact absurd rfl hs)
theorem Qg1(nd:Nd)(x:Nt):(Q8 nd x).up=nd.up∧(Q8 nd x).Yi=nd.Yi:=by
 unfold Q8
 split
 ·exact⟨rfl,rfl⟩
 split
 ·split <;> exact⟨rfl,rfl⟩
 split
 ·split
  ·split <;> exact⟨rfl,rfl⟩
  ·exact⟨rfl,rfl⟩
 split
 ·split <;> exact⟨rfl,rfl⟩
 split <;> exact⟨rfl,rfl⟩
theorem GI.R7{b:Br}{nd:List Nd}(h:GI b nd){i:Nat}{n n':Nd}(hn:nd[i]?=some n)(hu:n.up=true)(hu':n'.up=true)(hN:Ux b i n'):GI b (nd.set i n'):=by
 have key:∀(j:Nat) (m:Nd),(nd.set i n')[j]?=some m→(j=i∧m=n')∨nd[j]?=some m:=fun j m hm=>by
  rw[List.getElem?_set]at hm
  split at hm
  ·rename_i e
   split at hm
   ·cases hm;exact .inl ⟨e.symm,rfl⟩
   ·cases hm
  ·exact .inr hm
 refine⟨h.bi,by rw[List.length_set];exact h.len,h.dst,fun j m hm=>?_,fun j m hm k=>?_,fun j m hm k=>?_,h.Eu⟩
 ·rcases key j m hm with ⟨rfl,rfl⟩|hm
  ·rw[hu',←hu];exact h.up _ n hn
  ·exact h.up j m hm
 ·rcases key j m hm with ⟨rfl,rfl⟩|hm
  ·rw[hu']at k;cases k
  ·exact h.off j m hm k
 ·rcases key j m hm with ⟨rfl,rfl⟩|hm
  ·exact hN
  ·exact h.node j m hm k
theorem Ux.act{b:Br}{i:Nat}{n:Nd}(h:Ux b i n){x:Nt}{l:List Nt}(hi:n.Yi=x::l):Ux b i (Q8 {n with Yi:=l} x):=by
 obtain⟨q,hq⟩:∃q,q=l++qOf b.Qa i:=⟨_,rfl⟩;have hQ:n.Yi++qOf b.Qa i=x::q:=by rw[hi,hq];rfl
 have hc:core ({n with Yi:=l}:Nd)=core ⟨true,n.rk,[],[],false⟩:=by rw[core,core,h.wr]
 have hr:=h.right;rw[hQ]at hr;have hw0:(Q8 ⟨true,n.rk,[],[],false⟩ x).Qf=false:=Qna (l:=[x]) (m:=q) hr;have hca:=Qke hc x;have hw:(Q8 {n with Yi:=l} x).Qf=false:=(Prod.mk.inj hca).2.trans hw0;have hf:core (fin (Q8 {n with Yi:=l} x).rk q)=core (fin n.rk (x::q)):=(Qxu {n with Yi:=l} x q hw).trans (Qeu hca);obtain⟨f1,f2⟩:=Prod.mk.inj hf;have hin:(Q8 {n with Yi:=l} x).Yi++qOf b.Qa i=q:=by rw[(Qg1 _ _).2,hq]
 have hld:=h.ld;rw[hQ]at hld
 refine⟨Qkc (nd:={n with Yi:=l}) h.kn,Q31 (nd:={n with Yi:=l}) h.ps (hld x (List.mem_cons_self ..)),Q32 (nd:={n with Yi:=l}) h.one h.ps h.kn hw,hw,by rw[hin,f2];exact hr,fun y hy=>hld y (List.mem_cons_of_mem _ (by rw[hin]at hy;exact hy)),fun id=>?_,?_⟩
 ·rw[hin,f1];have:=h.here id;rw[hQ]at this;exact this
 ·rw[hin];have hp:=h.ph;rw[hQ]at hp;exact Ph.act (nd:={n with Yi:=l}) hp h.one h.ps h.kn
theorem Q84{b:Br}{nd:List Nd}(h:GJ b nd){i:Nat}{n:Nd}(hn:nd[i]?=some n)(hu:n.up=true){x:Nt}{l:List Nt}(hi:n.Yi=x::l):GJ b (nd.set i (Q8 {n with Yi:=l} x)):=
 ⟨h.gi.R7 hn hu ((Qg1 _ _).1.trans hu) ((h.gi.node i n hn hu).act hi),h.sf,h.ork⟩
abbrev sk(r:Rk):Nat×Bool×Nat:=(r.place,r.run,r.gen)
abbrev skl(l:Rs):List (Nat×Nat×Bool×Nat):=l.map fun y=>(y.1,sk y.2)
theorem Qnz{a c:Rs}(h:skl a=skl c)(k:Nat):(Yg k a).map sk=(Yg k c).map sk:=by
 induction a generalizing c with
 | nil=>rw[List.map_eq_nil_iff.1 h.symm]
 | cons x a ih=>
  cases c with
  | nil=>cases h
  | cons y c=>
   rw[skl,skl,List.map_cons,List.map_cons,List.cons.injEq]at h;obtain⟨h1,h2⟩:=h;have e1:x.1=y.1:=(Prod.mk.inj h1).1;simp only[Yg,e1]
   split
   ·exact congrArg some (Prod.mk.inj h1).2
   ·exact ih h2
theorem Qny{a c:Rs}(h:skl a=skl c):Qz a=Qz c:=by
 unfold Qz
 have:(a.find? (·.2.run)).map (·.1)=(c.find? (·.2.run)).map (·.1):=by
  induction a generalizing c with
  | nil=>rw[List.map_eq_nil_iff.1 h.symm]
  | cons x a ih=>
   cases c with
   | nil=>cases h
   | cons y c=>
    rw[skl,skl,List.map_cons,List.map_cons,List.cons.injEq]at h;obtain⟨h1,h2⟩:=h;have e1:x.1=y.1:=(Prod.mk.inj h1).1;have e2:x.2.run=y.2.run:=congrArg (fun q:Nat×Bool×Nat=>q.2.1) (Prod.mk.inj h1).2;rw[List.find?_cons,List.find?_cons,e2]
    split
    ·simp[e1]
    ·exact ih h2
 rcases h1:a.find? (·.2.run) with _|u
 ·rcases h2:c.find? (·.2.run) with _|v
  ·rw[h1,h2]
  ·rw[h1,h2]at this;cases this
 ·rcases h2:c.find? (·.2.run) with _|v
  ·rw[h1,h2]at this;cases this
  ·rw[h1,h2]at this ⊢;exact Option.some.inj this
theorem Sz{a c:Rs}(h:skl a=skl c)(k:Nat){r s:Rk}(hr:sk r=sk s):skl (Xl k r a)=skl (Xl k s c):=by
 induction a generalizing c with
 | nil=>
  rw[List.map_eq_nil_iff.1 h.symm];show [(k,sk r)]=[(k,sk s)];rw[hr]
 | cons x a ih=>
  cases c with
  | nil=>cases h
  | cons y c=>
   rw[skl,skl,List.map_cons,List.map_cons,List.cons.injEq]at h;obtain⟨h1,h2⟩:=h;have e1:x.1=y.1:=(Prod.mk.inj h1).1;unfold Xl;rw[e1]
   split
   ·rw[skl,skl,List.map_cons,List.map_cons,hr,h2]
   ·rw[skl,skl,List.map_cons,List.map_cons,h1];exact congrArg _ (ih h2)
theorem Q0f{a c:Rs}(h:skl a=skl c)(k:Nat):skl (Ha k a)=skl (Ha k c):=by
 induction a generalizing c with
 | nil=>rw[List.map_eq_nil_iff.1 h.symm]
 | cons x a ih=>
  cases c with
  | nil=>cases h
  | cons y c=>
   rw[skl,skl,List.map_cons,List.map_cons,List.cons.injEq]at h;obtain⟨h1,h2⟩:=h;have e1:x.1=y.1:=(Prod.mk.inj h1).1;unfold Ha;rw[e1]
   split
   ·exact h2
   ·rw[skl,skl,List.map_cons,List.map_cons,h1];exact congrArg _ (ih h2)
theorem Qu9{a c:Option Rk}(h:a.map sk=c.map sk):(a=none∧c=none)∨∃r s,a=some r∧c=some s∧sk r=sk s:=by
 cases a <;> cases c <;> simp at h
 ·exact .inl ⟨rfl,rfl⟩
 ·exact .inr ⟨_,_,rfl,rfl,by simp[h]⟩
theorem Qn0{a c:Nd}(h:skl a.rk=skl c.rk)(hw:a.Qf=c.Qf)(x:Nt):skl (Q8 a x).rk=skl (Q8 c x).rk∧(Q8 a x).Qf=(Q8 c x).Qf:=by
 have hg:=fun k=>Qu9 (Qnz h k);have hr:=Qny h;unfold Q8
 by_cases k3:x.kind=3
 ·rw[if_pos k3,if_pos k3];refine⟨Sz h _ rfl,?_⟩;show (a.Qf || (Yg x.Qm a.rk).isSome)=(c.Qf || (Yg x.Qm c.rk).isSome);rcases hg x.Qm with ⟨e1,e2⟩|⟨r,s,e1,e2,_⟩ <;> rw[e1,e2,hw] <;> rfl
 rw[if_neg k3,if_neg k3]
 by_cases k5:x.kind=5
 ·rw[if_pos k5,if_pos k5]
  rcases hg x.Qm with ⟨e1,e2⟩|⟨r,s,e1,e2,e3⟩ <;> rw[e1,e2]
  ·exact⟨h,rfl⟩
  ·refine⟨Sz h _ (by show (r.place,_,_)=(s.place,_,_);rw[show r.place=s.place from congrArg (·.1) e3]),?_⟩;show (a.Qf || decide (Qz a.rk≠0))=(c.Qf || decide (Qz c.rk≠0));rw[hw,hr]
 rw[if_neg k5,if_neg k5]
 by_cases k6:x.kind=6
 ·rw[if_pos k6,if_pos k6,hr]
  by_cases k0:Qz c.rk≠0
  ·rw[if_pos k0,if_pos k0]
   rcases hg (Qz c.rk) with ⟨e1,e2⟩|⟨r,s,e1,e2,e3⟩ <;> rw[e1,e2]
   ·exact⟨h,hw⟩
   ·exact⟨Sz h _ (by show (r.place,_,r.gen)=(s.place,_,s.gen);rw[show r.place=s.place from congrArg (·.1) e3,show r.gen=s.gen from congrArg (·.2.2) e3]),hw⟩
  ·rw[if_neg k0,if_neg k0];exact⟨h,hw⟩
 rw[if_neg k6,if_neg k6]
 by_cases k8:x.kind=8
 ·rw[if_pos k8,if_pos k8]
  rcases hg x.Qm with ⟨e1,e2⟩|⟨r,s,e1,e2,e3⟩ <;> rw[e1,e2]
  ·exact⟨h,rfl⟩
  ·refine⟨h,?_⟩;show (a.Qf || r.run)=(c.Qf || s.run);rw[hw,show r.run=s.run from congrArg (·.2.1) e3]
 rw[if_neg k8,if_neg k8]
 by_cases k10:x.kind=10
 ·rw[if_pos k10,if_pos k10];exact⟨Q0f h _,hw⟩
 ·rw[if_neg k10,if_neg k10];exact⟨h,hw⟩
theorem Qtz{q:List Nt}:∀ {a c:Nd},skl a.rk=skl c.rk→a.Qf=c.Qf→skl (q.foldl Q8 a).rk=skl (q.foldl Q8 c).rk∧(q.foldl Q8 a).Qf=(q.foldl Q8 c).Qf:=by
 induction q with
 | nil=>exact fun h1 h2=>⟨h1,h2⟩
 | cons x q ih=>exact fun h1 h2=>ih (Qn0 h1 h2 x).1 (Qn0 h1 h2 x).2
theorem Q0e{a c:Rs}(h:skl a=skl c){y:Nat×Rk}(hy:y∈a):∃z∈c,z.1=y.1∧sk z.2=sk y.2:=by
 have:(y.1,sk y.2)∈skl c:=by rw[←h];exact List.mem_map.2 ⟨y,hy,rfl⟩
 obtain⟨z,hz,e⟩:=List.mem_map.1 this;exact⟨z,hz,(Prod.mk.inj e).1,(Prod.mk.inj e).2⟩
theorem Qty{a c:Rs}(h:skl a=skl c):keys a=keys c:=by
 have:=congrArg (List.map Prod.fst) h;rw[skl,skl,List.map_map,List.map_map]at this;exact this
theorem Ux.skel{b:Br}{i:Nat}{n:Nd}(h:Ux b i n){rk:Rs}(e:skl rk=skl n.rk):Ux b i {n with rk:=rk}:=by
 obtain⟨f1,f2⟩:=Qtz (q:=n.Yi++qOf b.Qa i) (a:=⟨true,rk,[],[],false⟩) (c:=⟨true,n.rk,[],[],false⟩) e rfl
 have run:∀ {y:Nat×Rk},y∈rk→∃z∈n.rk,z.1=y.1∧z.2.run=y.2.run∧z.2.gen=y.2.gen:=fun {y} hy=>by
  obtain⟨z,h1,h2,h3⟩:=Q0e e hy;simp only[sk,Prod.mk.injEq]at h3;exact⟨z,h1,h2,h3.2.1,h3.2.2⟩
 have nr:Vk n.rk→Vk rk:=fun k y hy=>by
  obtain⟨z,h1,_,h3,_⟩:=run hy;rw[←h3];exact k z h1
 have ru:∀ {g m},B3 g m n.rk→B3 g m rk:=fun k y hy hr=>by
  obtain⟨z,h1,h2,h3,h4⟩:=run hy;have:=k z h1 (by rw[h3];exact hr);rw[h4,h2]at this;exact this
 refine⟨by rw[Qty e];exact h.kn,fun y hy=>?_,fun y hy z hz h1 h2=>?_,h.wr,f2.trans h.right,h.ld,fun id=>?_,?_⟩
 ·obtain⟨z,h1,h2,_⟩:=run hy;rw[←h2];exact h.ps z h1
 ·obtain⟨y',a1,a2,a3,_⟩:=run hy;obtain⟨z',c1,c2,c3,_⟩:=run hz;rw[←a2,←c2];exact h.one y' a1 z' c1 (by rw[a3];exact h1) (by rw[c3];exact h2)
 ·have k:=Qnz f1 id
  have:(Yg id (fin rk (n.Yi++qOf b.Qa i)).rk).isSome=(Yg id (fin n.rk (n.Yi++qOf b.Qa i)).rk).isSome:=by
   rcases Qu9 k with ⟨e1,e2⟩|⟨r,s,e1,e2,_⟩
   ·unfold fin;rw[e1,e2]
   ·unfold fin;rw[e1,e2];rfl
  show (Yg id (fin rk (n.Yi++qOf b.Qa i)).rk).isSome=true↔_;rw[this];exact h.here id
 ·show Ph b.gen b.members (decide (i∈b.stops.getD [])) b.Qo rk (n.Yi++qOf b.Qa i) n.out;cases h.ph with
  | rest a1 a2 a3 a4 a5=>exact .rest a1 a2 a3 a4 (nr a5)
  | go a1 a2 a3 a4 a5 a6=>exact .go a1 a2 a3 a4 a5 (ru a6)
  | stop a s c a1 a2 a3 a4 a5 a6 a7 a8 a9 a10 a11=>exact .stop a s c a1 a2 a3 a4 a5 a6 a7 a8 a9 (ru a10) a11
  | said a s c a1 a2 a3 a4 a5 a6 a7 a8 a9 a10=>exact .said a s c a1 a2 a3 a4 (nr a5) a6 a7 a8 a9 a10
theorem Qhf(now:Nat)(n:Nd):∃rk,Q2 now n={n with rk:=rk}∧skl rk=skl n.rk:=by
 unfold Q2
 split
 ·split
  ·exact⟨n.rk,rfl,rfl⟩
  ·rename_i r hr;refine⟨_,rfl,?_⟩
   have self:∀ {l:Rs} {k:Nat} {r:Rk},Yg k l=some r→Xl k r l=l:=by
    intro l;induction l with
    | nil=>intro k r h;cases h
    | cons x l ih=>
     intro k r h;simp only[Yg]at h;unfold Xl
     split
     ·rename_i e;rw[if_pos e]at h;cases h;rw[←e]
     ·rename_i e;rw[if_neg e]at h;rw[ih h]
   have:=Sz (a:=n.rk) (c:=n.rk) rfl (Qz n.rk) (r:={r with Un:=now,W7:=if r.W7=0 then now else r.W7}) (s:=r) rfl;rw[self hr]at this;exact this
 ·exact⟨n.rk,rfl,rfl⟩
theorem Jd(now:Nat)(n:Nd):(Q2 now n).up=n.up∧(Q2 now n).Yi=n.Yi∧(Q2 now n).out=n.out∧(Q2 now n).Qf=n.Qf:=by
 unfold Q2
 split
 ·split <;> exact⟨rfl,rfl,rfl,rfl⟩
 ·exact⟨rfl,rfl,rfl,rfl⟩
theorem Pj{b:Br}{nd:List Nd}(h:GJ b nd)(now:Nat):GJ b (nd.map (Q2 now)):=by
 have key:∀(i:Nat) (m:Nd),(nd.map (Q2 now))[i]?=some m→∃n,nd[i]?=some n∧m=Q2 now n:=fun i m hm=>by
  rw[List.getElem?_map]at hm;obtain⟨n,h1,h2⟩:=Option.map_eq_some_iff.1 hm;exact⟨n,h1,h2.symm⟩
 refine⟨⟨h.gi.bi,by rw[List.length_map];exact h.gi.len,h.gi.dst,fun i m hm=>?_,fun i m hm k=>?_,fun i m hm k=>?_,h.gi.Eu⟩,h.sf,h.ork⟩
 ·obtain⟨n,h1,rfl⟩:=key i m hm;rw[(Jd now n).1];exact h.gi.up i n h1
 ·obtain⟨n,h1,rfl⟩:=key i m hm;rw[(Jd now n).1]at k;obtain⟨k1,k2,k3,k4⟩:=h.gi.off i n h1 k;obtain⟨_,e2,e3,e4⟩:=Jd now n;refine⟨?_,e2.trans k2,e3.trans k3,e4.trans k4⟩;unfold Q2;rw[if_neg (by rw[k1];exact fun e=>e rfl)];exact k1
 ·obtain⟨n,h1,rfl⟩:=key i m hm;rw[(Jd now n).1]at k;have hN:=h.gi.node i n h1 k;obtain⟨rk,e1,e2⟩:=Qhf now n;rw[e1];exact hN.skel e2
theorem Ph.same{g:Nat}{m:List Nat}{on st on' st':Bool}{rk:Rs}{q:List Nt}{out:List (Nt×List Int)}(h:Ph g m on st rk q out)(h1:on'=on)(h2:on=true→st'=st):Ph g m on' st' rk q out:=by
 subst h1;cases h with
 | rest a1 a2 a3 a4 a5=>exact .rest a1 a2 a3 a4 a5
 | go a1 a2 a3 a4 a5 a6=>exact .go a1 ((h2 a1).trans a2) a3 a4 a5 a6
 | stop a s c a1 a2 a3 a4 a5 a6 a7 a8 a9 a10 a11=>exact .stop a s c a1 ((h2 a1).trans a2) a3 a4 a5 a6 a7 a8 a9 a10 a11
 | said a s c a1 a2 a3 a4 a5 a6 a7 a8 a9 a10=>exact .said a s c a1 ((h2 a1).trans a2) a3 a4 a5 a6 a7 a8 a9 a10
structure GX(b:Br)(nd:List Nd)(n:Nat):Prop where
 bi:BrI b never
 len:nd.length=b.nodes
 dst:∀o∈b.Qa,o.1∈b.up
 up:∀(i:Nat) (m:Nd),nd[i]?=some m→m.up=decide (i∈b.up)
 off:∀(i:Nat) (m:Nd),nd[i]?=some m→m.up=false→m.rk=[]∧m.Yi=[]∧m.out=[]∧m.Qf=false
 node:∀(i:Nat) (m:Nd),nd[i]?=some m→m.up=true→i≠n→Ux b i m
 here:∀(m:Nd),nd[n]?=some m→m.up=true→∀b':Br,b'.js=b.js→b'.Qa=b.Qa→n∉b'.stops.getD []→Ux b' n m
 Eu:∀i∈b.stops.getD [],i≠n→i∈b.up
 sf:b.stops=none→b.Qo=false
 ork:∀o∈b.Qa,o.2.Qt≤255
theorem U1{s:List Nat}{n i:Nat}:i∈Vx s n↔i∈s∧i≠n:=by unfold Vx;rw[List.mem_filter];simp
theorem Ux.stops{b b':Br}{i:Nat}{m:Nd}(h:Ux b i m)(hj:b'.js=b.js)(ho:b'.Qa=b.Qa)(hg:b'.gen=b.gen)(hm:b'.members=b.members)(h1:decide (i∈b'.stops.getD [])=decide (i∈b.stops.getD []))(h2:decide (i∈b.stops.getD [])=true→b'.Qo=b.Qo):Ux b' i m:=by
 refine⟨h.kn,h.ps,h.one,h.wr,by rw[ho];exact h.right,by rw[ho];exact h.ld,fun id=>?_,by rw[ho,hg,hm];exact h.ph.same h1 h2⟩;rw[ho];refine(h.here id).trans ?_;unfold Pres;rw[hj]
theorem Q7.Qtu{b:Br}(h:Q7 b){s:Option (List Nat)}(hs:∀d,s=some d→d.Nodup)(st:Bool):Q7 {b with stops:=s,Qo:=st}:=⟨h.R,h.N,h.Hu,h.Yz,fun x hx=>h.Qm x hx,h.Ev,h.q1,h.q2,h.g1,h.g2,h.now,h.fin,h.mem,hs⟩
theorem Qdd{b:Br}{nd:List Nd}{n:Nat}(h:GX b nd n):GJ (Qw b n) nd:=by
 unfold Qw
 split
 ·rename_i hs;refine⟨⟨h.bi,h.len,h.dst,h.up,h.off,fun i m hm hu=>?_,fun i hi=>(by rw[hs]at hi;cases hi)⟩,h.sf,h.ork⟩
  by_cases e:i=n
  ·subst e;exact h.here m hm hu b rfl rfl (by rw[hs];exact fun k=>(by cases k))
  ·exact h.node i m hm hu e
 ·rename_i s hs;have G2:=h.bi.ok.Eu s hs
  split
  ·refine⟨⟨h.bi.same (h.bi.ok.Qtu (fun d e=>(by cases e;exact G2.filter _)) b.Qo) rfl rfl rfl,h.len,h.dst,h.up,h.off,fun i m hm hu=>?_,fun i hi=>?_⟩,fun e=>(by cases e),h.ork⟩
   ·by_cases e:i=n
    ·subst e;exact h.here m hm hu _ rfl rfl fun k=>(U1.1 k).2 rfl
    ·refine(h.node i m hm hu e).stops rfl rfl rfl rfl ?_ fun _=>rfl;rw[hs];exact decide_eq_decide.2 ⟨fun k=>(U1.1 k).1,fun k=>U1.2 ⟨k,e⟩⟩
   ·obtain⟨h1,h2⟩:=U1.1 hi;exact h.Eu i (by rw[hs];exact h1) h2
  ·rename_i hd;have hd:Vx s n=[]:=Classical.byContradiction hd
   have h0:GJ {b with stops:=none,Qo:=false} nd:=by
    refine⟨⟨h.bi.same (h.bi.ok.Qtu (fun d e=>(by cases e)) false) rfl rfl rfl,h.len,h.dst,h.up,h.off,fun i m hm hu=>?_,fun i hi=>(by cases hi)⟩,fun _=>rfl,h.ork⟩
    by_cases e:i=n
    ·subst e;exact h.here m hm hu _ rfl rfl fun k=>(by cases k)
    ·have hi:i∉b.stops.getD []:=fun k=>by
      rw[hs]at k;have:i∈Vx s n:=U1.2 ⟨k,e⟩;rw[hd]at this;cases this
     refine(h.node i m hm hu e).stops rfl rfl rfl rfl ?_ fun k=>absurd (of_decide_eq_true k) hi;rw[decide_eq_false hi];exact decide_eq_false fun k=>(by cases k)
   obtain⟨k1,k2⟩:=Qsb h0.gi.bi rfl b.ids;exact h0.step k1 k2
theorem Ux.out{b:Br}{i:Nat}{n:Nd}(h:Ux b i n){x:Nt×List Int}{l:List (Nt×List Int)}(ho:n.out=x::l)(hx:x.1.kind≠7):Ux b i {n with out:=l}:=by
 have hp:=h.ph;rw[ho]at hp;exact⟨h.kn,h.ps,h.one,h.wr,h.right,h.ld,h.here,hp.other hx⟩
theorem GJ.out{b:Br}{nd:List Nd}(h:GJ b nd){i:Nat}{n:Nd}(hn:nd[i]?=some n)(hu:n.up=true){x:Nt×List Int}{l:List (Nt×List Int)}(ho:n.out=x::l)(hx:x.1.kind≠7):GJ b (nd.set i {n with out:=l}):=
 ⟨h.gi.R7 hn hu hu ((h.gi.node i n hn hu).out ho hx),h.sf,h.ork⟩
theorem Qw9{b:Br}{nd:List Nd}(h:GJ b nd){i:Nat}{n:Nd}(hn:nd[i]?=some n)(hu:n.up=true){x:Nt×List Int}{l:List (Nt×List Int)}(ho:n.out=x::l)(hx:x.1.kind=7)(Cb:x.1.W7≤4294967295∧x.1.Un≤4294967295):GJ (W4 b i x.1) (nd.set i {n with out:=l}):=by
 have hN:=h.gi.node i n hn hu;have hp:=hN.ph;rw[ho]at hp;obtain⟨p1,p2,p3,p4⟩:=hp.Qo hx;have Zch:(decide (i∈b.stops.getD [])&&b.Qo&&decide (x.1.gen=b.gen))=true:=by rw[p1,p2,decide_eq_true p3];rfl
 rw[W4,if_pos Zch]
 have Wd:∀c:Br,BS b c→BrI c never→GJ (Qw c i) (nd.set i {n with out:=l}):=fun c k1 k2=>by
  have hc:=h.step k1 k2;refine Qdd (n:=i) ?_
  have key:∀(j:Nat) (m:Nd),(nd.set i {n with out:=l})[j]?=some m→(j=i∧m={n with out:=l})∨nd[j]?=some m:=fun j m hm=>by
   rw[List.getElem?_set]at hm
   split at hm
   ·rename_i e
    split at hm
    ·cases hm;exact .inl ⟨e.symm,rfl⟩
    ·cases hm
   ·exact .inr hm
  refine⟨k2,by rw[List.length_set];exact hc.gi.len,hc.gi.dst,fun j m hm=>?_,fun j m hm k=>?_,fun j m hm k e=>?_,fun m hm k b' e1 e2 e3=>?_,fun j hj _=>hc.gi.Eu j hj,hc.sf,hc.ork⟩
  ·rcases key j m hm with ⟨rfl,rfl⟩|hm
   ·exact hc.gi.up _ n hn
   ·exact hc.gi.up j m hm
  ·rcases key j m hm with ⟨rfl,rfl⟩|hm
   ·exact absurd (hu.symm.trans k) (by decide)
   ·exact hc.gi.off j m hm k
  ·rcases key j m hm with ⟨rfl,rfl⟩|hm
   ·exact absurd rfl e
   ·exact hc.gi.node j m hm k
  ·rcases key i m hm with ⟨_,rfl⟩|hm'
   ·have hM:=hc.gi.node i n hn hu;have hpc:=hM.ph;rw[ho]at hpc;obtain⟨_,_,_,q4⟩:=hpc.Qo hx
    refine⟨hM.kn,hM.ps,hM.one,hM.wr,by rw[e2];exact hM.right,by rw[e2];exact hM.ld,fun id=>?_,?_⟩
    ·rw[e2];refine(hM.here id).trans ?_;unfold Pres;rw[e1]
    ·rw[e2,decide_eq_false e3];exact q4 _ _ _
   ·have Wq:i<nd.length:=(List.getElem?_eq_some_iff.1 hn).1;rw[List.getElem?_set_self Wq]at hm;cases hm;have hM:=hc.gi.node i n hn hu;have hpc:=hM.ph;rw[ho]at hpc;obtain⟨_,_,_,q4⟩:=hpc.Qo hx
    refine⟨hM.kn,hM.ps,hM.one,hM.wr,by rw[e2];exact hM.right,by rw[e2];exact hM.ld,fun id=>?_,?_⟩
    ·rw[e2];refine(hM.here id).trans ?_;unfold Pres;rw[e1]
    ·rw[e2,decide_eq_false e3];exact q4 _ _ _
 cases hg:Qg b.js x.1.Qm with
 | none=>exact Wd b (.refl b) h.gi.bi
 | some y=>
  cases hr:y.ran with
  | none=>simp only[hr];exact Wd b (.refl b) h.gi.bi
  | some r=>
   simp only[hr]
   split
   ·have hyi:=(Qd hg).2;have hg':Qg b.js y.id=some y:=by rw[hyi];exact hg
    have hY:=h.gi.bi.j y (Qd hg).1;have hj:=h.gi.bi.ok.at_ hg'
    obtain⟨k1,k2⟩:=L4 h.gi.bi (y:={y with ran:=some (Wz r i (x.1.W7,x.1.Un))}) hg' ⟨rfl,rfl,rfl,rfl,rfl⟩ ⟨hj.B6,hj.Al,hj.tier,hj.k1,hj.kn,hj.w,hj.cr,hj.wk,hj.Jy,hj.at_,hj.drop,hj.lod,fun r' e=>(by
     cases e
     have key:∀l:List (Nat×Nat×Nat),(∀z∈l,z.2.1≤4294967295∧z.2.2≤4294967295)→∀z∈Wz l i (x.1.W7,x.1.Un),z.2.1≤4294967295∧z.2.2≤4294967295:=by
      intro l;induction l with
      | nil=>intro _ z hz;rw[List.mem_singleton.1 hz];exact Cb
      | cons w l ih=>
       intro hl z hz;unfold Wz at hz
       split at hz
       ·rcases List.mem_cons.1 hz with e|hz
        ·rw[e];exact Cb
        ·exact hl z (List.mem_cons_of_mem _ hz)
       ·rcases List.mem_cons.1 hz with e|hz
        ·rw[e];exact hl w (List.mem_cons_self ..)
        ·exact ih (fun z hz=>hl z (List.mem_cons_of_mem _ hz)) z hz
     exact key r (hj.ran r hr)),hj.ld,hj.svl⟩ fun e=>(by rw[(hY.q e).2.2.2.1]at hr;cases hr)
    exact Wd _ k1 k2
   ·exact Wd b (.refl b) h.gi.bi
theorem Qt3{b:Br}{bad:Nat→Nat→Prop}(h:BrI b bad){x:Bj}(hx:Qg b.js x.id=some x)(n:Nat)(t:Nt)(bl:List Int):BS b (Wy b x n t bl)∧BrI (Wy b x n t bl) bad:=by
 have hX:=h.j x (Qd hx).1;have hj:=h.ok.at_ hx;unfold Wy;cases hs:x.Yt with
 | none=>exact⟨.refl b,h⟩
 | some s=>
  cases hr:Uf x.at_ n with
  | none=>exact⟨.refl b,h⟩
  | some Qt=>
   simp only
   have key:∀s':Sv,s'.bs.length=x.at_.length→s'.Qb≤x.w→BS b (b.set {x with Yt:=some s' })∧BrI (b.set {x with Yt:=some s' }) bad:=fun s' h1 h2=>
    L4 h (y:={x with Yt:=some s' }) hx ⟨rfl,rfl,rfl,rfl,rfl⟩ (hj.sset h1 h2) fun e=>(by rw[(hX.q e).2.2.1]at hs;cases hs)
   obtain⟨v1,v2⟩:=hj.svl s hs
   split
   ·exact⟨.refl b,h⟩
   ·split
    ·obtain⟨k1,k2⟩:=key {s with bs:=s.bs.set Qt bl,have_:=Yj s.have_ n,told:=true} (by show (s.bs.set Qt bl).length=_;rw[List.length_set];exact v1) v2;refine⟨k1.trans (BS.quiet ⟨rfl,rfl,rfl,rfl,rfl,rfl⟩ rfl fun _ _=>Iff.rfl),k2.same ?_ rfl rfl rfl⟩;exact⟨k2.ok.R,k2.ok.N,k2.ok.Hu,k2.ok.Yz,fun x hx=>k2.ok.Qm x hx,k2.ok.Ev,k2.ok.q1,k2.ok.q2,k2.ok.g1,k2.ok.g2,k2.ok.now,k2.ok.fin,k2.ok.mem,k2.ok.Eu⟩
    ·exact key {s with bs:=s.bs.set Qt bl,have_:=Yj s.have_ n} (by show (s.bs.set Qt bl).length=_;rw[List.length_set];exact v1) v2
theorem Qx3{b:Br}{bad:Nat→Nat→Prop}(h:BrI b bad){x:Bj}(hx:Qg b.js x.id=some x){d:List Nat}(hd:x.Qi=some d)(n:Nat):BS b (Z6 b (Ml x d n))∧BrI (Z6 b (Ml x d n)) bad:=by
 have hX:=h.j x (Qd hx).1;have hj:=h.ok.at_ hx;refine⟨Qpx hx rfl (by rw[hd];rfl) rfl,h.gone hx rfl (hj.Ml (hj.drop d hd) n) fun _=>?_⟩;have h3:x.state=3:=hX.d.2 (by rw[hd];rfl)
 refine⟨by show x.state≤3;omega,fun e=>(by rw[show x.state=0 from e]at h3;cases h3),hX.p,⟨fun _=>rfl,fun _=>h3⟩,fun e=>(by cases e),fun d' e m hm=>?_,fun d' e m hm=>?_⟩
 ·cases e;exact hX.du d hd m (U1.1 hm).1
 ·cases e;exact hX.da d hd m (U1.1 hm).1
theorem Qbx{b:Br}{bad:Nat→Nat→Prop}(h:BrI b bad){x:Bj}(hx:Qg b.js x.id=some x)(n:Nat)(t:Nt)(bl:List Int):BS b (Wt b x n t bl)∧BrI (Wt b x n t bl) bad:=by
 have hX:=h.j x (Qd hx).1;have hj:=h.ok.at_ hx;unfold Wt
 split
 ·split
  ·rename_i h1
   have D7:x.Qi=none:=by
    cases hd:x.Qi with
    | none=>rfl
    | some d=>have:=hX.d.2 (by rw[hd];rfl);omega
   have G2:(Yj (x.Y4.getD []) n).Nodup:=by
    cases hl:x.Y4 with
    | none=>exact Ge List.nodup_nil n
    | some d=>exact Ge (hj.lod d hl) n
   refine⟨Qm2 (y:=Sc x (x.Y4.getD []) n) hx rfl rfl rfl,h.set (y:=Sc x (x.Y4.getD []) n) hx rfl (hj.Sc G2) ?_⟩
   have Xf:(Sc x (x.Y4.getD []) n).state=1∨(Sc x (x.Y4.getD []) n).state=2:=by
    show (if _ then 2 else 1)=1∨(if _ then 2 else 1)=2;split <;> simp
   refine⟨by omega,fun e=>(by omega),fun _=>hX.p (by omega),⟨fun e=>(by omega),fun e=>?_⟩,hX.u,hX.du,hX.da⟩;rw[show (Sc x (x.Y4.getD []) n).Qi=x.Qi from rfl,D7]at e;cases e
  ·exact⟨.refl b,h⟩
 split
 ·exact Qt3 h hx n t bl
 split
 ·cases hd:x.Qi with
  | none=>exact⟨.refl b,h⟩
  | some d=>exact Qx3 h hx hd n
 ·exact⟨.refl b,h⟩
theorem Qpj{b:Br}{nd:List Nd}(h:GJ b nd){i:Nat}{n:Nd}(hn:nd[i]?=some n)(hu:n.up=true){x:Nt×List Int}{l:List (Nt×List Int)}(ho:n.out=x::l)(Cb:x.1.W7≤4294967295∧x.1.Un≤4294967295):GJ (X6 b i x.1 x.2).2 (nd.set i {n with out:=l}):=by
 have hi:i∈b.up:=(h.gi.Qim hn).1 hu
 have Vb:W5 b i true=0:=by
  unfold W5;have:=Qdb h.gi.bi hi;rw[if_neg (by omega),(h.gi.bi.up i).1 hi];rfl
 unfold X6;rw[if_neg (fun e=>e Vb)]
 by_cases h7:x.1.kind=7
 ·rw[if_pos h7];exact Qw9 h hn hu ho h7 Cb
 ·rw[if_neg h7];have h1:=h.out hn hu ho h7;cases hg:Qg b.js x.1.Qm with
  | none=>exact h1
  | some y=>
   simp only
   split
   ·have hg':Qg b.js y.id=some y:=by rw[(Qd hg).2];exact hg
    obtain⟨k1,k2⟩:=Qbx h1.gi.bi hg' i x.1 x.2;exact h1.step k1 k2
   ·exact h1
theorem Np{b:Br}{nd:List Nd}(h:GJ b nd)(id ver:Nat)(ok:Bool):GJ (Qr b id ver ok).2 nd:=by
 unfold Qr;cases hg:Qg b.js id with
 | none=>exact h
 | some x=>
  simp only;cases hs:x.Yt with
  | none=>exact h
  | some s=>
   simp only
   split
   ·exact h
   ·have hg':Qg b.js x.id=some x:=by rw[(Qd hg).2];exact hg
    have hX:=h.gi.bi.j x (Qd hg).1;have hj:=h.gi.bi.ok.at_ hg';have hj2:JOk b.nodes {x with Qb:=if ok then s.Qb else x.Qb,Yt:=none}:=⟨hj.B6,hj.Al,hj.tier,hj.k1,hj.kn,hj.w,by show (if ok then s.Qb else x.Qb)≤x.w;split;exact(hj.svl s hs).2;exact hj.cr,hj.wk,hj.Jy,hj.at_,hj.drop,hj.lod,hj.ran,hj.ld,fun _ e=>(by cases e)⟩;obtain⟨k1,k2⟩:=Qr8 h.gi.bi (y:={x with Qb:=if ok then s.Qb else x.Qb,Yt:=none}) hg' rfl rfl rfl rfl hj2 (hX.agr ⟨rfl,rfl,rfl,rfl,rfl⟩ fun e=>(by rw[(hX.q e).2.2.1]at hs;cases hs));exact h.step k1 k2
theorem Qeo{b:Br}{nd:List Nd}(h:GJ b nd)(id:Nat):GJ (Yr b id).2 nd:=by
 unfold Yr;cases hg:Qg b.js id with
 | none=>exact h
 | some x=>
  have hg':Qg b.js x.id=some x:=by rw[(Qd hg).2];exact hg
  have hX:=h.gi.bi.j x (Qd hg).1;have hj:=h.gi.bi.ok.at_ hg';simp only
  split
  ·exact h.step (Ti hg' rfl rfl rfl hj false) (Qgt h.gi.bi hg' rfl rfl rfl rfl hj false)
  ·split
   ·obtain⟨k1,k2⟩:=L4 h.gi.bi (y:=agX x) hg' ⟨rfl,rfl,rfl,rfl,rfl⟩ hj.agX fun e=>⟨(hX.q e).2.2.1,(hX.q e).2.2.2.1⟩;exact h.step k1 k2
   ·exact h
theorem Qek{x:Bj}{js:List Bj}(hs:Kp js)(hn:Qg js x.id=none)(id:Nat):Qg (Kl x js) id=if id=x.id then some x else Qg js id:=by
 have hok:=La hs (V4 hn)
 by_cases e:id=x.id
 ·rw[if_pos e,e];exact X3 hok (V0.2 (.inl rfl))
 ·rw[if_neg e];cases hg:Qg js id with
  | some y=>
   obtain⟨h1,h2⟩:=Qd hg;have:=X3 hok (V0.2 (.inr h1))
   rwa [h2]at this
  | none=>
   cases hi:Qg (Kl x js) id with
   | none=>rfl
   | some y=>
    obtain⟨h1,h2⟩:=Qd hi
    rcases V0.1 h1 with h1|h1
    ·rw[h1]at h2;exact absurd h2.symm e
    ·exact absurd h2 (V4 hg y h1)
theorem Qy3{b:Br}{nd:List Nd}(h:GJ b nd){id tier k w:Nat}(Cb:id≤4294967295)(hl:b.js.length≤999):GJ (Fx b (U9 id tier k w 0 0)).2 nd:=by
 unfold Fx
 split
 ·exact h
 rename_i hok;have hok:Fm b (U9 id tier k w 0 0)=true:=by simpa using hok
 split
 ·exact h
 rename_i Vb
 have Vb:Qg b.js (U9 id tier k w 0 0).id=none:=by
  cases hg:Qg b.js (U9 id tier k w 0 0).id with
  | none=>rfl
  | some y=>rw[hg]at Vb;exact absurd rfl Vb
 have hj:=Qot Cb hok;have ok:=Qpa h.gi.bi.ok hj Vb hl;obtain⟨x,hx⟩:∃x,x=U9 id tier k w 0 0:=⟨_,rfl⟩;have Ta:x.state=0∧x.at_=[]∧x.Qi=none∧x.Yt=none∧x.ran=none∧x.Qb=0:=by rw[hx];exact⟨rfl,rfl,rfl,rfl,rfl,rfl⟩
 rw[←hx]at hok Vb hj ok ⊢;obtain⟨x1,x2,x3,x4,x5,x6⟩:=Ta;have hgi:=Qek (x:=x) h.gi.bi.ok.Yz Vb
 have hw:x.Qb<x.w:=by
  rw[x6];simp only[Fm,Bool.and_eq_true,decide_eq_true_eq]at hok;omega
 have hI:BrI (Ug b x) never:=by
  refine⟨ok,fun z hz=>?_,fun z hz=>?_,h.gi.bi.up⟩
  ·rcases V0.1 (show z∈Kl x b.js from hz) with e|hz
   ·subst e;refine⟨by omega,fun _=>⟨x2,x3,x4,x5,?_⟩,fun e=>absurd x1 e,⟨fun e=>(by omega),fun e=>(by rw[x3]at e;cases e)⟩,fun _ n hn=>(by rw[x2]at hn;cases hn),fun d e=>(by rw[x3]at e;cases e),fun d e=>(by rw[x3]at e;cases e)⟩
    rcases hl:look b.m.js z.id with _|y
    ·rfl
    ·obtain⟨l1,l2⟩:=Ka hl;have:=h.gi.bi.mj y l1;rw[l2,Vb]at this;cases this
   ·exact(h.gi.bi.j z hz).congr rfl rfl
  ·show (Qg (Kl x b.js) z.id).isSome=true;rw[hgi]
   split
   ·rfl
   ·exact h.gi.bi.mj z hz
 have hB:BS b (Ug b x):=BS.quiet ⟨rfl,rfl,rfl,rfl,rfl,rfl⟩ rfl fun i id=>by
  unfold Pres;show (∃z,Qg (Kl x b.js) id=some z∧_)↔_;rw[hgi]
  split
  ·rename_i e;rw[e,Vb]
   constructor
   ·rintro ⟨z,h1,_,h3⟩;cases h1;rw[x2]at h3;cases h3
   ·rintro ⟨z,h1,_⟩;cases h1
  ·exact Iff.rfl
 have hg:Qg (Ug b x).js x.id=some x:=by rw[show (Ug b x).js=Kl x b.js from rfl,hgi,if_pos rfl]
 have hf:Q0 (Ug b x) x=Ug b x:=by rw[Q0,if_pos (.inl hw)];exact Qq ok hg
 show GJ (Q0 (Ug b x) x) nd;rw[hf];exact h.step hB hI
theorem Qrf{m:Mx}{i j:Nat}(h:V8 m i=true):V9 (upR m i false).2 j=true↔V9 m j=true∧j≠i:=by
 rw[upR,if_pos h];show (V8 m j&&(m.up &&& ~~~BitVec.twoPow 16 i).getLsbD (j:Int).toNat)=true↔(V8 m j&&m.up.getLsbD (j:Int).toNat)=true∧j≠i;rw[Int.toNat_natCast,BitVec.getLsbD_and,BitVec.getLsbD_not,BitVec.getLsbD_twoPow,Bool.and_eq_true,Bool.and_eq_true,Bool.and_eq_true,Bool.and_eq_true]
 constructor
 ·rintro ⟨h1,h2,h3,h4⟩;refine⟨⟨h1,h2⟩,fun e=>?_⟩;subst e;simp only[Bool.not_eq_true',Bool.and_eq_false_iff,decide_eq_false_iff_not]at h4;have:=of_decide_eq_true h3;rcases h4 with h4|h4 <;> exact h4 (by first|exact this|trivial)
 ·rintro ⟨⟨h1,h2⟩,h3⟩
  have Wq:j<16:=by
   rcases Nat.lt_or_ge j 16 with h|h
   ·exact h
   ·rw[BitVec.getLsbD_of_ge _ _ h]at h2;cases h2
  exact⟨h1,h2,decide_eq_true Wq,by simp[Ne.symm h3]⟩
theorem Q15{m:Mx}(hm:Xk m){i j:Nat}(h:V8 m i=true):V9 (upR m i true).2 j=true↔V9 m j=true∨j=i:=by
 have hi:=(Ws.1 h).2;have:=hm.Bz;rw[upR,if_pos h];show (V8 m j&&(m.up ||| BitVec.twoPow 16 i).getLsbD (j:Int).toNat)=true↔(V8 m j&&m.up.getLsbD (j:Int).toNat)=true∨j=i;rw[Int.toNat_natCast,BitVec.getLsbD_or,BitVec.getLsbD_twoPow,Bool.and_eq_true,Bool.and_eq_true,Bool.or_eq_true,Bool.and_eq_true,decide_eq_true_eq,decide_eq_true_eq]
 constructor
 ·rintro ⟨h1,h2|⟨_,h2⟩⟩
  ·exact .inl ⟨h1,h2⟩
  ·exact .inr h2.symm
 ·rintro (⟨h1,h2⟩|h2)
  ·exact⟨h1,.inl h2⟩
  ·subst h2;exact⟨h,.inr ⟨by omega,rfl⟩⟩
def Off(n:Nat)(x:Bj):Prop:=(x.Qi=none→n∉x.at_)∧∀d,x.Qi=some d→n∉d
abbrev only(n:Nat):Nat→Nat→Prop:=fun _ k=>k=n
theorem Qjp{b:Br}{x:Bj}{z:Bj}(hz:z∈(Z6 b x).js):z=x∨z=anew x∨(z∈b.js∧z.id≠x.id):=by
 unfold Z6 at hz
 have key:∀y:Bj,y.id=x.id→z∈Yo b.js y→z=y∨(z∈b.js∧z.id≠x.id):=fun y hy hz=>by
  obtain⟨w,hw,e⟩:=List.mem_map.1 hz
  split at e
  ·exact .inl e.symm
  ·rename_i Uk;subst e;exact .inr ⟨hw,by rw[←hy];exact Uk⟩
 split at hz
 ·split at hz
  ·rcases key (anew x) rfl hz with h|h
   ·exact .inr (.inl h)
   ·exact .inr (.inr h)
  ·obtain⟨h1,h2⟩:=List.mem_filter.1 (show z∈rmJ b.js x.id from hz);exact .inr (.inr ⟨h1,by simpa using h2⟩)
 ·rcases key x rfl hz with h|h
  ·exact .inl h
  ·exact .inr (.inr h)
theorem Qva(n:Nat)(x:Bj):Off n (anew x):=⟨fun _ h=>(by cases h),fun _ e=>(by cases e)⟩
theorem Qvy{n:Nat}{b:Br}(h:BrI b (only n))(hu:n∉b.up){x:Bj}(hx:Qg b.js x.id=some x){D:List Nat}(hD:∀z∈b.js,z.id∈D→Off n z):BS b (Yk n b x)∧BrI (Yk n b x) (only n)∧(Yk n b x).up=b.up∧∀z∈(Yk n b x).js,z.id∈x.id::D→Off n z:=by
 have hj:=h.ok.at_ hx;have hX:=h.j x (Qd hx).1
 have fin:∀(b1:Br) (y:Bj),b1.js=b.js→y.id=x.id→Off n y→∀z∈(Z6 b1 y).js,z.id∈x.id::D→Off n z:=fun b1 y e1 e2 hy z hz hd=>by
  rcases Qjp hz with rfl|rfl|⟨k1,k2⟩
  ·exact hy
  ·exact Qva n y
  ·rw[e1]at k1
   rcases List.mem_cons.1 hd with e|hd
   ·exact absurd (e.trans e2.symm) k2
   ·exact hD z k1 hd
 unfold Yk
 by_cases hm:n∈x.at_
 ·rw[if_pos hm]
  split
  ·rename_i hd;refine⟨Ti hx rfl rfl rfl hj true,Qgt h hx rfl rfl rfl rfl hj true,(Gs b x true).2.2.2.2,?_⟩;rw[Xm hd];refine fin {b with Qa:=b.Qa++(V7 b x).map (Xp x.id)} (Vf x true (V7 b x)) rfl rfl ⟨fun e=>(by cases e),fun d e k=>?_⟩;cases e;exact hu (of_decide_eq_true (List.mem_filter.1 k).2)
  ·rename_i d hd;obtain⟨k1,k2⟩:=Qx3 h hx hd n;refine⟨k1,k2,(K7 b _).2.2.2.2,?_⟩;refine fin b (Ml x d n) rfl rfl ⟨fun e=>(by cases e),fun d' e k=>?_⟩;cases e;exact(U1.1 k).2 rfl
 ·rw[if_neg hm];refine⟨.refl b,h,rfl,fun z hz hd=>?_⟩
  rcases List.mem_cons.1 hd with e|hd
  ·have:=X3 h.ok.Yz hz;rw[e,hx]at this;cases this;exact⟨fun _=>hm,fun d e k=>hm (hX.da d e n k)⟩
  ·exact hD z hz hd
theorem Qvk{i j:Nat}{l m:List Nat}(h:i∈(j::l)++m):i∈l++(j::m):=by
 rcases List.mem_append.1 h with h|h
 ·rcases List.mem_cons.1 h with h|h
  ·exact List.mem_append_right _ (List.mem_cons.2 (.inl h))
  ·exact List.mem_append_left _ h
 ·exact List.mem_append_right _ (List.mem_cons_of_mem _ h)
theorem Qbg{n:Nat}:∀(l:List Nat) {b:Br} (_:BrI b (only n)) (_:n∉b.up) {D:List Nat} (_:∀z∈b.js,z.id∈D→Off n z),BS b (each (Yk n) b l)∧BrI (each (Yk n) b l) (only n)∧(each (Yk n) b l).up=b.up∧∀z∈(each (Yk n) b l).js,z.id∈l++D→Off n z
 | [],b,h,_,_,hD=>⟨.refl b,h,rfl,hD⟩
 | id::l,b,h,hu,D,hD=>by
  have e:each (Yk n) b (id::l)=each (Yk n) (match Qg b.js id with|none=>b|some x=>Yk n b x) l:=rfl;rw[e];cases hg:Qg b.js id with
  | none=>
   obtain⟨k1,k2,k3,k4⟩:=Qbg l h hu (D:=id::D) fun z hz hd=>by
    rcases List.mem_cons.1 hd with e|hd
    ·exact absurd e (V4 hg z hz)
    ·exact hD z hz hd
   exact⟨k1,k2,k3,fun z hz hd=>k4 z hz (Qvk hd)⟩
  | some x=>
   have K0:=(Qd hg).2;obtain⟨q1,q2,q3,q4⟩:=Qvy h hu (by rw[K0];exact hg) hD;obtain⟨k1,k2,k3,k4⟩:=Qbg l q2 (by rw[q3];exact hu) q4;exact⟨q1.trans k1,k2,k3.trans q3,fun z hz hd=>k4 z hz (by rw[K0];exact Qvk hd)⟩
theorem Hg{nd:List Nd}{i:Nat}{n n':Nd}(_:nd[i]?=some n)(j:Nat)(m:Nd)(hm:(nd.set i n')[j]?=some m):(j=i∧m=n')∨(j≠i∧nd[j]?=some m):=by
 rw[List.getElem?_set]at hm
 split at hm
 ·rename_i e
  split at hm
  ·cases hm;exact .inl ⟨e.symm,rfl⟩
  ·cases hm
 ·rename_i e;exact .inr ⟨Ne.symm e,hm⟩
theorem Qor{b:Br}(h:BrI b never){i:Nat}(hi:i<b.nodes):V8 b.m i=true:=Ws.2 ⟨by omega,by rw[h.ok.N];omega⟩
theorem Qo1{b:Br}{nd:List Nd}(h:GJ b nd){i:Nat}{n:Nd}(hn:nd[i]?=some n)(hu:n.up=true):GJ (V1 b i).2 (nd.set i {up:=false,rk:=[],Yi:=[],out:=[],Qf:=n.Qf}):=by
 have hi:i∈b.up:=(h.gi.Qim hn).1 hu;have Wq:=Qdb h.gi.bi hi;have hnb:=Qor h.gi.bi Wq
 have Vb:¬W5 b i true≠0:=by
  unfold W5;rw[if_neg (by omega),(h.gi.bi.up i).1 hi];exact fun e=>e rfl
 rw[A8 Vb];have hw:=(h.gi.node i n hn hu).wr;have Vt:∀j,j∈(Ve b i).up↔j∈b.up∧j≠i:=fun j=>U1
 have hI0:BrI (Ve b i) (only i):=by
  refine⟨Qbh h.gi.bi.ok i,fun x hx=>?_,fun z hz=>?_,fun j=>?_⟩
  ·have hX:=h.gi.bi.j x hx
   have hms:∀ {k},k∈b.up∨never x.id k→k∈(Ve b i).up∨only i x.id k:=fun {k} hk=>by
    have hk:=hk.resolve_right fun e=>e
    by_cases e:k=i
    ·exact .inr e
    ·exact .inl ((Vt k).2 ⟨hk,e⟩)
   have hl:look (Ve b i).m.js x.id=look b.m.js x.id:=by show look (upR b.m i false).2.js x.id=_;rw[upR,if_pos hnb];rfl
   exact⟨hX.st,fun e=>by rw[hl];exact hX.q e,fun e=>by rw[hl];exact hX.p e,hX.d,fun e k hk=>hms (hX.u e k hk),fun d e k hk=>hms (hX.du d e k hk),hX.da⟩
  ·refine h.gi.bi.mj z ?_;have hz:z∈(upR b.m i false).2.js:=hz;rw[upR,if_pos hnb]at hz;exact hz
  ·rw[Vt,h.gi.bi.up];exact(Qrf hnb).symm
 obtain⟨k1,k2,k3,k4⟩:=Qbg b.ids hI0 (fun e=>((Vt i).1 e).2 rfl) (D:=[]) (fun z _ e=>(by cases e));obtain⟨E,k1⟩:=k1;obtain⟨t,ht⟩:∃t,t=each (Yk i) (Ve b i) b.ids:=⟨_,rfl⟩;rw[←ht]at k1 k2 k3 k4 ⊢
 have hids:∀z∈t.js,z.id∈b.ids:=fun z hz=>by
  have key:∀(l:List Nat) (c:Br),(∀z∈c.js,z.id∈b.ids)→∀z∈(each (Yk i) c l).js,z.id∈b.ids:=by
   intro l;induction l with
   | nil=>exact fun _ h=>h
   | cons id l ih=>
    intro c hc;have e:each (Yk i) c (id::l)=each (Yk i) (match Qg c.js id with|none=>c|some x=>Yk i c x) l:=rfl;rw[e];refine ih _ ?_;cases hg:Qg c.js id with
    | none=>exact hc
    | some x=>
     have hx:=hc x (Qd hg).1
     have gk:∀(c1:Br) (y:Bj),c1.js=c.js→y.id=x.id→∀z∈(Z6 c1 y).js,z.id∈b.ids:=fun c1 y e1 e2 z hz=>by
      rcases Qjp hz with rfl|rfl|⟨m1,_⟩
      ·rw[e2];exact hx
      ·show y.id∈_;rw[e2];exact hx
      ·rw[e1]at m1;exact hc z m1
     show ∀z∈(Yk i c x).js,_;unfold Yk
     split
     ·split
      ·rename_i hd;rw[Xm hd];exact gk {c with Qa:=c.Qa++(V7 c x).map (Xp x.id)} _ rfl rfl
      ·exact gk c _ rfl rfl
     ·exact hc
  rw[ht]at hz;exact key b.ids (Ve b i) (fun z hz=>List.mem_map.2 ⟨z,hz,rfl⟩) z hz
 have hI:BrI t never:=by
  refine⟨k2.ok,fun x hx=>?_,k2.mj,k2.up⟩;have hX:=k2.j x hx;obtain⟨o1,o2⟩:=k4 x hx (by rw[List.append_nil];exact hids x hx);exact⟨hX.st,hX.q,hX.p,hX.d,fun e k hk=>.inl ((hX.u e k hk).resolve_right fun (e2:k=i)=>o1 e (by rw[←e2];exact hk)),fun d e k hk=>.inl ((hX.du d e k hk).resolve_right fun (e2:k=i)=>o2 d e (by rw[←e2];exact hk)),hX.da⟩
 refine Qdd (n:=i) ⟨hI,by rw[List.length_set,k1.nodes];exact h.gi.len,fun o ho=>?_,fun j m hm=>?_,fun j m hm k=>?_,fun j m hm k e=>?_,fun m hm k=>?_,fun j hj e=>?_,by rw[k1.stops,k1.Qo];exact h.sf,fun o ho=>?_⟩
 ·rw[k1.ord]at ho;rw[k3]
  rcases List.mem_append.1 ho with ho|ho
  ·obtain⟨h1,h2⟩:=List.mem_filter.1 (show o∈b.Qa.filter _ from ho);exact(Vt _).2 ⟨h.gi.dst o h1,of_decide_eq_true h2⟩
  ·exact k1.dst o ho
 ·rw[k3]
  rcases Hg hn j m hm with ⟨rfl,rfl⟩|⟨e,hm⟩
  ·exact(decide_eq_false fun e=>((Vt _).1 e).2 rfl).symm
  ·rw[h.gi.up j m hm];exact decide_eq_decide.2 ⟨fun k=>(Vt j).2 ⟨k,e⟩,fun k=>((Vt j).1 k).1⟩
 ·rcases Hg hn j m hm with ⟨rfl,rfl⟩|⟨e,hm⟩
  ·exact⟨rfl,rfl,rfl,hw⟩
  ·exact h.gi.off j m hm k
 ·rcases Hg hn j m hm with ⟨rfl,rfl⟩|⟨e2,hm⟩
  ·exact absurd rfl e
  ·have hN:=h.gi.node j m hm k;have hj:j∈b.up:=(h.gi.Qim hm).1 k
   have hq:qOf (Ve b i).Qa j=qOf b.Qa j:=by
    show qOf (b.Qa.filter fun o=>decide (o.1≠i)) j=_;unfold qOf;rw[List.filter_filter]
    congr 1
    refine List.filter_congr fun o _=>?_
    by_cases e3:o.1=j
    ·rw[decide_eq_true e3,decide_eq_true (show o.1≠i by rw[e3];exact e2)];rfl
    ·rw[decide_eq_false e3];rfl
   have hN0:Ux (Ve b i) j m:=⟨hN.kn,hN.ps,hN.one,hN.wr,by rw[hq];exact hN.right,by rw[hq];exact hN.ld,fun id=>by rw[hq];exact hN.here id,by rw[hq];exact hN.ph⟩;exact hN0.step k1 ((Vt j).2 ⟨hj,e2⟩)
 ·rcases Hg hn i m hm with ⟨_,rfl⟩|⟨e,_⟩
  ·cases k
  ·exact absurd rfl e
 ·rw[k1.stops]at hj;rw[k3];exact(Vt j).2 ⟨h.gi.Eu j hj,e⟩
 ·rw[k1.ord]at ho
  rcases List.mem_append.1 ho with ho|ho
  ·exact h.ork o (List.mem_filter.1 (show o∈b.Qa.filter _ from ho)).1
  ·exact(k1.k5 o ho).2.2.2
theorem Qtm{b:Br}{nd:List Nd}(h:GJ b nd){i:Nat}{n:Nd}(hn:nd[i]?=some n)(hu:n.up=false):GJ (Ke b i).2 (nd.set i {n with up:=true}):=by
 have hi:i∉b.up:=fun e=>by have:=(h.gi.Qim hn).2 e;rw[hu]at this;cases this
 have Wq:i<b.nodes:=by rw[←h.gi.len];exact(List.getElem?_eq_some_iff.1 hn).1
 have hnb:=Qor h.gi.bi Wq
 have Vb:¬W5 b i false≠0:=by
  unfold W5
  have:V9 b.m i=false:=by
   cases e:V9 b.m i with
   | false=>rfl
   | true=>exact absurd ((h.gi.bi.up i).2 e) hi
  rw[if_neg (by omega),this];exact fun e=>e rfl
 have ok:=Qzx h.gi.bi.ok (i:Int);rw[Ke,if_neg Vb]at ok ⊢;obtain⟨b',hb'⟩:∃b':Br,b'={b with up:=Yj b.up (i:Int).toNat,m:=(upR b.m i true).2}:=⟨_,rfl⟩;have Vt:∀j,j∈b'.up↔j∈b.up∨j=i:=fun j=>by rw[hb'];exact Qvj
 have hl:∀k,look b'.m.js k=look b.m.js k:=fun k=>by rw[hb'];show look (upR b.m i true).2.js k=_;rw[upR,if_pos hnb];rfl
 have hms:b'.m.js=b.m.js:=by rw[hb'];show (upR b.m i true).2.js=_;rw[upR,if_pos hnb];rfl
 have hupm:∀j:Nat,V9 b'.m j=true↔V9 b.m j=true∨j=i:=fun j=>by rw[hb'];exact Q15 h.gi.bi.ok.Hu hnb
 have e1:b'.js=b.js:=by rw[hb']
 have e2:b'.Qa=b.Qa:=by rw[hb']
 have e3:b'.stops=b.stops:=by rw[hb']
 have e4:b'.Qo=b.Qo:=by rw[hb']
 have e5:b'.gen=b.gen:=by rw[hb']
 have e6:b'.members=b.members:=by rw[hb']
 have e7:b'.nodes=b.nodes:=by rw[hb']
 have ok:Q7 b':=by rw[hb'];exact ok
 show GJ {b with up:=Yj b.up (i:Int).toNat,m:=(upR b.m i true).2} _;rw[←hb']
 have hI:BrI b' never:=⟨ok,fun x hx=>by
  rw[e1]at hx;have hX:=h.gi.bi.j x hx;have mv:∀ {k},k∈b.up∨never x.id k→k∈b'.up∨never x.id k:=fun {k} hk=>.inl ((Vt k).2 (.inl (hk.resolve_right fun e=>e)));exact⟨hX.st,fun e=>by rw[hl];exact hX.q e,fun e=>by rw[hl];exact hX.p e,hX.d,fun e k hk=>mv (hX.u e k hk),fun d e k hk=>mv (hX.du d e k hk),hX.da⟩,fun z hz=>by rw[hms]at hz;rw[e1];exact h.gi.bi.mj z hz,fun j=>by rw[Vt,hupm,h.gi.bi.up]⟩
 have hp:∀j id,Pres b' j id↔Pres b j id:=fun j id=>by unfold Pres;rw[e1]
 refine⟨⟨hI,by rw[List.length_set,e7];exact h.gi.len,fun o ho=>(Vt _).2 (.inl (h.gi.dst o (by rw[←e2];exact ho))),fun j m hm=>?_,fun j m hm k=>?_,fun j m hm k=>?_,fun j hj=>(Vt j).2 (.inl (h.gi.Eu j (by rw[←e3];exact hj)))⟩,by rw[e3,e4];exact h.sf,by rw[e2];exact h.ork⟩
 ·rcases Hg hn j m hm with ⟨rfl,rfl⟩|⟨e,hm⟩
  ·exact(decide_eq_true ((Vt _).2 (.inr rfl))).symm
  ·rw[h.gi.up j m hm];exact decide_eq_decide.2 ⟨fun k=>(Vt j).2 (.inl k),fun k=>((Vt j).1 k).resolve_right e⟩
 ·rcases Hg hn j m hm with ⟨rfl,rfl⟩|⟨e,hm⟩
  ·cases k
  ·exact h.gi.off j m hm k
 ·rcases Hg hn j m hm with ⟨rfl,rfl⟩|⟨e,hm⟩
  ·obtain⟨o1,o2,o3,o4⟩:=h.gi.off j n hn hu
   have hq:qOf b'.Qa j=[]:=by
    rw[e2];unfold qOf;rw[List.map_eq_nil_iff,List.filter_eq_nil_iff];exact fun o ho k=>hi (by rw[←of_decide_eq_true k];exact h.gi.dst o ho)
   refine⟨by rw[o1];exact List.nodup_nil,by rw[o1];exact fun _ k=>(by cases k),by rw[o1];exact fun _ k=>(by cases k),o4,?_,?_,fun id=>?_,?_⟩
   ·show (fin n.rk (n.Yi++qOf b'.Qa j)).Qf=false;rw[hq,o1,o2];rfl
   ·show ∀x∈n.Yi++qOf b'.Qa j,_;rw[hq,o2];exact fun x k=>(by cases k)
   ·show (Yg id (fin n.rk (n.Yi++qOf b'.Qa j)).rk).isSome=true↔_;rw[hq,o1,o2,hp];refine⟨fun k=>(by cases k),fun⟨x,x1,x2,x3⟩=>?_⟩;exact absurd (((h.gi.bi.j x (Qd x1).1).u x2 j x3).resolve_right fun e=>e) hi
   ·show Ph b'.gen b'.members (decide (j∈b'.stops.getD [])) b'.Qo n.rk (n.Yi++qOf b'.Qa j) n.out;rw[hq,o1,o2,o3];exact .rest (decide_eq_false fun k=>hi (h.gi.Eu j (by rw[←e3];exact k))) (fun _ k=>(by cases k)) (fun _ k=>(by cases k)) (fun _ k=>(by cases k)) (fun _ k=>(by cases k))
  ·have hN:=h.gi.node j m hm k;exact⟨hN.kn,hN.ps,hN.one,hN.wr,by rw[e2];exact hN.right,by rw[e2];exact hN.ld,fun id=>by rw[e2];exact(hN.here id).trans (hp j id).symm,by rw[e2,e5,e6,e3,e4];exact hN.ph⟩
theorem S5:∀(os:List Od) (nd:List Nd),(∀o∈os,∃n,nd[o.1]?=some n∧n.up=true)→(Vz nd os).length=nd.length∧∀(i:Nat) (n:Nd),nd[i]?=some n→(Vz nd os)[i]?=some {n with Yi:=n.Yi++qOf os i}
 | [],nd,_=>⟨rfl,fun i n h=>by rw[show Vz nd []=nd from rfl,h];simp[qOf]⟩
 | o::os,nd,h=>by
  obtain⟨n0,h1,h2⟩:=h o (List.mem_cons_self ..)
  have e:Vz nd (o::os)=Vz (nd.set o.1 {n0 with Yi:=n0.Yi++[o.2]}) os:=by
   show Vz (B4 nd o) os=_;rw[B4,h1];simp only[h2,if_true]
  have Wq:=(List.getElem?_eq_some_iff.1 h1).1
  obtain⟨k1,k2⟩:=S5 os (nd.set o.1 {n0 with Yi:=n0.Yi++[o.2]}) fun p hp=>by
   obtain⟨m,m1,m2⟩:=h p (List.mem_cons_of_mem _ hp)
   by_cases e:p.1=o.1
   ·rw[e,List.getElem?_set_self Wq];exact⟨_,rfl,h2⟩
   ·rw[List.getElem?_set_ne (Ne.symm e)];exact⟨m,m1,m2⟩
  rw[e];refine⟨k1.trans (List.length_set ..),fun i n hn=>?_⟩
  by_cases ei:o.1=i
  ·subst ei;rw[h1]at hn;cases hn;rw[k2 o.1 _ (List.getElem?_set_self Wq)];have:qOf (o::os) o.1=o.2::qOf os o.1:=by unfold qOf;rw[List.filter_cons,if_pos (by simp),List.map_cons]
   rw[this,List.append_assoc];rfl
  ·rw[k2 i n (by rw[List.getElem?_set_ne ei];exact hn)];have:qOf (o::os) i=qOf os i:=by unfold qOf;rw[List.filter_cons,if_neg (by simpa using ei)]
   rw[this]
theorem Qz3{b:Br}{nd:List Nd}(h:GJ b nd):GJ {b with Qa:=[],Qe:=[],done:=[]} (Vz nd b.Qa):=by
 have hd:∀o∈b.Qa,∃n,nd[o.1]?=some n∧n.up=true:=fun o ho=>by
  have hi:=h.gi.dst o ho;have Wq:=Qdb h.gi.bi hi;obtain⟨n,hn⟩:=Yv (show o.1<nd.length by rw[h.gi.len];exact Wq);exact⟨n,hn,(h.gi.Qim hn).2 hi⟩
 obtain⟨k1,k2⟩:=S5 b.Qa nd hd
 have key:∀(i:Nat) (m:Nd),(Vz nd b.Qa)[i]?=some m→∃n,nd[i]?=some n∧m={n with Yi:=n.Yi++qOf b.Qa i}:=fun i m hm=>by
  obtain⟨n,hn⟩:=Yv (show i<nd.length by rw[←k1];exact(List.getElem?_eq_some_iff.1 hm).1);rw[k2 i n hn]at hm;cases hm;exact⟨n,hn,rfl⟩
 refine⟨⟨h.gi.bi.same ?_ rfl rfl rfl,k1.trans h.gi.len,fun o ho=>(by cases ho),fun i m hm=>?_,fun i m hm k=>?_,fun i m hm k=>?_,h.gi.Eu⟩,h.sf,fun o ho=>(by cases ho)⟩
 ·exact⟨h.gi.bi.ok.R,h.gi.bi.ok.N,h.gi.bi.ok.Hu,h.gi.bi.ok.Yz,fun x hx=>h.gi.bi.ok.Qm x hx,h.gi.bi.ok.Ev,h.gi.bi.ok.q1,h.gi.bi.ok.q2,h.gi.bi.ok.g1,h.gi.bi.ok.g2,h.gi.bi.ok.now,h.gi.bi.ok.fin,h.gi.bi.ok.mem,h.gi.bi.ok.Eu⟩
 ·obtain⟨n,hn,rfl⟩:=key i m hm;exact h.gi.up i n hn
 ·obtain⟨n,hn,rfl⟩:=key i m hm;obtain⟨o1,o2,o3,o4⟩:=h.gi.off i n hn k;refine⟨o1,?_,o3,o4⟩;show n.Yi++qOf b.Qa i=[];rw[o2,List.nil_append];unfold qOf;rw[List.map_eq_nil_iff,List.filter_eq_nil_iff];refine fun o ho q=>?_;have:=(h.gi.Qim hn).2 (by rw[←of_decide_eq_true q];exact h.gi.dst o ho);rw[show n.up=false from k]at this;cases this
 ·obtain⟨n,hn,rfl⟩:=key i m hm;have hN:=h.gi.node i n hn k;have hq:(n.Yi++qOf b.Qa i)++qOf ([]:List Od) i=n.Yi++qOf b.Qa i:=by rw[show qOf ([]:List Od) i=[] from rfl,List.append_nil]
  refine⟨hN.kn,hN.ps,hN.one,hN.wr,?_,?_,fun id=>?_,?_⟩
  ·show (fin n.rk ((n.Yi++qOf b.Qa i)++qOf [] i)).Qf=false;rw[hq];exact hN.right
  ·show ∀x∈(n.Yi++qOf b.Qa i)++qOf [] i,_;rw[hq];exact hN.ld
  ·show (Yg id (fin n.rk ((n.Yi++qOf b.Qa i)++qOf [] i)).rk).isSome=true↔_;rw[hq];exact hN.here id
  ·show Ph b.gen b.members _ b.Qo n.rk ((n.Yi++qOf b.Qa i)++qOf [] i) n.out;rw[hq];exact hN.ph
def Ag(b:Br):Prop:=∀x∈b.js,x.done=true→x.again=false
def JR(b b':Br):Prop:=Ag b→(b'.done=b.done∧b'.now=b.now)∧Ag b'∧∀z∈b'.js,∃x∈b.js,z.id=x.id∧(x.done=true→z.done=true)
theorem JR.refl(b:Br):JR b b:=fun h=>⟨⟨rfl,rfl⟩,h,fun z hz=>⟨z,hz,rfl,fun h=>h⟩⟩
theorem JR.trans{a b c:Br}(h:JR a b)(k:JR b c):JR a c:=fun ha=>by
 obtain⟨h1,h2,h3⟩:=h ha;obtain⟨k1,k2,k3⟩:=k h2;refine⟨⟨k1.1.trans h1.1,k1.2.trans h1.2⟩,k2,fun z hz=>?_⟩;obtain⟨y,y1,y2,y3⟩:=k3 z hz;obtain⟨x,x1,x2,x3⟩:=h3 y y1;exact⟨x,x1,y2.trans x2,fun e=>y3 (x3 e)⟩
theorem JR.same{b b':Br}(hj:b'.js=b.js)(hd:b'.done=b.done)(hn:b'.now=b.now):JR b b':=fun h=>⟨⟨hd,hn⟩,fun x hx=>by rw[hj]at hx;exact h x hx,fun z hz=>by rw[hj]at hz;exact⟨z,hz,rfl,fun h=>h⟩⟩
theorem Xh{js:List Bj}{y z:Bj}(hz:z∈Yo js y):z=y∨(z∈js∧z.id≠y.id):=by
 obtain⟨w,hw,e⟩:=List.mem_map.1 hz
 split at e
 ·exact .inl e.symm
 ·rename_i Uk;subst e;exact .inr ⟨hw,Uk⟩
theorem Kz{b:Br}{x y:Bj}(hx:Qg b.js x.id=some x)(hid:y.id=x.id)(h1:x.done=true→y.done=true)(h2:(x.done=true→x.again=false)→y.done=true→y.again=false):JR b (b.set y):=fun h=>by
 have hm:=(Qd hx).1
 refine⟨⟨rfl,rfl⟩,fun z hz=>?_,fun z hz=>?_⟩
 ·rcases Xh (show z∈Yo b.js y from hz) with rfl|⟨k,_⟩
  ·exact h2 (h x hm)
  ·exact h z k
 ·rcases Xh (show z∈Yo b.js y from hz) with rfl|⟨k,_⟩
  ·exact⟨x,hm,hid,h1⟩
  ·exact⟨z,k,rfl,fun h=>h⟩
theorem S9{b:Br}{x y:Bj}(hx:Qg b.js x.id=some x)(hid:y.id=x.id)(h1:x.done=true→y.done=true)(h2:(x.done=true→x.again=false)→y.done=true→y.again=false):JR b (Z6 b y):=fun h=>by
 have hm:=(Qd hx).1;unfold Z6
 split
 ·split
  ·rename_i ha
   have G2:x.done≠true:=fun e=>by
    have:=h2 (h x hm) (h1 e);rw[ha]at this;cases this
   have:=Kz (b:={b with m:=(Z0 b.m y.id).2}) (y:=anew y) hx hid (fun e=>absurd e G2) (fun _ e=>(by cases e)) h;exact this
  ·refine⟨⟨rfl,rfl⟩,fun z hz=>h z (List.mem_filter.1 (show z∈rmJ b.js y.id from hz)).1,fun z hz=>⟨z,(List.mem_filter.1 (show z∈rmJ b.js y.id from hz)).1,rfl,fun h=>h⟩⟩
 ·exact Kz hx hid h1 h2 h
theorem N7{b:Br}{x y:Bj}(hx:Qg b.js x.id=some x)(hid:y.id=x.id)(h1:x.done=true→y.done=true)(a:Bool):JR b (Y9 b y a):=by
 have h2:∀d,(x.done=true→x.again=false)→(Vf y a d).done=true→(Vf y a d).again=false:=fun d _ e=>by
  show (a&&!y.done)=false;rw[show y.done=true from e];simp
 cases hd:y.Qi with
 | some d=>rw[X5 hd];exact S9 hx hid h1 (h2 d)
 | none=>
  rw[Xm hd];exact(JR.same (b:=b) (b':={b with Qa:=b.Qa++(V7 b y).map (Xp y.id)}) rfl rfl rfl).trans (S9 (b:={b with Qa:=b.Qa++(V7 b y).map (Xp y.id)}) hx hid h1 (h2 _))
theorem Qo4{b:Br}{x y:Bj}(hx:Qg b.js x.id=some x)(hid:y.id=x.id)(hd:y.done=x.done)(ha:y.again=x.again):JR b (Yy b y):=by
 by_cases hc:y.work=y.Qb∨y.Yt.isSome∨y.Qi.isSome∨y.state≠2
 ·rw[Wb hc];exact Kz hx hid (fun e=>hd.trans e) (fun h e=>ha.trans (h (hd.symm.trans e)))
 ·rw[We hc];exact(JR.same (b:=b) (b':={b with Qa:=b.Qa++y.at_.map (Vu (Wg y))}) rfl rfl rfl).trans (Kz (b:={b with Qa:=b.Qa++y.at_.map (Vu (Wg y))}) (y:=Wg y) hx hid (fun e=>hd.trans e) (fun h e=>ha.trans (h (hd.symm.trans e))))
theorem Fi{f:Br→Bj→Br}(hf:∀b x,Qg b.js x.id=some x→JR b (f b x)):∀(l:List Nat) (b:Br),JR b (each f b l)
 | [],b=>.refl b
 | id::l,b=>by
  have e:each f b (id::l)=each f (match Qg b.js id with|none=>b|some x=>f b x) l:=rfl;rw[e];cases hg:Qg b.js id with
  | none=>exact Fi hf l b
  | some x=>exact(hf b x (by rw[(Qd hg).2];exact hg)).trans (Fi hf l _)
theorem Qv9{b:Br}{x:Bj}(hx:Qg b.js x.id=some x):JR b (Zz b x):=by
 unfold Zz
 split
 ·exact Kz hx rfl (fun e=>e) (fun h e=>h e)
 ·split
  ·exact Kz (y:=Gj x) hx rfl (fun e=>e) (fun h e=>h e)
  ·exact Qo4 (y:=Kb x _) hx rfl rfl rfl
theorem N6(b:Br)(n:Nat):JR b (Qw b n):=by
 unfold Qw
 split
 ·exact .refl b
 ·split
  ·exact .same rfl rfl rfl
  ·exact(JR.same (b:=b) (b':={b with stops:=none,Qo:=false}) rfl rfl rfl).trans (Fi (fun _ _ h=>Qv9 h) _ _)
theorem Qo5(b:Br)(n:Int):JR b (V1 b n).2:=by
 unfold V1
 split
 ·exact .refl b
 ·refine JR.trans (b:=each (Yk n.toNat) {b with up:=Vx b.up n.toNat,m:=(upR b.m n false).2,Qa:=b.Qa.filter fun o=>decide (o.1≠n.toNat)} b.ids) ?_ (N6 _ _);refine(JR.same (b:=b) (b':={b with up:=Vx b.up n.toNat,m:=(upR b.m n false).2,Qa:=b.Qa.filter fun o=>decide (o.1≠n.toNat)}) rfl rfl rfl).trans (Fi (fun c x hx=>?_) _ _);unfold Yk
  split
  ·split
   ·exact N7 hx rfl (fun e=>e) true
   ·exact S9 hx rfl (fun e=>e) (fun h e=>h e)
  ·exact .refl c
theorem Qv8{b:Br}{x:Bj}(hx:Qg b.js x.id=some x)(n:Nat)(t:Nt)(bl:List Int):JR b (Wt b x n t bl):=by
 unfold Wt
 split
 ·split
  ·exact Kz hx rfl (fun e=>e) (fun h e=>h e)
  ·exact .refl b
 split
 ·unfold Wy;cases hs:x.Yt with
  | none=>exact .refl b
  | some s=>
   cases hr:Uf x.at_ n with
   | none=>exact .refl b
   | some Qt=>
    simp only
    split
    ·exact .refl b
    ·split
     ·exact(Kz (b:=b) (y:={x with Yt:=some {s with bs:=s.bs.set Qt bl,have_:=Yj s.have_ n,told:=true}}) hx rfl (fun e=>e) (fun h e=>h e)).trans (.same rfl rfl rfl)
     ·exact Kz (y:={x with Yt:=some {s with bs:=s.bs.set Qt bl,have_:=Yj s.have_ n}}) hx rfl (fun e=>e) (fun h e=>h e)
 split
 ·split
  ·exact .refl b
  ·exact S9 hx rfl (fun e=>e) (fun h e=>h e)
 ·exact .refl b
theorem Qo6(b:Br)(n:Int)(t:Nt)(bl:List Int):JR b (X6 b n t bl).2:=by
 unfold X6
 split
 ·exact .refl b
 split
 ·show JR b (W4 b n.toNat t);unfold W4
  split
  ·refine JR.trans ?_ (N6 _ _);cases hg:Qg b.js t.Qm with
   | none=>exact .refl b
   | some y=>
    simp only
    split
    ·exact .refl b
    ·split
     ·exact Kz (x:=y) (by rw[(Qd hg).2];exact hg) rfl (fun e=>e) (fun h e=>h e)
     ·exact .refl b
  ·exact .refl b
 ·cases hg:Qg b.js t.Qm with
  | none=>exact .refl b
  | some x=>
   simp only
   split
   ·exact Qv8 (by rw[(Qd hg).2];exact hg) _ _ _
   ·exact .refl b
theorem Qd8(b:Br)(id:Nat):JR b (Yr b id).2:=by
 unfold Yr;cases hg:Qg b.js id with
 | none=>exact .refl b
 | some x=>
  have hx:Qg b.js x.id=some x:=by rw[(Qd hg).2];exact hg
  simp only
  split
  ·exact N7 hx rfl (fun e=>e) false
  ·split
   ·exact Kz hx rfl (fun e=>e) (fun _ _=>rfl)
   ·exact .refl b
theorem Q13{b:Br}{x:Bj}(hx:Qg b.js x.id=some x)(s:PL.St):JR b (V3 b x s):=by
 by_cases hp:(X7 b.m x.id s.row s.nodes).1≠0
 ·rw[U5 hp];exact .same rfl rfl rfl
 ·rw[V2 hp];exact(JR.same (b:=b) (b':={b with m:=(X7 b.m x.id s.row s.nodes).2,Qa:=b.Qa++Wk x (nats s.nodes)}) rfl rfl rfl).trans (Kz (b:={b with m:=(X7 b.m x.id s.row s.nodes).2,Qa:=b.Qa++Wk x (nats s.nodes)}) (y:=N4 x (nats s.nodes)) hx rfl (fun e=>e) (fun h e=>h e))
theorem Qi6:∀(zs:List (Nat×PL.St)) (b:Br),JR b (Yp b zs)
 | [],b=>.refl b
 | p::zs,b=>by
  have e:Yp b (p::zs)=Yp (Vg b p) zs:=by rw[Xq,Xq];rfl
  rw[e];refine JR.trans ?_ (Qi6 zs _);unfold Vg
  split
  ·cases hg:Qg b.js p.1 with
   | none=>exact .refl b
   | some x=>exact Q13 (by rw[(Qd hg).2];exact hg) _
  ·exact .refl b
theorem Qly(b:Br):JR b (Qs b):=by
 unfold Qs
 split
 ·exact .refl b
 split
 ·exact .refl b
 split
 ·exact .refl b
 ·refine Fi (f:=Vv) (fun c x hx=>?_) _ _;exact(JR.same (b:=c) (b':={c with Qa:=c.Qa++x.at_.map fun n=>((n,{kind:=12,Qm:=x.id,tick:=Ys c.now c.Xe}):Od)}) rfl rfl rfl).trans (Kz (b:={c with Qa:=c.Qa++x.at_.map fun n=>((n,{kind:=12,Qm:=x.id,tick:=Ys c.now c.Xe}):Od)}) (y:={x with Vo:=true,F1:=Ys c.now c.Xe}) hx rfl (fun e=>e) (fun h e=>h e))
theorem Qi5(b:Br):∀(i:Nat) (row:Int),JR b (Y1 b row i)
 | 0,_=>.refl b
 | i+1,row=>by
  rw[Y1]
  split
  ·exact .refl b
  split
  ·rw[Bi];refine(JR.same (b:=b) (b':=D0 {b with row:=(Yh b.m row).1} _) rfl rfl rfl).trans (Fi (f:=W6) (fun c x hx=>?_) _ _);exact(JR.same (b:=c) (b':={c with stops:=some (x.at_.foldl Yj (c.stops.getD [])),Qa:=c.Qa++x.at_.map fun n=>((n,{kind:=5,gen:=c.gen,Qm:=x.id}):Od)}) rfl rfl rfl).trans (Kz (b:={c with stops:=some (x.at_.foldl Yj (c.stops.getD [])),Qa:=c.Qa++x.at_.map fun n=>((n,{kind:=5,gen:=c.gen,Qm:=x.id}):Od)}) (y:={x with ran:=some []}) hx rfl (fun e=>e) (fun h e=>h e))
  ·exact Qi5 b i _
theorem Q12(b:Br):JR b (Ga b):=by
 have h1:=Fi (f:=Qx) (fun c x hx=>by
  unfold Qx
  split
  ·exact N7 hx rfl (fun e=>e) true
  ·exact .refl c) b.ids b
 have h2:=h1.trans (Qi6 (zsR (each Qx b b.ids)) _);have h3:=h2.trans (Qly _);have h4:=h3.trans (JR.same (b':=rep (Qs (Yp (each Qx b b.ids) (zsR (each Qx b b.ids))))) rfl rfl rfl);have h5:=h4.trans (Fi (f:=Yy) (fun _ x hx=>Qo4 (y:=x) hx rfl rfl rfl) (rep (Qs (Ya (each Qx b b.ids)))).ids _);exact h5.trans (Qi5 _ _ _)
structure DI(b:Br)(dn:List Nat)(next:Nat):Prop where
 Yz:Kp b.js
 nd:(dn++b.done).Nodup
 Xa:∀id∈dn++b.done,∀x,Qg b.js id=some x→x.done=true
 lt:∀x∈b.js,x.id<next
 ltd:∀id∈dn++b.done,id<next
 ag:Ag b
theorem DI.jr{b b':Br}{dn:List Nat}{next:Nat}(h:DI b dn next)(k:JR b b')(hs:Kp b'.js):DI b' dn next:=by
 obtain⟨⟨k1,_⟩,k2,k3⟩:=k h.ag
 refine⟨hs,by rw[k1];exact h.nd,fun id hid z hz=>?_,fun z hz=>?_,by rw[k1];exact h.ltd,k2⟩
 ·rw[k1]at hid;obtain⟨z1,z2⟩:=Qd hz;obtain⟨x,x1,x2,x3⟩:=k3 z z1;exact x3 (h.Xa id hid x (by rw[←z2,x2];exact X3 h.Yz x1))
 ·obtain⟨x,x1,x2,_⟩:=k3 z hz;rw[x2];exact h.lt x x1
theorem Qr7{b:Br}{dn:List Nat}{next:Nat}(h:DI b dn next){x y:Bj}(hx:Qg b.js x.id=some x)(hid:y.id=x.id)(hd:y.done=x.done)(ha:y.again=x.again)(hs:Kp (Q0 b y).js):DI (Q0 b y) dn next:=by
 unfold Q0 at hs ⊢
 split at hs
 ·rename_i hc;rw[if_pos hc];exact h.jr (Kz hx hid (fun e=>hd.trans e) (fun k e=>ha.trans (k (hd.symm.trans e)))) hs
 ·rename_i hc;rw[if_neg hc];have G2:y.done≠true:=fun e=>hc (.inr e);obtain⟨b1,hb1⟩:∃b1:Br,b1={b with done:=b.done++[y.id]}:=⟨_,rfl⟩;rw[←hb1]at hs ⊢;have Z4:Qg b1.js x.id=some x:=by rw[hb1];exact hx
  have Vb:y.id∉dn++b.done:=fun e=>G2 (by rw[hd];exact h.Xa y.id e x (by rw[hid];exact hx));have hag:Ag b1:=by rw[hb1];exact h.ag
  obtain⟨⟨k1,_⟩,k2,k3⟩:=N7 (y:={y with done:=true}) Z4 hid (fun _=>rfl) false hag;have e1:b1.done=b.done++[y.id]:=by rw[hb1]
  have e2:b1.js=b.js:=by rw[hb1]
  have Cz:dn++(Y9 b1 {y with done:=true} false).done=(dn++b.done)++[y.id]:=by rw[k1,e1,List.append_assoc]
  have key:∀z∈(Y9 b1 {y with done:=true} false).js,z.id=y.id→z.done=true:=fun z hz e=>by
   have g:∀(c:Br) (d:List Nat),c.js=b.js→z∈(Z6 c (Vf {y with done:=true} false d)).js→z.done=true:=fun c d ec hz=>by
    unfold Z6 at hz
    split at hz
    ·split at hz
     ·rename_i ha2;exact absurd ha2 (by show ¬(false&&!true)=true;decide)
     ·have:=(List.mem_filter.1 (show z∈rmJ c.js y.id from hz)).2;exact absurd e (by simpa using this)
    ·rcases Xh (show z∈Yo c.js _ from hz) with rfl|⟨_,k⟩
     ·rfl
     ·exact absurd e k
   cases hdr:y.Qi with
   | some d=>
    rw[X5 (x:={y with done:=true}) hdr]at hz;exact g b1 d e2 hz
   | none=>
    rw[Xm (x:={y with done:=true}) hdr]at hz;refine g _ _ ?_ hz;exact e2
  refine⟨hs,?_,fun id hi z hz=>?_,fun z hz=>?_,?_,k2⟩
  ·rw[Cz];exact List.nodup_append.2 ⟨h.nd,List.nodup_cons.2 ⟨by simp,List.nodup_nil⟩,fun a h1 c h2 e=>Vb (by rw[←List.mem_singleton.1 h2,←e];exact h1)⟩
  ·rw[Cz]at hi;obtain⟨z1,z2⟩:=Qd hz
   rcases List.mem_append.1 hi with hi|hi
   ·obtain⟨w,w1,w2,w3⟩:=k3 z z1;rw[e2]at w1;exact w3 (h.Xa id hi w (by rw[←z2,w2];exact X3 h.Yz w1))
   ·exact key z z1 (z2.trans (List.mem_singleton.1 hi))
  ·obtain⟨w,w1,w2,_⟩:=k3 z hz;rw[e2]at w1;rw[w2];exact h.lt w w1
  ·rw[Cz];intro id hi
   rcases List.mem_append.1 hi with hi|hi
   ·exact h.ltd id hi
   ·rw[List.mem_singleton.1 hi,hid];exact h.lt x (Qd hx).1
theorem Nq{b:Br}{dn:List Nat}{next:Nat}(h:DI b dn next)(id ver:Nat)(ok:Bool)(hs:Kp (Qr b id ver ok).2.js):DI (Qr b id ver ok).2 dn next:=by
 unfold Qr at hs ⊢;cases hg:Qg b.js id with
 | none=>exact h
 | some x=>
  rw[hg]at hs;simp only at hs ⊢
  split at hs
  ·exact h
  ·split at hs
   ·rename_i e2;rw[if_pos e2];exact h
   ·rename_i e2;rw[if_neg e2];exact Qr7 h (x:=x) (by rw[(Qd hg).2];exact hg) rfl rfl rfl hs
theorem Qmo(b:Br){x y:Bj}(hx:Qg b.js x.id=some x)(hid:y.id=x.id)(_:y.done=x.done)(_:y.again=x.again)(hag:Ag b):(Q0 b y).now=b.now:=by
 unfold Q0
 split
 ·rfl
 ·exact((N7 (b:={b with done:=b.done++[y.id]}) (x:=x) (y:={y with done:=true}) hx hid (fun _=>rfl) false) hag).1.2
theorem Qct{b:Br}(hag:Ag b)(id ver:Nat)(ok:Bool):(Qr b id ver ok).2.now=b.now:=by
 unfold Qr;cases hg:Qg b.js id with
 | none=>rfl
 | some x=>
  simp only
  split
  ·rfl
  ·split
   ·rfl
   ·exact Qmo b (x:=x) (by rw[(Qd hg).2];exact hg) rfl rfl rfl hag
theorem Qnq{b:Br}{dn:List Nat}{next:Nat}(h:DI b dn next){now:Nat}(hn:b.now<now)(hs:Kp (Y3 b now).2.js):DI (Y3 b now).2 dn next∧(Y3 b now).2.now=now∧(Y3 b now).1=0:=by
 have h1:DI {b with now:=now} dn next:=⟨h.Yz,h.nd,h.Xa,h.lt,h.ltd,h.ag⟩;unfold Y3 at hs ⊢;rw[if_neg (by omega)]at hs ⊢
 split
 ·exact⟨h1,rfl,rfl⟩
 rename_i k2;rw[if_neg k2]at hs
 split
 ·split
  ·exact⟨⟨h.Yz,h.nd,h.Xa,h.lt,h.ltd,h.ag⟩,rfl,rfl⟩
  ·exact⟨h1,rfl,rfl⟩
 ·rename_i k3;rw[if_neg k3]at hs;have hj:=Q12 {b with now:=now};exact⟨h1.jr hj hs,(hj h1.ag).1.2,rfl⟩
theorem P4:∀(l:List Nat) (nd:List Nd) (dn:List Nat),(dn++l).Nodup→l.foldl Jg (nd,dn)=(nd,dn++l)
 | [],nd,dn,_=>by rw[List.append_nil];rfl
 | id::l,nd,dn,h=>by
  have Vb:id∉dn:=fun e=>by
   have:=(List.nodup_append.1 h).2.2 id e id (List.mem_cons_self ..);exact this rfl
  have e:Jg (nd,dn) id=(nd,dn++[id]):=by rw[Jg,if_neg Vb,Yj,if_neg Vb]
  rw[List.foldl_cons,e,P4 l nd (dn++[id]) (by rw[List.append_assoc];exact h),List.append_assoc];rfl
end BN
instance ZSl.z3{a v:Value}{l:List Value}:ZSl (a::l) (0+0+0) v (v::l):=⟨rfl,Nat.succ_pos _⟩
namespace BN
section
variable {s:Sm}{a:Ac}
theorem Be(h:a.Yu=0∨a.Yu=1):Vw s a=Ku s:=by rw[Vw];exact if_pos h
theorem M8(h:a.Yu=2)(hj:s.Ym.length<20):Vw s a=Qh5 s ⟨s.next,a.tier % 4,1+a.k % s.cn,1+a.w % 20⟩:=by
 rw[Vw];rw[if_neg (by omega),if_pos h,if_pos hj]
theorem Bh(h:a.Yu=2)(hj:¬s.Ym.length<20):Vw s a=Vd {s with ok:=s.ok&&tkB s}:=by
 rw[Vw];rw[if_neg (by omega),if_pos h,if_neg hj]
theorem M7(h:a.Yu=3):Vw s a=Qh4 s (1+a.n % max s.next 1):=by
 rw[Vw];rw[if_neg (by omega),if_neg (by omega),if_pos h]
theorem Bf(h:a.Yu=4):Vw s a=Ck s (a.n % s.nd.length):=by
 rw[Vw];rw[if_neg (by omega),if_neg (by omega),if_neg (by omega),if_pos h]
theorem S0(h:a.Yu=5):Vw s a=Qh3 s (a.n % s.nd.length):=by
 rw[Vw];rw[if_neg (by omega),if_neg (by omega),if_neg (by omega),if_neg (by omega),if_pos h]
theorem M6(h:a.Yu=6∨a.Yu=7∨a.Yu=8∨a.Yu=9):Vw s a=(Zt s (a.n % s.nd.length) a.back).2:=by
 rw[Vw];rw[if_neg (by omega),if_neg (by omega),if_neg (by omega),if_neg (by omega),if_neg (by omega),if_pos h]
theorem M5(h:a.Yu=10):Vw s a=(Z5 s (!a.fail)).2:=by
 rw[Vw];rw[if_neg (by omega),if_neg (by omega),if_neg (by omega),if_neg (by omega),if_neg (by omega),if_neg (by omega),if_pos h]
theorem Bg(h:a.Yu=11):Vw s a=R4 s:=by
 rw[Vw];rw[if_neg (by omega),if_neg (by omega),if_neg (by omega),if_neg (by omega),if_neg (by omega),if_neg (by omega),if_neg (by omega),if_pos h]
theorem S1(h:12≤a.Yu):Vw s a=s:=by
 rw[Vw];rw[if_neg (by omega),if_neg (by omega),if_neg (by omega),if_neg (by omega),if_neg (by omega),if_neg (by omega),if_neg (by omega),if_neg (by omega)]
end
theorem Q7d{js:List Jo}{j:Jo}(h:∀x∈js,x.id≠j.id):Yd (j.id:Int) (.agg (joC j).toArray) (js.map joE)=(js++[j]).map joE:=by
 induction js with
 | nil=>rfl
 | cons x l ih=>
  have hx:=h x List.mem_cons_self;simp only[List.map_cons,Yd];rw[if_neg (by omega),ih fun y hy=>h y (List.mem_cons_of_mem _ hy)];rfl
abbrev acC(a:Ac):List Value:=[.int .u8 (a.Yu:Int),.int .u8 (a.n:Int),.int .u8 (a.tier:Int),.int .u8 (a.k:Int),.int .u8 (a.w:Int),.bool a.back,.bool a.fail]
structure Q4d(a:Ac):Prop where
 d:a.Yu≤255
 n:a.n≤255
 t:a.tier≤255
 k:a.k≤255
 w:a.w≤255
set_option maxHeartbeats 1000000 in
theorem Q6a(p:Nat)(s:Sm)(a:Ac)(ha:Q4d a)(hn1:1≤s.nd.length)(hc1:1≤s.cn)(Zk1:s.cn≤16)(hok:(Vw s a).ok=true){W:World}(hW:H6 W):Spec Tryz.prog 20 [pt p,.agg (acC a).toArray] [SP p s,Xa W] fun Γ _ Θ=>Θ=SP p (Vw s a)::Xa W::Γ:=by
 obtain⟨a1,a2,a3,a4,a5⟩:=ha;obtain⟨T,hT⟩:∃T,T=Vw s a:=⟨_,rfl⟩;rw[←hT]at hok ⊢;refine Zbd Tryz.func20 rfl Tryz.ntmps20 fun w0 Γ=>Zsh ?_;refine S.J4 p s fun b ps nv ns rb jb gb db wb iv dv wv hF=>?_;have hnn:=hF.nn;refine S.Yf nv fun hv1 hv2 hv3=>?_;have hmx:maxLen≤9223372036854775807:=by unfold maxLen;omega
 obtain⟨i,hi⟩:∃i,i=a.n % nv.n:=⟨_,rfl⟩;have hil:i<s.nd.length:=by rw[hi,hnn];exact Nat.mod_lt _ hn1
 refine ZY 2 (Zp (S.box (cs:=[_,_,_,_,_,_,_]) rfl rfl rfl ?_));intro b3;refine S.Yw b3 (acC a).toArray rfl (ZY 2 ?_);refine Zd0 (Zra 0 10) (ZY 2 ?_);refine Zw ef (Xw Tryz.it3.h (by rw[Tryz.underlying5];rfl) rfl (Y0 (by omega) (by omega))) (ZY 5 ?_);refine Zw ef (Ae rfl rfl (⟨by omega,by omega⟩)) (Zy ?_);refine ZD (Zy ?_)
 refine Zc (fun ρ' Γ'=>ρ'=[(0,pt p),(3,pt b3),(4,.int .i64 (i:Int))]∧Γ'=SP p s::blk b3 46 (acC a).toArray::Xa W::Γ) ?_ ?_
 ·refine ZY 8 (ZY 2 (S.Qh (Q1s s.fu _) (S.Qh (Q1s s.fu _) (S.Yw p (smC s b nv rb jb gb db wb iv SV.nil SV.nil).toArray rfl (S.Xo p s b ps nv ns rb jb gb db wb iv SV.nil SV.nil hF ?_)))));rw[hi];exact ZM ⟨rfl,rfl⟩
 ·rintro ρ' Γ' ⟨rfl,rfl⟩;rw[hnn]at hi;refine ZY 8 (ZY 4 ?_)
  refine Zc (fun ρ' Γ'=>ρ'=[(0,pt p),(3,pt b3),(4,.int .i64 (i:Int)),(24,.int .u8 (a.Yu:Int)),(25,.bool (decide (a.Yu=0∨a.Yu=1)))]∧Γ'=SP p s::blk b3 46 (acC a).toArray::Xa W::Γ) ?_ ?_
  ·refine Zj ef (fun h1=>?_) (fun h1=>?_)
   ·refine Zy ?_;first|(rw[show decide (a.Yu=0∨a.Yu=1)=decide ((a.Yu:Int)=0) from decide_eq_decide.2 (by omega)];exact S.meet ⟨rfl,rfl⟩ ⟨rfl,rfl,rfl,rfl,rfl,trivial⟩ Sub.Qh)|(rw[show decide (a.Yu=0∨a.Yu=1)=decide ((a.Yu:Int)=1) from decide_eq_decide.2 (by omega)];exact S.meet ⟨rfl,rfl⟩ ⟨rfl,rfl,rfl,rfl,rfl,trivial⟩ Sub.Qh)
   ·refine ZY 4 ?_;first|(rw[show decide (a.Yu=0∨a.Yu=1)=decide ((a.Yu:Int)=0) from decide_eq_decide.2 (by omega)];exact S.meet ⟨rfl,rfl⟩ ⟨rfl,rfl,rfl,rfl,rfl,trivial⟩ Sub.Qh)|(rw[show decide (a.Yu=0∨a.Yu=1)=decide ((a.Yu:Int)=1) from decide_eq_decide.2 (by omega)];exact S.meet ⟨rfl,rfl⟩ ⟨rfl,rfl,rfl,rfl,rfl,trivial⟩ Sub.Qh)
  ·rintro ρ' Γ' ⟨rfl,rfl⟩
   refine Zj ef (fun h2=>?_) (fun h2=>?_)
   ·rw[Be h2]at hT;refine ZY 2 ?_;refine Zp (Zc1 Ze (Qnt p s (Qtw (T0 (by rw[←hT];exact hok)).2) hW) ?_);rintro v Θ rfl;refine Zy ?_;exact Zfn ef Zq (by rw[hT])
   ·refine ZY 5 ?_
    refine Zj ef (fun h3=>?_) (fun h3=>?_)
    ·have hdo:a.Yu=2:=by omega
     refine S.J4 p s fun b ps nv ns rb jb gb db wb iv dv wv hF=>?_;obtain⟨j,hj⟩:∃j:Jo,j=⟨s.next,a.tier % 4,1+a.k % s.cn,1+a.w % 20⟩:=⟨_,rfl⟩;have hm1:=Int.emod_lt_of_pos (a.k:Int) (show (0:Int)<s.cn by omega);have hm2:=Int.emod_nonneg (a.k:Int) (show (s.cn:Int)≠0 by omega);refine Zy ?_;refine Zd ([blk p 55 (smC s b nv rb jb gb db wb iv dv wv).toArray,blk b3 46 (acC a).toArray]) [] (Zra 0 23) (ZY 6 ?_);refine Zw ef (Ae rfl rfl (⟨by omega,by omega⟩)) (ZY 2 ?_);refine Zw ef (Xw Tryz.it3.h (by rw[Tryz.underlying5];rfl) rfl (Y0 (by omega) (by omega))) (ZY 5 ?_);refine Zw ef (Ae rfl rfl (⟨by omega,by omega⟩)) ?_;refine Zw ef (Za ef ef) (ZY 2 ?_);refine Zw ef (Ae rfl rfl (⟨by omega,by omega⟩)) ?_;refine Zw ef (Xw Tryz.it3.h (by rw[Tryz.underlying5];rfl) rfl (Y0 (by omega) (by omega))) ?_;refine Zw ef (Za ef ef) ?_;refine Zw ef (Q3 (pvs:=[(_,_),(_,_),(_,_),(_,_)]) [_,_,_,_,_,_] Tryz.z35.h Tryz.p35.h ⟨⟨rfl,rfl⟩,⟨rfl,rfl⟩,⟨rfl,rfl⟩,⟨rfl,rfl⟩,trivial⟩ rfl) ?_;refine Z1 (i:=23) ef ef ?_;refine(S.alloc Tryz.z35.h rfl ?_);intro b5;refine Zk [] ?_;refine Z1 (i:=24) ef ef ?_;refine  (Zs ef ef (cs':=[_,_,_,_,_,_]) ef ?_);refine Zk [] ?_;refine ZD (ZY 2 ?_)
     rcases Nat.lt_or_ge s.Ym.length 20 with Q7x|Q7x
     ·refine S.Yw b5 (joC j).toArray (by rw[hj];rfl) ?_;rw[M8 hdo Q7x,←hj]at hT;have Uh:=hok;rw[hT,Qh5,Ki]at Uh;simp only[Bool.and_eq_true]at Uh;obtain⟨⟨k1,k2⟩,k3⟩:=Uh;simp only[Qm8,Bool.and_eq_true,decide_eq_true_eq,List.all_eq_true]at k2;obtain⟨⟨⟨⟨⟨e1,e2⟩,e3⟩,e4⟩,e5⟩,e6⟩:=k2;obtain⟨s3,Uq⟩:∃s3:Sm,s3={Ho s j with ok:=s.ok&&Qm8 s j&&tkB (Ho s j)}:=⟨_,rfl⟩;have Ry:Lv s3:=by rw[Uq];exact(Ez k3).Ar _
      replace hT:T=Vd s3:=by rw[hT,Qh5,Uq]
      refine Zd ([blk p 55 (smC s b nv rb jb gb db wb iv dv wv).toArray,blk b5 35 (joC j).toArray,Qk jb .u32 (s.Ym.map joE)]) [] (Zra 0 7) (ZY 7 ?_);refine Zu 61 true ef ((decide_eq_true (by rw[List.length_map];omega))) ?_;refine Zr (Zra 7 5) (ZY 5 ?_);refine Z1g (i:=12) ef ef ef ef ef (rfl) ?_;refine  (Zc1 Ze (Q5y b s.b ps j.id j.tier j.k j.w 0 0 0 (by rw[hj];show s.next≤_;omega) e1 e2 e3 e4) ?_);rintro v Θ ⟨ps2,rfl,rfl⟩;refine Zk [13,14] (ZY 2 ?_);refine ZD ?_
      refine Zj ef (fun h4=>?_) (fun h4=>?_)
      ·refine Zy ?_;refine Zd ([blk p 55 (smC s b nv rb jb gb db wb iv dv wv).toArray,blk b5 35 (joC j).toArray]) [] (Zra 0 7) (ZY 7 ?_);refine Z1 (i:=7) ef ef ?_;refine(S.mapUpdate Tryz.underlying49 Tryz.underlying31 rfl rfl rfl rfl ?_);rw[Q7d (fun x hx=>e5 x hx)];refine Zk [] ?_;refine ZD (ZY 5 (Zv (Za ef ef) (ZY 4 ?_)));have Pw:s3={s with b:=(Fx s.b (U9 j.id j.tier j.k j.w 0 0)).2,Ym:=s.Ym++[j],next:=s.next+1,ok:=s.ok&&Qm8 s j&&tkB (Ho s j)}:=by rw[Uq];simp only[Ho,if_pos h4]
       refine S.Yw p (smC s3 b nv rb jb gb db wb iv dv wv).toArray (by rw[Pw];rfl) ?_;refine S.sub (smX p s3 b ps2 nv ns rb jb gb db wb iv dv wv (Xa W::Γ)) (e:=by rw[Pw];infer_instance) ?_;refine S.Xo p s3 b ps2 nv ns rb jb gb db wb iv dv wv ⟨by rw[Pw];exact hF.nd,by rw[Pw];exact hF.nn,by rw[Pw];exact hF.im⟩ (ZY 2 (Zp (Zc1 Ze (Gc p s3 Ry) ?_)));rintro v Θ rfl;refine Zy ?_;exact Zfn ef Zq (by rw[hT])
      ·refine Zy ?_;have Pw:s3={s with b:=(Fx s.b (U9 j.id j.tier j.k j.w 0 0)).2,ok:=s.ok&&Qm8 s j&&tkB (Ho s j)}:=by rw[Uq];simp only[Ho,if_neg h4]
       refine S.sub (smX p s3 b ps2 nv ns rb jb gb db wb iv dv wv (Xa W::Γ)) (e:=by rw[Pw];infer_instance) ?_;refine S.Xo p s3 b ps2 nv ns rb jb gb db wb iv dv wv ⟨by rw[Pw];exact hF.nd,by rw[Pw];exact hF.nn,by rw[Pw];exact hF.im⟩ (ZY 2 (Zp (Zc1 Ze (Gc p s3 Ry) ?_)));rintro v Θ rfl;refine Zy ?_;exact Zfn ef Zq (by rw[hT])
     ·refine S.Yw b5 (joC j).toArray (by rw[hj];rfl) ?_;rw[Bh hdo (by omega)]at hT;have Uh:=hok;rw[hT,Ki]at Uh;simp only[Bool.and_eq_true]at Uh;obtain⟨k1,k3⟩:=Uh;obtain⟨s3,Uq⟩:∃s3:Sm,s3={s with ok:=s.ok&&tkB s}:=⟨_,rfl⟩;have Ry:Lv s3:=by rw[Uq];exact(Ez k3).Ar _
      replace hT:T=Vd s3:=by rw[hT,Uq]
      refine Zd ([blk p 55 (smC s b nv rb jb gb db wb iv dv wv).toArray,blk b5 35 (joC j).toArray,Qk jb .u32 (s.Ym.map joE)]) [] (Zra 0 7) (ZY 7 ?_);refine Zu 61 false ef ((decide_eq_false (by rw[List.length_map];omega))) ?_;refine Zr (Zra 7 8) (ZY 8 ?_);refine ZD (ZY 4 ?_);refine S.sub (smX p s3 b ps nv ns rb jb gb db wb iv dv wv (Xa W::Γ)) (e:=by rw[Uq];infer_instance) ?_;refine S.Xo p s3 b ps nv ns rb jb gb db wb iv dv wv ⟨by rw[Uq];exact hF.nd,by rw[Uq];exact hF.nn,by rw[Uq];exact hF.im⟩ (Zp (Zc1 Ze (Gc p s3 Ry) ?_));rintro v Θ rfl;refine Zy ?_;exact Zfn ef Zq (by rw[hT])
    ·refine ZY 5 ?_
     refine Zj ef (fun h5=>?_) (fun h5=>?_)
     ·have hdo:a.Yu=3:=by omega
      refine S.J4 p s fun b ps nv ns rb jb gb db wb iv dv wv hF=>?_;obtain⟨id,hid⟩:∃id,id=1+a.n % max s.next 1:=⟨_,rfl⟩;have hm3:(a.n:Int) % ((max s.next 1:Nat):Int)=((a.n % max s.next 1:Nat):Int):=rfl;have hm4:=Nat.mod_le a.n (max s.next 1);rw[M7 hdo,←hid]at hT;have Uh:=hok;rw[hT,Qh4,Ki]at Uh;simp only[Bool.and_eq_true,decide_eq_true_eq]at Uh;obtain⟨⟨k1,k2⟩,k3⟩:=Uh;obtain⟨s3,Uq⟩:∃s3:Sm,s3={Qgy s id with ok:=s.ok&&decide (s.b.Qa.length≤900000)&&tkB (Qgy s id)}:=⟨_,rfl⟩;have Ry:Lv s3:=by rw[Uq];exact(Ez k3).Ar _
      replace hT:T=Vd s3:=by rw[hT,Qh4,Uq]
      refine Zy ?_
      refine Zc (fun ρ' Γ'=>ρ'=[(0,pt p),(6,.int .u32 (id:Int))]∧Γ'=smX p s b ps nv ns rb jb gb db wb iv dv wv (Xa W::Γ)) ?_ ?_
      ·refine Zd0 (Zra 0 11) (ZY 2 ?_);refine Zw ef (Xw Tryz.Q7e.h (by rw[Tryz.underlying5];rfl) rfl (Qpc (by omega) (by omega))) (ZY 4 ?_);refine Zw ef (Nl (((max s.next 1:Nat):Int)) rfl rfl (by omega)) ?_;refine Zw ef (Ae rfl rfl (⟨by omega,by omega⟩)) ?_;refine Zw ef (Za ef ef) (Zy ?_);refine ZD ?_;rw[hid];exact ZM ⟨rfl,rfl⟩
      ·rintro ρ' Γ' ⟨rfl,rfl⟩;refine ZY 8 (Zp (Zcp Ze (Qzi b s.b ps id k2) (ZY 2 ?_)))
       refine Zj ef (fun h6=>?_) (fun h6=>?_)
       ·refine ZY 6 (Zp (S.mapUpdate Tryz.underlying50 Tryz.underlying31 rfl rfl rfl rfl ?_));rw[Qaa];refine Zy ?_;have Pw:s3={s with b:=(Yr s.b id).2,gone:=Yj s.gone id,ok:=s.ok&&decide (s.b.Qa.length≤900000)&&tkB (Qgy s id)}:=by rw[Uq];simp only[Qgy,if_pos h6]
        refine S.sub (smX p s3 b ps nv ns rb jb gb db wb iv dv wv (Xa W::Γ)) (e:=by rw[Pw];infer_instance) ?_;refine S.Xo p s3 b ps nv ns rb jb gb db wb iv dv wv ⟨by rw[Pw];exact hF.nd,by rw[Pw];exact hF.nn,by rw[Pw];exact hF.im⟩ (ZY 2 (Zp (Zc1 Ze (Gc p s3 Ry) ?_)));rintro v Θ rfl;refine Zy ?_;exact Zfn ef Zq (by rw[hT])
       ·refine Zy ?_;have Pw:s3={s with b:=(Yr s.b id).2,ok:=s.ok&&decide (s.b.Qa.length≤900000)&&tkB (Qgy s id)}:=by rw[Uq];simp only[Qgy,if_neg h6]
        refine S.sub (smX p s3 b ps nv ns rb jb gb db wb iv dv wv (Xa W::Γ)) (e:=by rw[Pw];infer_instance) ?_;refine S.Xo p s3 b ps nv ns rb jb gb db wb iv dv wv ⟨by rw[Pw];exact hF.nd,by rw[Pw];exact hF.nn,by rw[Pw];exact hF.im⟩ (ZY 2 (Zp (Zc1 Ze (Gc p s3 Ry) ?_)));rintro v Θ rfl;refine Zy ?_;exact Zfn ef Zq (by rw[hT])
     ·refine ZY 5 ?_
      refine Zj ef (fun h7=>?_) (fun h7=>?_)
      ·have hdo:a.Yu=4:=by omega
       rw[Bf hdo,←hi]at hT;refine S.J4 p s fun b ps nv ns rb jb gb db wb iv dv wv hF=>?_;have hnn:=hF.nn;obtain⟨n,hn⟩:=Yv hil;obtain⟨q,hq⟩:=Rp hF.nd hn;refine S.Qp nv (by omega) fun nb nof Am _ _ _=>(ZY 7 (Zv (Zx (i) ef (Am) ef (by omega)) ?_));refine Zv (Zo (nv) (i) ef (Am) (by rw[List.getElem?_map,hq];rfl)) ?_;refine ZY 4 (S.conv (alls ns noB) (Ent.Wp noB hq _) ?_);refine S.Fu q n fun nrb niv nov rs os hN=>(ZY 5 ?_)
       refine Zi ef (fun h8=>?_) (fun h8=>?_)
       ·have hup:n.up=true:=h8;rw[Ck,hn]at hT;dsimp only at hT;rw[if_pos hup]at hT;have Uh:=hok;rw[hT,Ki]at Uh;simp only[Bool.and_eq_true,decide_eq_true_eq]at Uh;obtain⟨⟨k1,k2⟩,k3⟩:=Uh;obtain⟨s3,Uq⟩:∃s3:Sm,s3={Qd3 s i n with ok:=s.ok&&decide (s.b.Qa.length≤800000)&&tkB (Qd3 s i n)}:=⟨_,rfl⟩;have Ry:Lv s3:=by rw[Uq];exact(Ez (s:=Qd3 s i n) k3).Ar _
        rw[←Uq]at hT;obtain⟨m1,m2⟩:=De hq ⟨false,[],[],[],n.Qf⟩;rw[hF.nd]at m2;refine ZY 3 (Zp (S.makeMap .u32 rfl ?_));intro b126;refine ZY 4 ?_;refine Zv (Q3 (pvs:=[(_,_),(_,_)]) [_,_,_,_,_] Tryz.z107.h Tryz.Zat.h ⟨⟨rfl,rfl⟩,⟨rfl,rfl⟩,trivial⟩ rfl) (Zy (Zp (Zs ef ef (cs':=[_,_,_,_,_]) ef (ZY 8 (Zp (Zcp Ze (Q9d b s.b ps i k2) (S.Wj (blk q 107 #[.bool false,.map (some b126),SV.nil.v,SV.nil.v,.bool n.Qf]) (Qk b126 .u32 []) (niE q b126 false n.Qf _) ?_)))))));refine S.Xb (noB ((q,⟨false,[],[],[],n.Qf⟩):No)) (alls (ns.take i) noB) (alls (ns.drop (i+1)) noB) (Ent.Yl noB (x':=((q,⟨false,[],[],[],n.Qf⟩):No)) hq _) ?_;rw[←m1];refine S.sub (smX p s3 b ps nv (ns.set i (q,⟨false,[],[],[],n.Qf⟩)) rb jb gb db wb iv dv wv (Xa W::Γ)) (e:=by rw[Uq];infer_instance) ?_;refine S.Xo p s3 b ps nv (ns.set i (q,⟨false,[],[],[],n.Qf⟩)) rb jb gb db wb iv dv wv ⟨by rw[Uq];exact m2,by rw[Uq];show nv.n=(s.nd.set i _).length;rw[List.length_set];exact hnn,by rw[Uq];exact hF.im⟩ (ZY 3 (Zp (Zc1 Ze (Gc p s3 Ry) ?_)));rintro v Θ rfl;refine Zy ?_;exact Zfn ef Zq (by rw[hT])
       ·have hup:n.up=false:=by simpa using h8
        rw[Ck,hn]at hT;dsimp only at hT;rw[if_neg (by rw[hup];decide)]at hT;refine S.Z7 q n nrb niv nov rs os hN (S.Xb (noB ((q,n):No)) (alls (ns.take i) noB) (alls (ns.drop (i+1)) noB) (Ent.Xc noB hq _) (S.Xo p s b ps nv ns rb jb gb db wb iv dv wv hF (Zy ?_)));exact Zfn ef Zq (by rw[hT])
      ·refine ZY 5 ?_
       refine Zj ef (fun h9=>?_) (fun h9=>?_)
       ·have hdo:a.Yu=5:=by omega
        rw[S0 hdo,←hi]at hT;refine S.J4 p s fun b ps nv ns rb jb gb db wb iv dv wv hF=>?_;have hnn:=hF.nn;obtain⟨n,hn⟩:=Yv hil;obtain⟨q,hq⟩:=Rp hF.nd hn;refine S.Qp nv (by omega) fun nb nof Am _ _ _=>(ZY 7 (Zv (Zx (i) ef (Am) ef (by omega)) ?_));refine Zv (Zo (nv) (i) ef (Am) (by rw[List.getElem?_map,hq];rfl)) ?_;refine S.conv (alls ns noB) (Ent.Wp noB hq _) ?_;refine S.Fu q n fun nrb niv nov rs os hN=>(ZY 5 ?_)
        refine Zi ef (fun h10=>?_) (fun h10=>?_)
        ·have hup:n.up=false:=by simpa using h10
         rw[Qh3,hn]at hT;dsimp only at hT;rw[if_neg (by rw[hup];decide)]at hT;have Uh:=hok;rw[hT,Ki]at Uh;simp only[Bool.and_eq_true]at Uh;obtain⟨k1,k3⟩:=Uh;obtain⟨s3,Uq⟩:∃s3:Sm,s3={up1 s i n with ok:=s.ok&&tkB (up1 s i n)}:=⟨_,rfl⟩;have Ry:Lv s3:=by rw[Uq];exact(Ez (s:=up1 s i n) k3).Ar _
         rw[←Uq]at hT;obtain⟨m1,m2⟩:=De hq {n with up:=true};rw[hF.nd]at m2;refine ZY 7 (Zv (Zx (i) ef (Am) ef (by omega)) ?_);refine Zv (Zo (nv) (i) ef (Am) (by rw[List.getElem?_map,hq];rfl)) ?_;refine ZY 8 (ZY 3 (Zp (Zcp Ze (Qsr b s.b ps i) ?_)));refine S.Z7 q {n with up:=true} nrb niv nov rs os ⟨hN.rk,hN.os,hN.i,hN.o⟩ (S.Xb (noB ((q,{n with up:=true}):No)) (alls (ns.take i) noB) (alls (ns.drop (i+1)) noB) (Ent.Yl noB (x':=((q,{n with up:=true}):No)) hq _) ?_);rw[←m1];refine S.sub (smX p s3 b ps nv (ns.set i (q,{n with up:=true})) rb jb gb db wb iv dv wv (Xa W::Γ)) (e:=by rw[Uq];infer_instance) ?_;refine S.Xo p s3 b ps nv (ns.set i (q,{n with up:=true})) rb jb gb db wb iv dv wv ⟨by rw[Uq];exact m2,by rw[Uq];show nv.n=(s.nd.set i _).length;rw[List.length_set];exact hnn,by rw[Uq];exact hF.im⟩ (ZY 3 (Zp (Zc1 Ze (Gc p s3 Ry) ?_)));rintro v Θ rfl;refine Zy ?_;exact Zfn ef Zq (by rw[hT])
        ·have hup:n.up=true:=by simpa using h10
         rw[Qh3,hn]at hT;dsimp only at hT;rw[if_pos hup]at hT;refine S.Z7 q n nrb niv nov rs os hN (S.Xb (noB ((q,n):No)) (alls (ns.take i) noB) (alls (ns.drop (i+1)) noB) (Ent.Xc noB hq _) (S.Xo p s b ps nv ns rb jb gb db wb iv dv wv hF (Zy ?_)));exact Zfn ef Zq (by rw[hT])
       ·refine ZY 6 ?_
        refine Zc (fun ρ' Γ'=>ρ'=[(0,pt p),(3,pt b3),(4,.int .i64 (i:Int)),(24,.int .u8 (a.Yu:Int)),(171,.bool (decide (a.Yu=6∨a.Yu=7∨a.Yu=8∨a.Yu=9)))]∧Γ'=SP p s::blk b3 46 (acC a).toArray::Xa W::Γ) ?_ ?_
        ·refine Zj ef (fun h11=>?_) (fun h11=>?_)
         ·refine Zy ?_;first|(rw[show decide (a.Yu=6∨a.Yu=7∨a.Yu=8∨a.Yu=9)=decide ((a.Yu:Int)=6) from decide_eq_decide.2 (by omega)];exact S.meet ⟨rfl,rfl⟩ ⟨rfl,rfl,rfl,rfl,rfl,trivial⟩ Sub.Qh)|(rw[show decide (a.Yu=6∨a.Yu=7∨a.Yu=8∨a.Yu=9)=decide ((a.Yu:Int)=7) from decide_eq_decide.2 (by omega)];exact S.meet ⟨rfl,rfl⟩ ⟨rfl,rfl,rfl,rfl,rfl,trivial⟩ Sub.Qh)|(rw[show decide (a.Yu=6∨a.Yu=7∨a.Yu=8∨a.Yu=9)=decide ((a.Yu:Int)=8) from decide_eq_decide.2 (by omega)];exact S.meet ⟨rfl,rfl⟩ ⟨rfl,rfl,rfl,rfl,rfl,trivial⟩ Sub.Qh)|(rw[show decide (a.Yu=6∨a.Yu=7∨a.Yu=8∨a.Yu=9)=decide ((a.Yu:Int)=9) from decide_eq_decide.2 (by omega)];exact S.meet ⟨rfl,rfl⟩ ⟨rfl,rfl,rfl,rfl,rfl,trivial⟩ Sub.Qh)
         ·refine ZY 5 ?_
          refine Zj ef (fun h12=>?_) (fun h12=>?_)
          ·refine Zy ?_;first|(rw[show decide (a.Yu=6∨a.Yu=7∨a.Yu=8∨a.Yu=9)=decide ((a.Yu:Int)=6) from decide_eq_decide.2 (by omega)];exact S.meet ⟨rfl,rfl⟩ ⟨rfl,rfl,rfl,rfl,rfl,trivial⟩ Sub.Qh)|(rw[show decide (a.Yu=6∨a.Yu=7∨a.Yu=8∨a.Yu=9)=decide ((a.Yu:Int)=7) from decide_eq_decide.2 (by omega)];exact S.meet ⟨rfl,rfl⟩ ⟨rfl,rfl,rfl,rfl,rfl,trivial⟩ Sub.Qh)|(rw[show decide (a.Yu=6∨a.Yu=7∨a.Yu=8∨a.Yu=9)=decide ((a.Yu:Int)=8) from decide_eq_decide.2 (by omega)];exact S.meet ⟨rfl,rfl⟩ ⟨rfl,rfl,rfl,rfl,rfl,trivial⟩ Sub.Qh)|(rw[show decide (a.Yu=6∨a.Yu=7∨a.Yu=8∨a.Yu=9)=decide ((a.Yu:Int)=9) from decide_eq_decide.2 (by omega)];exact S.meet ⟨rfl,rfl⟩ ⟨rfl,rfl,rfl,rfl,rfl,trivial⟩ Sub.Qh)
          ·refine ZY 5 ?_
           refine Zj ef (fun h13=>?_) (fun h13=>?_)
           ·refine Zy ?_;first|(rw[show decide (a.Yu=6∨a.Yu=7∨a.Yu=8∨a.Yu=9)=decide ((a.Yu:Int)=6) from decide_eq_decide.2 (by omega)];exact S.meet ⟨rfl,rfl⟩ ⟨rfl,rfl,rfl,rfl,rfl,trivial⟩ Sub.Qh)|(rw[show decide (a.Yu=6∨a.Yu=7∨a.Yu=8∨a.Yu=9)=decide ((a.Yu:Int)=7) from decide_eq_decide.2 (by omega)];exact S.meet ⟨rfl,rfl⟩ ⟨rfl,rfl,rfl,rfl,rfl,trivial⟩ Sub.Qh)|(rw[show decide (a.Yu=6∨a.Yu=7∨a.Yu=8∨a.Yu=9)=decide ((a.Yu:Int)=8) from decide_eq_decide.2 (by omega)];exact S.meet ⟨rfl,rfl⟩ ⟨rfl,rfl,rfl,rfl,rfl,trivial⟩ Sub.Qh)|(rw[show decide (a.Yu=6∨a.Yu=7∨a.Yu=8∨a.Yu=9)=decide ((a.Yu:Int)=9) from decide_eq_decide.2 (by omega)];exact S.meet ⟨rfl,rfl⟩ ⟨rfl,rfl,rfl,rfl,rfl,trivial⟩ Sub.Qh)
           ·refine ZY 4 ?_;first|(rw[show decide (a.Yu=6∨a.Yu=7∨a.Yu=8∨a.Yu=9)=decide ((a.Yu:Int)=6) from decide_eq_decide.2 (by omega)];exact S.meet ⟨rfl,rfl⟩ ⟨rfl,rfl,rfl,rfl,rfl,trivial⟩ Sub.Qh)|(rw[show decide (a.Yu=6∨a.Yu=7∨a.Yu=8∨a.Yu=9)=decide ((a.Yu:Int)=7) from decide_eq_decide.2 (by omega)];exact S.meet ⟨rfl,rfl⟩ ⟨rfl,rfl,rfl,rfl,rfl,trivial⟩ Sub.Qh)|(rw[show decide (a.Yu=6∨a.Yu=7∨a.Yu=8∨a.Yu=9)=decide ((a.Yu:Int)=8) from decide_eq_decide.2 (by omega)];exact S.meet ⟨rfl,rfl⟩ ⟨rfl,rfl,rfl,rfl,rfl,trivial⟩ Sub.Qh)|(rw[show decide (a.Yu=6∨a.Yu=7∨a.Yu=8∨a.Yu=9)=decide ((a.Yu:Int)=9) from decide_eq_decide.2 (by omega)];exact S.meet ⟨rfl,rfl⟩ ⟨rfl,rfl,rfl,rfl,rfl,trivial⟩ Sub.Qh)
        ·rintro ρ' Γ' ⟨rfl,rfl⟩
         refine Zj ef (fun h14=>?_) (fun h14=>?_)
         ·rw[M6 h14,←hi]at hT;refine ZY 5 ?_;refine Zp (Zcp Ze (P6 p s i a.back hil (by rw[←hT];exact hok)) (Zy ?_));exact Zfn ef Zq (by rw[hT])
         ·refine ZY 5 ?_
          refine Zj ef (fun h15=>?_) (fun h15=>?_)
          ·rw[M5 (by omega)]at hT;refine ZY 5 ?_;refine Zp (Zcp Ze (Qds p s (!a.fail) (by rw[←hT];exact hok)) (Zy ?_));exact Zfn ef Zq (by rw[hT])
          ·refine ZY 5 ?_
           refine Zj ef (fun h16=>?_) (fun h16=>?_)
           ·rw[Bg (by omega)]at hT;refine ZY 2 ?_;refine Zp (Zc1 Ze (Qym p s (by rw[←hT];exact hok) hW) ?_);rintro v Θ rfl;refine Zy ?_;exact Zfn ef Zq (by rw[hT])
           ·rw[S1 (by omega)]at hT;refine Zy ?_;exact Zfn ef Zq (by rw[hT])
structure NB(now:Nat)(n:Nd):Prop where
 i:∀x∈n.Yi,x.Qt≤255
 r:∀y∈n.rk,y.2.place≤255∧y.2.W7≤now∧y.2.Un≤now
 o:∀x∈n.out,x.1.Qt≤255∧x.1.W7≤now∧x.1.Un≤now∧x.2.length≤1000000
theorem NB.mono{a b:Nat}{n:Nd}(h:NB a n)(hab:a≤b):NB b n:=⟨h.i,fun y hy=>by have:=h.r y hy;omega,fun x hx=>by have:=h.o x hx;omega⟩
theorem NB.act{now:Nat}{n:Nd}{x:Nt}(h:NB now n)(hx:x.Qt≤255):NB now (Q8 n x):=by
 have hr:∀ {k:Nat} {r:Rk},Yg k n.rk=some r→r.place≤255∧r.W7≤now∧r.Un≤now:=fun hg=>h.r _ (Eb hg)
 have ho:∀ {y:Nt×List Int},(y.1.Qt≤255∧y.1.W7≤now∧y.1.Un≤now∧y.2.length≤1000000)→∀z∈n.out++[y],z.1.Qt≤255∧z.1.W7≤now∧z.1.Un≤now∧z.2.length≤1000000:=fun {y} hy z hz=>by
  rcases List.mem_append.1 hz with hz|hz
  ·exact h.o z hz
  ·rw[List.mem_singleton.1 hz];exact hy
 have hp:∀ {k:Nat} {r:Rk},(r.place≤255∧r.W7≤now∧r.Un≤now)→∀y∈Xl k r n.rk,y.2.place≤255∧y.2.W7≤now∧y.2.Un≤now:=fun {k r} hy y hz=>by
  rcases Va hz with rfl|hz
  ·exact hy
  ·exact h.r y hz
 unfold Q8
 split
 ·exact⟨h.i,hp ⟨hx,Nat.zero_le _,Nat.zero_le _⟩,ho ⟨Nat.zero_le _,Nat.zero_le _,Nat.zero_le _,Nat.zero_le _⟩⟩
 split
 ·split
  ·exact⟨h.i,h.r,h.o⟩
  ·rename_i r hg;exact⟨h.i,hp ⟨(hr hg).1,Nat.zero_le _,Nat.zero_le _⟩,h.o⟩
 split
 ·split
  ·split
   ·exact h
   ·rename_i r hg;exact⟨h.i,hp ⟨(hr hg).1,(hr hg).2.1,(hr hg).2.2⟩,ho ⟨Nat.zero_le _,(hr hg).2.1,(hr hg).2.2,Nat.zero_le _⟩⟩
  ·exact⟨h.i,h.r,ho ⟨Nat.zero_le _,Nat.zero_le _,Nat.zero_le _,Nat.zero_le _⟩⟩
 split
 ·split
  ·exact⟨h.i,h.r,h.o⟩
  ·rename_i r hg;exact⟨h.i,h.r,ho ⟨(hr hg).1,Nat.zero_le _,Nat.zero_le _,by show 2≤1000000;omega⟩⟩
 split
 ·exact⟨h.i,fun y hy=>h.r y (Gm hy),ho ⟨Nat.zero_le _,Nat.zero_le _,Nat.zero_le _,Nat.zero_le _⟩⟩
 ·exact h
theorem NB.tick{now:Nat}{n:Nd}(h:NB now n):NB (now+1) (Q2 (now+1) n):=by
 have h1:=h.mono (Nat.le_succ now);unfold Q2
 split
 ·split
  ·exact h1
  ·rename_i r hg;refine⟨h1.i,fun y hy=>?_,h1.o⟩;have hr:=h1.r _ (Eb hg)
   rcases Va hy with rfl|hy
   ·refine⟨hr.1,?_,Nat.le_refl _⟩;show (if r.W7=0 then now+1 else r.W7)≤now+1
    split
    ·exact Nat.le_refl _
    ·exact hr.2.1
   ·exact h1.r y hy
 ·exact h1
structure SB(s:Sm)(F T:Nat):Prop where
 gj:GJ s.b s.nd
 di:DI s.b s.done s.next
 now:s.b.now=s.now
 len:s.nd.length=s.cn
 c1:1≤s.cn
 c16:s.cn≤16
 jb:s.next=s.Ym.length+1
 jl:s.Ym.length≤20
 jid:∀j∈s.Ym,j.id<s.next
 jn:(s.Ym.map (·.id)).Nodup
 ran:∀x∈s.ran,x.2≤s.now
 nb:∀n∈s.nd,NB s.now n
 fl:∀n∈s.nd,n.Yi.length≤s.fu∧n.out.length≤s.fu
 im:s.Qe.length≤s.fu
 fu:s.fu≤F
 tm:s.now≤T
structure SI(s:Sm)(F T:Nat):Prop where
 sb:SB s F T
 ok:s.ok=true
 e1:s.b.Qa=[]
 e2:s.b.Qe=[]
 e3:s.b.done=[]
theorem SB.Ev{s:Sm}{F T:Nat}(h:SB s F T):s.b.js.length≤21:=by
 have h1:(s.b.js.map (·.id)).Pairwise (· < ·):=List.pairwise_map.2 h.gj.gi.bi.ok.Yz
 have h2:=Bk h1 (N:=21) fun i hi=>by
  obtain⟨x,hx,rfl⟩:=List.mem_map.1 hi;have:=h.di.lt x hx;have:=h.jb;have:=h.jl;omega
 rwa [List.length_map]at h2
theorem Tt{s:Sm}{F T:Nat}(h:SB s F T)(hF:F≤100000000000)(h1:s.b.Qa.length≤900000)(h2:s.b.Qe.length≤900000)(h3:s.b.done.length≤900000):tkB s=true:=by
 have hfu:=h.fu;simp only[tkB,Bool.and_eq_true,decide_eq_true_eq,List.all_eq_true];exact⟨⟨⟨⟨⟨⟨⟨h.len,h.c1⟩,fun n hn=>h.fl n hn⟩,h.im⟩,by omega⟩,h1⟩,h2⟩,h3⟩
theorem SB.ok_{s:Sm}{F T:Nat}(h:SB s F T)(o:Bool):SB {s with ok:=o} F T:=⟨h.gj,h.di,h.now,h.len,h.c1,h.c16,h.jb,h.jl,h.jid,h.jn,h.ran,h.nb,h.fl,h.im,h.fu,h.tm⟩
theorem Sx{s:Sm}{F T d:Nat}(h:SB s F T)(hok:s.ok=true)(hd:s.b.Qa.length+s.b.Qe.length+s.b.done.length≤d):SI (Vd s) (F+d) T:=by
 have hdt:=P4 s.b.done (Vz s.nd s.b.Qa) s.done h.di.nd;have hg:=Qz3 h.gj
 have hup:∀o∈s.b.Qa,∃n,s.nd[o.1]?=some n∧n.up=true:=fun o ho=>by
  have hi:=h.gj.gi.dst o ho;have Wq:=Qdb h.gj.gi.bi hi;obtain⟨n,hn⟩:=Yv (show o.1<s.nd.length by rw[h.gj.gi.len];exact Wq);exact⟨n,hn,(h.gj.gi.Qim hn).2 hi⟩
 obtain⟨k1,k2⟩:=S5 s.b.Qa s.nd hup
 have key:∀m∈Vz s.nd s.b.Qa,∃n∈s.nd,∃i,m={n with Yi:=n.Yi++qOf s.b.Qa i}:=fun m hm=>by
  obtain⟨i,hi⟩:=List.getElem?_of_mem hm;obtain⟨n,hn⟩:=Yv (show i<s.nd.length by rw[←k1];exact(List.getElem?_eq_some_iff.1 hi).1);rw[k2 i n hn]at hi;exact⟨n,List.mem_of_getElem? hn,i,(Option.some.inj hi).symm⟩
 have hql:∀i,(qOf s.b.Qa i).length≤s.b.Qa.length:=fun i=>by rw[qOf,List.length_map];exact List.length_filter_le _ _
 have hfu:=h.fu
 have e:Vd s={s with b:={s.b with Qa:=[],Qe:=[],done:=[]},nd:=Vz s.nd s.b.Qa,done:=s.done++s.b.done,Qe:=s.Qe++(Wa s.b).1,fu:=s.fu+s.b.Qa.length+s.b.Qe.length+s.b.done.length}:=by
  unfold Vd;simp only[hdt]
 rw[e]
 refine⟨⟨hg,⟨h.di.Yz,by rw[List.append_nil];exact h.di.nd,fun id hid=>h.di.Xa id (by rw[List.append_nil]at hid;exact hid),h.di.lt,fun id hid=>h.di.ltd id (by rw[List.append_nil]at hid;exact hid),h.di.ag⟩,h.now,k1.trans h.len,h.c1,h.c16,h.jb,h.jl,h.jid,h.jn,h.ran,fun m hm=>?_,fun m hm=>?_,?_,?_,h.tm⟩,hok,rfl,rfl,rfl⟩
 ·obtain⟨n,hn,i,rfl⟩:=key m hm;have hN:=h.nb n hn;refine⟨fun x hx=>?_,hN.r,hN.o⟩
  rcases List.mem_append.1 hx with hx|hx
  ·exact hN.i x hx
  ·exact h.gj.ork _ (N0.1 hx)
 ·obtain⟨n,hn,i,rfl⟩:=key m hm;obtain⟨f1,f2⟩:=h.fl n hn;have:=hql i
  refine⟨?_,?_⟩
  ·show (n.Yi++qOf s.b.Qa i).length≤s.fu+s.b.Qa.length+s.b.Qe.length+s.b.done.length;rw[List.length_append];omega
  ·show n.out.length≤s.fu+s.b.Qa.length+s.b.Qe.length+s.b.done.length;omega
 ·show (s.Qe++(Wa s.b).1).length≤s.fu+s.b.Qa.length+s.b.Qe.length+s.b.done.length;have h1:(Wa s.b).1.length≤s.b.Qe.length:=List.length_filter_le _ _;have:=h.im;rw[List.length_append];omega
 ·show s.fu+s.b.Qa.length+s.b.Qe.length+s.b.done.length≤F+d;omega
theorem SI.mono{s:Sm}{F T F' T':Nat}(h:SI s F T)(h1:F≤F')(h2:T≤T'):SI s F' T':=
 ⟨⟨h.sb.gj,h.sb.di,h.sb.now,h.sb.len,h.sb.c1,h.sb.c16,h.sb.jb,h.sb.jl,h.sb.jid,h.sb.jn,h.sb.ran,h.sb.nb,h.sb.fl,h.sb.im,Nat.le_trans h.sb.fu h1,Nat.le_trans h.sb.tm h2⟩,h.ok,h.e1,h.e2,h.e3⟩
theorem Q5w{b:Br}{nd:List Nd}(h:GJ b nd):Qj6 nd=true:=List.all_eq_true.2 fun n hn=>by
 obtain⟨i,hi⟩:=List.getElem?_of_mem hn;cases hu:n.up with
 | true=>exact Qy0 (h.gi.node i n hi hu).kn (h.gi.node i n hi hu).one
 | false=>rw[(h.gi.off i n hi hu).1];rfl
theorem Q4e{b:Br}(h:BrI b never):G4 b:=fun x hx e=>((h.j x hx).q e).2.2.1
theorem Q5z{b:Br}(h:G4 b):wsB b=true:=List.all_eq_true.2 fun x hx=>by
 rw[Bool.or_eq_true,decide_eq_true_eq]
 by_cases e:x.state=0
 ·exact .inr (by rw[h x hx e];rfl)
 ·exact .inl e
theorem Q6m{s:Sm}(l:List Nd){k:Nat}(hn:(s.Ym.map (·.id)).Nodup)(h:∀x∈s.ran,x.2≤k):∀x∈Cn s l,x.2≤k+1:=by
 have key:∀(js:List Jo) (r:List (Nat×Nat)),(js.map (·.id)).Nodup→(∀x∈r,x.2≤k+1)→(∀j∈js,Yn j.id r≤k)→∀x∈js.foldl (fun r j=>if A5 l j then Xl j.id (Yn j.id r+1) r else r) r,x.2≤k+1:=by
  intro js;induction js with
  | nil=>exact fun _ _ h _=>h
  | cons j js ih=>
   intro r hn h1 h2;rw[List.map_cons,List.nodup_cons]at hn;have hj:=h2 j (List.mem_cons_self ..);rw[List.foldl_cons]
   refine ih _ hn.2 ?_ fun i hi=>?_
   ·split
    ·intro x hx
     rcases Va hx with rfl|hx
     ·show Yn j.id r+1≤k+1;omega
     ·exact h1 x hx
    ·exact h1
   ·have Uk:i.id≠j.id:=fun e=>hn.1 (List.mem_map.2 ⟨i,hi,e⟩)
    split
    ·rw[Pk,if_neg Uk];exact h2 i (List.mem_cons_of_mem _ hi)
    ·exact h2 i (List.mem_cons_of_mem _ hi)
 exact key s.Ym s.ran hn (fun x hx=>Nat.le_succ_of_le (h x hx)) fun j _=>Qio h j.id
theorem Qe6{s:Sm}{F T:Nat}(h:SI s F T)(hF:F≤99999000000)(hT:T+1≤4294967295):SI (Ku s) (F+80000) (T+1):=by
 have hB:=h.sb;have Ql6:=hB.tm
 have Xf:stB s=true:=by
  simp only[stB,Bool.and_eq_true,decide_eq_true_eq,List.all_eq_true];refine⟨⟨⟨⟨⟨⟨⟨Tt hB (by omega) (by rw[h.e1];exact Nat.zero_le _) (by rw[h.e2];exact Nat.zero_le _) (by rw[h.e3];exact Nat.zero_le _),by omega⟩,Q5w hB.gj⟩,Q5w (Pj hB.gj (s.now+1))⟩,Q5z (Q4e hB.gj.gi.bi)⟩,by rw[h.e1];exact Nat.zero_le _⟩,hB.c16⟩,fun x hx=>hB.ran x hx⟩
 have hg:=Qnp (Pj hB.gj (s.now+1)) (now:=s.now+1) (by omega);obtain⟨d1,d2,d3⟩:=Qnq hB.di (now:=s.now+1) (by rw[hB.now];omega) hg.gi.bi.ok.Yz;obtain⟨_,o1⟩:=Tu hB.gj.gi.bi.ok (Q4e hB.gj.gi.bi) (now:=s.now+1) (by omega);have Uq:=Sm3.tick s.b (s.now+1);have q1:=Uq.im;have q2:=Uq.dn;rw[h.e1]at o1;rw[h.e2]at q1;rw[h.e3]at q2;simp only[List.length_nil]at o1 q1 q2
 have e:Ku s=Vd {s with now:=s.now+1,ran:=Cn s (s.nd.map (Q2 (s.now+1))),b:=(Y3 s.b (s.now+1)).2,nd:=s.nd.map (Q2 (s.now+1)),ok:=s.ok&&stB s}:=by
  unfold Ku;dsimp only;rw[if_neg (by rw[d3];exact fun e=>e rfl)]
 rw[e]
 have hS:SB {s with now:=s.now+1,ran:=Cn s (s.nd.map (Q2 (s.now+1))),b:=(Y3 s.b (s.now+1)).2,nd:=s.nd.map (Q2 (s.now+1)),ok:=s.ok&&stB s} F (T+1):=by
  refine⟨hg,d1,d2,by show (s.nd.map _).length=_;rw[List.length_map];exact hB.len,hB.c1,hB.c16,hB.jb,hB.jl,hB.jid,hB.jn,Q6m (s:=s) (s.nd.map (Q2 (s.now+1))) hB.jn hB.ran,fun n hn=>?_,fun n hn=>?_,hB.im,hB.fu,by show s.now+1≤_;omega⟩
  ·obtain⟨m,hm,rfl⟩:=List.mem_map.1 hn;exact(hB.nb m hm).tick
  ·obtain⟨m,hm,rfl⟩:=List.mem_map.1 hn;obtain⟨_,e2,e3,_⟩:=Jd (s.now+1) m;rw[e2,e3];exact hB.fl m hm
 refine(Sx (d:=70000) hS (by show (s.ok&&stB s)=true;rw[h.ok,Xf];rfl) ?_).mono (by omega) (Nat.le_refl _);show (Y3 s.b (s.now+1)).2.Qa.length+(Y3 s.b (s.now+1)).2.Qe.length+(Y3 s.b (s.now+1)).2.done.length≤_;omega
theorem Qxa{b:Br}(h:Q7 b)(n:Int){t:Nt}(ht:t.W7≤4294967295∧t.Un≤4294967295)(bl:List Int):(X6 b n t bl).2.Qa.length≤b.Qa.length+16*b.js.length:=by
 unfold X6
 split
 ·exact Nat.le_add_right _ _
 split
 ·show (W4 b n.toNat t).Qa.length≤_
  by_cases hc:n.toNat∈b.stops.getD []∧b.Qo=true∧t.gen=b.gen
  ·rw[Dl hc.1 hc.2.1 hc.2.2];have h1:=Ci (Qvc h n.toNat ht) n.toNat
   have h2:(Fh b n.toNat t).js.length=b.js.length:=by
    unfold Fh
    split
    ·rfl
    ·split
     ·rfl
     ·split
      ·exact Jk _ _
      ·rfl
   rw[Qdy,h2]at h1;exact h1
  ·rw[Up hc];exact Nat.le_add_right _ _
 ·cases hg:Qg b.js t.Qm with
  | none=>exact Nat.le_add_right _ _
  | some x=>
   simp only
   split
   ·have:(Wt b x n.toNat t bl).Qa=b.Qa:=by
     unfold Wt
     split
     ·split <;> rfl
     split
     ·unfold Wy;cases hs:x.Yt with
      | none=>rfl
      | some s=>
       cases hr:Uf x.at_ n.toNat with
       | none=>rfl
       | some r=>
        simp only
        split
        ·rfl
        ·split <;> rfl
     split
     ·split
      ·rfl
      ·exact(K7 _ _).1
     ·rfl
    rw[this];exact Nat.le_add_right _ _
   ·exact Nat.le_add_right _ _
theorem Kq{nd:List Nd}{i:Nat}{n' m:Nd}(h:m∈nd.set i n'):m=n'∨m∈nd:=(List.mem_or_eq_of_mem_set h).symm
theorem Q33(n:Nd)(x:Nt):(Q8 n x).out.length≤n.out.length+1:=by
 have h1:∀y:Nt×List Int,(n.out++[y]).length≤n.out.length+1:=fun y=>by rw[List.length_append,List.length_singleton];exact Nat.le_refl _
 have h0:=Nat.le_succ n.out.length;unfold Q8
 split
 ·exact h1 _
 split
 ·split <;> exact h0
 split
 ·split
  ·split
   ·exact h0
   ·exact h1 _
  ·exact h1 _
 split
 ·split
  ·exact h0
  ·exact h1 _
 split
 ·exact h1 _
 ·exact h0
theorem Dp{s:Sm}{F T:Nat}(h:SI s F T)(hF:F≤99999000000)(hT:T≤4294967295)(i:Nat)(back:Bool):SI (Zt s i back).2 (F+1000) T:=by
 have hm:=h.mono (Nat.le_add_right F 1000) (Nat.le_refl T);have hB:=h.sb;have htm:=hB.tm;have Hd:=Tt hB (by omega) (by rw[h.e1];exact Nat.zero_le _) (by rw[h.e2];exact Nat.zero_le _) (by rw[h.e3];exact Nat.zero_le _);unfold Zt;cases hn:s.nd[i]? with
 | none=>exact hm
 | some n=>
  simp only;have Vt:=List.mem_of_getElem? hn;have hNB:=hB.nb n Vt;obtain⟨f1,f2⟩:=hB.fl n Vt
  by_cases hu0:n.up=false
  ·rw[if_pos hu0];exact hm
  ·have hu:n.up=true:=by simpa using hu0
   rw[if_neg hu0];cases back with
   | true=>
    rw[if_pos rfl]
    split
    ·exact hm
    ·rename_i x l ho;have hx:=hNB.o x (by rw[ho];exact List.mem_cons_self ..);have Cb:x.1.W7≤4294967295∧x.1.Un≤4294967295:=⟨by omega,by omega⟩;have hg:=Qpj hB.gj hn hu ho Cb;have hj:=Qo6 s.b i x.1 x.2
     have hS:SB (Lf s i n x l) F T:=by
      refine⟨hg,hB.di.jr hj hg.gi.bi.ok.Yz,(hj hB.di.ag).1.2.trans hB.now,by show (s.nd.set i _).length=_;rw[List.length_set];exact hB.len,hB.c1,hB.c16,hB.jb,hB.jl,hB.jid,hB.jn,hB.ran,fun m hm'=>?_,fun m hm'=>?_,hB.im,hB.fu,hB.tm⟩
      ·rcases Kq hm' with rfl|hm'
       ·exact⟨hNB.i,hNB.r,fun y hy=>hNB.o y (by rw[ho];exact List.mem_cons_of_mem _ hy)⟩
       ·exact hB.nb m hm'
      ·rcases Kq hm' with rfl|hm'
       ·rw[ho,List.length_cons]at f2;exact⟨f1,by show l.length≤s.fu;omega⟩
       ·exact hB.fl m hm'
     have o1:=Qxa hB.gj.gi.bi.ok i Cb x.2;have o2:=Sm3.hear s.b i x.1 x.2;have o3:=o2.im;have o4:=o2.dn;have B8:=hB.Ev;rw[h.e1]at o1;rw[h.e2]at o3;rw[h.e3]at o4;simp only[List.length_nil]at o1 o3 o4
     have hnt:ntB x=true:=by
      simp only[ntB,Bool.and_eq_true,decide_eq_true_eq];exact⟨⟨⟨hx.1,Cb.1⟩,Cb.2⟩,hx.2.2.2⟩
     have Qwt:=Tt hS (by omega) (by show (X6 s.b i x.1 x.2).2.Qa.length≤_;omega) (by show (X6 s.b i x.1 x.2).2.Qe.length≤_;omega) (by show (X6 s.b i x.1 x.2).2.done.length≤_;omega)
     refine(Sx (d:=1000) (hS.ok_ _) ?_ ?_)
     ·show (s.ok&&ntB x&&tkB s&&decide (s.b.Qa.length≤800000)&&decide (s.b.Qe.length≤800000)&&tkB (Lf s i n x l))=true;rw[h.ok,hnt,Hd,Qwt,h.e1,h.e2];rfl
     ·show (X6 s.b i x.1 x.2).2.Qa.length+(X6 s.b i x.1 x.2).2.Qe.length+(X6 s.b i x.1 x.2).2.done.length≤_;omega
   | false=>
    rw[if_neg (by decide)]
    split
    ·exact hm
    ·rename_i x l hi;have hN:=hB.gj.gi.node i n hn hu;have hNl:NB s.now {n with Yi:=l}:=⟨fun y hy=>hNB.i y (by rw[hi];exact List.mem_cons_of_mem _ hy),hNB.r,hNB.o⟩;have hal:=Q33 {n with Yi:=l} x
     refine⟨⟨Q84 hB.gj hn hu hi,hB.di,hB.now,by show (s.nd.set i _).length=_;rw[List.length_set];exact hB.len,hB.c1,hB.c16,hB.jb,hB.jl,hB.jid,hB.jn,hB.ran,fun m hm'=>?_,fun m hm'=>?_,Nat.le_succ_of_le hB.im,by show s.fu+1≤_;have:=hB.fu;omega,hB.tm⟩,?_,h.e1,h.e2,h.e3⟩
     ·rcases Kq hm' with rfl|hm'
      ·exact hNl.act (hNB.i x (by rw[hi];exact List.mem_cons_self ..))
      ·exact hB.nb m hm'
     ·rcases Kq hm' with rfl|hm'
      ·rw[hi,List.length_cons]at f1;rw[(Qg1 _ _).2];refine⟨by show l.length≤s.fu+1;omega,?_⟩;show _≤s.fu+1;exact Nat.le_trans hal (by show n.out.length+1≤_;omega)
      ·obtain⟨q1,q2⟩:=hB.fl m hm';exact⟨by show _≤s.fu+1;omega,by show _≤s.fu+1;omega⟩
     ·show (s.ok&&amB n.rk&&tkB s)=true;rw[h.ok,Qy0 hN.kn hN.one,Hd];rfl
theorem A7{s:Sm}{F T:Nat}(h:SI s F T)(hF:F≤99999000000)(o:Bool):SI (Z5 s o).2 (F+1000) T:=by
 have hB:=h.sb;have Hd:=Tt hB (by omega) (by rw[h.e1];exact Nat.zero_le _) (by rw[h.e2];exact Nat.zero_le _) (by rw[h.e3];exact Nat.zero_le _);unfold Z5
 split
 ·exact h.mono (Nat.le_add_right F 1000) (Nat.le_refl T)
 ·rename_i x l hi;have hg:=Np hB.gj x.Qm x.ver o;have hS:SB (Qfu s x l o) F T:=⟨hg,Nq hB.di _ _ _ hg.gi.bi.ok.Yz,(Qct hB.di.ag _ _ _).trans hB.now,hB.len,hB.c1,hB.c16,hB.jb,hB.jl,hB.jid,hB.jn,hB.ran,hB.nb,hB.fl,by have:=hB.im;rw[hi,List.length_cons]at this;show l.length≤s.fu;omega,hB.fu,hB.tm⟩;have o2:=Sm3.published s.b x.Qm x.ver o;have o3:=o2.im;have o4:=o2.dn
  have o1:(Qr s.b x.Qm x.ver o).2.Qa.length≤16:=by
   unfold Qr;cases hg2:Qg s.b.js x.Qm with
   | none=>rw[h.e1];exact Nat.zero_le _
   | some y=>
    simp only
    split
    ·rw[h.e1];exact Nat.zero_le _
    ·split
     ·rw[h.e1];exact Nat.zero_le _
     ·rename_i z _ _;have k1:=(Qgp s.b {y with Qb:=if o then z.Qb else y.Qb,Yt:=none}).1;have k2:=Nat.le_trans (hB.gj.gi.bi.ok.Qm y (Qd hg2).1).len hB.gj.gi.bi.ok.Bz;rw[h.e1]at k1;simp only[List.length_nil]at k1;exact Nat.le_trans k1 (by show 0+y.at_.length≤16;omega)
  rw[h.e2]at o3;rw[h.e3]at o4;simp only[List.length_nil]at o3 o4;have Qwt:=Tt hS (by omega) (by show (Qr s.b x.Qm x.ver o).2.Qa.length≤_;omega) (by show (Qr s.b x.Qm x.ver o).2.Qe.length≤_;omega) (by show (Qr s.b x.Qm x.ver o).2.done.length≤_;omega)
  refine Sx (d:=1000) (hS.ok_ _) ?_ ?_
  ·show (s.ok&&tkB s&&decide (s.b.Qa.length≤800000)&&decide (s.b.done.length≤800000)&&tkB (Qfu s x l o))=true;rw[h.ok,Hd,Qwt,h.e1,h.e3];rfl
  ·show (Qr s.b x.Qm x.ver o).2.Qa.length+(Qr s.b x.Qm x.ver o).2.Qe.length+(Qr s.b x.Qm x.ver o).2.done.length≤_;omega
theorem Nb{F T:Nat}{s:Sm}(h:SI s F T)(o:Bool)(hT:T≤4294967295):∀i,F+2000*i≤99999000000→SI (roundUp s o i).2 (F+2000*i) T
 | 0,_=>h
 | i+1,hF=>by
  have h1:=Nb h o hT i (by omega);have h2:=Dp h1 (by omega) hT i false;have h3:=Dp h2 (by omega) hT i true;exact h3.mono (by omega) (Nat.le_refl _)
theorem Qep{T:Nat}(hT:T≤4294967295):∀(k:Nat) {F:Nat} {s:Sm},SI s F T→F+33000*k≤99999000000→SI (Ju s k) (F+33000*k) T
 | 0,_,_,h,_=>h
 | k+1,F,s,h,hF=>by
  have h1:=A7 h (by omega) true;have hl:(Z5 s true).2.nd.length≤16:=by rw[h1.sb.len];exact h1.sb.c16
  have h2:=Nb h1 (Z5 s true).1 hT (Z5 s true).2.nd.length (by omega);rw[Ju]
  split
  ·exact(Qep hT k (h2.mono (F':=F+33000) (by omega) (Nat.le_refl _)) (by omega)).mono (by omega) (Nat.le_refl _)
  ·exact h2.mono (by omega) (Nat.le_refl _)
theorem Q3q{s:Sm}{F T:Nat}(h:SI s F T)(hF:F≤99000000000)(hT:T+1≤4294967295):SI (R4 s) (F+100000000) (T+1):=by
 have h1:=Qe6 h (by omega) hT;exact(Qep hT 3000 h1 (by omega)).mono (by omega) (Nat.le_refl _)
theorem Le{s t:Sm}{F T d:Nat}(h:SI s F T)(hF:F≤99999000000)(hd:d≤1000)(hS:SB t F T)(_:t.ok=s.ok)(hdl:t.b.Qa.length+t.b.Qe.length+t.b.done.length≤d):tkB s=true∧tkB t=true∧∀o:Bool,o=true→SI (Vd {t with ok:=o}) (F+d) T:=by
 have hB:=h.sb;have Hd:=Tt hB (by omega) (by rw[h.e1];exact Nat.zero_le _) (by rw[h.e2];exact Nat.zero_le _) (by rw[h.e3];exact Nat.zero_le _);have Qwt:=Tt hS (by omega) (by omega) (by omega) (by omega);exact⟨Hd,Qwt,fun o ho=>Sx (hS.ok_ o) ho hdl⟩
theorem Q80{s:Sm}{F T:Nat}(h:SI s F T)(hF:F≤99000000000)(Q7x:s.Ym.length<20)(tier k w:Nat):SI (Qh5 s ⟨s.next,tier % 4,1+k % s.cn,1+w % 20⟩) (F+1000) T:=by
 have hB:=h.sb;have hjb:=hB.jb;have hc1:=hB.c1;have hkm:=Nat.mod_lt k (show 0<s.cn by omega);have hnn:s.b.nodes=s.cn:=hB.gj.gi.len.symm.trans hB.len;obtain⟨j,hj⟩:∃j:Jo,j=⟨s.next,tier % 4,1+k % s.cn,1+w % 20⟩:=⟨_,rfl⟩;rw[←hj];have j1:j.id=s.next:=by rw[hj]
 have j2:j.tier≤3:=by rw[hj];show tier % 4≤3;omega
 have j3:1≤j.k∧j.k≤s.cn:=by rw[hj];exact⟨Nat.le_add_right _ _,by show 1+k % s.cn≤_;omega⟩
 have j4:1≤j.w∧j.w≤20:=by rw[hj];exact⟨Nat.le_add_right _ _,by show 1+w % 20≤_;omega⟩
 obtain⟨x,hx⟩:∃x,x=U9 j.id j.tier j.k j.w 0 0:=⟨_,rfl⟩;have x1:x.id=s.next:=by rw[hx];exact j1
 have xw:x.Qb<x.w:=by rw[hx];show 0<j.w;omega
 have xd:x.done=false:=by rw[hx]
 have hok:Fm s.b x=true:=by
  rw[hx];simp only[Fm,Bool.and_eq_true,decide_eq_true_eq];exact⟨⟨⟨⟨⟨⟨by omega,by omega⟩,by omega⟩,by omega⟩,by omega⟩,by omega⟩,by omega⟩
 have Vb:Qg s.b.js x.id=none:=by
  cases hg:Qg s.b.js x.id with
  | none=>rfl
  | some y=>
   obtain⟨g1,g2⟩:=Qd hg;have:=hB.di.lt y g1;omega
 have B8:=hB.Ev;have hjl:=hB.jl;have Jz:=La hB.gj.gi.bi.ok.Yz (V4 Vb);have hgi:=Qek (x:=x) hB.gj.gi.bi.ok.Yz Vb;have hg:Qg (Ug s.b x).js x.id=some x:=by rw[show (Ug s.b x).js=Kl x s.b.js from rfl,hgi,if_pos rfl]
 have hf:Q0 (Ug s.b x) x=Ug s.b x:=by
  rw[Q0,if_pos (.inl xw)];show ({Ug s.b x with js:=Yo (Kl x s.b.js) x}:Br)=Ug s.b x;rw[show Yo (Kl x s.b.js) x=Kl x s.b.js from ?_];refine(List.map_congr_left fun y hy=>?_).trans (List.map_id' _)
  split
  ·rename_i e;have:=X3 Jz hy;rw[e,show Qg (Kl x s.b.js) x.id=some x from hg]at this;exact Option.some.inj this
  ·rfl
 have hadd:Fx s.b (U9 j.id j.tier j.k j.w 0 0)=(0,Ug s.b x):=by
  rw[←hx,Fx,if_neg (by rw[hok];decide),Vb];show (if (none:Option Bj).isSome=true then _ else _)=_;rw[if_neg (by decide)];show ((0:Int),Q0 (Ug s.b x) x)=_;rw[hf]
 have Hi:=Qy3 hB.gj (id:=j.id) (tier:=j.tier) (k:=j.k) (w:=j.w) (by omega) (by omega);rw[hadd]at Hi
 have e1:Ho s j={s with b:=Ug s.b x,Ym:=s.Ym++[j],next:=s.next+1}:=by
  unfold Ho;rw[hadd];rfl
 have hDI:DI (Ug s.b x) s.done (s.next+1):=by
  refine⟨Jz,hB.di.nd,fun id hid z hz=>?_,fun z hz=>?_,fun id hid=>Nat.lt_succ_of_lt (hB.di.ltd id hid),fun z hz e=>?_⟩
  ·rw[show (Ug s.b x).js=Kl x s.b.js from rfl,hgi]at hz
   split at hz
   ·rename_i e;have:=hB.di.ltd id hid;omega
   ·exact hB.di.Xa id hid z hz
  ·rcases V0.1 (show z∈Kl x s.b.js from hz) with rfl|hz
   ·omega
   ·exact Nat.lt_succ_of_lt (hB.di.lt z hz)
  ·rcases V0.1 (show z∈Kl x s.b.js from hz) with rfl|hz
   ·rw[xd]at e;cases e
   ·exact hB.di.ag z hz e
 have Uk:∀y∈s.Ym,y.id≠j.id:=fun y hy e=>by have:=hB.jid y hy;omega
 have hS:SB (Ho s j) F T:=by
  rw[e1]
  refine⟨Hi,hDI,hB.now,hB.len,hB.c1,hB.c16,?_,?_,fun y hy=>?_,?_,hB.ran,hB.nb,hB.fl,hB.im,hB.fu,hB.tm⟩
  ·show s.next+1=(s.Ym++[j]).length+1;rw[List.length_append,List.length_singleton];omega
  ·show (s.Ym++[j]).length≤20;rw[List.length_append,List.length_singleton];omega
  ·show y.id<s.next+1
   rcases List.mem_append.1 hy with hy|hy
   ·exact Nat.lt_succ_of_lt (hB.jid y hy)
   ·rw[List.mem_singleton.1 hy];omega
  ·show ((s.Ym++[j]).map (·.id)).Nodup;rw[List.map_append];refine List.nodup_append.2 ⟨hB.jn,List.nodup_cons.2 ⟨by simp,List.nodup_nil⟩,fun a h1 c h2 e=>?_⟩;obtain⟨y,hy,rfl⟩:=List.mem_map.1 h1;rw[List.map_singleton,List.mem_singleton]at h2;exact Uk y hy (e.trans h2)
 have hz:(Ho s j).b.Qa.length+(Ho s j).b.Qe.length+(Ho s j).b.done.length≤1000:=by
  rw[e1];show s.b.Qa.length+s.b.Qe.length+s.b.done.length≤1000;rw[h.e1,h.e2,h.e3];decide
 obtain⟨q1,q2,q3⟩:=Le h (by omega) (Nat.le_refl _) hS (by rw[e1]) hz;refine q3 _ ?_
 have hB2:Qm8 s j=true:=by
  simp only[Qm8,Bool.and_eq_true,decide_eq_true_eq,List.all_eq_true];exact⟨⟨⟨⟨⟨by rw[←hx];exact hok,by omega⟩,by rw[h.e1];exact Nat.zero_le _⟩,by rw[h.e3];exact Nat.zero_le _⟩,fun y hy=>Uk y hy⟩,by omega⟩
 rw[h.ok,hB2,q2];rfl
theorem Q8v{s:Sm}{F T:Nat}(h:SI s F T)(hF:F≤99000000000)(id:Nat):SI (Qh4 s id) (F+1000) T:=by
 have hB:=h.sb;have hg:=Qeo hB.gj id;have hjr:=Qd8 s.b id;have hS:SB (Qgy s id) F T:=⟨hg,hB.di.jr hjr hg.gi.bi.ok.Yz,(hjr hB.di.ag).1.2.trans hB.now,hB.len,hB.c1,hB.c16,hB.jb,hB.jl,hB.jid,hB.jn,hB.ran,hB.nb,hB.fl,hB.im,hB.fu,hB.tm⟩;have o2:=Sm3.cancel s.b id;have o3:=o2.im;have o4:=o2.dn;rw[h.e2]at o3;rw[h.e3]at o4;simp only[List.length_nil]at o3 o4
 have o1:(Yr s.b id).2.Qa.length≤16:=by
  unfold Yr;cases hg:Qg s.b.js id with
  | none=>rw[h.e1];exact Nat.zero_le _
  | some x=>
   simp only;have k1:=(Gs s.b x false).1;have k2:=Nat.le_trans (hB.gj.gi.bi.ok.Qm x (Qd hg).1).len hB.gj.gi.bi.ok.Bz;rw[h.e1]at k1;simp only[List.length_nil]at k1
   split
   ·show (Y9 s.b x false).Qa.length≤16;omega
   ·split
    ·show s.b.Qa.length≤16;rw[h.e1];exact Nat.zero_le _
    ·show s.b.Qa.length≤16;rw[h.e1];exact Nat.zero_le _
 obtain⟨q1,q2,q3⟩:=Le h (by omega) (Nat.le_refl _) hS rfl (by show (Yr s.b id).2.Qa.length+(Yr s.b id).2.Qe.length+(Yr s.b id).2.done.length≤1000;omega);exact q3 _ (by rw[h.ok,q2,h.e1];rfl)
theorem Qvx{b:Br}(h:Q7 b)(n:Int):(V1 b n).2.Qa.length≤b.Qa.length+32*b.js.length:=by
 by_cases hn:W5 b n true≠0
 ·rw[Qd2 hn];exact Nat.le_add_right _ _
 ·have hr:=S7 (Classical.byContradiction hn);obtain⟨k,rfl⟩:∃k:Nat,n=k:=⟨n.toNat,by omega⟩;rw[A8 hn];have h0:=Qbh h k;have h1:=Qb8 (Qvz k) h0;have h2:(Qw (each (Yk k) (Ve b k) b.ids) k).Qa.length≤(each (Yk k) (Ve b k) b.ids).Qa.length+16*(each (Yk k) (Ve b k) b.ids).js.length:=Ci (Li (Qvz k) h0) k
  have h3:(each (Yk k) (Ve b k) b.ids).js.length≤b.js.length:=by
   have:=(Sm3.each (f:=Yk k) (fun c x=>by
    unfold Yk
    split
    ·split
     ·exact .drop c x true
     ·exact .gone c _
    ·exact .refl c) b.ids (Ve b k)).js
   exact this
  have h4:(Ve b k).Qa.length≤b.Qa.length:=List.length_filter_le _ _;have h5:(each (Yk k) (Ve b k) b.ids).Qa.length≤(Ve b k).Qa.length+16*b.js.length:=h1;show (Qw (each (Yk k) (Ve b k) b.ids) k).Qa.length≤_;omega
theorem Q1t{s:Sm}{F T:Nat}(h:SI s F T)(hF:F≤99000000000)(i:Nat):SI (Ck s i) (F+1000) T:=by
 have hm:=h.mono (Nat.le_add_right F 1000) (Nat.le_refl T);have hB:=h.sb;unfold Ck;cases hn:s.nd[i]? with
 | none=>exact hm
 | some n=>
  simp only
  by_cases hu:n.up=true
  ·rw[if_pos hu];have hg:=Qo1 hB.gj hn hu;have hjr:=Qo5 s.b i
   have hS:SB (Qd3 s i n) F T:=by
    refine⟨hg,hB.di.jr hjr hg.gi.bi.ok.Yz,(hjr hB.di.ag).1.2.trans hB.now,by show (s.nd.set i _).length=_;rw[List.length_set];exact hB.len,hB.c1,hB.c16,hB.jb,hB.jl,hB.jid,hB.jn,hB.ran,fun m hm'=>?_,fun m hm'=>?_,hB.im,hB.fu,hB.tm⟩
    ·rcases Kq hm' with rfl|hm'
     ·exact⟨fun _ k=>(by cases k),fun _ k=>(by cases k),fun _ k=>(by cases k)⟩
     ·exact hB.nb m hm'
    ·rcases Kq hm' with rfl|hm'
     ·exact⟨Nat.zero_le _,Nat.zero_le _⟩
     ·exact hB.fl m hm'
   have o1:=Qvx hB.gj.gi.bi.ok i;have o2:=Sm3.lost s.b i;have o3:=o2.im;have o4:=o2.dn;have B8:=hB.Ev;rw[h.e1]at o1;rw[h.e2]at o3;rw[h.e3]at o4;simp only[List.length_nil]at o1 o3 o4;obtain⟨q1,q2,q3⟩:=Le h (by omega) (Nat.le_refl _) hS rfl (by show (V1 s.b i).2.Qa.length+(V1 s.b i).2.Qe.length+(V1 s.b i).2.done.length≤1000;omega);exact q3 _ (by rw[h.ok,q2,h.e1];rfl)
  ·rw[if_neg hu];exact hm
theorem Qk2(b:Br)(n:Int):(Ke b n).2.js=b.js∧(Ke b n).2.done=b.done∧(Ke b n).2.now=b.now∧(Ke b n).2.Qa=b.Qa∧(Ke b n).2.Qe=b.Qe:=by
 unfold Ke
 split
 ·exact⟨rfl,rfl,rfl,rfl,rfl⟩
 ·exact⟨rfl,rfl,rfl,rfl,rfl⟩
theorem Q99{s:Sm}{F T:Nat}(h:SI s F T)(hF:F≤99000000000)(i:Nat):SI (Qh3 s i) (F+1000) T:=by
 have hm:=h.mono (Nat.le_add_right F 1000) (Nat.le_refl T);have hB:=h.sb;unfold Qh3;cases hn:s.nd[i]? with
 | none=>exact hm
 | some n=>
  simp only
  by_cases hu:n.up=true
  ·rw[if_pos hu];exact hm
  ·rw[if_neg hu];have hg:=Qtm hB.gj hn (by simpa using hu);obtain⟨u1,u2,u3,u4,u5⟩:=Qk2 s.b i;have Vt:=List.mem_of_getElem? hn
   have hS:SB (up1 s i n) F T:=by
    refine⟨hg,hB.di.jr (.same u1 u2 u3) hg.gi.bi.ok.Yz,u3.trans hB.now,by show (s.nd.set i _).length=_;rw[List.length_set];exact hB.len,hB.c1,hB.c16,hB.jb,hB.jl,hB.jid,hB.jn,hB.ran,fun m hm'=>?_,fun m hm'=>?_,hB.im,hB.fu,hB.tm⟩
    ·rcases Kq hm' with rfl|hm'
     ·exact⟨(hB.nb n Vt).i,(hB.nb n Vt).r,(hB.nb n Vt).o⟩
     ·exact hB.nb m hm'
    ·rcases Kq hm' with rfl|hm'
     ·exact hB.fl n Vt
     ·exact hB.fl m hm'
   obtain⟨q1,q2,q3⟩:=Le h (by omega) (Nat.le_refl _) hS rfl (by show (Ke s.b i).2.Qa.length+(Ke s.b i).2.Qe.length+(Ke s.b i).2.done.length≤1000;rw[u4,u5,u2,h.e1,h.e2,h.e3];decide);exact q3 _ (by rw[h.ok,q2];rfl)
theorem Q0k{s:Sm}{F T:Nat}(h:SI s F T)(hF:F≤99000000000)(hT:T+1≤4294967295)(a:Ac):SI (Vw s a) (F+100000000) (T+1):=by
 have up1000:∀ {t:Sm},SI t (F+1000) T→SI t (F+100000000) (T+1):=fun k=>k.mono (by omega) (Nat.le_succ T)
 by_cases d0:a.Yu=0∨a.Yu=1
 ·rw[Be d0];exact(Qe6 h (by omega) hT).mono (by omega) (Nat.le_refl _)
 by_cases d2:a.Yu=2
 ·by_cases hj:s.Ym.length<20
  ·rw[M8 d2 hj];exact up1000 (Q80 h hF hj _ _ _)
  ·rw[Bh d2 hj];obtain⟨q1,_,q3⟩:=Le h (by omega) (Nat.le_refl 1000) h.sb rfl (by rw[h.e1,h.e2,h.e3];decide);exact up1000 (q3 _ (by rw[h.ok,q1];rfl))
 by_cases d3:a.Yu=3
 ·rw[M7 d3];exact up1000 (Q8v h hF _)
 by_cases d4:a.Yu=4
 ·rw[Bf d4];exact up1000 (Q1t h hF _)
 by_cases d5:a.Yu=5
 ·rw[S0 d5];exact up1000 (Q99 h hF _)
 by_cases d6:a.Yu=6∨a.Yu=7∨a.Yu=8∨a.Yu=9
 ·rw[M6 d6];exact up1000 (Dp h (by omega) (by omega) _ _)
 by_cases d10:a.Yu=10
 ·rw[M5 d10];exact up1000 (A7 h (by omega) _)
 by_cases d11:a.Yu=11
 ·rw[Bg d11];exact Q3q h hF hT
 ·rw[S1 (by omega)];exact h.mono (by omega) (Nat.le_succ T)
abbrev Qd0:Nd:=⟨false,[],[],[],false⟩
abbrev Qvf:Nd:=⟨true,[],[],[],false⟩
theorem Q61{N R Q G:Nat}(P2:1≤R)(Sl:R≤8)(hN1:1≤N)(C1:N≤16)(hQ1:1≤Q)(hQ2:Q≤1000)(hG1:1≤G)(hG2:G≤1000):GJ (Sb N R Q G 0) (List.replicate N Qd0):=by
 refine⟨⟨⟨Qos (Qf1 P2 Sl hN1 C1) hQ1 hQ2 hG1 hG2,fun x hx=>(by cases hx),fun y hy=>(by cases hy),fun n=>?_⟩,List.length_replicate,fun o ho=>(by cases ho),fun i n hn=>?_,fun i n hn _=>?_,fun i n hn hu=>?_,fun i hi=>(by cases hi)⟩,fun _=>rfl,fun o ho=>(by cases ho)⟩
 ·refine⟨fun e=>(by cases e),fun e=>?_⟩;unfold V9 at e;rw[Bool.and_eq_true]at e;have:=e.2;rw[show (Sb N R Q G 0).m.up=0#16 from rfl]at this;simp at this
 ·rw[List.getElem?_replicate]at hn
  split at hn
  ·cases hn;exact(decide_eq_false fun e=>(by cases e)).symm
  ·cases hn
 ·rw[List.getElem?_replicate]at hn
  split at hn
  ·cases hn;exact⟨rfl,rfl,rfl,rfl⟩
  ·cases hn
 ·rw[List.getElem?_replicate]at hn
  split at hn
  ·cases hn;cases hu
  ·cases hn
theorem Qtl{b:Br}{N:Nat}(h:GJ b (List.replicate N Qd0)):∀i,i≤N→GJ (R6 b i) (List.replicate i Qvf++List.replicate (N-i) Qd0)∧(R6 b i).js=b.js∧(R6 b i).done=b.done∧(R6 b i).now=b.now∧(R6 b i).Qa=b.Qa∧(R6 b i).Qe=b.Qe
 | 0,_=>⟨by rw[List.replicate_zero,List.nil_append,Nat.sub_zero];exact h,rfl,rfl,rfl,rfl,rfl⟩
 | i+1,hi=>by
  obtain⟨k0,k1,k2,k3,k4,k5⟩:=Qtl h i (by omega);obtain⟨u1,u2,u3,u4,u5⟩:=Qk2 (R6 b i) i;rw[Qdc];refine⟨?_,u1.trans k1,u2.trans k2,u3.trans k3,u4.trans k4,u5.trans k5⟩;have e0:N-i=(N-(i+1))+1:=by omega
  rw[e0,List.replicate_succ]at k0
  have hn:(List.replicate i Qvf++Qd0::List.replicate (N-(i+1)) Qd0)[i]?=some Qd0:=by
   rw[List.getElem?_append_right (by rw[List.length_replicate];exact Nat.le_refl _),List.length_replicate,Nat.sub_self];rfl
  have k:=Qtm k0 hn rfl;rw[List.set_append_right _ _ (by rw[List.length_replicate];exact Nat.le_refl _),List.length_replicate,Nat.sub_self]at k;rw[List.replicate_succ',List.append_assoc];exact k
theorem Qyu{N R Q G:Nat}(P2:1≤R)(Sl:R≤8)(hN1:1≤N)(C1:N≤16)(hQ1:1≤Q)(hQ2:Q≤1000)(hG1:1≤G)(hG2:G≤1000):SI (Ut N R Q G) 0 0:=by
 obtain⟨k0,k1,k2,k3,k4,k5⟩:=Qtl (Q61 (G:=G) P2 Sl hN1 C1 hQ1 hQ2 hG1 hG2) N (Nat.le_refl N);rw[Nat.sub_self,List.replicate_zero,List.append_nil]at k0;obtain⟨b,hb⟩:∃b,b=R6 (Sb N R Q G 0) N:=⟨_,rfl⟩;have e:Ut N R Q G={b:=b,cn:=N,cr:=R,cq:=Q,cg:=G,nd:=List.replicate N Qvf,now:=0,next:=1,ran:=[],Ym:=[],gone:=[],done:=[],Qe:=[],fu:=0,ok:=true}:=by rw[hb];rfl
 rw[←hb]at k0 k1 k2 k3 k4 k5;rw[e];have hnb:∀n∈List.replicate N Qvf,n=Qvf:=fun n hn=>List.eq_of_mem_replicate hn
 refine⟨⟨k0,⟨by rw[k1];exact List.Pairwise.nil,by rw[k2];exact List.nodup_nil,fun id hid=>?_,fun x hx=>?_,fun id hid=>?_,fun x hx=>?_⟩,k3,List.length_replicate,hN1,C1,rfl,Nat.zero_le _,fun _ k=>(by cases k),List.nodup_nil,fun _ k=>(by cases k),fun n hn=>?_,fun n hn=>?_,Nat.le_refl _,Nat.le_refl _,Nat.le_refl _⟩,rfl,k4,k5,k2⟩
 ·rw[k2]at hid;cases hid
 ·rw[k1]at hx;cases hx
 ·rw[k2]at hid;cases hid
 ·rw[k1]at hx;cases hx
 ·rw[hnb n hn];exact⟨fun _ k=>(by cases k),fun _ k=>(by cases k),fun _ k=>(by cases k)⟩
 ·rw[hnb n hn];exact⟨Nat.le_refl _,Nat.le_refl _⟩
structure Cx where
 k:Nat→Nat
 w:Nat→Nat
 ran:Nat→Nat
 s:Nat→Nat→Nat×Nat
 v:Nat
 g:Nat→Nat→Prop
 m:Nat→Nat
abbrev Ds(r c:Nat):List Int:=[(r:Int),((c % 256:Nat):Int)]
structure Qy9(c:Cx)(id work:Nat)(at_:List Nat)(r:List (Nat×Nat×Nat)):Prop where
 ne:at_≠[]
 nd:(r.map (·.1)).Nodup
 e:∀e∈r,e.2=c.s id e.1∧0<e.2.1∧e.1∈at_
 ov:∀F T,(∀i∈at_,0<(c.s id i).1∧(c.s id i).1≤F∧T≤(c.s id i).2)→work+(T+1-F)≤c.ran id
 g:∀i,c.g id i→i∈at_
structure Zc4(ver Qb work:Nat)(at_:List Nat)(s:Sv):Prop where
 ver:s.ver=ver
 cr:Qb≤s.Qb
 wk:s.Qb≤work
 len:s.bs.length=at_.length
 nd:s.have_.Nodup
 b:∀n∈s.have_,∃r,Uf at_ n=some r∧s.bs[r]?=some (Ds r s.Qb)
structure JC(c:Cx)(x:Bj):Prop where
 k:x.k=c.k x.id∧1≤x.k
 w:x.w=c.w x.id
 cw:c.m x.id≤x.Qb∧x.Qb≤x.work
 ww:x.work≤x.w
 wr:x.work≤c.ran x.id
 ver:x.ver≤c.v
 ran:∀r,x.ran=some r→Qy9 c x.id x.work x.at_ r
 Yt:∀s,x.Yt=some s→Zc4 x.ver x.Qb x.work x.at_ s
theorem Qy9.less{c:Cx}{id work work':Nat}{at_:List Nat}{r:List (Nat×Nat×Nat)}(h:Qy9 c id work at_ r)(hw:work'≤work):Qy9 c id work' at_ r:=
 ⟨h.ne,h.nd,h.e,fun F T k=>by have:=h.ov F T k;omega,h.g⟩
structure JZ(x y:Bj):Prop where
 id:y.id=x.id
 ver:x.ver≤y.ver
 Yt:∀t,y.Yt=some t→(∃s,x.Yt=some s∧s.ver=t.ver∧s.Qb=t.Qb∧(t.told=false→s.told=false))∨x.ver<t.ver
structure JM(x y:Bj):Prop extends JZ x y where
 cr:y.Qb=x.Qb
theorem JZ.none{x y:Bj}(h1:y.id=x.id)(h3:x.ver≤y.ver)(h4:y.Yt=none):JZ x y:=⟨h1,h3,fun t ht=>by rw[h4]at ht;cases ht⟩
theorem JM.none{x y:Bj}(h1:y.id=x.id)(h2:y.Qb=x.Qb)(h3:x.ver≤y.ver)(h4:y.Yt=none):JM x y:=⟨.none h1 h3 h4,h2⟩
theorem JM.same{x y:Bj}(h1:y.id=x.id)(h2:y.Qb=x.Qb)(h3:y.ver=x.ver)(h4:y.Yt=x.Yt):JM x y:=⟨⟨h1,Nat.le_of_eq h3.symm,fun t ht=>.inl ⟨t,h4 ▸ ht,rfl,rfl,fun h=>h⟩⟩,h2⟩
theorem JM.refl(x:Bj):JM x x:=.same rfl rfl rfl rfl
def BZ(b b':Br):Prop:=∀z∈b'.js,∃x∈b.js,JZ x z
def BM(b b':Br):Prop:=∀z∈b'.js,∃x∈b.js,JM x z
theorem BM.z{b b':Br}(h:BM b b'):BZ b b':=fun z hz=>by
 obtain⟨x,hx,hm⟩:=h z hz;exact⟨x,hx,hm.toJZ⟩
theorem BM.same{b b':Br}(h:b'.js=b.js):BM b b':=fun z hz=>⟨z,h ▸ hz,.refl z⟩
def Fit(c:Cx)(b:Br)(i v r:Nat):Prop:=0<c.k i∧∀x∈b.js,x.id=i→v≤x.ver∧∀s,x.Yt=some s→s.ver=v→r=s.Qb
def Qg7(c:Cx)(b:Br)(i v rk:Nat)(l:List Int):Prop:=0<c.k i∧∀x∈b.js,x.id=i→v≤x.ver∧∀s,x.Yt=some s→s.ver=v→l=Ds rk s.Qb
structure Qg6(c:Cx)(b:Br)(i:Im):Prop where
 len:i.bs.length=c.k i.Qm∧0<c.k i.Qm
 ran:i.Qb≤c.ran i.Qm
 bs:∀r,r<i.bs.length→i.bs[r]?=some (Ds r i.Qb)
 j:∀x∈b.js,x.id=i.Qm→x.Qb≤i.Qb∧i.ver≤x.ver∧∀s,x.Yt=some s→s.told=false→i.ver<s.ver
theorem Fit.bm{c:Cx}{b b':Br}(h:BZ b b'){i v r:Nat}(k:Fit c b i v r):Fit c b' i v r:=⟨k.1,fun z hz hi=>by
 obtain⟨x,hx,hm⟩:=h z hz;obtain⟨k1,k2⟩:=k.2 x hx (hm.id.symm.trans hi);refine⟨Nat.le_trans k1 hm.ver,fun t ht hv=>?_⟩
 rcases hm.Yt t ht with ⟨s,s1,s2,s3,_⟩|h2
 ·rw[←s3];exact k2 s s1 (s2.trans hv)
 ·omega⟩
theorem Qg7.bm{c:Cx}{b b':Br}(h:BZ b b'){i v r:Nat}{l:List Int}(k:Qg7 c b i v r l):Qg7 c b' i v r l:=⟨k.1,fun z hz hi=>by
 obtain⟨x,hx,hm⟩:=h z hz;obtain⟨k1,k2⟩:=k.2 x hx (hm.id.symm.trans hi);refine⟨Nat.le_trans k1 hm.ver,fun t ht hv=>?_⟩
 rcases hm.Yt t ht with ⟨s,s1,s2,s3,_⟩|h2
 ·rw[←s3];exact k2 s s1 (s2.trans hv)
 ·omega⟩
theorem Qg6.bm{c:Cx}{b b':Br}(h:BM b b'){i:Im}(k:Qg6 c b i):Qg6 c b' i:=⟨k.len,k.ran,k.bs,fun z hz hi=>by
 obtain⟨x,hx,hm⟩:=h z hz;obtain⟨k1,k2,k3⟩:=k.j x hx (hm.id.symm.trans hi);refine⟨by rw[hm.cr];exact k1,Nat.le_trans k2 hm.ver,fun t ht ho=>?_⟩
 rcases hm.Yt t ht with ⟨s,s1,s2,_,s4⟩|h2
 ·rw[←s2];exact k3 s s1 (s4 ho)
 ·omega⟩
theorem Qg6.re{c:Cx}{b b':Br}{i:Im}(h:Qg6 c b i)(hj:b'.js=b.js):Qg6 c b' i:=h.bm (.same hj)
structure CB(c:Cx)(E8:Nat→Nat→Nat→Prop)(E9:Nat→Nat→Nat→List Int→Prop)(im0:List Im)(b:Br):Prop where
 j:∀x∈b.js,JC c x
 o8:∀o∈b.Qa,o.2.kind=8→Fit c b o.2.Qm o.2.ver o.2.Qb
 o5:∀o∈b.Qa,o.2.kind=5→c.g o.2.Qm o.1
 e8:∀i v r,E8 i v r→Fit c b i v r
 e9:∀i v r l,E9 i v r l→Qg7 c b i v r l
 im:∀i∈im0++b.Qe,Qg6 c b i
 ord:(im0++b.Qe).Pairwise fun a d=>a.Qm=d.Qm→a.ver<d.ver
 dn:∀id∈b.done,c.w id≤c.ran id
section
variable {c:Cx}{E8:Nat→Nat→Nat→Prop}{E9:Nat→Nat→Nat→List Int→Prop}{im0:List Im}{b:Br}{x y:Bj}
theorem CB.go{b':Br}(h:CB c E8 E9 im0 b)(hm:BM b b')(hj:∀z∈b'.js,JC c z)(ho:∀o∈b'.Qa,o∈b.Qa∨(o.2.kind≠8∧o.2.kind≠5))(hi:b'.Qe=b.Qe)(hd:b'.done=b.done):CB c E8 E9 im0 b' where
 j:=hj
 o8:=fun o h1 h2=>by
  rcases ho o h1 with h3|h3
  ·exact(h.o8 o h3 h2).bm hm.z
  ·exact absurd h2 h3.1
 o5:=fun o h1 h2=>by
  rcases ho o h1 with h3|h3
  ·exact h.o5 o h3 h2
  ·exact absurd h2 h3.2
 e8:=fun i v r k=>(h.e8 i v r k).bm hm.z
 e9:=fun i v r l k=>(h.e9 i v r l k).bm hm.z
 im:=fun i k=>by rw[hi]at k;exact(h.im i k).bm hm
 ord:=by rw[hi];exact h.ord
 dn:=by rw[hd];exact h.dn
theorem Q8x(hx:Qg b.js x.id=some x)(hm:JM x y):BM b (b.set y):=fun z hz=>by
 rcases Xh (show z∈Yo b.js y from hz) with rfl|⟨k,_⟩
 ·exact⟨x,(Qd hx).1,hm⟩
 ·exact⟨z,k,.refl z⟩
theorem K8(h:CB c E8 E9 im0 b)(hx:Qg b.js x.id=some x)(hm:JM x y)(hy:JC c y):CB c E8 E9 im0 (b.set y):=
 h.go (Q8x hx hm) (fun z hz=>by
  rcases Xh (show z∈Yo b.js y from hz) with rfl|⟨k,_⟩
  ·exact hy
  ·exact h.j z k) (fun o ho=>.inl ho) rfl rfl
theorem CB.same{b':Br}(h:CB c E8 E9 im0 b)(hj:b'.js=b.js)(ho:∀o∈b'.Qa,o∈b.Qa∨(o.2.kind≠8∧o.2.kind≠5))(hi:b'.Qe=b.Qe)(hd:b'.done=b.done):CB c E8 E9 im0 b':=
 h.go (.same hj) (fun z hz=>h.j z (hj ▸ hz)) ho hi hd
theorem CB.keep{b':Br}(h:CB c E8 E9 im0 b)(hj:b'.js=b.js)(ho:b'.Qa=b.Qa)(hi:b'.Qe=b.Qe)(hd:b'.done=b.done):CB c E8 E9 im0 b':=
 h.same hj (fun o k=>.inl (ho ▸ k)) hi hd
theorem Tg(h:CB c E8 E9 im0 b)(hx:Qg b.js x.id=some x)(hm:JM x y)(hy:JC c y):CB c E8 E9 im0 (Z6 b y):=by
 unfold Z6
 split
 ·split
  ·have h2:CB c E8 E9 im0 {b with m:=(Z0 b.m y.id).2}:=h.keep rfl rfl rfl rfl;exact K8 (y:=anew y) h2 hx (.none hm.id hm.cr hm.ver rfl) ⟨hy.k,hy.w,⟨hy.cw.1,Nat.le_refl _⟩,Nat.le_trans hy.cw.2 hy.ww,Nat.le_trans hy.cw.2 hy.wr,hy.ver,fun r hr=>(by cases hr),fun s hs=>(by cases hs)⟩
  ·exact h.go (b':={b with m:=(Z0 b.m y.id).2,js:=rmJ b.js y.id}) (fun z hz=>⟨z,(List.mem_filter.1 hz).1,.refl z⟩) (fun z hz=>h.j z (List.mem_filter.1 hz).1) (fun o ho=>.inl ho) rfl rfl
 ·exact K8 h hx hm hy
theorem Th(h:CB c E8 E9 im0 b)(hx:Qg b.js x.id=some x)(hm:JM x y)(hy:JC c y)(a:Bool):CB c E8 E9 im0 (Y9 b y a):=by
 have h2:∀d,JM x (Vf y a d):=fun d=>.none hm.id hm.cr hm.ver rfl;have h3:∀d,JC c (Vf y a d):=fun d=>⟨hy.k,hy.w,⟨hy.cw.1,Nat.le_refl _⟩,Nat.le_trans hy.cw.2 hy.ww,Nat.le_trans hy.cw.2 hy.wr,hy.ver,fun r hr=>(hy.ran r hr).less hy.cw.2,fun s hs=>(by cases hs)⟩;cases hd:y.Qi with
 | some d=>rw[X5 hd];exact Tg h hx (h2 d) (h3 d)
 | none=>
  rw[Xm hd]
  have h4:CB c E8 E9 im0 {b with Qa:=b.Qa++(V7 b y).map (Xp y.id)}:=h.same rfl (fun o ho=>by
   rcases List.mem_append.1 ho with ho|ho
   ·exact .inl ho
   ·obtain⟨n,_,rfl⟩:=List.mem_map.1 ho;exact .inr ⟨by show ¬(10:Nat)=8;decide,by show ¬(10:Nat)=5;decide⟩) rfl rfl
  exact Tg h4 hx (h2 _) (h3 _)
theorem Qse(h:CB c E8 E9 im0 b)(hx:Qg b.js x.id=some x)(hm:JM x y)(hy:JC c y):CB c E8 E9 im0 (Q0 b y):=by
 unfold Q0
 split
 ·exact K8 h hx hm hy
 ·rename_i hc;have h1:y.w≤y.Qb:=Nat.le_of_not_lt fun e=>hc (.inl e)
  have h2:CB c E8 E9 im0 {b with done:=b.done++[y.id]}:=⟨h.j,h.o8,h.o5,h.e8,h.e9,fun i k=>(h.im i k).re rfl,h.ord,fun id hid=>by
   rcases List.mem_append.1 hid with k|k
   ·exact h.dn id k
   ·rw[List.mem_singleton.1 k,←hy.w];exact Nat.le_trans h1 (Nat.le_trans hy.cw.2 hy.wr)⟩
  exact Th (y:={y with done:=true}) h2 hx ⟨⟨hm.id,hm.ver,hm.Yt⟩,hm.cr⟩ ⟨hy.k,hy.w,hy.cw,hy.ww,hy.wr,hy.ver,hy.ran,hy.Yt⟩ false
def VB(v:Nat)(b:Br):Prop:=∀x∈b.js,x.ver≤v+if x.Yt.isSome then 1 else 0
theorem Qe3{v:Nat}(h:VB v b)(hy:y.ver≤v+if y.Yt.isSome then 1 else 0):VB v (b.set y):=fun z hz=>by
 rcases Xh (show z∈Yo b.js y from hz) with rfl|⟨k,_⟩
 ·exact hy
 ·exact h z k
theorem Qpu{v:Nat}(hv:v+1≤c.v)(Cb:c.v≤4294967295)(h:CB c E8 E9 im0 b)(k:VB v b)(hx:Qg b.js x.id=some x)(hm:JM x y)(hy:JC c y)(hvy:y.ver≤v+if y.Yt.isSome then 1 else 0):CB c E8 E9 im0 (Yy b y)∧VB v (Yy b y):=by
 by_cases hc:y.work=y.Qb∨y.Yt.isSome∨y.Qi.isSome∨y.state≠2
 ·rw[Wb hc];exact⟨K8 h hx hm hy,Qe3 k hvy⟩
 ·rw[We hc];have hn:y.Yt.isSome=false:=Bool.eq_false_iff.2 fun e=>hc (.inr (.inl e));rw[hn]at hvy;have hvy:y.ver≤v:=hvy;have hu:u32 (y.ver+1)=y.ver+1:=Nat.mod_eq_of_lt (by omega)
  have hm2:JM x (Wg y):=⟨⟨hm.id,by show x.ver≤u32 (y.ver+1);have:=hm.ver;omega,fun t ht=>by
   cases ht;have:=hm.ver;exact .inr (by show x.ver<u32 (y.ver+1);omega)⟩,hm.cr⟩
  have hy2:JC c (Wg y):=⟨hy.k,hy.w,hy.cw,hy.ww,hy.wr,by show u32 (y.ver+1)≤c.v;omega,hy.ran,fun s hs=>by
   cases hs;exact⟨rfl,hy.cw.2,Nat.le_refl _,List.length_map ..,List.nodup_nil,fun n hn=>(by cases hn)⟩⟩
  have h2:=K8 h hx hm2 hy2
  have Qgk:Fit c (b.set (Wg y)) y.id (Wg y).ver y.work:=⟨by rw[←hy.k.1];exact hy.k.2,fun z hz hi=>by
   rcases Xh (show z∈Yo b.js (Wg y) from hz) with rfl|⟨_,k2⟩
   ·refine⟨Nat.le_refl _,fun s hs _=>?_⟩;cases hs;rfl
   ·exact absurd hi k2⟩
  refine⟨⟨h2.j,fun o ho h8=>?_,fun o ho h5=>?_,h2.e8,h2.e9,fun i k=>(h2.im i k).re rfl,h2.ord,h2.dn⟩,?_⟩
  ·rcases List.mem_append.1 ho with ho|ho
   ·exact h2.o8 o ho h8
   ·obtain⟨n,_,rfl⟩:=List.mem_map.1 ho;exact Qgk
  ·rcases List.mem_append.1 ho with ho|ho
   ·exact h2.o5 o ho h5
   ·obtain⟨n,_,rfl⟩:=List.mem_map.1 ho;exact absurd h5 (by show ¬(8:Nat)=5;decide)
  ·exact Qe3 (y:=Wg y) k (by show u32 (y.ver+1)≤v+1;omega)
theorem Vr{P:Br→Prop}{f:Br→Bj→Br}(hf:∀b x,P b→Qg b.js x.id=some x→P (f b x)):∀(l:List Nat) (b:Br),P b→P (each f b l)
 | [],_,h=>h
 | id::l,b,h=>by
  have e:each f b (id::l)=each f (match Qg b.js id with|none=>b|some x=>f b x) l:=rfl;rw[e];cases hg:Qg b.js id with
  | none=>exact Vr hf l b h
  | some x=>exact Vr hf l _ (hf b x h (by rw[(Qd hg).2];exact hg))
theorem Qyd{v:Nat}(hv:v+1≤c.v)(Cb:c.v≤4294967295)(h:CB c E8 E9 im0 b)(k:VB v b)(l:List Nat):CB c E8 E9 im0 (each Yy b l)∧VB v (each Yy b l):=
 Vr (P:=fun b=>CB c E8 E9 im0 b∧VB v b) (fun _ x h hx=>Qpu hv Cb h.1 h.2 hx (.refl x) (h.1.j x (Qd hx).1) (h.2 x (Qd hx).1)) l b ⟨h,k⟩
theorem Sy{α:Type}[DecidableEq α]:∀(l m:List α),l.Nodup→(∀x∈l,x∈m)→l.length≤m.length
 | [],_,_,_=>Nat.zero_le _
 | a::l,m,hn,hs=>by
  obtain⟨n1,n2⟩:=List.nodup_cons.1 hn;have ha:=hs a (List.mem_cons_self ..);have h1:=Sy l (m.erase a) n2 fun x hx=>(List.mem_erase_of_ne fun e=>n1 (by rw[←e];exact hx)).2 (hs x (List.mem_cons_of_mem _ hx));have h2:=List.length_erase_of_mem ha;have h3:=List.length_pos_of_mem ha;rw[List.length_cons];omega
theorem Qnr{α:Type}[DecidableEq α]{l m:List α}(hn:l.Nodup)(hs:∀x∈l,x∈m)(hl:m.length≤l.length):∀x∈m,x∈l:=fun x hx=>Classical.byContradiction fun h=>by
 have:=Sy (x::l) m (List.nodup_cons.2 ⟨h,hn⟩) fun y hy=>by
  rcases List.mem_cons.1 hy with rfl|hy
  ·exact hx
  ·exact hs y hy
 rw[List.length_cons]at this;omega
theorem Qok:∀ {l:List (Nat×Nat)} {a:Nat×Nat} {F T:Nat},Xr l a=some (F,T)→a.1≤F∧T≤a.2∧∀x∈l,x.1≤F∧T≤x.2
 | [],a,F,T,h=>by
  cases h;exact⟨Nat.le_refl _,Nat.le_refl _,fun x hx=>(by cases hx)⟩
 | x::l,a,F,T,h=>by
  unfold Xr at h
  split at h
  ·cases h
  ·obtain⟨h1,h2,h3⟩:=Qok h;have h1:max a.1 x.1≤F:=h1;have h2:T≤min a.2 x.2:=h2;refine⟨by omega,by omega,fun y hy=>?_⟩
   rcases List.mem_cons.1 hy with rfl|hy
   ·exact⟨by omega,by omega⟩
   ·exact h3 y hy
theorem Q8r{id work:Nat}{at_:List Nat}{r:List (Nat×Nat×Nat)}(h:Qy9 c id work at_ r)(hl:r.length=at_.length)(hw:work≤c.ran id):work+Xs (r.map (·.2))≤c.ran id:=by
 unfold Xs
 split
 ·exact hw
 ·split
  ·exact hw
  ·rename_i F T ho
   split
   ·exact hw
   ·obtain⟨_,_,h3⟩:=Qok ho
    have hall:=Qnr h.nd (fun i hi=>by
     obtain⟨e,he,rfl⟩:=List.mem_map.1 hi;exact(h.e e he).2.2) (by rw[List.length_map];omega)
    have:=h.ov F T fun i hi=>by
     obtain⟨e,he,rfl⟩:=List.mem_map.1 (hall i hi);obtain⟨e1,e2,_⟩:=h.e e he;have:=h3 e.2 (List.mem_map_of_mem he);rw[←e1];exact⟨e2,this⟩
    omega
theorem Qyl{v:Nat}(hv:v+1≤c.v)(Cb:c.v≤4294967295)(h:CB c E8 E9 im0 b)(k:VB v b)(hx:Qg b.js x.id=some x):CB c E8 E9 im0 (Zz b x)∧VB v (Zz b x):=by
 have Js:=(Qd hx).1;have hj:=h.j x Js;have hvx:=k x Js;unfold Zz
 split
 ·exact⟨K8 h hx (.refl x) hj,Qe3 k hvx⟩
 ·rename_i r hr
  split
  ·exact⟨K8 (y:=Gj x) h hx (.same rfl rfl rfl rfl) ⟨hj.k,hj.w,hj.cw,hj.ww,hj.wr,hj.ver,fun r hr=>(by cases hr),hj.Yt⟩,Qe3 (y:=Gj x) k hvx⟩
  ·rename_i hc;have hl:r.length=x.at_.length:=Classical.byContradiction fun e=>hc (.inr e);have hw:=Q8r (hj.ran r hr) hl hj.wr;have hwk:x.work≤min (x.work+Xs (r.map (·.2))) x.w:=Nat.le_min.2 ⟨Nat.le_add_right ..,hj.ww⟩
   exact Qpu (y:=Kb x r) hv Cb h k hx (.same rfl rfl rfl rfl) ⟨hj.k,hj.w,⟨hj.cw.1,Nat.le_trans hj.cw.2 hwk⟩,Nat.min_le_right ..,Nat.le_trans (Nat.min_le_left ..) hw,hj.ver,fun r hr=>(by cases hr),fun s hs=>by
    have:=hj.Yt s hs;exact⟨this.ver,this.cr,Nat.le_trans this.wk hwk,this.len,this.nd,this.b⟩⟩ hvx
end
def NR(b:Br):Prop:=∀x∈b.js,x.ran=none
def VL(v:Nat)(b:Br):Prop:=∀x∈b.js,x.ver≤v
theorem VL.vb{v:Nat}{b:Br}(h:VL v b):VB v b:=fun x hx=>Nat.le_trans (h x hx) (Nat.le_add_right ..)
theorem VB.vl{v:Nat}{b:Br}(h:VB v b):VL (v+1) b:=fun x hx=>by
 have:=h x hx;have:(if x.Yt.isSome then 1 else 0)≤1:=by split <;> decide
 omega
def VM(b b':Br):Prop:=∀z∈b'.js,∃x∈b.js,z.ver=x.ver
theorem VM.refl(b:Br):VM b b:=fun z hz=>⟨z,hz,rfl⟩
theorem VM.trans{a b c:Br}(h:VM a b)(k:VM b c):VM a c:=fun z hz=>by
 obtain⟨y,hy,e⟩:=k z hz;obtain⟨x,hx,e2⟩:=h y hy;exact⟨x,hx,e.trans e2⟩
theorem VM.same{b b':Br}(h:b'.js=b.js):VM b b':=fun z hz=>⟨z,h ▸ hz,rfl⟩
theorem VM.vl{v:Nat}{b b':Br}(h:VM b b')(k:VL v b):VL v b':=fun z hz=>by
 obtain⟨x,hx,e⟩:=h z hz;rw[e];exact k x hx
theorem Hq{b:Br}{x y:Bj}(hx:Qg b.js x.id=some x)(hv:y.ver=x.ver):VM b (b.set y):=fun z hz=>by
 rcases Xh (show z∈Yo b.js y from hz) with rfl|⟨k,_⟩
 ·exact⟨x,(Qd hx).1,hv⟩
 ·exact⟨z,k,rfl⟩
theorem Su{b:Br}{x y:Bj}(hx:Qg b.js x.id=some x)(hv:y.ver=x.ver):VM b (Z6 b y):=by
 unfold Z6
 split
 ·split
  ·exact(VM.same (b:=b) (b':={b with m:=(Z0 b.m y.id).2}) rfl).trans (Hq (b:={b with m:=(Z0 b.m y.id).2}) (y:=anew y) hx hv)
  ·exact fun z hz=>⟨z,(List.mem_filter.1 (show z∈rmJ b.js y.id from hz)).1,rfl⟩
 ·exact Hq hx hv
theorem Sw{b:Br}{x y:Bj}(hx:Qg b.js x.id=some x)(hv:y.ver=x.ver)(a:Bool):VM b (Y9 b y a):=by
 cases hd:y.Qi with
 | some d=>rw[X5 hd];exact Su hx hv
 | none=>
  rw[Xm hd];exact(VM.same (b:=b) (b':={b with Qa:=b.Qa++(V7 b y).map (Xp y.id)}) rfl).trans (Su (b:={b with Qa:=b.Qa++(V7 b y).map (Xp y.id)}) (y:=Vf y a (V7 b y)) hx hv)
theorem Qp7{b:Br}{x y:Bj}(hx:Qg b.js x.id=some x)(hv:y.ver=x.ver):VM b (Q0 b y):=by
 unfold Q0
 split
 ·exact Hq hx hv
 ·exact(VM.same (b:=b) (b':={b with done:=b.done++[y.id]}) rfl).trans (Sw (b:={b with done:=b.done++[y.id]}) (y:={y with done:=true}) hx hv false)
theorem Jn{b:Br}{y:Bj}(h:NR b)(hy:y.ran=none):NR (b.set y):=fun z hz=>by
 rcases Xh (show z∈Yo b.js y from hz) with rfl|⟨k,_⟩
 ·exact hy
 ·exact h z k
theorem S6{b:Br}{y:Bj}(h:NR b)(hy:y.ran=none):NR (Z6 b y):=by
 unfold Z6
 split
 ·split
  ·exact Jn (b:={b with m:=(Z0 b.m y.id).2}) (y:=anew y) h rfl
  ·exact fun z hz=>h z (List.mem_filter.1 (show z∈rmJ b.js y.id from hz)).1
 ·exact Jn h hy
theorem Ny{b:Br}{y:Bj}(h:NR b)(hy:y.ran=none)(a:Bool):NR (Y9 b y a):=by
 cases hd:y.Qi with
 | some d=>rw[X5 hd];exact S6 h hy
 | none=>rw[Xm hd];exact S6 (b:={b with Qa:=b.Qa++(V7 b y).map (Xp y.id)}) h hy
theorem Qq1{b:Br}{y:Bj}(h:NR b)(hy:y.ran=none):NR (Q0 b y):=by
 unfold Q0
 split
 ·exact Jn h hy
 ·exact Ny (b:={b with done:=b.done++[y.id]}) (y:={y with done:=true}) h hy false
theorem Qoq{b:Br}{y:Bj}(h:NR b)(hy:y.ran=none):NR (Yy b y):=by
 by_cases hc:y.work=y.Qb∨y.Yt.isSome∨y.Qi.isSome∨y.state≠2
 ·rw[Wb hc];exact Jn h hy
 ·rw[We hc];exact Jn (b:={b with Qa:=b.Qa++y.at_.map (Vu (Wg y))}) (y:=Wg y) h hy
theorem C6(b:Br)(x:Bj):(Zz b x).stops=b.stops:=by
 unfold Zz
 split
 ·rfl
 ·rename_i r _
  split
  ·rfl
  ·show (Yy b (Kb x r)).stops=b.stops
   by_cases hc:(Kb x r).work=(Kb x r).Qb∨(Kb x r).Yt.isSome∨(Kb x r).Qi.isSome∨(Kb x r).state≠2
   ·rw[Wb hc]
   ·rw[We hc]
theorem Qjx(b:Br)(x:Bj):∀z∈(Zz b x).js,z.ran=none∨(z∈b.js∧z.id≠x.id):=by
 have key:∀(y:Bj),y.id=x.id→y.ran=none→∀z∈Yo b.js y,z.ran=none∨(z∈b.js∧z.id≠x.id):=fun y h1 h2 z hz=>by
  rcases Xh hz with rfl|⟨k,k2⟩
  ·exact .inl h2
  ·exact .inr ⟨k,h1 ▸ k2⟩
 intro z hz;unfold Zz at hz
 split at hz
 ·rename_i hr;exact key x rfl hr z hz
 ·rename_i r hr
  split at hz
  ·exact key (Gj x) rfl rfl z hz
  ·have hz:z∈(Yy b (Kb x r)).js:=hz
   by_cases hc:(Kb x r).work=(Kb x r).Qb∨(Kb x r).Yt.isSome∨(Kb x r).Qi.isSome∨(Kb x r).state≠2
   ·rw[Wb hc]at hz;exact key (Kb x r) rfl rfl z hz
   ·rw[We hc]at hz;exact key (Wg (Kb x r)) rfl rfl z hz
theorem Qdx:∀(l d:List Nat) (b:Br),(∀z∈b.js,z.ran=none∨z.id∉d)→∀z∈(each Zz b l).js,z.ran=none∨z.id∉d++l
 | [],d,b,h=>fun z hz=>by rw[List.append_nil];exact h z hz
 | id::l,d,b,h=>by
  have e:each Zz b (id::l)=each Zz (match Qg b.js id with|none=>b|some x=>Zz b x) l:=rfl;rw[e,show d++id::l=(d++[id])++l by simp];refine Qdx l (d++[id]) _ fun z hz=>?_;cases hg:Qg b.js id with
  | none=>
   rw[hg]at hz;have:=V4 hg z hz
   rcases h z hz with h1|h1
   ·exact .inl h1
   ·exact .inr fun k=>by
     rcases List.mem_append.1 k with k|k
     ·exact h1 k
     ·exact this (List.mem_singleton.1 k)
  | some x=>
   rw[hg]at hz
   rcases Qjx b x z hz with h1|⟨h1,h2⟩
   ·exact .inl h1
   ·rcases h z h1 with h3|h3
    ·exact .inl h3
    ·exact .inr fun k=>by
      rcases List.mem_append.1 k with k|k
      ·exact h3 k
      ·exact h2 ((List.mem_singleton.1 k).trans (Qd hg).2.symm)
section
variable {c:Cx}{E8:Nat→Nat→Nat→Prop}{E9:Nat→Nat→Nat→List Int→Prop}{im0:List Im}{b:Br}{x y:Bj}
theorem Qsf{v:Nat}(hv:v+1≤c.v)(Cb:c.v≤4294967295)(h:CB c E8 E9 im0 b)(k:VL v b):CB c E8 E9 im0 (each Zz b b.ids)∧VL (v+1) (each Zz b b.ids)∧NR (each Zz b b.ids):=by
 obtain⟨h1,h2⟩:=Vr (P:=fun b=>CB c E8 E9 im0 b∧VB v b) (f:=Zz) (fun _ x h hx=>Qyl hv Cb h.1 h.2 hx) b.ids b ⟨h,k.vb⟩
 have hi:∀z∈(each Zz b b.ids).js,z.id∈b.ids:=Vr (P:=fun t=>∀z∈t.js,z.id∈b.ids) (f:=Zz) (fun t x ht hx z hz=>by
  have K0:=ht x (Qd hx).1
  have key:∀y:Bj,y.id=x.id→∀z∈Yo t.js y,z.id∈b.ids:=fun y h1 z hz=>by
   rcases Xh hz with rfl|⟨k,_⟩
   ·rw[h1];exact K0
   ·exact ht z k
  unfold Zz at hz
  split at hz
  ·exact key x rfl z hz
  ·rename_i r hr
   split at hz
   ·exact key (Gj x) rfl z hz
   ·have hz:z∈(Yy t (Kb x r)).js:=hz
    by_cases hc:(Kb x r).work=(Kb x r).Qb∨(Kb x r).Yt.isSome∨(Kb x r).Qi.isSome∨(Kb x r).state≠2
    ·rw[Wb hc]at hz;exact key (Kb x r) rfl z hz
    ·rw[We hc]at hz;exact key (Wg (Kb x r)) rfl z hz) b.ids b fun z hz=>List.mem_map_of_mem hz
 refine⟨h1,h2.vl,fun z hz=>?_⟩
 rcases Qdx b.ids [] b (fun z _=>.inr (by simp)) z hz with h3|h3
 ·exact h3
 ·exact absurd (hi z hz) (by simpa using h3)
theorem Lm{v:Nat}(hv:v+1≤c.v)(Cb:c.v≤4294967295)(h:CB c E8 E9 im0 b)(k:VL v b)(hn:b.stops=none→NR b)(n:Nat) :
  CB c E8 E9 im0 (Qw b n)∧((Qw b n).stops=none→NR (Qw b n))∧VL (if b.stops.isSome=(Qw b n).stops.isSome then v else v+1) (Qw b n):=by
 unfold Qw
 split
 ·rename_i e;exact⟨h,hn,by simpa using k⟩
 ·rename_i s e
  split
  ·exact⟨h.keep rfl rfl rfl rfl,fun e=>(by cases e),by rw[e];exact k⟩
  ·have h2:CB c E8 E9 im0 {b with stops:=none,Qo:=false}:=h.keep rfl rfl rfl rfl;obtain⟨g1,g2,g3⟩:=Qsf hv Cb h2 k;refine⟨g1,fun _=>g3,?_⟩
   split
   ·rename_i e9;have Xf:(each Zz {b with stops:=none,Qo:=false} (Br.ids {b with stops:=none,Qo:=false})).stops=none:=Vr (P:=fun t=>t.stops=none) (f:=Zz) (fun t x ht _=>(C6 t x).trans ht) _ _ rfl;rw[e,Xf]at e9;cases e9
   ·exact g2
theorem Qyh(h:CB c E8 E9 im0 b)(hx:Qg b.js x.id=some x)(n:Nat):CB c E8 E9 im0 (Yk n b x)∧VM b (Yk n b x)∧(NR b→NR (Yk n b x)):=by
 have hj:=h.j x (Qd hx).1;unfold Yk
 split
 ·split
  ·exact⟨Th h hx (.refl x) hj true,Sw hx rfl true,fun k=>Ny k (k x (Qd hx).1) true⟩
  ·rename_i d _;exact⟨Tg (y:={x with Qi:=some (Vx d n)}) h hx (.same rfl rfl rfl rfl) ⟨hj.k,hj.w,hj.cw,hj.ww,hj.wr,hj.ver,hj.ran,hj.Yt⟩,Su hx rfl,fun k=>S6 k (k x (Qd hx).1)⟩
 ·exact⟨h,.refl b,fun k=>k⟩
theorem Qyg(h:CB c E8 E9 im0 b)(n:Nat)(l:List Nat):CB c E8 E9 im0 (each (Yk n) b l)∧VM b (each (Yk n) b l)∧(NR b→NR (each (Yk n) b l)):=
 Vr (P:=fun t=>CB c E8 E9 im0 t∧VM b t∧(NR b→NR t)) (f:=Yk n) (fun t x k hx=>by
  obtain⟨k1,k2,k3⟩:=Qyh k.1 hx n;exact⟨k1,k.2.1.trans k2,fun q=>k3 (k.2.2 q)⟩) l b ⟨h,.refl b,fun k=>k⟩
theorem Qsg(h:CB c E8 E9 im0 b)(id:Nat):CB c E8 E9 im0 (Yr b id).2∧VM b (Yr b id).2∧(NR b→NR (Yr b id).2):=by
 unfold Yr;cases hg:Qg b.js id with
 | none=>exact⟨h,.refl b,fun k=>k⟩
 | some x=>
  have hx:Qg b.js x.id=some x:=by rw[(Qd hg).2];exact hg
  have hj:=h.j x (Qd hx).1;simp only
  split
  ·exact⟨Th h hx (.refl x) hj false,Sw hx rfl false,fun k=>Ny k (k x (Qd hx).1) false⟩
  ·split
   ·exact⟨K8 (y:=BN.agX x) h hx (.same rfl rfl rfl rfl) ⟨hj.k,hj.w,hj.cw,hj.ww,hj.wr,hj.ver,hj.ran,hj.Yt⟩,Hq hx rfl,fun k=>Jn k (k x (Qd hx).1)⟩
   ·exact⟨h,.refl b,fun k=>k⟩
theorem Qgw{i:Im}(h:CB c E8 E9 (i::im0) b)(ok:Bool):CB c E8 E9 im0 (Qr b i.Qm i.ver ok).2∧VM b (Qr b i.Qm i.ver ok).2∧(NR b→NR (Qr b i.Qm i.ver ok).2):=by
 have hord:=List.pairwise_cons.1 (show (i::(im0++b.Qe)).Pairwise _ from h.ord);have him:∀d∈im0++b.Qe,Qg6 c b d:=fun d hd=>h.im d (List.mem_cons_of_mem _ hd);have h0:CB c E8 E9 im0 b:=⟨h.j,h.o8,h.o5,h.e8,h.e9,him,hord.2,h.dn⟩;unfold Qr;cases hg:Qg b.js i.Qm with
 | none=>exact⟨h0,.refl b,fun k=>k⟩
 | some x=>
  have hx:Qg b.js x.id=some x:=by rw[(Qd hg).2];exact hg
  have K0:=(Qd hg).2;have Js:=(Qd hx).1;have hj:=h.j x Js;simp only
  split
  ·exact⟨h0,.refl b,fun k=>k⟩
  ·rename_i s hs
   split
   ·exact⟨h0,.refl b,fun k=>k⟩
   ·rename_i hc;have hv:s.ver=i.ver:=Classical.byContradiction fun e=>hc (.inr e);have Km:=hj.Yt s hs;obtain⟨y,hy⟩:∃y:Bj,y={x with Qb:=if ok then s.Qb else x.Qb,Yt:=none}:=⟨_,rfl⟩;have y1:y.id=x.id:=by rw[hy]
    have y2:y.ver=x.ver:=by rw[hy]
    have y3:y.Yt=none:=by rw[hy]
    have y4:y.ran=x.ran:=by rw[hy]
    have ycr:x.Qb≤y.Qb∧y.Qb≤x.work:=by
     rw[hy];show x.Qb≤(if ok then s.Qb else x.Qb)∧(if ok then s.Qb else x.Qb)≤x.work;have:=Km.cr;have:=Km.wk;have:=hj.cw.2;split <;> omega
    have hyj:JC c y:=by
     rw[hy]at ycr ⊢;exact⟨hj.k,hj.w,⟨Nat.le_trans hj.cw.1 ycr.1,ycr.2⟩,hj.ww,hj.wr,hj.ver,hj.ran,fun s hs=>(by cases hs)⟩
    rw[←hy]
    have hz:BZ b (b.set y):=fun z hz=>by
     rcases Xh (show z∈Yo b.js y from hz) with rfl|⟨k,_⟩
     ·exact⟨x,Js,.none y1 (Nat.le_of_eq y2.symm) y3⟩
     ·exact⟨z,k,(JM.refl z).toJZ⟩
    have h1:CB c E8 E9 im0 (b.set y):=by
     refine⟨fun z hz=>?_,fun o ho k=>(h.o8 o ho k).bm hz,h.o5,fun i v r k=>(h.e8 i v r k).bm hz,fun i v r l k=>(h.e9 i v r l k).bm hz,fun d hd=>?_,hord.2,h.dn⟩
     ·rcases Xh (show z∈Yo b.js y from hz) with rfl|⟨k,_⟩
      ·exact hyj
      ·exact h.j z k
     ·have f:=him d hd;refine⟨f.len,f.ran,f.bs,fun z hz hi=>?_⟩
      rcases Xh (show z∈Yo b.js y from hz) with rfl|⟨k,_⟩
      ·have hdj:i.Qm=d.Qm:=by rw[←hi,y1,K0]
       have a1:=hord.1 d hd hdj;have a2:=(f.j x Js (by rw[K0];exact hdj)).2.1;have a3:=Km.ver;omega
      ·exact f.j z k hi
    have hgy:Qg (b.set y).js y.id=some y:=H5 b (by rw[y1];exact hx);rw[←Me b (x:=y) (y:=y) rfl];refine⟨Qse h1 hgy (.refl y) hyj,(Hq hx y2).trans (Qp7 hgy rfl),fun k=>?_⟩;have hr:y.ran=none:=by rw[y4];exact k x Js
    exact Qq1 (Jn k hr) hr
theorem Q8u{c':Cx}(h:CB c E8 E9 im0 b)(hk:c.k x.id=0)(hc:∀i,i≠x.id→c'.k i=c.k i∧c'.w i=c.w i)(h1:c'.ran=c.ran)(h2:c'.s=c.s)(h3:c'.v=c.v)(h4:c'.g=c.g)(h5:c'.m=c.m)(hx:JC c' x)(hs:x.Yt=none)(Vb:Qg b.js x.id=none)(ho:b.Qa=[])(hd:b.done=[]):CB c' E8 E9 im0 (Ug b x):=by
 have Vt:∀z∈(Ug b x).js,z=x∨z∈b.js:=fun z hz=>V0.1 (show z∈Kl x b.js from hz);have Uk:∀i,0<c.k i→i≠x.id:=fun i k e=>by rw[e,hk]at k;exact absurd k (by decide)
 refine⟨fun z hz=>?_,fun o k=>?_,fun o k=>?_,fun i v r k=>?_,fun i v r l k=>?_,fun i k=>?_,h.ord,fun id k=>?_⟩
 ·rcases Vt z hz with rfl|hz
  ·exact hx
  ·have hj:=h.j z hz;obtain⟨q1,q2⟩:=hc z.id (V4 Vb z hz);refine⟨by rw[q1];exact hj.k,by rw[q2];exact hj.w,by rw[h5];exact hj.cw,hj.ww,by rw[h1];exact hj.wr,by rw[h3];exact hj.ver,fun r hr=>?_,hj.Yt⟩;have hR:=hj.ran r hr;exact⟨hR.ne,hR.nd,by rw[h2];exact hR.e,by rw[h2,h1];exact hR.ov,by rw[h4];exact hR.g⟩
 ·have k:o∈b.Qa:=k;rw[ho]at k;cases k
 ·have k:o∈b.Qa:=k;rw[ho]at k;cases k
 ·have f:=h.e8 i v r k;refine⟨by rw[(hc i (Uk i f.1)).1];exact f.1,fun z hz D6=>?_⟩
  rcases Vt z hz with rfl|hz
  ·exact absurd D6.symm (Uk i f.1)
  ·exact f.2 z hz D6
 ·have f:=h.e9 i v r l k;refine⟨by rw[(hc i (Uk i f.1)).1];exact f.1,fun z hz D6=>?_⟩
  rcases Vt z hz with rfl|hz
  ·exact absurd D6.symm (Uk i f.1)
  ·exact f.2 z hz D6
 ·have f:=h.im i k;have hi:=Uk i.Qm f.len.2;refine⟨by rw[(hc i.Qm hi).1];exact f.len,by rw[h1];exact f.ran,f.bs,fun z hz D6=>?_⟩
  rcases Vt z hz with rfl|hz
  ·exact absurd D6.symm hi
  ·exact f.j z hz D6
 ·have k:id∈b.done:=k;rw[hd]at k;cases k
theorem Rh(n:Nat)(v:Nat×Nat):∀(r:List (Nat×Nat×Nat)),(r.map (·.1)).Nodup→((Wz r n v).map (·.1)).Nodup∧∀k∈(Wz r n v).map (·.1),k=n∨k∈r.map (·.1)
 | [],_=>⟨by simp[Wz],fun k hk=>.inl (by simpa [Wz] using hk)⟩
 | y::l,h=>by
  rw[List.map_cons,List.nodup_cons]at h;unfold Wz
  split
  ·rename_i e
   refine⟨?_,fun k hk=>?_⟩
   ·rw[List.map_cons,List.nodup_cons];exact⟨by rw[show ((n,v):Nat×Nat×Nat).1=y.1 from e];exact h.1,h.2⟩
   ·rw[List.map_cons,List.mem_cons]at hk
    rcases hk with hk|hk
    ·exact .inl hk
    ·exact .inr (List.mem_cons_of_mem _ hk)
  ·rename_i e;obtain⟨k1,k2⟩:=Rh n v l h.2
   refine⟨?_,fun k hk=>?_⟩
   ·rw[List.map_cons,List.nodup_cons];refine⟨fun hm=>?_,k1⟩
    rcases k2 _ hm with h3|h3
    ·exact e h3.symm
    ·exact h.1 h3
   ·rw[List.map_cons,List.mem_cons]at hk
    rcases hk with hk|hk
    ·exact .inr (by rw[List.map_cons,hk];exact List.mem_cons_self ..)
    ·rcases k2 _ hk with h3|h3
     ·exact .inl h3
     ·exact .inr (List.mem_cons_of_mem _ h3)
theorem Qan{r:List (Nat×Nat×Nat)}{n:Nat}{v:Nat×Nat}{y:Nat×Nat×Nat}(h:y∈Wz r n v):y=(n,v)∨y∈r:=by
 induction r with
 | nil=>exact .inl (List.mem_singleton.1 h)
 | cons z l ih=>
  unfold Wz at h
  split at h
  ·rcases List.mem_cons.1 h with h|h
   ·exact .inl h
   ·exact .inr (List.mem_cons_of_mem _ h)
  ·rcases List.mem_cons.1 h with h|h
   ·exact .inr (h ▸ List.mem_cons_self ..)
   ·rcases ih h with h|h
    ·exact .inl h
    ·exact .inr (List.mem_cons_of_mem _ h)
theorem Qyj{v:Nat}(hv:v+1≤c.v)(Cb:c.v≤4294967295)(h:CB c E8 E9 im0 b)(k:VL v b)(hn:b.stops=none→NR b)(n:Nat)(t:Nt)(ht:t.Qm≠0→(t.W7,t.Un)=c.s t.Qm n)(h0:∀x∈b.js,x.id≠0) :
  CB c E8 E9 im0 (W4 b n t)∧((W4 b n t).stops=none→NR (W4 b n t))∧VL (if b.stops.isSome=(W4 b n t).stops.isSome then v else v+1) (W4 b n t):=by
 unfold W4
 split
 ·rename_i hc
  have Xf:b.stops.isSome=true:=by
   simp only[Bool.and_eq_true,decide_eq_true_eq]at hc;cases hs:b.stops with
   | none=>rw[hs]at hc;cases hc.1.1
   | some s=>rfl
  obtain⟨b2,Sk⟩:∃b2,b2=(match Qg b.js t.Qm with|none=>b|some y=>match y.ran with|none=>b|some r=>if 0<t.W7∧n∈y.at_ then b.set {y with ran:=some (Wz r n (t.W7,t.Un))} else b):=⟨_,rfl⟩
  have key:CB c E8 E9 im0 b2∧VM b b2∧b2.stops=b.stops:=by
   rw[Sk];cases hg:Qg b.js t.Qm with
   | none=>exact⟨h,.refl b,rfl⟩
   | some y=>
    obtain⟨hym,hyi⟩:=Qd hg;have hy:Qg b.js y.id=some y:=by rw[hyi];exact hg
    have hj:=h.j y hym;simp only
    split
    ·exact⟨h,.refl b,rfl⟩
    ·rename_i r hr
     split
     ·rename_i hf;have hq:=hj.ran r hr;have hts:=ht (by rw[←hyi];exact h0 y hym);refine⟨K8 (y:={y with ran:=some (Wz r n (t.W7,t.Un))}) h hy (.same rfl rfl rfl rfl) ⟨hj.k,hj.w,hj.cw,hj.ww,hj.wr,hj.ver,fun r2 Ca=>?_,hj.Yt⟩,Hq hy rfl,rfl⟩;cases Ca;refine⟨hq.ne,(Rh n _ r hq.nd).1,fun e he=>?_,hq.ov,hq.g⟩
      rcases Qan he with rfl|he
      ·exact⟨by show (t.W7,t.Un)=c.s y.id n;rw[hyi];exact hts,hf.1,hf.2⟩
      ·exact hq.e e he
     ·exact⟨h,.refl b,rfl⟩
  obtain⟨k1,k2,k3⟩:=key;have:=Lm hv Cb k1 (k2.vl k) (fun e=>by rw[k3]at e;rw[e]at Xf;cases Xf) n;rw[k3]at this;subst Sk;exact this
 ·exact⟨h,hn,by rw[if_pos rfl];exact k⟩
theorem Q0v{l:List Nat}(h:l.Pairwise (· < ·)){r n:Nat}(hr:l[r]?=some n):Uf l n=some r:=by
 unfold Uf;rw[List.findIdx?_eq_some_iff_getElem];obtain⟨h1,h2⟩:=List.getElem?_eq_some_iff.1 hr;refine⟨h1,by simp[h2],fun j hj=>?_⟩;have:=List.pairwise_iff_getElem.1 h j r (by omega) h1 hj;simp only[decide_eq_true_eq];omega
theorem Qn6{l:List Nat}{n r:Nat}(h:Uf l n=some r):r<l.length∧n∈l:=by
 unfold Uf at h;rw[List.findIdx?_eq_some_iff_getElem]at h;obtain⟨h1,h2,_⟩:=h;refine⟨h1,?_⟩;have:l[r]=n:=by simpa using h2
 rw[←this];exact List.getElem_mem h1
theorem Qye(h:CB c E8 E9 im0 b)(hx:Qg b.js x.id=some x)(Qwz:x.at_.Pairwise (· < ·))(hk:x.Yt.isSome=true→x.at_.length=x.k)(n:Nat)(t:Nt)(bl:List Int)(hf:Qg7 c b x.id t.ver t.Qt bl) :
  CB c E8 E9 im0 (Wy b x n t bl)∧VM b (Wy b x n t bl)∧(NR b→NR (Wy b x n t bl)):=by
 have Js:=(Qd hx).1;have hj:=h.j x Js;unfold Wy;cases hs:x.Yt with
 | none=>exact⟨h,.refl b,fun k=>k⟩
 | some s=>
  cases hr:Uf x.at_ n with
  | none=>exact⟨h,.refl b,fun k=>k⟩
  | some Qt=>
   simp only
   split
   ·exact⟨h,.refl b,fun k=>k⟩
   ·rename_i hc;have hto:s.told=false:=Bool.eq_false_iff.2 fun e=>hc (.inl e);have Ze9:t.ver=s.ver:=Classical.byContradiction fun e=>hc (.inr (.inl e));have Rw:t.Qt=Qt:=Classical.byContradiction fun e=>hc (.inr (.inr e));have Km:=hj.Yt s hs;have hbl:bl=Ds Qt s.Qb:=by rw[←Rw];exact(hf.2 x Js rfl).2 s hs Ze9.symm
    obtain⟨Wq,hnm⟩:=Qn6 hr
    have Sk:∀m∈Yj s.have_ n,∃r,Uf x.at_ m=some r∧(s.bs.set Qt bl)[r]?=some (Ds r s.Qb):=fun m hm=>by
     by_cases e:m=n
     ·subst e;exact⟨Qt,hr,by rw[List.getElem?_set_self (by rw[Km.len];exact Wq),hbl]⟩
     ·have hm2:m∈s.have_:=by
       unfold Yj at hm
       split at hm
       ·exact hm
       ·rcases List.mem_append.1 hm with hm|hm
        ·exact hm
        ·exact absurd (List.mem_singleton.1 hm) e
      obtain⟨r,r1,r2⟩:=Km.b m hm2;refine⟨r,r1,?_⟩
      by_cases e2:Qt=r
      ·subst e2;rw[List.getElem?_set_self (by rw[Km.len];exact Wq),hbl]
      ·rw[List.getElem?_set_ne e2];exact r2
    have G2:=Ge Km.nd n;have hS:∀o:Bool,Zc4 x.ver x.Qb x.work x.at_ {s with bs:=s.bs.set Qt bl,have_:=Yj s.have_ n,told:=o}:=fun o=>⟨Km.ver,Km.cr,Km.wk,by show (s.bs.set Qt bl).length=_;rw[List.length_set];exact Km.len,G2,Sk⟩
    have hM:∀o:Bool,JM x {x with Yt:=some {s with bs:=s.bs.set Qt bl,have_:=Yj s.have_ n,told:=o}}:=fun o=>⟨⟨rfl,Nat.le_refl _,fun q hq=>by
     cases hq;exact .inl ⟨s,hs,rfl,rfl,fun _=>hto⟩⟩,rfl⟩
    have hJ:∀o:Bool,JC c {x with Yt:=some {s with bs:=s.bs.set Qt bl,have_:=Yj s.have_ n,told:=o}}:=fun o=>⟨hj.k,hj.w,hj.cw,hj.ww,hj.wr,hj.ver,hj.ran,fun q hq=>by
     cases hq;exact hS o⟩
    split
    ·rename_i Qpi;have Qpi:(Yj s.have_ n).length=x.at_.length:=Qpi;have h1:=K8 (y:={x with Yt:=some {s with bs:=s.bs.set Qt bl,have_:=Yj s.have_ n,told:=true}}) h hx (hM true) (hJ true)
     have hall:∀m∈x.at_,m∈Yj s.have_ n:=Qnr G2 (fun m hm=>by
      obtain⟨r,r1,_⟩:=Sk m hm;exact(Qn6 r1).2) (by omega)
     have hlen:(s.bs.set Qt bl).length=x.at_.length:=by rw[List.length_set];exact Km.len
     refine⟨⟨h1.j,h1.o8,h1.o5,h1.e8,h1.e9,fun i hi=>Qg6.re (b:=b.set {x with Yt:=some {s with bs:=s.bs.set Qt bl,have_:=Yj s.have_ n,told:=true}}) ?_ rfl,?_,h1.dn⟩,?_,fun k=>Jn (b:=b) (y:={x with Yt:=some {s with bs:=s.bs.set Qt bl,have_:=Yj s.have_ n,told:=true}}) k (k x Js)⟩
     ·rcases List.mem_append.1 hi with hi|hi
      ·exact h1.im i (List.mem_append_left _ hi)
      ·rcases List.mem_append.1 (show i∈b.Qe++[⟨x.id,s.ver,s.Qb,s.bs.set Qt bl⟩] from hi) with hi|hi
       ·exact h1.im i (List.mem_append_right _ hi)
       ·rw[List.mem_singleton.1 hi]
        refine⟨⟨by show (s.bs.set Qt bl).length=c.k x.id;rw[hlen,hk (by rw[hs];rfl),hj.k.1],by show 0<c.k x.id;rw[←hj.k.1];exact hj.k.2⟩,Nat.le_trans Km.wk hj.wr,fun r hrl=>?_,fun z hz D6=>?_⟩
        ·have hrl:r<(s.bs.set Qt bl).length:=hrl;obtain⟨m,hm⟩:=Yv (show r<x.at_.length by omega);obtain⟨r',r1,r2⟩:=Sk m (hall m (List.mem_of_getElem? hm));rw[Q0v Qwz hm]at r1;cases r1;exact r2
        ·rcases Xh (show z∈Yo b.js {x with Yt:=some {s with bs:=s.bs.set Qt bl,have_:=Yj s.have_ n,told:=true}} from hz) with rfl|⟨_,k2⟩
         ·refine⟨Km.cr,Nat.le_of_eq Km.ver,fun q hq ho=>?_⟩;cases hq;cases ho
         ·exact absurd D6 k2
     ·show (im0++(b.Qe++[(⟨x.id,s.ver,s.Qb,s.bs.set Qt bl⟩:Im)])).Pairwise _;rw[←List.append_assoc,List.pairwise_append];refine⟨h.ord,List.pairwise_singleton ..,fun a ha d hd hjd=>?_⟩;rw[List.mem_singleton.1 hd]at hjd ⊢;exact((h.im a ha).j x Js hjd.symm).2.2 s hs hto
     ·exact Hq (b:=b) (y:={x with Yt:=some {s with bs:=s.bs.set Qt bl,have_:=Yj s.have_ n,told:=true}}) hx rfl
    ·have:=hM s.told;exact⟨K8 (y:={x with Yt:=some {s with bs:=s.bs.set Qt bl,have_:=Yj s.have_ n}}) h hx (hM s.told) (hJ s.told),Hq hx rfl,fun k=>Jn k (k x Js)⟩
theorem Qyk(h:CB c E8 E9 im0 b)(hx:Qg b.js x.id=some x)(Qwz:x.at_.Pairwise (· < ·))(hk:x.Yt.isSome=true→x.at_.length=x.k)(n:Nat)(t:Nt)(bl:List Int)(hf:t.kind=9→Qg7 c b x.id t.ver t.Qt bl) :
  CB c E8 E9 im0 (Wt b x n t bl)∧VM b (Wt b x n t bl)∧(NR b→NR (Wt b x n t bl)):=by
 have Js:=(Qd hx).1;have hj:=h.j x Js;unfold Wt
 split
 ·split
  ·exact⟨K8 h hx (.same rfl rfl rfl rfl) ⟨hj.k,hj.w,hj.cw,hj.ww,hj.wr,hj.ver,hj.ran,hj.Yt⟩,Hq hx rfl,fun k=>Jn k (k x Js)⟩
  ·exact⟨h,.refl b,fun k=>k⟩
 split
 ·rename_i h9;exact Qye h hx Qwz hk n t bl (hf h9)
 split
 ·split
  ·exact⟨h,.refl b,fun k=>k⟩
  ·rename_i d _;exact⟨Tg (y:={x with Qi:=some (Vx d n)}) h hx (.same rfl rfl rfl rfl) ⟨hj.k,hj.w,hj.cw,hj.ww,hj.wr,hj.ver,hj.ran,hj.Yt⟩,Su hx rfl,fun k=>S6 k (k x Js)⟩
 ·exact⟨h,.refl b,fun k=>k⟩
end
end BN
end Go.Proofs.YtdackcibfkkniaaGreatDoor
