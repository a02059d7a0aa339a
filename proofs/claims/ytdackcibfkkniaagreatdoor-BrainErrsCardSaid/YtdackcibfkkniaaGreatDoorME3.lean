/- Texts put together. -/
import Derived.Sort.AssemblyPlain
import Derived.Sort.LotD1
import Derived.Test.YtdackcibfkkniaaGreatDoorME2
set_option synthInstance.maxSize 9999
set_option synthInstance.maxHeartbeats 400000
set_option maxRecDepth 20000
namespace Go.Proofs.YtdackcibfkkniaaGreatDoor
namespace PL
open Go.RowKit
set_option linter.unusedVariables false
theorem S.rNone {n:Nat} {md:Bool} {w0:WM md} {ρ:Env} {Γ:List Assn} {φ:Act→World→Prop} {R:Assn} {s:SV} {m sz:Nat} {xs:List Value} (h:RdS R s m sz xs) {Δ:List Assn} [p:Pick R Γ Δ] (k:(s.a.isNone=true→m=0)→S n w0 ρ Γ φ):S n w0 ρ Γ φ:=by
 by_cases hm:0<m
 ·exact S.rSome h hm fun b off hb=>k fun hn=>by rw[hb]at hn;cases hn
 ·exact k fun _=>by omega
theorem Clone_S (R:Assn) (s:SV) (l:List Int) (hl:l.length≤1000) (hR:RdS R s l.length 1 (ints l)):Spec Tryz.prog 117 [s.v] [R] fun Γ v Θ=>∃u:SV,v=u.v∧Θ=own u 3 1 (ints l)::R::Γ:=by
 refine Zbd Tryz.func117 rfl Tryz.ntmps117 fun w0 Γ=>Zsh ?_;refine S.rCap hR fun hn _ _=>?_;refine S.rNone hR fun hnone=>?_;refine ZY 8 ?_;refine ZY 2 ?_
 refine Zi ef (fun h1=>?_) (fun h1=>?_)
 ·refine ZY 5 ?_;obtain rfl:l=[]:=List.eq_nil_of_length_eq_zero (hnone (by simpa using h1));refine S.ent (show Ent _ (own SV.nil 3 1 (ints [])::_) from Ent.ownNil 3 1) ?_;exact Zf ef Zq (⟨SV.nil,rfl,rfl⟩)
 ·refine ZY 3 ?_;refine Zp (S.buildSlice0 Tryz.underlying66 Tryz.inf3.h rfl ?_);intro b5 hb5;refine Zy ?_;refine Zp (S.appendOw (s:=b5) (s.n) (ints l) Tryz.underlying66 Tryz.inf3.h rfl rfl rfl (fun w hs=>by rw[hn];exact hR.at_ hs) (ints_one l) (⟨by omega,by omega⟩) rfl ?_);intro u hu;rw[List.nil_append];refine ZY 3 ?_;exact Zf ef Zq (⟨u,rfl,rfl⟩)
theorem setAll_take {v:Int} {row ns:List Int} {j:Nat} {n:Int} (h:ns[j]?=some n):setAll v row (ns.take (j+1))=setN v (setAll v row (ns.take j)) n:=by
 unfold setAll;rw[List.take_add_one,h,Option.toList_some,List.foldl_append];rfl
theorem setN_yes {v:Int} {row:List Int} {n:Int} (h:0≤n∧n<row.length):setN v row n=row.set n.toNat v:=if_pos h
theorem setN_no {v:Int} {row:List Int} {n:Int} (h:¬(0≤n∧n<row.length)):setN v row n=row:=if_neg h
theorem ints_set (l:List Int) (i:Nat) (x:Int):(ints l).set i (.int .i64 x)=ints (l.set i x):=(List.map_set).symm
theorem rwC_set {rs:List RW} {i:Nat} {r:RW} (hr:rs[i]?=some r) (d:List Int):(rs.set i ⟨r.v,d⟩).flatMap rwC=rs.flatMap rwC:=by
 have h:=flat_set (enc:=rwC) (sz:=1) rwC_len (x':=⟨r.v,d⟩) (k:=0) (v:=r.v.v) hr (by omega) rfl;rw[←h];refine List.ext_getElem? fun j=>?_;rw[List.getElem?_set]
 split
 ·rename_i e;subst e;have:=flat_get (enc:=rwC) (sz:=1) (k:=0) rwC_len hr rfl;have hlt:=(List.getElem?_eq_some_iff.1 this).1;rw[if_pos hlt,this]
 ·rfl
theorem dat_set (rs:List RW) (i:Nat) (r:RW):dat (rs.set i r)=(dat rs).set i r.d:=List.map_set
theorem set_mid (A:List Value) (z v:Value) (B:List Value):(A++z::B).set A.length v=A++v::B:=by
 rw[List.set_append_right _ _ (Nat.le_refl _),Nat.sub_self];rfl
theorem set_same {α:Type} {l:List α} {i:Nat} {x:α} (h:l[i]?=some x):l.set i x=l:=by
 refine List.ext_getElem? fun j=>?_;rw[List.getElem?_set]
 split
 ·rename_i e;subst e;rw[if_pos (List.getElem?_eq_some_iff.1 h).1,h]
 ·rfl
theorem mk_set {rs':List RW} {k n:Nat} (h:rs'.length=k) (hk:k<n) (r:RW):(rs'.flatMap rwC++zeroRow [.slice none 0 0] (n-k)).set (k*1) r.v.v=(rs'++[r]).flatMap rwC++zeroRow [.slice none 0 0] (n-(k+1)):=by
 have e:k*1=(rs'.flatMap rwC).length:=by rw[flat_length rwC_len,h]
 rw[show n-k=(n-(k+1))+1 by omega,e];refine(set_mid _ _ _ _).trans ?_;simp
theorem resR_yes {D:List (List Int)} {x:St} {len:Int} (h1:x.ok=true) (h2:0≤x.row∧x.row<D.length):resR D x len=D.set x.row.toNat (setAll (addI x.at_ (max len 1)) (D[x.row.toNat]?.getD []) x.nodes):=by
 unfold resR raiseR;rw[if_pos h1,if_pos h2]
theorem resR_no {D:List (List Int)} {x:St} {len:Int} (h:¬(x.ok=true∧0≤x.row∧x.row<D.length)):resR D x len=D:=by
 unfold resR raiseR
 by_cases h1:x.ok=true
 ·rw[if_pos h1,if_neg (fun h2=>h ⟨h1,h2⟩)]
 ·rw[if_neg h1]
theorem S.allsRow {n:Nat} {md:Bool} {w0:WM md} {ρ:Env} {Γ:List Assn} {φ:Act→World→Prop} {rs:List RW} {i:Nat} {r:RW} (hr:rs[i]?=some r) {Δ:List Assn} [p:Pick (alls rs rwB) Γ Δ] (k:r.v.n=r.d.length→S n w0 ρ Γ φ):S n w0 ρ Γ φ:=by
 intro a w ha hs hx;obtain⟨x,_,h⟩:=((hs.ent p.ent).ent (Ent.allsAt rwB hr Δ)).head;have h3:=h.1;rw[List.length_map,Nat.mul_one]at h3;exact k h3.symm a w ha hs hx
theorem q3_b {ok:Bool} {row:Int} {n:Nat} (h:(!ok)=false) (h2:row<0):true=!(ok&&decide (0≤row∧row<n)):=by
 rw[decide_eq_false (by omega),Bool.and_false];rfl
theorem q3_c {ok:Bool} {row:Int} {m n:Nat} (h:(!ok)=false) (h2:¬row<0) (e:m=n):decide ((m:Int)≤row)=!(ok&&decide (0≤row∧row<n)):=by
 subst e;rw[show ok=true by simpa using h,Bool.true_and]
 by_cases h3:row<m
 ·rw[decide_eq_false (by omega),decide_eq_true (by omega)];rfl
 ·rw[decide_eq_true (by omega),decide_eq_false (by omega)];rfl
theorem q3_a {ok:Bool} {p:Prop} [Decidable p] (h:(!ok)=true):true=!(ok&&decide p):=by cases ok <;> simp_all
set_option maxHeartbeats 1000000 in
theorem Reserve_S (R Q:Assn) (s:SV) (rs:List RW) (u:SV) (x:St) (len:Int) (hl:rs.length≤1000) (hrl:∀r∈rs,r.d.length≤1000) (hR:RdP R s rs) (hQ:RdS Q u x.nodes.length 1 (ints x.nodes)) :
  Spec Tryz.prog 114 [s.v,.agg (stC u x).toArray,.int .i64 len] [R,Q] fun Γ v Θ=>∃(s':SV) (rs':List RW),v=s'.v∧dat rs'=resR (dat rs) x len∧Θ=prof s' rs'::R::Q::Γ:=by
 refine Zbd Tryz.func114 rfl Tryz.ntmps114 fun w0 Γ=>Zsh ?_;refine S.rCap hR.top fun hn _ _=>?_;refine S.rCap hQ fun hun hunc hunm=>?_;have hdl:(dat rs).length=rs.length:=List.length_map _;refine ZY 2 ?_;refine Zp (S.box (cs:=[_,_,_,_]) rfl rfl rfl ?_);intro b4;refine ZY 6 ?_;refine Zp (S.makeSlice (s.n) (s.n) Tryz.underlying143 Tryz.inf66.h rfl rfl rfl rfl rfl (Nat.le_refl _) (⟨by omega,by omega⟩) rfl ?_);intro ov hov;rw[show zeroRow [.slice none 0 0] s.n=([]:List RW).flatMap rwC++zeroRow [.slice none 0 0] (s.n-0) from rfl];refine S.ent (Ent.allsNil rwB _) ?_;refine ZY 8 ?_;refine ZY 2 ?_;refine Zl (fun m ρ' Γ'=>∃(i:Nat) (rs':List RW),m+i=rs.length∧dat rs'=(dat rs).take i∧ρ'=[(2,.int .i64 len),(4,.pointer (some ⟨b4,0,none⟩)),(7,ov.v),(15,s.v),(16,.int .i64 s.n),(17,.int .i64 i)]∧Γ'=own ov 66 1 (rs'.flatMap rwC++zeroRow [.slice none 0 0] (s.n-i))::alls rs' rwB::blk b4 146 (stC u x).toArray::R::Q::Γ) (m:=_) (⟨0,[],rfl,rfl,rfl,rfl⟩) ?_;rintro m ρ' Γ' ⟨i,rs',hmi,hd,rfl,rfl⟩;have hrl':rs'.length=i:=by have:=congrArg List.length hd;rw[List.length_map,List.length_take]at this;omega
 refine ZY 5 ?_
 refine Zj ef (fun h1=>?_) (fun h1=>?_)
 ·obtain⟨r,hr⟩:=getE (l:=rs) (i:=i) (by omega);have hrd:r.d.length≤1000:=hrl r (List.mem_of_getElem? hr);refine S.rSome hR.top (by omega) fun b off hb=>?_;refine S.ownSome ov (by omega) fun b' off' hb' hll hlc hlm=>?_;refine ZY 6 ?_;refine Zv (Zx (i) ef (hb) ef (by omega)) ?_;refine Zv (q_loadR hR.top (i*1) Eo.h rfl hb (by omega) rfl (flat_get (enc:=rwC) (sz:=1) (k:=0) rwC_len hr rfl)) ?_;refine ZY 7 ?_;refine Zp (Zc1 Ze (Clone_S R r.v r.d hrd (hR.row hr)) ?_);rintro v Θ ⟨u1,rfl,rfl⟩;refine Zv (Zx (i) ef (hb') ef (by omega)) ?_;refine Zp (S.storeOw (ov) (i*1) Eo.h rfl rfl rfl hb' (by first | rfl | exact Nat.add_assoc _ _ _ | omega) (by omega) (mk_set hrl' (by omega) ⟨u1,r.d⟩) ?_);refine ZY 2 ?_;refine S.conv2 (own u1 3 1 (ints r.d)) (alls rs' rwB) (Ent.allsSnoc rwB rs' ⟨u1,r.d⟩ _) ?_;refine Zv (Za ef ef) ?_;refine ZY 2 ?_;exact ZX (m-1) (⟨i+1,rs'++[⟨u1,r.d⟩],by omega,by rw[List.take_add_one,List.getElem?_map,hr,←hd];simp,rfl,rfl⟩) (by omega)
 ·obtain rfl:i=rs.length:=by omega
  rw[List.take_of_length_le (by omega)]at hd;rw[show s.n-rs.length=0 by omega,show zeroRow [.slice none 0 0] 0=[] from rfl,List.append_nil];refine ZY 3 ?_
  refine Zc (fun ρ' Γ'=>∃c:Bool,c=!(x.ok&&decide (0≤x.row∧x.row<rs.length))∧ρ'=[(2,.int .i64 len),(4,.pointer (some ⟨b4,0,none⟩)),(7,ov.v),(42,.bool c)]∧Γ'=own ov 66 1 (rs'.flatMap rwC)::alls rs' rwB::blk b4 146 (stC u x).toArray::R::Q::Γ) ?_ ?_
  ·refine ZY 5 ?_
   refine Zbb 31 ef (fun hg7_3=>?_) (fun hg7_3=>?_)
   ·refine ZY 8 ?_;refine ZY 4 ?_;first | exact S.meet ⟨_,by first | exact q3_a hg7_3 | exact q3_b hg7_3 hg7_8 | exact q3_c hg7_3 hg7_8 (by omega),rfl,rfl⟩ ⟨rfl,rfl,rfl,rfl,trivial⟩ Sub.ent
   ·refine ZY 5 ?_
    refine Zb 36 ef (fun hg7_8=>?_) (fun hg7_8=>?_)
    ·refine ZY 7 ?_;first | exact S.meet ⟨_,by first | exact q3_a hg7_3 | exact q3_b hg7_3 hg7_8 | exact q3_c hg7_3 hg7_8 (by omega),rfl,rfl⟩ ⟨rfl,rfl,rfl,rfl,trivial⟩ Sub.ent
    ·refine ZY 7 ?_;first | exact S.meet ⟨_,by first | exact q3_a hg7_3 | exact q3_b hg7_3 hg7_8 | exact q3_c hg7_3 hg7_8 (by omega),rfl,rfl⟩ ⟨rfl,rfl,rfl,rfl,trivial⟩ Sub.ent
  ·rintro ρ' Γ' ⟨c,hc,rfl,rfl⟩
   refine Zi ef (fun h2=>?_) (fun h2=>?_)
   ·refine ZY 6 ?_;refine S.ent (Ent.prof ov rs' _) ?_;exact Zf ef Zq (⟨ov,rs',rfl,by rw[hd,resR_no (fun h=>by have:=not_t hc h2;rw[h.1,Bool.true_and,decide_eq_true (by omega)]at this;cases this)],rfl⟩)
   ·have hT:=not_f hc h2;rw[Bool.and_eq_true,decide_eq_true_eq]at hT;obtain⟨hok,hrow⟩:=hT;obtain⟨rn,hrn⟩:∃rn:Nat,x.row=rn:=⟨x.row.toNat,by omega⟩;obtain⟨r0,hr0⟩:=getE (l:=rs) (i:=rn) (by omega);have hD0:(dat rs)[rn]?=some r0.d:=by rw[List.getElem?_map,hr0];rfl
    have hfin:resR (dat rs) x len=(dat rs).set rn (setAll (addI x.at_ (max len 1)) r0.d x.nodes):=by
     rw[resR_yes hok (by omega),show x.row.toNat=rn by omega,hD0];rfl
    have hrd0:r0.d.length≤1000:=hrl r0 (List.mem_of_getElem? hr0);obtain⟨V,hV⟩:∃V,V=addI x.at_ (max len 1):=⟨_,rfl⟩;rw[←hV]at hfin;refine ZY 8 ?_;refine ZY 2 ?_;refine Zl (fun m ρ' Γ'=>∃(j:Nat) (rs2:List RW),m+j=x.nodes.length∧dat rs2=(dat rs).set rn (setAll V r0.d (x.nodes.take j))∧ρ'=[(2,.int .i64 len),(4,.pointer (some ⟨b4,0,none⟩)),(7,ov.v),(45,u.v),(46,.int .i64 u.n),(47,.int .i64 j)]∧Γ'=own ov 66 1 (rs2.flatMap rwC)::alls rs2 rwB::blk b4 146 (stC u x).toArray::R::Q::Γ) (m:=_) (⟨0,rs',rfl,by rw[hd];exact(set_same hD0).symm,rfl,rfl⟩) ?_;rintro m2 ρ' Γ' ⟨j,rs2,hmj,hdd,rfl,rfl⟩;have hrl2:rs2.length=rs.length:=by have:=congrArg List.length hdd;rw[List.length_map,List.length_set,hdl]at this;exact this
    refine ZY 5 ?_
    refine Zj ef (fun h3=>?_) (fun h3=>?_)
    ·obtain⟨nd,hnd⟩:=getE (l:=x.nodes) (i:=j) (by omega);obtain⟨r2,hr2⟩:=getE (l:=rs2) (i:=rn) (by omega)
     have hd2:r2.d=setAll V r0.d (x.nodes.take j):=by
      have h1:(dat rs2)[rn]?=some r2.d:=by rw[List.getElem?_map,hr2];rfl
      rw[hdd,List.getElem?_set_self (by omega)]at h1;exact(Option.some.inj h1).symm
     have hl2:r2.d.length=r0.d.length:=by rw[hd2,setAll_length]
     refine S.allsRow hr2 fun hr2n=>?_;refine S.rSome hQ (by omega) fun bq oq hbq=>?_;refine S.ownSome ov (by omega) fun b' off' hb' hll hlc hlm=>?_;refine ZY 2 ?_
     refine Zc (fun ρ' Γ'=>∃rs3:List RW,dat rs3=(dat rs).set rn (setAll V r0.d (x.nodes.take (j+1)))∧ρ'=[(2,.int .i64 len),(4,.pointer (some ⟨b4,0,none⟩)),(7,ov.v),(45,u.v),(46,.int .i64 u.n),(47,.int .i64 j)]∧Γ'=own ov 66 1 (rs3.flatMap rwC)::alls rs3 rwB::blk b4 146 (stC u x).toArray::R::Q::Γ) ?_ ?_
     ·refine ZY 3 ?_;refine Zv (Zx (j) ef (hbq) ef (by omega)) ?_;refine Zv (q_loadR hQ j Eo.h rfl hbq (by omega) (by omega) (ints_get hnd)) ?_;refine ZY 3 ?_
      refine Zc (fun ρ' Γ'=>∃c:Bool,c=decide (0≤nd∧nd<r2.d.length)∧ρ'=[(2,.int .i64 len),(4,.pointer (some ⟨b4,0,none⟩)),(7,ov.v),(11,.int .i64 nd),(45,u.v),(46,.int .i64 u.n),(47,.int .i64 j),(62,.bool c)]∧Γ'=own ov 66 1 (rs2.flatMap rwC)::alls rs2 rwB::blk b4 146 (stC u x).toArray::R::Q::Γ) ?_ ?_
      ·refine ZY 4 ?_
       refine Zb 53 ef (fun hg12_2=>?_) (fun hg12_2=>?_)
       ·refine ZY 4 ?_;refine Zvg ef ef ef (Zx (rn) ef (hb') ef (by omega) (hrn)) ?_;refine Zvg ef ef ef (Zo (ov) (rn*1) ef (hb') (flat_get (enc:=rwC) (sz:=1) (k:=0) rwC_len hr2 rfl)) ?_;refine ZY 4 ?_;first | exact S.meet ⟨_,by first | exact(decide_eq_false (fun h=>hg12_2 h.1)).symm | (refine decide_eq_decide.2 ?_;omega),rfl,rfl⟩ ⟨rfl,rfl,rfl,rfl,rfl,rfl,rfl,rfl,trivial⟩ Sub.ent
       ·refine ZY 8 ?_;refine ZY 2 ?_;first | exact S.meet ⟨_,by first | exact(decide_eq_false (fun h=>hg12_2 h.1)).symm | (refine decide_eq_decide.2 ?_;omega),rfl,rfl⟩ ⟨rfl,rfl,rfl,rfl,rfl,rfl,rfl,rfl,trivial⟩ Sub.ent
      ·rintro ρ' Γ' ⟨c,hc,rfl,rfl⟩
       refine Zi ef (fun h4=>?_) (fun h4=>?_)
       ·rw[h4]at hc;have hin:=of_decide_eq_true hc.symm;refine S.conv (alls rs2 rwB) (Ent.allsAt rwB hr2 _) ?_;refine S.ownSome r2.v (by omega) fun b3 off3 hb3 _ _ _=>?_;refine Zd ([own ov 66 1 (rs2.flatMap rwC),own r2.v 3 1 (ints r2.d),blk b4 146 (stC u x).toArray]) [12] (Zra 0 10) ?_;refine ZY 3 ?_;refine Zw ef (Zx (rn) ef (hb') ef (by omega) (hrn)) ?_;refine Zw ef (Zo (ov) (rn*1) ef (hb') (flat_get (enc:=rwC) (sz:=1) (k:=0) rwC_len hr2 rfl)) ?_;refine ZY 4 ?_;refine Zw ef (q_max (max len 1) rfl rfl (by omega)) ?_;refine Z1 (i:=10) ef ef ?_;refine(S.callP Eo.h (vs:=[_,_]) ⟨rfl,rfl,trivial⟩ (fun w hs=>cAdd_P x.at_ (max len 1) w) rfl ?_);refine Zk [11] ?_;refine Zw ef (Zx (nd.toNat) ef (hb3) ef (by omega) ((by omega))) ?_;refine Z1 (i:=12) ef ef ?_;refine(S.storeOw (r2.v) (nd.toNat*1) Eo.h rfl rfl rfl hb3 (by first | rfl | exact Nat.add_assoc _ _ _ | omega) (by rw[List.length_map];omega) (by rw[Nat.mul_one,ints_set,←hV]) ?_);refine ZL ([]) [] ?_;refine ZD ?_;first
        | exact ZM ⟨rs2,by rw[setAll_take hnd,setN_no (by rw[←hd2];exact hno)];exact hdd,rfl,rfl⟩
        | (refine S.conv3 (own r2.v 3 1 (ints (r2.d.set nd.toNat V))) (alls (rs2.take rn) rwB) (alls (rs2.drop (rn+1)) rwB) (Ent.allsBack rwB (x':=⟨r2.v,r2.d.set nd.toNat V⟩) hr2 _) ?_;rw[←rwC_set hr2 (r2.d.set nd.toNat V)];exact S.meet ⟨rs2.set rn ⟨r2.v,r2.d.set nd.toNat V⟩,by rw[dat_set,hdd,List.set_set,setAll_take hnd,setN_yes (by rw[←hd2];exact hin),hd2],rfl,rfl⟩ ⟨rfl,rfl,rfl,rfl,rfl,rfl,trivial⟩ Sub.ent)
       ·rw[h4]at hc;have hno:=of_decide_eq_false hc.symm;refine Zy ?_;first
        | exact ZM ⟨rs2,by rw[setAll_take hnd,setN_no (by rw[←hd2];exact hno)];exact hdd,rfl,rfl⟩
        | (refine S.conv3 (own r2.v 3 1 (ints (r2.d.set nd.toNat V))) (alls (rs2.take rn) rwB) (alls (rs2.drop (rn+1)) rwB) (Ent.allsBack rwB (x':=⟨r2.v,r2.d.set nd.toNat V⟩) hr2 _) ?_;rw[←rwC_set hr2 (r2.d.set nd.toNat V)];exact S.meet ⟨rs2.set rn ⟨r2.v,r2.d.set nd.toNat V⟩,by rw[dat_set,hdd,List.set_set,setAll_take hnd,setN_yes (by rw[←hd2];exact hin),hd2],rfl,rfl⟩ ⟨rfl,rfl,rfl,rfl,rfl,rfl,trivial⟩ Sub.ent)
     ·rintro ρ' Γ' ⟨rs3,hd3,rfl,rfl⟩;refine Zy ?_;refine Zv (Za ef ef) ?_;refine ZY 2 ?_;exact ZX (m2-1) (⟨j+1,rs3,by omega,hd3,rfl,rfl⟩) (by omega)
    ·rw[List.take_of_length_le (by omega)]at hdd;refine S.conv2 (own ov 66 1 (rs2.flatMap rwC)) (alls rs2 rwB) (Ent.prof ov rs2 _) ?_;refine ZY 7 ?_;exact Zf ef Zq (⟨ov,rs2,rfl,by rw[hfin,hdd],rfl⟩)
set_option linter.unusedVariables false
structure Sml (D:List (List Int)):Prop where
 rows:D.length≤1000
 row:∀r∈D,r.length≤1000
theorem Sml.of_lens {D E:List (List Int)} (h:Sml D) (e:E.map List.length=D.map List.length):Sml E:=by
 refine⟨by have:=congrArg List.length e;rw[List.length_map,List.length_map]at this;have:=h.rows;omega,fun r hr=>?_⟩;have h1:r.length∈E.map List.length:=List.mem_map_of_mem hr;rw[e]at h1;obtain⟨q,h2,h3⟩:=List.mem_map.1 h1;have:=h.row q h2;omega
theorem Sml.at_ {D:List (List Int)} (h:Sml D) (l:List Ak):Sml (profAt D l):=h.of_lens (profAt_lens l D)
theorem Sml.len {rs:List RW} (h:Sml (dat rs)):rs.length≤1000:=by have:=h.rows;rwa [List.length_map]at this
theorem Sml.each {rs:List RW} (h:Sml (dat rs)):∀r∈rs,r.d.length≤1000:=fun r hr=>h.row r.d (List.mem_map_of_mem hr)
theorem rdOwnI {u:SV} {e:TypeId} {l:List Int}:RdS (own u e 1 (ints l)) u l.length 1 (ints l):=fun Γ w hs=>by
 have h2:=(HasOw.head).slAt hs;obtain⟨x,_,p⟩:=hs.head;have h3:=p.1;rw[List.length_map,Nat.mul_one]at h3
 rwa [←h3]at h2
theorem RdP.ent {A B:Assn} {s:SV} {rs:List RW} (h:RdP A s rs) (e:∀Γ,∃Δ,Ent (B::Γ) (A::Δ)):RdP B s rs:=
 ⟨fun Γ w hs=>by obtain⟨Δ,h1⟩:=e Γ;exact h.top _ _ (hs.ent h1),fun hr Γ w hs=>by obtain⟨Δ,h1⟩:=e Γ;exact h.row hr _ _ (hs.ent h1)⟩
theorem rdPack (s:SV) (rs:List RW) (R:Assn):RdP (stars [prof s rs,R]) s rs:=(RdP.prof s rs).ent fun Γ=>⟨_,Ent.unpack [prof s rs,R] Γ⟩
theorem Ent.second (A R:Assn) (Γ:List Assn):Ent (stars [A,R]::Γ) (R::Γ):=(Ent.unpack [A,R] Γ).trans (Ent.drop _ _)
abbrev akC (a:Ak):List Value:=[.int .i64 a.k,.int .i64 a.len]
theorem akC_len:∀a,(akC a).length=2:=fun _=>rfl
structure SR where
 v:SV
 x:St
instance:Inhabited SR:=⟨⟨SV.nil,default⟩⟩
abbrev srC (r:SR):List Value:=stC r.v r.x
theorem srC_len:∀r,(srC r).length=4:=fun _=>rfl
abbrev srB (r:SR):Assn:=own r.v 3 1 (ints r.x.nodes)
set_option maxHeartbeats 1000000 in
theorem Plan_S (R A:Assn) (s:SV) (rs:List RW) (l:SV) (al:List Ak) (hs:Sml (dat rs)) (hal:al.length≤1000) (hR:RdP R s rs) (hA:RdS A l al.length 2 (al.flatMap akC)) :
  Spec Tryz.prog 77 [s.v,l.v] [R,A] fun Γ v Θ=>∃(u:SV) (os:List SR),v=u.v∧os.map SR.x=planR (dat rs) al∧Θ=own u 146 4 (os.flatMap srC)::alls os srB::R::A::Γ:=by
 refine Zbd Tryz.func77 rfl Tryz.ntmps77 fun w0 Γ=>Zsh ?_;refine S.rCap hA fun hln _ _=>?_;refine ZY 6 ?_;refine S.ent (show Ent _ (own SV.nil 146 4 (([]:List SR).flatMap srC)::_) from Ent.ownNil 146 4) ?_;refine S.ent (Ent.allsNil srB _) ?_;refine ZY 8 ?_;refine ZY 2 ?_;refine Zl (fun m ρ' Γ'=>∃(i:Nat) (uo:SV) (os:List SR) (X:Assn) (sx:SV) (rx:List RW),m+i=al.length∧dat rx=profAt (dat rs) (al.take i)∧os.map SR.x=planR (dat rs) (al.take i)∧RdP X sx rx∧(∀Γ,Ent (X::Γ) (R::Γ))∧ρ'=[(0,sx.v),(5,uo.v),(9,l.v),(10,.int .i64 l.n),(11,.int .i64 i)]∧Γ'=own uo 146 4 (os.flatMap srC)::alls os srB::X::A::Γ) (m:=_) (⟨0,SV.nil,[],R,s,rs,rfl,rfl,rfl,hR,fun Γ=>Ent.refl _,rfl,rfl⟩) ?_;rintro m ρ' Γ' ⟨i,uo,os,X,sx,rx,hmi,hd,hos,hX,hXR,rfl,rfl⟩;have hsx:Sml (dat rx):=by rw[hd];exact hs.at_ _
 have hol:os.length=i:=by have:=congrArg List.length hos;rw[List.length_map,planR_length,List.length_take]at this;omega
 refine S.ownLen uo fun hul _ _=>?_;rw[flat_length srC_len]at hul;refine ZY 5 ?_
 refine Zj ef (fun h1=>?_) (fun h1=>?_)
 ·obtain⟨a,ha⟩:=getE (l:=al) (i:=i) (by omega);refine S.rSome hA (by omega) fun b off hb=>?_;refine ZY 5 ?_;refine Zv (Zx (i) ef (hb) ef (by omega)) ?_;refine Zv (q_loadRS hA (i*2) (akC a) Eo.h rfl hb (by omega) rfl rfl (flat_seg (enc:=akC) (sz:=2) akC_len ha)) ?_;refine Zp (S.alloc Tryz.z139.h rfl ?_);intro b7;refine Zp (Zs ef ef (cs':=[_,_]) ef ?_);refine ZY 5 ?_;refine Zp (Zc1 Ze (First_S X sx rx a.k a.len hsx.len hsx.each hX) ?_);rintro v Θ ⟨u1,rfl,rfl⟩;obtain⟨x1,hx1⟩:∃x1,x1=firstR (dat rx) a.k:=⟨_,rfl⟩;rw[←hx1];refine Zp (S.alloc Tryz.z146.h rfl ?_);intro b8;refine Zp (Zs ef ef (cs':=[_,_,_,_]) ef ?_);refine ZY 7 ?_;refine Zp (Zc1 Ze (Reserve_S X (own u1 3 1 (ints x1.nodes)) sx rx u1 x1 a.len hsx.len hsx.each hX rdOwnI) ?_);rintro v Θ ⟨s',rs',rfl,hd',rfl⟩;refine ZY 5 ?_;refine Zp (S.buildSlice (pvs:=[(_,_)]) [_,_,_,_] Tryz.underlying140 Tryz.inf146.h rfl rfl ⟨⟨rfl,rfl⟩,trivial⟩ rfl rfl ?_);intro b25;refine Zp (S.appendOw (s:=uo) (1) (srC ⟨u1,x1⟩) Tryz.underlying140 Tryz.inf146.h rfl rfl rfl (blk_slAt (b:=b25) rfl (by unfold maxLen;omega)) (by first | rfl | exact allOne_bcells _) (⟨by omega,by omega⟩) rfl ?_);intro uo' huo';rw[flat_snoc srC os ⟨u1,x1⟩];refine S.conv2 (own u1 3 1 (ints x1.nodes)) (alls os srB) (Ent.allsSnoc srB os ⟨u1,x1⟩ _) ?_;refine S.conv2 (prof s' rs') X (((hXR _).cons _).trans (Ent.pack [prof s' rs',R] _)) ?_;refine ZY 3 ?_;have htk:al.take (i+1)=al.take i++[a]:=by rw[List.take_add_one,ha];rfl
  refine Zv (Za ef ef) ?_;refine ZY 2 ?_;exact ZX (m-1) (⟨i+1,uo',os++[⟨u1,x1⟩],stars [prof s' rs',R],s',rs',by omega,by rw[hd',htk,profAt_snoc,←hd,hx1],by rw[List.map_append,hos,htk,planR_snoc,←hd,hx1];rfl,rdPack s' rs' R,Ent.second _ _,rfl,rfl⟩) (by omega)
 ·rw[List.take_of_length_le (by omega)]at hos;refine S.conv X (hXR _) ?_;refine ZY 7 ?_;exact Zf ef Zq (⟨uo,os,rfl,hos,rfl⟩)
end PL
open Go.MapKept (run_checkKey run_findKey)
section
variable {P:Program} {n:Nat} {md:Bool} {w0:WM md} {ρ:Env} {Γ:List Assn} {ty:TypeId} {pos:String} {af:Array Edge} {gd:Option (Nat×Bool)} {ds:Option Tmp}
theorem q_lookupOkN {t kt et:TypeId} {q:IntKind} {x y:Operand} {kk:IntKind} {z:Int} {zv:Value} (ht:P.underlying t=some (.map kt et)) (hk:P.underlying kt=some (.int q)) (hzv:(P.info? et).bind (·.zero)=some zv)
  (hx:ev ρ x=some (.map none)) (hy:ev ρ y=some (.int kk z)) (hq:q=kk):Qv P n ρ Γ ⟨ds,.lookup t x y true,ty,pos,af,gd⟩ (.tuple #[zv,.bool false]):=fun a w ha _=>by
 subst hq;have hf:=run_findKey (P:=P) (w:=w) hk (show Instr.findNow (.int q) (.int q z) [] 0=some none from rfl)
 have hz:(zeroValue et).run P w=.ok zv w:=by
  cases hi:P.info? et with
  | none=>simp[hi]at hzv
  | some i=>
   cases hz':i.zero with
   | none=>simp[hi,hz']at hzv
   | some z0=>
    simp only[hi,hz',Option.bind_some,Option.some.injEq]at hzv;simp[zeroValue,typeInfo,hi,hz',hzv]
 have hc:∀e,(Instr.checkKey e 10000 kt (.int q z)).run P w=.ok () w:=fun e=>run_checkKey (P:=P) (w:=w) (k:=.int q z) hk rfl e 9999;simp[execOp,ha.ev hx,ha.ev hy,Instr.lookup,run_underlying ht,hc,hf,hz,Result.andThen]
theorem q_neMN {t yt kt et:TypeId} {x y:Operand} {p:Option Nat} (ht:P.underlying t=some (.map kt et)) (hx:ev ρ x=some (.map p)) (hy:ev ρ y=some (.map none)):Qv P n ρ Γ ⟨ds,.binOp .neq t x y yt,ty,pos,af,gd⟩ (.bool p.isSome):=
 q_binR hx hy (fun w=>by simp[eqGuard]) (fun w=>by
  simp only[binOp];rw[show Op.equal t (.map p) (.map none)=Op.equalIn (9999+1) t (.map p) (.map none) from rfl];unfold Op.equalIn;cases p <;> simp[run_underlying ht])
end
def setE (s:List Nat):List (Int×Value):=s.map fun x:Nat=>((x:Int),Value.agg #[])
def sAdd (s:List Nat) (x:Nat):List Nat:=if x∈s then s else s++[x]
def sDel (s:List Nat) (x:Nat):List Nat:=s.filter (fun y=>decide (y≠x))
theorem setE_get (s:List Nat) (x:Nat):alGet (x:Int) (setE s)=if x∈s then some (.agg #[]) else none:=by
 induction s with
 | nil=>rfl
 | cons y s ih=>
  rw[setE,List.map_cons,alGet]
  by_cases e:x=y
  ·subst e;rw[if_pos rfl,if_pos (List.mem_cons_self ..)]
  ·rw[if_neg (by omega)];show alGet (x:Int) (setE s)=_;rw[ih]
   by_cases h:x∈s
   ·rw[if_pos h,if_pos (List.mem_cons_of_mem _ h)]
   ·rw[if_neg h,if_neg (by simp[e,h])]
theorem setE_put (s:List Nat) (x:Nat):alPut (x:Int) (.agg #[]) (setE s)=setE (sAdd s x):=by
 have key:∀s:List Nat,alPut (x:Int) (.agg #[]) (setE s)=if x∈s then setE s else setE s++[((x:Int),.agg #[])]:=by
  intro s;induction s with
  | nil=>rfl
  | cons y s ih=>
   have e0:setE (y::s)=((y:Int),Value.agg #[])::setE s:=rfl;rw[e0,alPut]
   by_cases e:x=y
   ·subst e;rw[if_pos rfl,if_pos (List.mem_cons_self ..)]
   ·rw[if_neg (by show ¬(x:Int)=y;omega),ih]
    by_cases h:x∈s
    ·rw[if_pos h,if_pos (List.mem_cons_of_mem _ h)]
    ·rw[if_neg h,if_neg (by simp[e,h])];rfl
 rw[key,sAdd]
 split
 ·rfl
 ·simp[setE]
theorem setE_nodup {s:List Nat} (h:((setE s).map (·.1)).Nodup):s.Nodup:=by
 have e:(setE s).map (·.1)=s.map fun x:Nat=>(x:Int):=by rw[setE,List.map_map];rfl
 rw[e]at h;exact List.pairwise_map.1 h |>.imp fun h e=>h (by rw[e])
theorem setE_del {s:List Nat} (x:Nat) (hn:s.Nodup):alDel (x:Int) (setE s)=setE (sDel s x):=by
 induction s with
 | nil=>rfl
 | cons y s ih=>
  obtain⟨h1,h2⟩:=List.nodup_cons.1 hn;have e0:setE (y::s)=((y:Int),Value.agg #[])::setE s:=rfl;rw[e0,alDel,sDel,List.filter_cons]
  by_cases e:x=y
  ·subst e;rw[if_pos rfl,if_neg (by simp)]
   congr 1
   refine(List.filter_eq_self.2 fun z hz=>?_).symm;rw[decide_eq_true_eq];intro e;exact h1 (e ▸ hz)
  ·rw[if_neg (by show ¬(x:Int)=y;omega),if_pos (by rw[decide_eq_true_eq];intro h;exact e h.symm),ih h2];rfl
theorem setE_len (s:List Nat):(setE s).length=s.length:=by rw[setE,List.length_map]
theorem sDel_nodup {s:List Nat} (h:s.Nodup) (x:Nat):(sDel s x).Nodup:=h.filter _
def optS (b:Option Nat) (s:Option (List Nat)):Assn:=match b,s with
 | none,none=>fun _=>True
 | some b,some s=>mapL b .i64 (setE s)
 | _,_=>fun _=>False
theorem Ent.optNil (Γ:List Assn):Ent Γ (optS none none::Γ):=fun h hs=>⟨HL.emp,h,HL.emp_disj _,HL.emp_le _,HL.le.refl _,trivial,hs⟩
theorem Sat.optEq {w:World} {b:Option Nat} {s:Option (List Nat)} {Γ:List Assn} (h:Sat w (optS b s::Γ)):b.isSome=s.isSome:=by
 obtain⟨x,_,p⟩:=h.head;cases b <;> cases s <;> first | rfl | exact absurd p id
namespace BN
structure Nt where
 kind:Nat
 node:Nat:=0
 epoch:Nat:=0
 life:Nat:=0
 tick:Nat:=0
 gen:Nat:=0
 job:Nat:=0
 ver:Nat:=0
 rank:Nat:=0
 credit:Nat:=0
 frm:Nat:=0
 til:Nat:=0
 deriving DecidableEq
instance:Inhabited Nt:=⟨⟨0,0,0,0,0,0,0,0,0,0,0,0⟩⟩
abbrev Od:=Nat×Nt
structure Sv where
 ver:Nat
 credit:Nat
 have_:List Nat
 told:Bool
 bs:List (List Int)
structure Im where
 job:Nat
 ver:Nat
 credit:Nat
 bs:List (List Int)
instance:Inhabited Im:=⟨⟨0,0,0,[]⟩⟩
structure Bj where
 id:Nat
 tier:Nat
 k:Nat
 w:Nat
 state:Nat
 credit:Nat
 at_:List Nat:=[]
 loaded:Option (List Nat):=none
 work:Nat
 ver:Nat
 sav:Option Sv:=none
 warned:Bool:=false
 till:Nat:=0
 drops:Option (List Nat):=none
 again:Bool:=false
 done:Bool:=false
 ran:Option (List (Nat×Nat×Nat)):=none
structure Br where
 nodes:Nat
 rows:Nat
 quantum:Nat
 grace:Nat
 hold:Nat
 now:Nat
 up:List Nat
 js:List Bj
 m:Mx
 orders:List Od
 images:List Im
 done:List Nat
 gen:Nat
 row:Int
 members:List Nat
 fin:Nat
 stops:Option (List Nat)
 stopped:Bool
def getJ (js:List Bj) (id:Nat):Option Bj:=js.find? fun x=>decide (x.id=id)
def setJ (js:List Bj) (x:Bj):List Bj:=js.map fun y=>if y.id=x.id then x else y
def rmJ (js:List Bj) (id:Nat):List Bj:=js.filter fun x=>decide (x.id≠id)
def insJ (x:Bj):List Bj→List Bj
 | []=>[x]
 | y::l=>if x.id<y.id then x::y::l else y::insJ x l
abbrev Br.set (b:Br) (x:Bj):Br:={b with js:=setJ b.js x}
abbrev u32 (n:Nat):Nat:=n % 4294967296
def goneR (b:Br) (x:Bj):Br:=
 if x.drops=some [] then
  if x.again then {b with m:=(removeR b.m x.id).2,js:=setJ b.js {id:=x.id,tier:=x.tier,k:=x.k,w:=x.w,state:=0,credit:=x.credit,work:=x.credit,ver:=x.ver}}
  else {b with m:=(removeR b.m x.id).2,js:=rmJ b.js x.id}
 else b.set x
def dropOrd (id:Nat) (n:Nat):Od:=(n,{kind:=10,job:=id})
abbrev dropX (x:Bj) (a:Bool) (ds:List Nat):Bj:={x with again:=a&&!x.done,sav:=none,work:=x.credit,drops:=some ds,state:=3}
def upOf (b:Br) (x:Bj):List Nat:=x.at_.filter fun n=>decide (n∈b.up)
def dropR (b:Br) (x:Bj) (again:Bool):Br:=
 match x.drops with
 | some d=>goneR b (dropX x again d)
 | none=>goneR {b with orders:=b.orders++(upOf b x).map (dropOrd x.id)} (dropX x again (upOf b x))
def finishR (b:Br) (x:Bj):Br:=
 if x.credit<x.w∨x.done=true then b.set x else dropR {b with done:=b.done++[x.id]} {x with done:=true} false
def addOk (b:Br) (j:Bj):Bool:=decide (j.id≠0)&&decide (1≤j.k)&&decide (j.k≤b.nodes)&&decide (1≤j.w)&&decide (j.w≤10000)&&decide (j.credit≤j.w)&&decide (j.tier≤3)
abbrev newJ (id tier k w credit ver:Nat):Bj:={id:=id,tier:=tier,k:=k,w:=w,state:=0,credit:=credit,work:=credit,ver:=ver}
def addR (b:Br) (x:Bj):Int×Br:=
 if addOk b x=false then (1,b) else if (getJ b.js x.id).isSome then (7,b) else (0,finishR {b with js:=insJ x b.js} x)
def nodeR (b:Br) (n:Int) (up:Bool):Int:=if n<0∨(b.nodes:Int)≤n then 1 else if isUpB b.m n≠up then 14 else 0
def upR' (b:Br) (n:Int):Int×Br:=if nodeR b n false≠0 then (nodeR b n false,b) else ((upR b.m n true).1,{b with up:=sAdd b.up n.toNat,m:=(upR b.m n true).2})
def saveOrd (x:Bj) (n:Nat):Od:=(n,{kind:=8,job:=x.id,ver:=x.ver,credit:=x.work})
def saveR (b:Br) (x:Bj):Br:=
 if x.work=x.credit∨x.sav.isSome∨x.drops.isSome∨x.state≠2 then b.set x
 else
  let y:={x with ver:=u32 (x.ver+1),sav:=some ⟨u32 (x.ver+1),x.work,[],false,x.at_.map fun _=>[]⟩}
  {b with js:=setJ b.js y,orders:=b.orders++x.at_.map (saveOrd y)}
def overlapUp:List (Nat×Nat)→Nat×Nat→Option (Nat×Nat)
 | [],a=>some a
 | x::l,a=>if x.2<x.1 then none else overlapUp l (max a.1 x.1,min a.2 x.2)
def overlapR (l:List (Nat×Nat)):Nat:=
 if l=[] then 0 else match overlapUp l (0,4294967295) with
  | none=>0
  | some (f,t)=>if t<f then 0 else t-f+1
def countR (b:Br) (x:Bj):Br:=
 match x.ran with
 | none=>b.set x
 | some r=>if x.drops.isSome∨r.length≠x.at_.length then b.set {x with ran:=none}
  else saveR b {x with ran:=none,work:=min (x.work+overlapR (r.map (·.2))) x.w}
def each (f:Br→Bj→Br) (b:Br) (ids:List Nat):Br:=ids.foldl (fun b id=>match getJ b.js id with | none=>b | some x=>f b x) b
abbrev Br.ids (b:Br):List Nat:=b.js.map (·.id)
def stopHeardR (b:Br) (n:Nat):Br:=
 match b.stops with
 | none=>b
 | some s=>if sDel s n≠[] then {b with stops:=some (sDel s n)} else each countR {b with stops:=none,stopped:=false} b.ids
def lostJ (n:Nat) (b:Br) (x:Bj):Br:=
 if n∈x.at_ then match x.drops with
  | none=>dropR b x true
  | some d=>goneR b {x with drops:=some (sDel d n)}
 else b
def lostR (b:Br) (n:Int):Int×Br:=
 if nodeR b n true≠0 then (nodeR b n true,b)
 else (0,stopHeardR (each (lostJ n.toNat) {b with up:=sDel b.up n.toNat,m:=(upR b.m n false).2,orders:=b.orders.filter fun o=>decide (o.1≠n.toNat)} b.ids) n.toNat)
def ranPut (r:List (Nat×Nat×Nat)) (n:Nat) (v:Nat×Nat):List (Nat×Nat×Nat):=
 match r with
 | []=>[(n,v)]
 | y::l=>if n=y.1 then (n,v)::l else y::ranPut l n v
def heardR (b:Br) (n:Nat) (x:Nt):Br:=
 if decide (n∈b.stops.getD [])&&b.stopped&&decide (x.gen=b.gen) then
  stopHeardR (match getJ b.js x.job with
   | none=>b
   | some y=>match y.ran with
    | none=>b
    | some r=>if 0<x.frm∧n∈y.at_ then b.set {y with ran:=some (ranPut r n (x.frm,x.til))} else b) n
 else b
def rankOf (l:List Nat) (n:Nat):Option Nat:=l.findIdx? (fun y=>decide (y=n))
def savedR (b:Br) (x:Bj) (n:Nat) (t:Nt) (blob:List Int):Br:=
 match x.sav with
 | none=>b
 | some s=>match rankOf x.at_ n with
  | none=>b
  | some rank=>if s.told=true∨t.ver≠s.ver∨t.rank≠rank then b
   else
    let s2:Sv:={s with bs:=s.bs.set rank blob,have_:=sAdd s.have_ n}
    if s2.have_.length=x.at_.length then {b with js:=setJ b.js {x with sav:=some {s2 with told:=true}},images:=b.images++[⟨x.id,s2.ver,s2.credit,s2.bs⟩]}
    else b.set {x with sav:=some s2}
def hearJ (b:Br) (x:Bj) (n:Nat) (t:Nt) (blob:List Int):Br:=
 if t.kind=4 then
  if x.state=1 then b.set {x with loaded:=some (sAdd (x.loaded.getD []) n),state:=if (sAdd (x.loaded.getD []) n).length=x.at_.length then 2 else 1} else b
 else if t.kind=9 then savedR b x n t blob
 else if t.kind=11 then match x.drops with
  | none=>b
  | some d=>goneR b {x with drops:=some (sDel d n)}
 else b
def hearR (b:Br) (n:Int) (t:Nt) (blob:List Int):Int×Br:=
 if nodeR b n true≠0 then (nodeR b n true,b)
 else if t.kind=7 then (0,heardR b n.toNat t)
 else match getJ b.js t.job with
  | none=>(0,b)
  | some x=>if n.toNat∈x.at_ then (0,hearJ b x n.toNat t blob) else (0,b)
def imagesR (b:Br):List Im×Br:=
 (b.images.filter fun i=>match getJ b.js i.job with
  | none=>false
  | some x=>match x.sav with
   | none=>false
   | some s=>decide (s.ver=i.ver),{b with images:=[]})
def publishedR (b:Br) (id ver:Nat) (ok:Bool):Int×Br:=
 match getJ b.js id with
 | none=>(6,b)
 | some x=>match x.sav with
  | none=>(6,b)
  | some s=>if s.told=false∨s.ver≠ver then (6,b) else (0,finishR b {x with credit:=if ok then s.credit else x.credit,sav:=none})
def idleB (b:Br):Bool:=!b.members.any fun id=>match getJ b.js id with
 | none=>false
 | some x=>x.drops.isNone
def stopR (b:Br):Br:={b with stopped:=true,orders:=b.orders++((List.range b.nodes).filter fun n=>decide (n∈b.stops.getD [])).map fun n=>((n,{kind:=6,gen:=b.gen}):Od)}
def leaveJ (b:Br) (x:Bj):Br:=
 if x.warned=true∧x.drops=none∧(x.till≤b.now∨(x.work=x.credit∧x.sav.isNone)) then dropR b x true else b
def waitQ (b:Br):List PR.It:=PR.stL ((b.js.filter fun x=>decide (x.state=0)&&x.drops.isNone).foldl (fun h x=>(PR.pushR ⟨x.id,x.tier,0⟩ h).2) (some []))
def waitR (b:Br):List Nat:=(waitQ b).map fun x=>x.id.toNat
def lenR (b:Br) (x:Bj):Nat:=(x.w-x.credit)*b.rows
def profC (b:Br) (r n:Nat):Int:=
 if isUpB b.m n then match getJ b.js (atR b.m r n) with
  | none=>0
  | some x=>max 1 (lenR b x)
 else 1099511627776
def profR (b:Br):List (List Int):=(List.range b.rows).map fun r=>(List.range b.nodes).map fun n=>profC b r n
def asksR (b:Br):List PL.Ak:=(waitR b).map fun id=>match getJ b.js id with
 | none=>⟨0,0⟩
 | some x=>⟨x.k,lenR b x⟩
def loadOrd (x:Bj) (ns:List Nat):List Od:=ns.mapIdx fun rank n=>((n,{kind:=3,job:=x.id,ver:=x.ver,rank:=rank,credit:=x.credit}):Od)
def loadR (b:Br) (x:Bj) (s:PL.St):Br:=
 if (putR b.m x.id s.row s.nodes).1≠0 then {b with m:=(putR b.m x.id s.row s.nodes).2}
 else {b with m:=(putR b.m x.id s.row s.nodes).2,js:=setJ b.js {x with at_:=nats s.nodes,loaded:=some [],state:=1},orders:=b.orders++loadOrd x (nats s.nodes)}
def placeUp (b:Br):List (Nat×PL.St)→Br
 | []=>b
 | (id,s)::l=>placeUp (if s.ok=true∧s.at_=0 then match getJ b.js id with | none=>b | some x=>loadR b x s else b) l
def placeAll (b:Br):Br:=placeUp b ((waitR b).zip (PL.planR (profR b) (asksR b)))
def laterR (t n:Nat):Nat:=min (t+n) 4294967295
def candR (b:Br):List Cd:=(b.js.filter fun x=>decide (x.state=2) || decide (x.state=1)).map fun x=>(x.id,(x.tier:Int))
def warnJ (b:Br) (x:Bj):Br:=
 {b with js:=setJ b.js {x with warned:=true,till:=laterR b.now b.grace},orders:=b.orders++x.at_.map fun n=>((n,{kind:=12,job:=x.id,tick:=laterR b.now b.grace}):Od)}
def preemptR (b:Br):Br:=
 match waitR b with
 | []=>b
 | id::_=>if b.js.any (fun x=>x.warned || x.drops.isSome) then b else
  match getJ b.js id with
  | none=>b
  | some y=>each warnJ b (jobsR (choR b.m y.tier y.k (candR b)).1)
def readyR (b:Br) (l:List Nat):List Nat:=l.filter fun id=>match getJ b.js id with
 | none=>false
 | some x=>decide (x.state=2)&&x.drops.isNone&&decide (x.work<x.w)
def goJob (b:Br) (x:Bj):Br:=
 {b with js:=setJ b.js {x with ran:=some []},stops:=some (x.at_.foldl sAdd (b.stops.getD [])),orders:=b.orders++x.at_.map fun n=>((n,{kind:=5,gen:=b.gen,job:=x.id}):Od)}
def srtN (l:List Nat):List Nat:=l.mergeSort fun a b=>decide (a≤b)
def runR (b:Br) (l:List Nat):Br:=each goJob {b with gen:=u32 (b.gen+1),members:=srtN l,fin:=laterR b.now b.quantum,stops:=some []} (srtN l)
def startUp (b:Br) (row:Int):Nat→Br
 | 0=>b
 | i+1=>if (nextR b.m row).2=false then b
  else if (readyR b (rowIds b.m (nextR b.m row).1)).length > 0 then runR {b with row:=(nextR b.m row).1} (readyR b (rowIds b.m (nextR b.m row).1++fillIds b.m (nextR b.m row).1))
  else startUp b (nextR b.m row).1 i
def workR (b:Br):Br:=
 let b1:=each leaveJ b b.ids
 let b2:=placeAll b1
 let b3:=preemptR b2
 let b4:={b3 with m:=(repackR b3.m).1}
 let b5:=each saveR b4 b4.ids
 startUp b5 b5.row b5.rows
def tickR (b:Br) (now:Nat):Int×Br:=
 if now≤b.now then (12,b)
 else if now≤b.hold then (0,{b with now:=now})
 else if b.stops.isSome then
  if b.stopped=false∧(b.fin≤now∨idleB b=true) then (0,stopR {b with now:=now}) else (0,{b with now:=now})
 else (0,workR {b with now:=now})
def newR (nodes rows quantum grace hold:Nat):Br:={nodes:=nodes,rows:=rows,quantum:=quantum,grace:=grace,hold:=hold,now:=0,up:=[],js:=[],m:={mx0 rows nodes with up:=0#16},orders:=[],images:=[],done:=[],gen:=0,row:=-1,members:=[],fin:=0,stops:=none,stopped:=false}
structure Rk where
 place:Nat
 run:Bool:=false
 gen:Nat:=0
 frm:Nat:=0
 til:Nat:=0
instance:Inhabited Rk:=⟨⟨0,false,0,0,0⟩⟩
abbrev Rs:=List (Nat×Rk)
structure Nd where
 up:Bool
 rk:Rs
 inn:List Nt
 out:List (Nt×List Int)
 wrong:Bool
instance:Inhabited Nd:=⟨⟨true,[],[],[],false⟩⟩
def nGet {α:Type} (k:Nat):List (Nat×α)→Option α
 | []=>none
 | x::l=>if x.1=k then some x.2 else nGet k l
def nPut {α:Type} (k:Nat) (v:α):List (Nat×α)→List (Nat×α)
 | []=>[(k,v)]
 | x::l=>if x.1=k then (k,v)::l else x::nPut k v l
def nDel {α:Type} (k:Nat):List (Nat×α)→List (Nat×α)
 | []=>[]
 | x::l=>if x.1=k then l else x::nDel k l
def nLook (k:Nat) (l:List (Nat×Nat)):Nat:=(nGet k l).getD 0
def runOf (l:Rs):Nat:=match l.find? (·.2.run) with
 | none=>0
 | some x=>x.1
def amB (l:Rs):Bool:=decide ((l.filter (·.2.run)).length≤1)
def actR (nd:Nd) (x:Nt):Nd:=
 if x.kind=3 then {nd with wrong:=nd.wrong || (nGet x.job nd.rk).isSome,rk:=nPut x.job {place:=x.rank} nd.rk,out:=nd.out++[({kind:=4,job:=x.job},[])]}
 else if x.kind=5 then match nGet x.job nd.rk with
  | none=>{nd with wrong:=true}
  | some r=>{nd with wrong:=nd.wrong || decide (runOf nd.rk≠0),rk:=nPut x.job {r with run:=true,gen:=x.gen,frm:=0,til:=0} nd.rk}
 else if x.kind=6 then
  if runOf nd.rk≠0 then match nGet (runOf nd.rk) nd.rk with
   | none=>nd
   | some r=>{nd with rk:=nPut (runOf nd.rk) {r with run:=false} nd.rk,out:=nd.out++[({kind:=7,gen:=x.gen,job:=runOf nd.rk,frm:=r.frm,til:=r.til},[])]}
  else {nd with out:=nd.out++[({kind:=7,gen:=x.gen},[])]}
 else if x.kind=8 then match nGet x.job nd.rk with
  | none=>{nd with wrong:=true}
  | some r=>{nd with wrong:=nd.wrong || r.run,out:=nd.out++[({kind:=9,job:=x.job,ver:=x.ver,rank:=r.place},[(r.place:Int),((x.credit % 256:Nat):Int)])]}
 else if x.kind=10 then {nd with rk:=nDel x.job nd.rk,out:=nd.out++[({kind:=11,job:=x.job},[])]}
 else nd
def ndTick (now:Nat) (nd:Nd):Nd:=
 if runOf nd.rk≠0 then match nGet (runOf nd.rk) nd.rk with
  | none=>nd
  | some r=>{nd with rk:=nPut (runOf nd.rk) {r with til:=now,frm:=if r.frm=0 then now else r.frm} nd.rk}
 else nd
structure Jo where
 id:Nat
 tier:Nat
 k:Nat
 w:Nat
 deriving DecidableEq
structure Sm where
 b:Br
 cn:Nat
 cr:Nat
 cq:Nat
 cg:Nat
 nd:List Nd
 now:Nat
 next:Nat
 ran:List (Nat×Nat)
 jobs:List Jo
 gone:List Nat
 done:List Nat
 images:List Im
 fu:Nat
 ok:Bool
def jobOf (js:List Jo) (id:Nat):Option Jo:=js.find? fun j=>decide (j.id=id)
def setWrong (l:List Nd):List Nd:=match l with
 | []=>[]
 | x::l=>{x with wrong:=true}::l
def ordR (l:List Nd) (o:Od):List Nd:=match l[o.1]? with
 | none=>setWrong l
 | some x=>if x.up then l.set o.1 {x with inn:=x.inn++[o.2]} else setWrong l
def ordsR (l:List Nd) (os:List Od):List Nd:=os.foldl ordR l
def doneR (p:List Nd×List Nat) (id:Nat):List Nd×List Nat:=(if id∈p.2 then setWrong p.1 else p.1,sAdd p.2 id)
def takeR (s:Sm):Sm:=
 let l:=ordsR s.nd s.b.orders
 let p:=s.b.done.foldl doneR (l,s.done)
 {s with b:={s.b with orders:=[],images:=[],done:=[]},nd:=p.1,done:=p.2,images:=s.images++(imagesR s.b).1,fu:=s.fu+s.b.orders.length+s.b.images.length+s.b.done.length}
def cntOf (l:List Nd) (id:Nat):Nat:=(l.filter fun n=>decide (runOf n.rk=id)).length
def ranB (l:List Nd) (j:Jo):Bool:=decide (j.id≠0)&&decide (cntOf l j.id=j.k)&&decide (0<cntOf l j.id)
def ranR (s:Sm) (l:List Nd):List (Nat×Nat):=s.jobs.foldl (fun r j=>if ranB l j then nPut j.id (nLook j.id r+1) r else r) s.ran
def amAll (l:List Nd):Bool:=l.all fun n=>amB n.rk
def tkB (s:Sm):Bool:=decide (s.nd.length=s.cn)&&decide (1≤s.cn)&&(s.nd.all fun n=>decide (n.inn.length≤s.fu)&&decide (n.out.length≤s.fu))&&decide (s.images.length≤s.fu)&&decide (s.fu≤100000000000)&&decide (s.b.orders.length≤900000)&&decide (s.b.images.length≤900000)&&decide (s.b.done.length≤900000)
def wsB (b:Br):Bool:=b.js.all fun x=>decide (x.state≠0) || x.sav.isNone
def stB (s:Sm):Bool:=tkB s&&decide (s.now+1≤4294967295)&&amAll s.nd&&amAll (s.nd.map (ndTick (s.now+1)))&&wsB s.b&&decide (s.b.orders.length≤700000)&&decide (s.cn≤16)&&(s.ran.all fun x=>decide (x.2≤s.now))
def ntB (x:Nt×List Int):Bool:=decide (x.1.rank≤255)&&decide (x.1.frm≤4294967295)&&decide (x.1.til≤4294967295)&&decide (x.2.length≤1000000)
def stickR (s:Sm):Sm:=
 let l:=s.nd.map (ndTick (s.now+1))
 let t:=tickR s.b (s.now+1)
 takeR {s with now:=s.now+1,ran:=ranR s l,b:=t.2,nd:=if t.1≠0 then setWrong l else l,ok:=s.ok&&stB s}
abbrev hear1 (s:Sm) (i:Nat) (n:Nd) (x:Nt×List Int) (l:List (Nt×List Int)):Sm:={s with nd:=s.nd.set i {n with out:=l},b:=(hearR s.b i x.1 x.2).2}
abbrev act1 (s:Sm) (i:Nat) (n:Nd) (x:Nt) (l:List Nt):Sm:={s with nd:=s.nd.set i (actR {n with inn:=l} x),fu:=s.fu+1}
def deliverR (s:Sm) (i:Nat) (back:Bool):Bool×Sm:=match s.nd[i]? with
 | none=>(false,s)
 | some n=>if n.up=false then (false,s)
  else if back then match n.out with
   | []=>(false,s)
   | x::l=>(true,takeR {hear1 s i n x l with ok:=s.ok&&ntB x&&tkB s&&decide (s.b.orders.length≤800000)&&decide (s.b.images.length≤800000)&&tkB (hear1 s i n x l)})
  else match n.inn with
   | []=>(false,s)
   | x::l=>(true,{act1 s i n x l with ok:=s.ok&&amB n.rk&&tkB s})
abbrev pub1 (s:Sm) (x:Im) (l:List Im) (ok:Bool):Sm:={s with images:=l,b:=(publishedR s.b x.job x.ver ok).2}
def publishR (s:Sm) (ok:Bool):Bool×Sm:=match s.images with
 | []=>(false,s)
 | x::l=>(true,takeR {pub1 s x l ok with ok:=s.ok&&tkB s&&decide (s.b.orders.length≤800000)&&decide (s.b.done.length≤800000)&&tkB (pub1 s x l ok)})
def roundUp (s:Sm) (some_:Bool):Nat→Bool×Sm
 | 0=>(some_,s)
 | i+1=>
  let p:=roundUp s some_ i
  let q:=deliverR p.2 i false
  let r:=deliverR q.2 i true
  (r.1 || q.1 || p.1,r.2)
def calmUp (s:Sm):Nat→Sm
 | 0=>s
 | k+1=>
  let p:=publishR s true
  let q:=roundUp p.2 p.1 p.2.nd.length
  if q.1 then calmUp q.2 k else q.2
def calmR (s:Sm):Sm:=calmUp (stickR s) 3000
structure Ac where
 do_:Nat
 n:Nat
 tier:Nat
 k:Nat
 w:Nat
 back:Bool
 fail:Bool
abbrev up1 (s:Sm) (i:Nat) (n:Nd):Sm:={s with nd:=s.nd.set i {n with up:=true},b:=(upR' s.b i).2}
def beginR (nodes rows quantum grace:Nat):Sm:=
 {b:=(List.range nodes).foldl (fun b (i:Nat)=>(upR' b i).2) (newR nodes rows quantum grace 0),cn:=nodes,cr:=rows,cq:=quantum,cg:=grace,nd:=List.replicate nodes ⟨true,[],[],[],false⟩,now:=0,next:=1,ran:=[],jobs:=[],gone:=[],done:=[],images:=[],fu:=0,ok:=true}
end BN
theorem alGet_of_mem {α:Type} {z:Int} {v:α}:∀ {l:List (Int×α)},(l.map (·.1)).Nodup→(z,v)∈l→alGet z l=some v
 | [],_,h=>by cases h
 | x::l,hn,h=>by
  rw[List.map_cons,List.nodup_cons]at hn;unfold alGet
  rcases List.mem_cons.1 h with rfl | h
  ·rw[if_pos rfl]
  ·rw[if_neg (fun e=>hn.1 (List.mem_map.2 ⟨_,h,e⟩)),alGet_of_mem hn.2 h]
theorem alGet_perm {α:Type} {l l':List (Int×α)} (h:l.Perm l') (hn:(l.map (·.1)).Nodup) (z:Int):alGet z l=alGet z l':=by
 have hn':(l'.map (·.1)).Nodup:=(h.map _).nodup_iff.1 hn;cases e:alGet z l' with
 | some v=>
  have hm:(z,v)∈l':=by
   have:=alFind_get z l' 0;rw[e]at this;cases hf:alFind z l' 0 with
   | none=>rw[hf]at this;cases this
   | some p=>
    obtain⟨j,u⟩:=p;rw[hf]at this;cases this;obtain⟨k,_,h2,_⟩:=alFind_some hf;exact List.mem_of_getElem? h2
  exact alGet_of_mem hn (h.mem_iff.2 hm)
 | none=>
  cases e2:alGet z l with
  | none=>rfl
  | some v=>
   have hm:(z,v)∈l:=by
    have:=alFind_get z l 0;rw[e2]at this;cases hf:alFind z l 0 with
    | none=>rw[hf]at this;cases this
    | some p=>
     obtain⟨j,u⟩:=p;rw[hf]at this;cases this;obtain⟨k,_,h2,_⟩:=alFind_some hf;exact List.mem_of_getElem? h2
   rw[alGet_of_mem hn' (h.mem_iff.1 hm)]at e;cases e
theorem alPut_new {α:Type} {z:Int} {v:α} {l:List (Int×α)} (h:alGet z l=none):alPut z v l=l++[(z,v)]:=by
 have:=alFind_get z l 0;rw[h]at this;cases hf:alFind z l 0 with
 | none=>exact(alFind_none hf).1 v
 | some p=>rw[hf]at this;cases this
theorem perm_erase {α:Type} {l:List α} {k:Nat} {a:α} (h:l[k]?=some a):l.Perm (a::l.eraseIdx k):=by
 obtain⟨hk,e⟩:=List.getElem?_eq_some_iff.1 h
 have hsp:l=l.take k++a::l.drop (k+1):=by
  conv=>lhs;rw[←List.take_append_drop k l,List.drop_eq_getElem_cons hk,e]
 rw[List.eraseIdx_eq_take_drop_succ]
 conv=>lhs;rw[hsp]
 exact List.perm_middle
theorem alDel_perm {α:Type} {z:Int} {v:α} {l m:List (Int×α)} (h:l.Perm ((z,v)::m)) (hn:(l.map (·.1)).Nodup):(alDel z l).Perm m:=by
 have hg:alGet z l=some v:=alGet_of_mem hn (h.mem_iff.2 (List.mem_cons_self ..));have:=alFind_get z l 0;rw[hg]at this;cases hf:alFind z l 0 with
 | none=>rw[hf]at this;cases this
 | some p=>
  obtain⟨j,u⟩:=p;rw[hf]at this;have hu:v=u:=(Option.some.inj this).symm;subst hu;obtain⟨k,_,h2,_,h4⟩:=alFind_some hf;rw[h4];exact List.Perm.cons_inv ((perm_erase h2).symm.trans h)
namespace BN
abbrev JsOk (js:List Bj):Prop:=js.Pairwise (fun a b=>a.id<b.id)
theorem getJ_some {js:List Bj} {id:Nat} {x:Bj} (h:getJ js id=some x):x∈js∧x.id=id:=by
 have h9:=List.find?_some h;exact⟨List.mem_of_find?_eq_some h,of_decide_eq_true h9⟩
theorem getJ_mem {js:List Bj} (hs:JsOk js) {x:Bj} (h:x∈js):getJ js x.id=some x:=by
 unfold getJ;induction js with
 | nil=>cases h
 | cons y l ih=>
  obtain⟨h1,h2⟩:=List.pairwise_cons.1 hs;rw[List.find?_cons]
  rcases List.mem_cons.1 h with rfl | h
  ·simp
  ·rw[decide_eq_false (show ¬y.id=x.id by have:=h1 x h;omega)];exact ih h2 h
theorem getJ_none {js:List Bj} {id:Nat} (h:getJ js id=none):∀x∈js,x.id≠id:=fun x hx e=>by
 have:=List.find?_eq_none.1 h x hx;simp[e]at this
theorem setJ_ids (js:List Bj) (x:Bj):(setJ js x).map (·.id)=js.map (·.id):=by
 rw[setJ,List.map_map];refine List.map_congr_left fun y _=>?_;show (if y.id=x.id then x else y).id=y.id
 split
 ·rename_i h;exact h.symm
 ·rfl
theorem ids_ok {js js':List Bj} (h:JsOk js) (e:js'.map (·.id)=js.map (·.id)):JsOk js':=by
 have h2:=List.pairwise_map.2 h;rw[←e]at h2;exact List.pairwise_map.1 h2
theorem setJ_ok {js:List Bj} (h:JsOk js) (x:Bj):JsOk (setJ js x):=ids_ok h (setJ_ids js x)
theorem setJ_len (js:List Bj) (x:Bj):(setJ js x).length=js.length:=List.length_map ..
theorem getJ_set (js:List Bj) (x:Bj) (id:Nat):getJ (setJ js x) id=if id=x.id then (getJ js id).map (fun _=>x) else getJ js id:=by
 unfold getJ setJ;induction js with
 | nil=>split <;> rfl
 | cons y l ih=>
  rw[List.map_cons,List.find?_cons,List.find?_cons]
  by_cases e:y.id=x.id
  ·by_cases e2:id=x.id
   ·rw[if_pos e2]at ih;rw[if_pos e,if_pos e2];have a1:decide (x.id=id)=true:=decide_eq_true e2.symm;have a2:decide (y.id=id)=true:=decide_eq_true (e.trans e2.symm);simp only[a1,a2];rfl
   ·rw[if_neg e2]at ih;rw[if_pos e,if_neg e2];have a1:decide (x.id=id)=false:=decide_eq_false fun h=>e2 h.symm;have a2:decide (y.id=id)=false:=decide_eq_false fun h=>e2 (h.symm.trans e);simp only[a1,a2];exact ih
  ·by_cases e2:id=x.id
   ·rw[if_pos e2]at ih;rw[if_neg e,if_pos e2];have a2:decide (y.id=id)=false:=decide_eq_false fun h=>e (h.trans e2);simp only[a2];exact ih
   ·rw[if_neg e2]at ih;rw[if_neg e,if_neg e2];cases decide (y.id=id) with
    | true=>rfl
    | false=>exact ih
theorem setJ_set (js:List Bj) {x y:Bj} (h:x.id=y.id):setJ (setJ js x) y=setJ js y:=by
 unfold setJ;rw[List.map_map];refine List.map_congr_left fun z _=>?_;show (if (if z.id=x.id then x else z).id=y.id then y else if z.id=x.id then x else z)=_
 by_cases e:z.id=x.id
 ·rw[if_pos e,if_pos h,if_pos (e.trans h)]
 ·rw[if_neg e]
theorem rmJ_set (js:List Bj) (x:Bj):rmJ (setJ js x) x.id=rmJ js x.id:=by
 unfold rmJ setJ;induction js with
 | nil=>rfl
 | cons y l ih=>
  rw[List.map_cons,List.filter_cons,List.filter_cons,ih]
  by_cases e:y.id=x.id
  ·rw[if_pos e];simp[e]
  ·rw[if_neg e]
theorem getJ_at {js:List Bj} (hs:JsOk js) {id:Nat} {x:Bj} (h:getJ js id=some x):∃i,js[i]?=some x∧(∀y:Bj,y.id=id→setJ js y=js.set i y)∧rmJ js id=js.eraseIdx i:=by
 obtain⟨h1,h2⟩:=getJ_some h;obtain⟨i,hi,e⟩:=List.getElem_of_mem h1
 refine⟨i,by rw[List.getElem?_eq_getElem hi,e],fun y hy=>?_,?_⟩
 ·refine List.ext_getElem? fun k=>?_;rw[setJ,List.getElem?_map,List.getElem?_set]
  by_cases ek:i=k
  ·subst ek;rw[if_pos rfl,if_pos hi,List.getElem?_eq_getElem hi,e,Option.map_some,if_pos (h2.trans hy.symm)]
  ·rw[if_neg ek];cases hk:js[k]? with
   | none=>rfl
   | some z=>
    rw[Option.map_some,if_neg];intro e3;obtain⟨hk1,hk2⟩:=List.getElem?_eq_some_iff.1 hk
    have hne:js[k].id≠js[i].id:=by
     rcases Nat.lt_or_gt_of_ne ek with h | h
     ·have:=List.pairwise_iff_getElem.1 hs i k hi hk1 h;omega
     ·have:=List.pairwise_iff_getElem.1 hs k i hk1 hi h;omega
    rw[hk2,e]at hne;exact hne (e3.trans (hy.trans h2.symm))
 ·have hsp:js=js.take i++x::js.drop (i+1):=by
   conv=>lhs;rw[←List.take_append_drop i js,List.drop_eq_getElem_cons hi,e]
  have hs2:(js.take i++x::js.drop (i+1)).Pairwise (fun a b:Bj=>a.id<b.id):=hsp ▸ hs;rw[List.pairwise_append]at hs2;obtain⟨_,q2,q3⟩:=hs2;have q4:=(List.pairwise_cons.1 q2).1;rw[List.eraseIdx_eq_take_drop_succ,rmJ]
  conv=>lhs;rw[hsp]
  rw[List.filter_append,List.filter_cons,if_neg (by simp[h2])]
  congr 1
  ·refine List.filter_eq_self.2 fun z hz=>decide_eq_true ?_;have:=q3 z hz x (List.mem_cons_self ..);omega
  ·refine List.filter_eq_self.2 fun z hz=>decide_eq_true ?_;have:=q4 z hz;omega
theorem setJ_self {js:List Bj} (hs:JsOk js) {x:Bj} (h:getJ js x.id=some x):setJ js x=js:=by
 obtain⟨i,h1,h2,_⟩:=getJ_at hs h;rw[h2 x rfl];refine List.ext_getElem? fun k=>?_
 by_cases e:i=k
 ·subst e;rw[List.getElem?_set_self (List.getElem?_eq_some_iff.1 h1).1,h1]
 ·rw[List.getElem?_set_ne e]
theorem rmJ_ok {js:List Bj} (h:JsOk js) (id:Nat):JsOk (rmJ js id):=h.filter _
theorem mem_insJ {x y:Bj}:∀ {js:List Bj},y∈insJ x js↔y=x∨y∈js
 | []=>by simp[insJ]
 | z::l=>by
  unfold insJ
  split
  ·simp
  ·rw[List.mem_cons,mem_insJ,List.mem_cons]
   constructor
   ·rintro (h | h | h)
    ·exact .inr (.inl h)
    ·exact .inl h
    ·exact .inr (.inr h)
   ·rintro (h | h | h)
    ·exact .inr (.inl h)
    ·exact .inl h
    ·exact .inr (.inr h)
theorem insJ_perm (x:Bj):∀js:List Bj,(insJ x js).Perm (x::js)
 | []=>.refl _
 | y::l=>by
  unfold insJ
  split
  ·exact .refl _
  ·exact((insJ_perm x l).cons y).trans (.swap x y l)
theorem insJ_ok {x:Bj}:∀ {js:List Bj},JsOk js→(∀y∈js,y.id≠x.id)→JsOk (insJ x js)
 | [],_,_=>List.pairwise_singleton _ _
 | y::l,h,hn=>by
  obtain⟨h1,h2⟩:=List.pairwise_cons.1 h;unfold insJ
  split
  ·rename_i hlt;refine List.pairwise_cons.2 ⟨fun z hz=>?_,h⟩
   rcases List.mem_cons.1 hz with rfl | hz
   ·exact hlt
   ·have:=h1 z hz;omega
  ·rename_i hlt;refine List.pairwise_cons.2 ⟨fun z hz=>?_,insJ_ok h2 fun z hz=>hn z (List.mem_cons_of_mem _ hz)⟩
   rcases mem_insJ.1 hz with rfl | hz
   ·have:=hn y (List.mem_cons_self ..);omega
   ·exact h1 z hz
abbrev jE (ps:Nat→Nat) (x:Bj):Int×Value:=((x.id:Int),.pointer (some ⟨ps x.id,0,none⟩))
theorem jE_get {ps:Nat→Nat} {js:List Bj} (hs:JsOk js) {l:List (Int×Value)} (hp:l.Perm (js.map (jE ps))) (id:Nat):alGet (id:Int) l=(getJ js id).map fun x=>Value.pointer (some ⟨ps x.id,0,none⟩):=by
 have hk:((js.map (jE ps)).map (·.1)).Nodup:=by
  rw[List.map_map];refine List.pairwise_map.2 (hs.imp fun h e=>?_);have e:(_:Int)=_:=e;simp only[Function.comp]at e;omega
 have hn:(l.map (·.1)).Nodup:=(hp.map _).nodup_iff.2 hk;rw[alGet_perm hp hn];cases hg:getJ js id with
 | some x=>
  obtain⟨h1,h2⟩:=getJ_some hg;exact alGet_of_mem hk (List.mem_map.2 ⟨x,h1,by rw[←h2]⟩)
 | none=>
  refine alGet_notin fun h=>?_;obtain⟨q,hq,e⟩:=List.mem_map.1 h;obtain⟨x,hx,e2⟩:=List.mem_map.1 hq;subst e2;have e:(x.id:Int)=id:=e;exact getJ_none hg x hx (by omega)
theorem jE_set (ps:Nat→Nat) (js:List Bj) (x:Bj):(setJ js x).map (jE ps)=js.map (jE ps):=by
 have h:=setJ_ids js x;have e:∀l:List Bj,l.map (jE ps)=(l.map (·.id)).map fun i:Nat=>((i:Int),Value.pointer (some ⟨ps i,0,none⟩)):=fun l=>by rw[List.map_map];rfl
 rw[e,e,h]
theorem jE_rm {ps:Nat→Nat} {js:List Bj} (hs:JsOk js) {l:List (Int×Value)} (hp:l.Perm (js.map (jE ps))) {id:Nat} {x:Bj} (h:getJ js id=some x):(alDel (id:Int) l).Perm ((rmJ js id).map (jE ps)):=by
 have hk:((js.map (jE ps)).map (·.1)).Nodup:=by
  rw[List.map_map];refine List.pairwise_map.2 (hs.imp fun h e=>?_);have e:(_:Int)=_:=e;simp only[Function.comp]at e;omega
 have hn:(l.map (·.1)).Nodup:=(hp.map _).nodup_iff.2 hk;obtain⟨i,h1,_,h3⟩:=getJ_at hs h;obtain⟨hi,e⟩:=List.getElem?_eq_some_iff.1 h1;refine alDel_perm (v:=.pointer (some ⟨ps x.id,0,none⟩)) (hp.trans ?_) hn;rw[h3];have:=(perm_erase h1).map (jE ps);rw[List.map_cons]at this;rw[←(getJ_some h).2];exact this
end BN
open Go.Sort
abbrev uA (d:Array Int):List Value:=d.toList.map (Value.int .u32)
theorem uA_len (d:Array Int):(uA d).length=d.size:=by simp
theorem uA_get {d:Array Int} {i:Nat} (h:i<d.size):(uA d)[i]?=some (.int .u32 d[i]!):=by simp[h]
theorem uA_set (d:Array Int) (i:Nat) (x:Int):(uA d).set i (.int .u32 x)=uA (d.setIfInBounds i x):=by simp[uA,List.map_set]
theorem swpZ (d:Array Int) (i j:Nat):(swp d i j).size=d.size:=by simp[swp]
theorem isNaNU_S (x:Int):Spec Tryz.prog 192 [.int .u32 x] [] fun Γ v Θ=>v=.bool false∧Θ=Γ:=by
 refine Zbd Tryz.func192 rfl Tryz.ntmps192 fun w0 Γ=>Zsh ?_;refine ZY 8 ?_;refine ZY 4 ?_;exact Zf ef Zq (⟨by simp only[resV];rw[decide_eq_false (fun h=>h rfl)],rfl⟩)
theorem Less_S (x y:Int):Spec Tryz.prog 162 [.int .u32 x,.int .u32 y] [] fun Γ v Θ=>v=.bool (ltInt x y)∧Θ=Γ:=by
 refine Zbd Tryz.func162 rfl Tryz.ntmps162 fun w0 Γ=>Zsh ?_;refine ZY 7 ?_;refine Zp (Zcp Ze (isNaNU_S x) ?_);refine ZY 8 ?_;refine ZY 5 ?_;exact Zf ef Zq (⟨rfl,rfl⟩)
theorem insInner_stop {a j:Nat} {d:Array Int} (h:¬(a<j∧ltInt d[j]! d[j-1]! = true)):insInner ltInt a j d=d:=by
 cases j with
 | zero=>rfl
 | succ j=>
  rw[insInner,if_neg];simp only[Nat.add_sub_cancel]at h;simp only[Bool.and_eq_true,decide_eq_true_eq];exact h
theorem insInner_step {a j:Nat} {d:Array Int} (h:a<j) (h2:ltInt d[j]! d[j-1]! = true):insInner ltInt a j d=insInner ltInt a (j-1) (swp d j (j-1)):=by
 cases j with
 | zero=>omega
 | succ j=>
  simp only[Nat.add_sub_cancel]at h2 ⊢;rw[insInner,if_pos];simp only[Bool.and_eq_true,decide_eq_true_eq];exact⟨h,h2⟩
theorem insSort_S (s:SV) (d:Array Int) (a b:Nat) (hab:a≤b) (hb:b≤d.size) (hsz:d.size≤65535) (hsn:s.n=d.size):Spec Tryz.prog 156 [s.v,.int .i64 (a:Int),.int .i64 (b:Int)] [own s 31 1 (uA d)] fun Γ _ Θ=>Θ=own s 31 1 (uA (insertionSort ltInt d a b))::Γ:=by
 refine Zbd Tryz.func156 rfl Tryz.ntmps156 fun w0 Γ=>Zsh ?_;refine ZY 3 ?_;refine Zv (Za ef ef) ?_;refine ZY 3 ?_;refine Zl (fun q ρ' Γ'=>∃(i:Nat) (e:Array Int),q=b-i∧a+1≤i∧i≤65536∧e.size=d.size∧insOuter ltInt a b i e=insertionSort ltInt d a b∧ρ'=[(0,s.v),(1,.int .i64 (a:Int)),(2,.int .i64 (b:Int)),(6,.int .i64 (i:Int))]∧Γ'=own s 31 1 (uA e)::Γ) (m:=_) (⟨a+1,d,rfl,by omega,by omega,rfl,rfl,rfl,rfl⟩) ?_;rintro q ρ' Γ' ⟨i,e,hq,hai,hi9,hes,hio,rfl,rfl⟩;refine ZY 7 ?_
 refine Zj ef (fun h1=>?_) (fun h1=>?_)
 ·refine S.ownSome s (by omega) fun sb so hsa _ _ _=>?_;refine ZY 2 ?_
  refine Zc (fun ρ' Γ'=>∃e2:Array Int,e2.size=d.size∧e2=insInner ltInt a i e∧ρ'=[(0,s.v),(1,.int .i64 (a:Int)),(2,.int .i64 (b:Int)),(6,.int .i64 (i:Int))]∧Γ'=own s 31 1 (uA e2)::Γ) ?_ ?_
  ·refine ZY 7 ?_;refine Zl (fun q2 ρ' Γ'=>∃(j:Nat) (z:Int) (e2:Array Int),q2=j∧z=j∧j≤i∧e2.size=d.size∧insInner ltInt a j e2=insInner ltInt a i e∧ρ'=[(0,s.v),(1,.int .i64 (a:Int)),(2,.int .i64 (b:Int)),(6,.int .i64 (i:Int)),(7,.int .i64 z)]∧Γ'=own s 31 1 (uA e2)::Γ) (m:=_) (⟨i,i,e,rfl,rfl,Nat.le_refl _,hes,rfl,rfl,rfl⟩) ?_;rintro q2 ρ' Γ' ⟨j,z,e2,hq2,hz,hji,he2,hin,rfl,rfl⟩;refine ZY 2 ?_;refine Zd ([own s 31 1 (uA e2)]) [] (Zra 0 4) ?_;refine ZY 4 ?_
   refine Zb 19 ef (fun hg4_3=>?_) (fun hg4_3=>?_)
   ·refine Zr (Zra 4 9) ?_;refine ZY 2 ?_;refine Zwg ef ef ef ef (Zx (j) ef (hsa) ef (by omega) (hz)) ?_;refine Zwg ef ef ef ef (Zo (s) (j) ef (hsa) (uA_get (by omega))) ?_;refine ZY 2 ?_;refine Zwg ef ef ef ef (Zm ef ef) ?_;refine Zwg ef ef ef ef (Zx (j-1) ef (hsa) ef (by omega) ((by omega))) ?_;refine Zwg ef ef ef ef (Zo (s) (j-1) ef (hsa) (uA_get (by omega))) ?_;refine Z1g (i:=13) ef ef ef ef ef (rfl) ?_;refine  (Zcp Ze (Less_S (e2[j]!) (e2[j-1]!)) ?_);refine Zk [14] ?_;refine Zy ?_;refine ZD ?_
    refine Zi ef (fun h2=>?_) (fun h2=>?_)
    ·have hst:=insInner_step (a:=a) (j:=j) (d:=e2) (by omega) h2;rw[hin]at hst;refine ZY 3 ?_;refine Zd ([own s 31 1 (uA e2)]) [15] [0,1] ?_;refine ZY 2 ?_;refine ZP 2 [] ef (q_move rfl) ef ?_;refine ZP 3 [] ef (q_move rfl) ef ?_;refine ZP 4 (Zra 5 10) ef (q_sub rfl rfl (inI64 (by omega) (by omega))) ef ?_;refine ZY 2 ?_;refine Zw ef (Zm ef ef) ?_;refine Zw ef (Zx (j-1) ef (hsa) ef (by omega) ((by omega))) ?_;refine Zw ef (Zo (s) (j-1) ef (hsa) (uA_get (by omega))) ?_;refine ZY 2 ?_;refine Zw ef (Zx (j) ef (hsa) ef (by omega) (hz)) ?_;refine Zw ef (Zo (s) (j) ef (hsa) (uA_get (by omega))) ?_;refine Zw ef (Zx (j) ef (hsa) ef (by omega) (hz)) ?_;refine Z1 (i:=15) ef ef ?_;refine(S.storeOw (s) (j) Eo.h rfl rfl rfl hsa (by first | rfl | exact Nat.add_assoc _ _ _ | omega) (by rw[uA_len];omega) (uA_set _ _ _) ?_);refine ZL ([]) [16] ?_;refine Zw ef (Zx (j-1) ef (hsa) ef (by omega) ((by omega))) ?_;refine Z1 (i:=17) ef ef ?_;refine(S.storeOw (s) (j-1) Eo.h rfl rfl rfl hsa (by first | rfl | exact Nat.add_assoc _ _ _ | omega) (by rw[uA_len,Array.size_setIfInBounds];omega) (show _=uA (Go.Sort.swp e2 (j) (j-1)) from uA_set _ _ _) ?_);refine Zk [] ?_;refine ZD ?_;refine ZY 2 ?_;refine Zv (Zm ef ef) ?_;refine ZY 2 ?_;exact ZX (j-1) (⟨j-1,z-1,swp e2 j (j-1),rfl,by omega,by omega,by rw[swpZ,he2],hst.symm,rfl,rfl⟩) (by omega)
    ·have hst:insInner ltInt a j e2=e2:=insInner_stop (fun h=>by rw[h.2]at h2;cases h2);refine Zy ?_;exact ZM ⟨e2,he2,hst.symm.trans hin,rfl,rfl⟩
   ·have hst:insInner ltInt a j e2=e2:=insInner_stop (fun h=>hg4_3 (by omega));refine Zr (Zra 4 11) ?_;refine ZY 8 ?_;refine ZY 3 ?_;refine ZD ?_;refine ZY 2 ?_;exact ZM ⟨e2,he2,hst.symm.trans hin,rfl,rfl⟩
  ·rintro ρ' Γ' ⟨e2,he2,hin,rfl,rfl⟩;refine ZY 2 ?_;refine Zv (Za ef ef) ?_;refine ZY 2 ?_;exact ZX (q-1) (⟨i+1,e2,by omega,by omega,by omega,he2,by rw[hin,←hio];conv=>rhs;rw[insOuter,if_pos (by omega)],rfl,rfl⟩) (by omega)
 ·refine Zy ?_;exact Zfn ef Zq (by have hfin:insertionSort ltInt d a b=e:=(by rw[←hio,insOuter,if_neg (by omega)]);rw[hfin])
theorem sift_sizeN (hi F:Nat):∀(n r:Nat) (d:Array Int),hi-r≤n→(siftDown ltInt hi F r d).size=d.size
 | 0,r,d,h=>by rw[siftDown,dif_pos (by omega)]
 | n+1,r,d,h=>by
  rw[siftDown]
  split
  ·rfl
  split
  ·split
   ·rfl
   split
   ·rw[sift_sizeN hi F n _ _ (by omega),swpZ]
   ·rfl
  ·split
   ·rfl
   ·rw[sift_sizeN hi F n _ _ (by omega),swpZ]
theorem sift_size (hi F r:Nat) (d:Array Int):(siftDown ltInt hi F r d).size=d.size:=sift_sizeN hi F _ r d (Nat.le_refl _)
theorem siftDown_S (s:SV) (d:Array Int) (lo hi F:Nat) (hF:F+hi≤d.size) (hlo:lo≤65535) (hsz:d.size≤65535) (hsn:s.n=d.size):Spec Tryz.prog 187 [s.v,.int .i64 (lo:Int),.int .i64 (hi:Int),.int .i64 (F:Int)] [own s 31 1 (uA d)] fun Γ _ Θ=>Θ=own s 31 1 (uA (siftDown ltInt hi F lo d))::Γ:=by
 refine Zbd Tryz.func187 rfl Tryz.ntmps187 fun w0 Γ=>Zsh ?_;refine ZY 6 ?_;refine Zl (fun q ρ' Γ'=>∃(r:Nat) (z:Int) (e:Array Int),q=hi-r∧z=r∧r≤65535∧e.size=d.size∧siftDown ltInt hi F r e=siftDown ltInt hi F lo d∧ρ'=[(0,s.v),(1,.int .i64 (lo:Int)),(2,.int .i64 (hi:Int)),(3,.int .i64 (F:Int)),(8,.int .i64 z)]∧Γ'=own s 31 1 (uA e)::Γ) (m:=_) (⟨lo,lo,d,rfl,rfl,hlo,rfl,rfl,rfl,rfl⟩) ?_;rintro q ρ' Γ' ⟨r,z,e,hq,hz,hr9,hes,hsd,rfl,rfl⟩;refine ZY 4 ?_;refine Zv (q_mul rfl rfl (inI64 (by omega) (by omega))) ?_;refine Zv (Za ef ef) ?_;refine ZY 8 ?_;refine Zy ?_
 refine Zj ef (fun h1=>?_) (fun h1=>?_)
 ·have hfin:e=siftDown ltInt hi F lo d:=by rw[←hsd,siftDown,dif_pos (by omega)]
  refine Zy ?_;exact Zfn ef Zq (by rw[←hfin])
 ·refine S.ownSome s (by omega) fun sb so hsa _ _ _=>?_;have hno:¬(2*r+1≥hi):=by omega
  refine ZY 3 ?_
  refine Zc (fun ρ' Γ'=>∃bb:Bool,bb=(decide (2*r+1+1<hi)&&ltInt e[F+(2*r+1)]! e[F+(2*r+1)+1]!)∧ρ'=[(0,s.v),(1,.int .i64 (lo:Int)),(2,.int .i64 (hi:Int)),(3,.int .i64 (F:Int)),(8,.int .i64 z),(9,.int .i64 (2*z+1)),(36,.bool bb)]∧Γ'=own s 31 1 (uA e)::Γ) ?_ ?_
  ·refine Zd ([own s 31 1 (uA e)]) [] (Zra 0 5) ?_;refine Zy ?_;refine Zw ef (Za ef ef) ?_;refine ZY 3 ?_
   refine Zb 21 ef (fun hg3_4=>?_) (fun hg3_4=>?_)
   ·refine Zr (Zra 5 13) ?_;refine ZY 3 ?_;refine Zwg ef ef ef ef (Za ef ef) ?_;refine Zwg ef ef ef ef (Zx (F+(2*r+1)) ef (hsa) ef (by omega) ((by omega))) ?_;refine Zwg ef ef ef ef (Zo (s) (F+(2*r+1)) ef (hsa) (uA_get (by omega))) ?_;refine ZY 3 ?_;refine Zwg ef ef ef ef (Za ef ef) ?_;refine Zwg ef ef ef ef (Za ef ef) ?_;refine Zwg ef ef ef ef (Zx (F+(2*r+1)+1) ef (hsa) ef (by omega) ((by omega))) ?_;refine Zwg ef ef ef ef (Zo (s) (F+(2*r+1)+1) ef (hsa) (uA_get (by omega))) ?_;refine Z1g (i:=18) ef ef ef ef ef (rfl) ?_;refine  (Zcp Ze (Less_S (e[F+(2*r+1)]!) (e[F+(2*r+1)+1]!)) ?_);refine Zk [19] ?_;refine Zy ?_;refine ZD ?_;first | (exact S.meet ⟨_,by rw[decide_eq_true (show 2*r+1+1<hi by omega)];rfl,rfl,rfl⟩ ⟨rfl,rfl,rfl,rfl,rfl,rfl,rfl,trivial⟩ Sub.ent) | (exact S.meet ⟨_,by rw[decide_eq_false (show ¬2*r+1+1<hi by omega)];rfl,rfl,rfl⟩ ⟨rfl,rfl,rfl,rfl,rfl,rfl,rfl,trivial⟩ Sub.ent)
   ·refine Zr (Zra 5 15) ?_;refine ZY 8 ?_;refine ZY 7 ?_;refine ZD ?_;first | (exact S.meet ⟨_,by rw[decide_eq_true (show 2*r+1+1<hi by omega)];rfl,rfl,rfl⟩ ⟨rfl,rfl,rfl,rfl,rfl,rfl,rfl,trivial⟩ Sub.ent) | (exact S.meet ⟨_,by rw[decide_eq_false (show ¬2*r+1+1<hi by omega)];rfl,rfl,rfl⟩ ⟨rfl,rfl,rfl,rfl,rfl,rfl,rfl,trivial⟩ Sub.ent)
  ·rintro ρ' Γ' ⟨bb,hbb,rfl,rfl⟩
   refine Zc (fun ρ' Γ'=>∃(c:Nat) (zc:Int),zc=c∧r<c∧c<hi∧(siftDown ltInt hi F r e=if (!ltInt e[F+r]! e[F+c]!)=true then e else siftDown ltInt hi F c (swp e (F+r) (F+c)))∧ρ'=[(0,s.v),(1,.int .i64 (lo:Int)),(2,.int .i64 (hi:Int)),(3,.int .i64 (F:Int)),(8,.int .i64 z),(9,.int .i64 zc)]∧Γ'=own s 31 1 (uA e)::Γ) ?_ ?_
   ·refine Zi ef (fun h2=>?_) (fun h2=>?_)
    ·rw[h2]at hbb
     have hb2:2*r+2<hi:=by
      have:=hbb.symm;rw[Bool.and_eq_true,decide_eq_true_eq]at this;omega
     have hstep:siftDown ltInt hi F r e=if (!ltInt e[F+r]! e[F+(2*r+2)]!)=true then e else siftDown ltInt hi F (2*r+2) (swp e (F+r) (F+(2*r+2))):=by
      conv=>lhs;rw[siftDown,dif_neg hno,if_pos hbb.symm,dif_pos hb2]
     refine ZY 2 ?_;refine Zv (Za ef ef) ?_;refine ZY 2 ?_;first | exact S.meet ⟨2*r+2,2*z+1+1,by omega,by omega,hb2,hstep,rfl,rfl⟩ ⟨rfl,rfl,rfl,rfl,rfl,rfl,trivial⟩ Sub.ent | exact S.meet ⟨2*r+1,2*z+1,by omega,by omega,hb2,hstep,rfl,rfl⟩ ⟨rfl,rfl,rfl,rfl,rfl,rfl,trivial⟩ Sub.ent
    ·rw[h2]at hbb;have hb2:2*r+1<hi:=by omega
     have hstep:siftDown ltInt hi F r e=if (!ltInt e[F+r]! e[F+(2*r+1)]!)=true then e else siftDown ltInt hi F (2*r+1) (swp e (F+r) (F+(2*r+1))):=by
      conv=>lhs;rw[siftDown,dif_neg hno,if_neg (by rw[←hbb];simp)]
     refine Zy ?_;first | exact S.meet ⟨2*r+2,2*z+1+1,by omega,by omega,hb2,hstep,rfl,rfl⟩ ⟨rfl,rfl,rfl,rfl,rfl,rfl,trivial⟩ Sub.ent | exact S.meet ⟨2*r+1,2*z+1,by omega,by omega,hb2,hstep,rfl,rfl⟩ ⟨rfl,rfl,rfl,rfl,rfl,rfl,trivial⟩ Sub.ent
   ·rintro ρ' Γ' ⟨c,zc,hzc,hrc,hch,hstep,rfl,rfl⟩;refine ZY 2 ?_;refine Zd ([own s 31 1 (uA e)]) [] (Zra 0 12) ?_;refine ZY 3 ?_;refine Zw ef (Za ef ef) ?_;refine Zw ef (Zx (F+r) ef (hsa) ef (by omega) ((by omega))) ?_;refine Zw ef (Zo (s) (F+r) ef (hsa) (uA_get (by omega))) ?_;refine ZY 3 ?_;refine Zw ef (Za ef ef) ?_;refine Zw ef (Zx (F+c) ef (hsa) ef (by omega) ((by omega))) ?_;refine Zw ef (Zo (s) (F+c) ef (hsa) (uA_get (by omega))) ?_;refine Z1 (i:=12) ef ef ?_;refine  (Zcp Ze (Less_S (e[F+r]!) (e[F+c]!)) ?_);refine Zk [13] ?_;refine Zy ?_;refine ZD ?_
    refine Zi ef (fun h3=>?_) (fun h3=>?_)
    ·have hfin:e=siftDown ltInt hi F lo d:=by rw[←hsd,hstep,if_pos h3]
     refine Zy ?_;exact Zf ef Zq (by rw[←hfin])
    ·have hfin:siftDown ltInt hi F c (swp e (F+r) (F+c))=siftDown ltInt hi F lo d:=by rw[←hsd,hstep,if_neg (by rw[h3];simp)]
     refine ZY 2 ?_;refine Zd ([own s 31 1 (uA e)]) [21] (Zra 0 4) ?_;refine ZY 3 ?_;refine Zw ef (Za ef ef) ?_;refine ZP 4 [] ef (q_move rfl) ef ?_;refine ZP 5 [] ef (q_move rfl) ef ?_;refine ZP 6 [] ef (q_move rfl) ef ?_;refine ZP 7 (Zra 8 13) ef (q_add rfl rfl (inI64 (by omega) (by omega))) ef ?_;refine ZY 3 ?_;refine Zw ef (Za ef ef) ?_;refine Zw ef (Zx (F+c) ef (hsa) ef (by omega) ((by omega))) ?_;refine Zw ef (Zo (s) (F+c) ef (hsa) (uA_get (by omega))) ?_;refine ZY 3 ?_;refine Zw ef (Za ef ef) ?_;refine Zw ef (Zx (F+r) ef (hsa) ef (by omega) ((by omega))) ?_;refine Zw ef (Zo (s) (F+r) ef (hsa) (uA_get (by omega))) ?_;refine Zw ef (Zx (F+r) ef (hsa) ef (by omega) ((by omega))) ?_;refine Z1 (i:=21) ef ef ?_;refine(S.storeOw (s) (F+r) Eo.h rfl rfl rfl hsa (by first | rfl | exact Nat.add_assoc _ _ _ | omega) (by rw[uA_len];omega) (uA_set _ _ _) ?_);refine ZL ([]) [22] ?_;refine Zw ef (Zx (F+c) ef (hsa) ef (by omega) ((by omega))) ?_;refine Z1 (i:=23) ef ef ?_;refine(S.storeOw (s) (F+c) Eo.h rfl rfl rfl hsa (by first | rfl | exact Nat.add_assoc _ _ _ | omega) (by rw[uA_len,Array.size_setIfInBounds];omega) (show _=uA (Go.Sort.swp e (F+r) (F+c)) from uA_set _ _ _) ?_);refine Zk [] ?_;refine ZD ?_;refine ZY 4 ?_;exact ZX (hi-c) (⟨c,zc,swp e (F+r) (F+c),rfl,hzc,by omega,by rw[swpZ,hes],hfin,rfl,rfl⟩) (by omega)
theorem heapSort_S (s:SV) (d:Array Int) (a b:Nat) (hab:a<b) (hb:b≤d.size) (hsz:d.size≤65535) (hsn:s.n=d.size):Spec Tryz.prog 157 [s.v,.int .i64 (a:Int),.int .i64 (b:Int)] [own s 31 1 (uA d)] fun Γ _ Θ=>Θ=own s 31 1 (uA (heapSort ltInt d a b))::Γ:=by
 refine Zbd Tryz.func157 rfl Tryz.ntmps157 fun w0 Γ=>Zsh ?_
 have hsift:∀hi F lo (e:Array Int),F+hi≤e.size→lo≤65535→e.size=d.size→(siftDown ltInt hi F lo e).size=d.size:=fun hi F lo e h1 _ h3=>by
  rw[sift_size,h3]
 refine ZY 8 ?_;refine ZY 5 ?_;refine Zv (Zm ef ef) ?_;refine ZY 6 ?_;refine Zv (Zm ef ef) ?_;refine Zv (q_quo rfl rfl (⟨by omega,by omega⟩) (inI64 (by omega) (by omega))) ?_;refine ZY 3 ?_;refine Zl (fun q ρ' Γ'=>∃(k:Nat) (z:Int) (e:Array Int),q=k∧z=(k:Int)-1∧k≤65535∧e.size=d.size∧heapBuild ltInt (b-a) a k e=heapBuild ltInt (b-a) a ((b-a-1) / 2+1) d∧ρ'=[(0,s.v),(6,.int .i64 (a:Int)),(7,.int .i64 0),(8,.int .i64 ((b:Int)-a)),(9,.int .i64 z)]∧Γ'=own s 31 1 (uA e)::Γ) (m:=_) (⟨(b-a-1) / 2+1,((b:Int)-a-1) / 2,d,rfl,by omega,by omega,rfl,rfl,rfl,rfl⟩) ?_;rintro q ρ' Γ' ⟨k,z,e,hq,hz,hk9,hes,hhb,rfl,rfl⟩;refine ZY 6 ?_
 refine Zj ef (fun h1=>?_) (fun h1=>?_)
 ·obtain⟨k,rfl⟩:∃k',k=k'+1:=⟨k-1,by omega⟩;refine ZY 8 ?_;refine Zp (Zc1 Ze ((by rw[show z=(k:Int) by omega,show ((b:Int)-a)=((b-a:Nat):Int) by omega];exact siftDown_S s e k (b-a) a (by omega) (by omega) (by omega) (by omega))) ?_);rintro v Θ rfl;refine ZY 3 ?_;refine Zv (Zm ef ef) ?_;refine ZY 2 ?_;exact ZX (k) (⟨k,z-1,siftDown ltInt (b-a) a k e,rfl,by omega,by omega,hsift _ _ _ _ (by omega) (by omega) hes,hhb,rfl,rfl⟩) (by omega)
 ·have hk0:k=0:=by omega
  subst hk0;have hhb:e=heapBuild ltInt (b-a) a ((b-a-1) / 2+1) d:=hhb;have hhs:heapSort ltInt d a b=heapPop ltInt a (b-a) e:=by rw[hhb];rfl
  refine S.ownSome s (by omega) fun sb so hsa _ _ _=>?_;refine ZY 4 ?_;refine Zv (Zm ef ef) ?_;refine ZY 3 ?_;refine Zl (fun q ρ' Γ'=>∃(k:Nat) (z:Int) (e:Array Int),q=k∧z=(k:Int)-1∧k≤b-a∧e.size=d.size∧heapPop ltInt a k e=heapSort ltInt d a b∧ρ'=[(0,s.v),(6,.int .i64 (a:Int)),(7,.int .i64 0),(10,.int .i64 z)]∧Γ'=own s 31 1 (uA e)::Γ) (m:=_) (⟨b-a,((b:Int)-a)-1,e,rfl,by omega,by omega,hes,hhs.symm,rfl,rfl⟩) ?_;rintro q ρ' Γ' ⟨k,z,e,hq,hz,hk9,hes,hhb,rfl,rfl⟩;refine ZY 6 ?_
  refine Zj ef (fun h2=>?_) (fun h2=>?_)
  ·obtain⟨k,rfl⟩:∃k',k=k'+1:=⟨k-1,by omega⟩;refine ZY 4 ?_;refine Zd ([own s 31 1 (uA e)]) [17] [0,1] ?_;refine ZY 2 ?_;refine ZP 2 [] ef (q_move rfl) ef ?_;refine ZP 3 [] ef (q_move rfl) ef ?_;refine ZP 4 [] ef (q_move rfl) ef ?_;refine ZP 5 (Zra 6 11) ef (q_add rfl rfl (inI64 (by omega) (by omega))) ef ?_;refine ZY 3 ?_;refine Zw ef (Za ef ef) ?_;refine Zw ef (Zx (a+k) ef (hsa) ef (by omega) ((by omega))) ?_;refine Zw ef (Zo (s) (a+k) ef (hsa) (uA_get (by omega))) ?_;refine ZY 2 ?_;refine Zw ef (Zx (a) ef (hsa) ef (by omega)) ?_;refine Zw ef (Zo (s) (a) ef (hsa) (uA_get (by omega))) ?_;refine Zw ef (Zx (a) ef (hsa) ef (by omega)) ?_;refine Z1 (i:=17) ef ef ?_;refine(S.storeOw (s) (a) Eo.h rfl rfl rfl hsa (by first | rfl | exact Nat.add_assoc _ _ _ | omega) (by rw[uA_len];omega) (uA_set _ _ _) ?_);refine ZL ([]) [18] ?_;refine Zw ef (Zx (a+k) ef (hsa) ef (by omega) ((by omega))) ?_;refine Z1 (i:=19) ef ef ?_;refine(S.storeOw (s) (a+k) Eo.h rfl rfl rfl hsa (by first | rfl | exact Nat.add_assoc _ _ _ | omega) (by rw[uA_len,Array.size_setIfInBounds];omega) (show _=uA (Go.Sort.swp e (a) (a+k)) from uA_set _ _ _) ?_);refine Zk [] ?_;refine ZD ?_;refine ZY 5 ?_;refine Zp (Zc1 Ze ((by rw[show z=(k:Int) by omega];exact siftDown_S s (swp e a (a+k)) 0 k a (by rw[swpZ];omega) (by omega) (by rw[swpZ];omega) (by rw[swpZ];omega))) ?_);rintro v Θ rfl;refine ZY 3 ?_;refine Zv (Zm ef ef) ?_;refine ZY 2 ?_;exact ZX (k) (⟨k,z-1,siftDown ltInt k a 0 (swp e a (a+k)),rfl,by omega,by omega,hsift _ _ _ _ (by rw[swpZ];omega) (by omega) (by rw[swpZ,hes]),hhb,rfl,rfl⟩) (by omega)
  ·refine Zy ?_;exact Zfn ef Zq (by have hk0:k=0:=(by omega);subst hk0;have hhb:e=heapSort ltInt d a b:=hhb;rw[←hhb])
open Go.Sort
theorem PermIn.swpZ {a b i j:Nat} {d e:Array Int} (h:PermIn a b d e) (h1:a≤i) (h2:i<b) (h3:a≤j) (h4:j<b) (hb:b≤d.size):PermIn a b d (swp e i j):=
 permIn_trans _ _ _ _ _ h (swp_permIn e a b i j h1 h2 h3 h4 (by rw[h.1];exact hb))
theorem reverse_S (s:SV) (d:Array Int) (a b:Nat) (hab:a<b) (hb:b≤d.size) (hsz:d.size≤65535) (hsn:s.n=d.size):Spec Tryz.prog 160 [s.v,.int .i64 (a:Int),.int .i64 (b:Int)] [own s 31 1 (uA d)] fun Γ _ Θ=>∃e,PermIn a b d e∧Θ=own s 31 1 (uA e)::Γ:=by
 refine Zbd Tryz.func160 rfl Tryz.ntmps160 fun w0 Γ=>Zsh ?_;refine S.ownSome s (by omega) fun sb so hsa _ _ _=>?_;refine ZY 8 ?_;refine Zv (Zm ef ef) ?_;refine ZY 3 ?_;refine Zl (fun q ρ' Γ'=>∃(i j:Nat) (zi zj:Int) (e:Array Int),q=j-i∧zi=i∧zj=j∧a≤i∧i≤b∧j<b∧e.size=d.size∧PermIn a b d e∧ρ'=[(0,s.v),(6,.int .i64 zi),(7,.int .i64 zj)]∧Γ'=own s 31 1 (uA e)::Γ) (m:=_) (⟨a,b-1,a,(b:Int)-1,d,rfl,rfl,by omega,by omega,by omega,by omega,rfl,permIn_refl _ _ _,rfl,rfl⟩) ?_;rintro q ρ' Γ' ⟨i,j,zi,zj,e,hq,hzi,hzj,hai,hib,hjb,hes,hpe,rfl,rfl⟩;refine ZY 7 ?_
 refine Zj ef (fun h1=>?_) (fun h1=>?_)
 ·refine ZY 3 ?_;refine Zd ([own s 31 1 (uA e)]) [13] [0,1] ?_;refine ZY 2 ?_;refine ZP 2 [] ef (q_move rfl) ef ?_;refine ZP 3 (Zra 4 9) ef (q_move rfl) ef ?_;refine ZY 2 ?_;refine Zw ef (Zx (j) ef (hsa) ef (by omega) (hzj)) ?_;refine Zw ef (Zo (s) (j) ef (hsa) (uA_get (by omega))) ?_;refine ZY 2 ?_;refine Zw ef (Zx (i) ef (hsa) ef (by omega) (hzi)) ?_;refine Zw ef (Zo (s) (i) ef (hsa) (uA_get (by omega))) ?_;refine Zw ef (Zx (i) ef (hsa) ef (by omega) (hzi)) ?_;refine Z1 (i:=13) ef ef ?_;refine(S.storeOw (s) (i) Eo.h rfl rfl rfl hsa (by first | rfl | exact Nat.add_assoc _ _ _ | omega) (by rw[uA_len];omega) (uA_set _ _ _) ?_);refine ZL ([]) [14] ?_;refine Zw ef (Zx (j) ef (hsa) ef (by omega) (hzj)) ?_;refine Z1 (i:=15) ef ef ?_;refine(S.storeOw (s) (j) Eo.h rfl rfl rfl hsa (by first | rfl | exact Nat.add_assoc _ _ _ | omega) (by rw[uA_len,Array.size_setIfInBounds];omega) (show _=uA (Go.Sort.swp e (i) (j)) from uA_set _ _ _) ?_);refine Zk [] ?_;refine ZD ?_;refine ZY 3 ?_;refine Zv (Za ef ef) ?_;refine ZY 4 ?_;refine Zv (Zm ef ef) ?_;refine ZY 2 ?_;exact ZX (q-1-1) (⟨i+1,j-1,zi+1,zj-1,swp e i j,by omega,by omega,by omega,by omega,by omega,by omega,by rw[swpZ,hes],PermIn.swpZ (a:=a) (b:=b) (d:=d) (e:=e) hpe (by omega) (by omega) (by omega) (by omega) hb,rfl,rfl⟩) (by omega)
 ·refine Zy ?_;exact Zfn ef Zq (⟨e,hpe,rfl⟩)
theorem order2_S (s:SV) (d:Array Int) (x y p:Nat) (k K:Int) (hx:x<d.size) (hy:y<d.size) (hk:0≤k∧k≤K) (hK:K≤1000) (hsn:s.n=d.size):Spec Tryz.prog 217 [s.v,.int .i64 (x:Int),.int .i64 (y:Int),.pointer (some ⟨p,0,none⟩)] [own s 31 1 (uA d),blk p 3 #[.int .i64 k]] fun Γ v Θ=>
  ∃(u v':Nat) (k':Int),(u=x∧v'=y∨u=y∧v'=x)∧(0≤k'∧k'≤K+1)∧v=.tuple #[.int .i64 (u:Int),.int .i64 (v':Int)]∧Θ=own s 31 1 (uA d)::blk p 3 #[.int .i64 k']::Γ:=by
 refine Zbd Tryz.func217 rfl Tryz.ntmps217 fun w0 Γ=>Zsh ?_;refine S.ownSome s (by omega) fun sb so hsa _ _ _=>?_;refine ZY 7 ?_;refine Zd ([own s 31 1 (uA d),blk p 3 #[.int .i64 k]]) [] (Zra 0 8) ?_;refine ZY 2 ?_;refine Zw ef (Zx (y) ef (hsa) ef (by omega)) ?_;refine Zw ef (Zo (s) (y) ef (hsa) (uA_get hy)) ?_;refine ZY 2 ?_;refine Zw ef (Zx (x) ef (hsa) ef (by omega)) ?_;refine Zw ef (Zo (s) (x) ef (hsa) (uA_get hx)) ?_;refine Z1 (i:=8) ef ef ?_;refine  (Zcp Ze (Less_S (d[y]!) (d[x]!)) ?_);refine Zk [] ?_;refine ZD ?_
 refine Zi ef (fun h1=>?_) (fun h1=>?_)
 ·refine ZY 5 ?_;refine Zv (Za ef ef) ?_;refine ZY 8 ?_;refine ZY 3 ?_;exact Zf ef Zq (⟨y,x,k+1,.inr ⟨rfl,rfl⟩,by omega,rfl,rfl⟩)
 ·refine ZY 8 ?_;refine Zy ?_;exact Zf ef Zq (⟨x,y,k,.inl ⟨rfl,rfl⟩,by omega,rfl,rfl⟩)
theorem median_S (s:SV) (d:Array Int) (x y z p:Nat) (k K:Int) (hx:x<d.size) (hy:y<d.size) (hz:z<d.size) (hk:0≤k∧k≤K) (hK:K≤900) (hsn:s.n=d.size):Spec Tryz.prog 191 [s.v,.int .i64 (x:Int),.int .i64 (y:Int),.int .i64 (z:Int),.pointer (some ⟨p,0,none⟩)] [own s 31 1 (uA d),blk p 3 #[.int .i64 k]] fun Γ v Θ=>
  ∃(u:Nat) (k':Int),(u=x∨u=y∨u=z)∧(0≤k'∧k'≤K+3)∧v=.int .i64 (u:Int)∧Θ=own s 31 1 (uA d)::blk p 3 #[.int .i64 k']::Γ:=by
 refine Zbd Tryz.func191 rfl Tryz.ntmps191 fun w0 Γ=>Zsh ?_;refine ZY 8 ?_;refine ZY 2 ?_;refine Zp (Zc1 Ze (order2_S s d x y p k K hx hy hk (by omega) hsn) ?_);rintro v Θ ⟨x1,y1,k1,h1,hk1,rfl,rfl⟩;refine ZY 8 ?_;refine ZY 4 ?_;refine Zp (Zc1 Ze (order2_S s d y1 z p k1 (K+1) (by omega) hz hk1 (by omega) hsn) ?_);rintro v Θ ⟨y2,z2,k2,h2,hk2,rfl,rfl⟩;refine ZY 8 ?_;refine ZY 4 ?_;refine Zp (Zc1 Ze (order2_S s d x1 y2 p k2 (K+1+1) (by omega) (by omega) hk2 (by omega) hsn) ?_);rintro v Θ ⟨x3,y3,k3,h3,hk3,rfl,rfl⟩;refine ZY 8 ?_;refine ZY 4 ?_;exact Zf ef Zq (⟨y3,k3,by omega,by omega,rfl,rfl⟩)
theorem medianAdj_S (s:SV) (d:Array Int) (x p:Nat) (k K:Int) (hx0:0<x) (hx:x+1<d.size) (hsz:d.size≤65535) (hk:0≤k∧k≤K) (hK:K≤900) (hsn:s.n=d.size):Spec Tryz.prog 190 [s.v,.int .i64 (x:Int),.pointer (some ⟨p,0,none⟩)] [own s 31 1 (uA d),blk p 3 #[.int .i64 k]] fun Γ v Θ=>
  ∃(u:Nat) (k':Int),(x≤u+1∧u≤x+1)∧(0≤k'∧k'≤K+3)∧v=.int .i64 (u:Int)∧Θ=own s 31 1 (uA d)::blk p 3 #[.int .i64 k']::Γ:=by
 refine Zbd Tryz.func190 rfl Tryz.ntmps190 fun w0 Γ=>Zsh ?_;refine ZY 8 ?_;refine Zv (Zm ef ef) ?_;refine ZY 2 ?_;refine Zv (Za ef ef) ?_;refine Zy ?_;refine Zp (Zc1 Ze ((by rw[show ((x:Int)-1)=((x-1:Nat):Int) by omega];exact median_S s d (x-1) x (x+1) p k K (by omega) (by omega) hx hk hK hsn)) ?_);rintro v Θ ⟨u,k',hu,hk',rfl,rfl⟩;refine ZY 3 ?_;exact Zf ef Zq (⟨u,k',by omega,hk',rfl,rfl⟩)
theorem choose_S (s:SV) (d:Array Int) (a b:Nat) (hab:a+12<b) (hb:b≤d.size) (hsz:d.size≤65535) (hsn:s.n=d.size):Spec Tryz.prog 159 [s.v,.int .i64 (a:Int),.int .i64 (b:Int)] [own s 31 1 (uA d)] fun Γ v Θ=>
  ∃(u:Nat) (h:Int),(a≤u∧u<b)∧v=.tuple #[.int .i64 (u:Int),.int .i64 h]∧Θ=own s 31 1 (uA d)::Γ:=by
 refine Zbd Tryz.func159 rfl Tryz.ntmps159 fun w0 Γ=>Zsh ?_;obtain⟨i,hi⟩:∃i:Nat,(i:Int)=a+(b-a) / 4*1:=⟨a+(b-a) / 4*1,by omega⟩;obtain⟨j,hj⟩:∃j:Nat,(j:Int)=a+(b-a) / 4*2:=⟨a+(b-a) / 4*2,by omega⟩;obtain⟨l,hl⟩:∃l:Nat,(l:Int)=a+(b-a) / 4*3:=⟨a+(b-a) / 4*3,by omega⟩;refine ZY 8 ?_;refine Zy ?_;refine Zv (Zm ef ef) ?_;refine ZY 4 ?_;refine Zp (S.alloc Tryz.z3.h rfl ?_);intro b9;refine ZY 5 ?_;refine Zv (q_quo rfl rfl (⟨by omega,by omega⟩) (inI64 (by omega) (by omega))) ?_;refine Zv (q_mul rfl rfl (inI64 (by omega) (by omega))) ?_;refine Zv (Za ef ef) ?_;refine ZY 6 ?_;refine Zv (q_quo rfl rfl (⟨by omega,by omega⟩) (inI64 (by omega) (by omega))) ?_;refine Zv (q_mul rfl rfl (inI64 (by omega) (by omega))) ?_;refine Zv (Za ef ef) ?_;refine ZY 6 ?_;refine Zv (q_quo rfl rfl (⟨by omega,by omega⟩) (inI64 (by omega) (by omega))) ?_;refine Zv (q_mul rfl rfl (inI64 (by omega) (by omega))) ?_;refine Zv (Za ef ef) ?_;refine ZY 5 ?_;rw[←hi,←hj,←hl];refine ZY 3 ?_
 refine Zj ef (fun h1=>?_) (fun h1=>?_)
 ·refine ZY 6 ?_
  refine Zc (fun ρ' Γ'=>∃(i2 j2 l2:Nat) (k3:Int),(a≤i2∧i2<b)∧(a≤j2∧j2<b)∧(a≤l2∧l2<b)∧(0≤k3∧k3≤9)∧ρ'=[(0,s.v),(9,.pointer (some ⟨b9,0,none⟩)),(10,.int .i64 (i2:Int)),(11,.int .i64 (j2:Int)),(12,.int .i64 (l2:Int))]∧Γ'=own s 31 1 (uA d)::blk b9 3 #[.int .i64 k3]::Γ) ?_ ?_
  ·refine Zj ef (fun h2=>?_) (fun h2=>?_)
   ·refine ZY 4 ?_;refine Zp (Zc1 Ze (medianAdj_S s d i b9 0 0 (by omega) (by omega) hsz (by omega) (by omega) hsn) ?_);rintro v Θ ⟨i2,k1,hi2,hk1,rfl,rfl⟩;refine ZY 6 ?_;refine Zp (Zc1 Ze (medianAdj_S s d j b9 k1 (0+3) (by omega) (by omega) hsz hk1 (by omega) hsn) ?_);rintro v Θ ⟨j2,k2,hj2,hk2,rfl,rfl⟩;refine ZY 5 ?_;refine Zp (Zc1 Ze (medianAdj_S s d l b9 k2 (0+3+3) (by omega) (by omega) hsz hk2 (by omega) hsn) ?_);rintro v Θ ⟨l2,k3,hl2,hk3,rfl,rfl⟩;refine ZY 2 ?_;first | exact S.meet ⟨i2,j2,l2,k3,by omega,by omega,by omega,by omega,rfl,rfl⟩ ⟨rfl,rfl,rfl,rfl,rfl,trivial⟩ Sub.ent | exact S.meet ⟨i,j,l,0,by omega,by omega,by omega,by omega,rfl,rfl⟩ ⟨rfl,rfl,rfl,rfl,rfl,trivial⟩ Sub.ent
   ·refine Zy ?_;first | exact S.meet ⟨i2,j2,l2,k3,by omega,by omega,by omega,by omega,rfl,rfl⟩ ⟨rfl,rfl,rfl,rfl,rfl,trivial⟩ Sub.ent | exact S.meet ⟨i,j,l,0,by omega,by omega,by omega,by omega,rfl,rfl⟩ ⟨rfl,rfl,rfl,rfl,rfl,trivial⟩ Sub.ent
  ·rintro ρ' Γ' ⟨i2,j2,l2,k3,hi2,hj2,hl2,hk3,rfl,rfl⟩;refine ZY 5 ?_;refine Zp (Zc1 Ze (median_S s d i2 j2 l2 b9 k3 9 (by omega) (by omega) (by omega) hk3 (by omega) hsn) ?_);rintro v Θ ⟨u,k4,hu,hk4,rfl,rfl⟩;refine ZY 8 ?_;refine ZY 4 ?_
   refine Zj ef (fun h3=>?_) (fun h3=>?_)
   ·refine ZY 7 ?_;exact Zf ef Zq (⟨u,1,by omega,rfl,rfl⟩)
   ·refine ZY 5 ?_
    refine Zj ef (fun h4=>?_) (fun h4=>?_)
    ·refine ZY 7 ?_;exact Zf ef Zq (⟨u,2,by omega,rfl,rfl⟩)
    ·refine ZY 7 ?_;exact Zf ef Zq (⟨u,0,by omega,rfl,rfl⟩)
 ·omega
section
variable {P:Program} {n:Nat} {ρ:Env} {Γ:List Assn} {ty:TypeId} {pos:String} {af:Array Edge} {gd:Option (Nat×Bool)} {ds:Option Tmp}
theorem q_shlE {t yt:TypeId} {x y:Operand} {k ky:IntKind} {p q:Int} (m:Nat) (hx:ev ρ x=some (.int k p)) (hy:ev ρ y=some (.int ky q)) (hq:q=((m:Nat):Int)) (hm:Nat.ble m k.bits=true):Qv P n ρ Γ ⟨ds,.binOp .shl t x y yt,ty,pos,af,gd⟩ (.int k (k.wrap (p*2 ^ m))):=fun a w ha _=>by
 subst hq;have h0:¬((m:Int)<0):=by omega
 have h1:min m k.bits=m:=Nat.min_eq_left (Nat.le_of_ble_eq_true hm);simp[execOp,ha.ev hx,ha.ev hy,eqGuard,binOp,Op.shift,h0,h1]
abbrev xorV (p q:Int):Int:=IntKind.u64.wrap ((BitVec.ofInt 64 p ^^^ BitVec.ofInt 64 q).toNat:Int)
theorem q_xorE {t yt:TypeId} {x y:Operand} {p q:Int} (hx:ev ρ x=some (.int .u64 p)) (hy:ev ρ y=some (.int .u64 q)):Qv P n ρ Γ ⟨ds,.binOp .xor t x y yt,ty,pos,af,gd⟩ (.int .u64 (xorV p q)):=fun a w ha _=>by
 simp[execOp,ha.ev hx,ha.ev hy,eqGuard,binOp,Op.intBits,IntKind.bits];rfl
abbrev andV (p q:Int):Int:=IntKind.u64.wrap ((BitVec.ofInt 64 p &&& BitVec.ofInt 64 q).toNat:Int)
theorem q_andE {t yt:TypeId} {x y:Operand} {p q:Int} (hx:ev ρ x=some (.int .u64 p)) (hy:ev ρ y=some (.int .u64 q)):Qv P n ρ Γ ⟨ds,.binOp .and t x y yt,ty,pos,af,gd⟩ (.int .u64 (andV p q)):=fun a w ha _=>by
 simp[execOp,ha.ev hx,ha.ev hy,eqGuard,binOp,Op.intBits,IntKind.bits];rfl
theorem toNat64 {q:Int} (hq:0≤q∧q≤18446744073709551615):(BitVec.ofInt 64 q).toNat=q.toNat:=by
 have e:((2 ^ 64:Nat):Int)=18446744073709551616:=by decide
 rw[BitVec.toNat_ofInt,e,Int.emod_eq_of_lt hq.1 (by omega)]
theorem andV_le (p:Int) {q:Int} (hq:0≤q∧q≤18446744073709551615):0≤andV p q∧andV p q≤q:=by
 have h1:=toNat64 hq
 have h2:(BitVec.ofInt 64 p &&& BitVec.ofInt 64 q).toNat≤q.toNat:=by
  rw[BitVec.toNat_and,←h1];exact Nat.and_le_right
 have h3:andV p q=((BitVec.ofInt 64 p &&& BitVec.ofInt 64 q).toNat:Int):=wrap_in (inU64 (by omega) (by omega));rw[h3];omega
def lenOk (bs:ByteArray):Bool:=(List.range 256).all fun i=>match bs[i]? with
 | some b=>b.toNat==bitsLen i
 | none=>false
theorem q_lenAt {t:TypeId} {x y:Operand} {bs:ByteArray} {ky:IntKind} {z:Int} (i:Nat) (ht:P.underlying t=some .string) (hx:ev ρ x=some (.string bs)) (hb:lenOk bs=true) (hy:ev ρ y=some (.int ky z)) (hz:z=((i:Nat):Int)) (hi:i<256):Qv P n ρ Γ ⟨ds,.index t x y,ty,pos,af,gd⟩ (.int .u8 ((bitsLen i:Nat):Int)):=fun a w ha _=>by
 subst hz;have h:=List.all_eq_true.1 hb i (List.mem_range.2 hi);cases e:bs[i]? with
 | none=>rw[e]at h;cases h
 | some b=>
  rw[e]at h;have h:b.toNat=bitsLen i:=by simpa using h
  simp[execOp,ha.ev hx,ha.ev hy,Instr.index,asIntOf,run_underlying ht,e,h]
end
theorem bitsLen_256 {x:Nat} (h:256≤x):bitsLen x=bitsLen (x / 256)+8:=by
 have key:∀k,bitsLen x≤k↔bitsLen (x / 256)+8≤k:=fun k=>by
  rw[bitsLen_le_iff]
  by_cases hk:k<8
  ·have h1:2 ^ k≤2 ^ 8:=Nat.pow_le_pow_right (by omega) (by omega)
   constructor
   ·intro h2;omega
   ·intro h2;omega
  ·obtain⟨m,rfl⟩:∃m,k=m+8:=⟨k-8,by omega⟩;have h1:=bitsLen_le_iff (x / 256) m;have h2:x / 256<2 ^ m↔x<2 ^ (m+8):=by rw[Nat.div_lt_iff_lt_mul (by omega),Nat.pow_add]
   rw[←h2,←h1];omega
 have h1:=(key _).1 (Nat.le_refl _);have h2:=(key _).2 (Nat.le_refl _);omega
theorem Len64_S (x:Nat) (hx:x<65536):Spec Tryz.prog 166 [.int .u64 (x:Int)] [] fun Γ v Θ=>v=.int .i64 (bitsLen x:Nat)∧Θ=Γ:=by
 refine Zbd Tryz.func166 rfl Tryz.ntmps166 fun w0 Γ=>Zsh ?_;have hle:∀i,i<256→bitsLen i≤8:=fun i hi=>(bitsLen_le_iff i 8).2 hi;refine ZY 8 ?_;refine ZY 2 ?_
 refine Zj ef (fun h1=>?_) (fun h1=>?_)
 ·omega
 ·refine ZY 7 ?_
  refine Zj ef (fun h2=>?_) (fun h2=>?_)
  ·omega
  ·refine ZY 7 ?_
   refine Zj ef (fun h3=>?_) (fun h3=>?_)
   ·have e3:((x:Int) / 2 ^ 8)=((x / 256:Nat):Int):=by omega
    have h25:=hle (x / 256) (by omega);have hfin:(0:Int)+8+(bitsLen (x / 256):Nat)=(bitsLen x:Nat):=by rw[bitsLen_256 (x:=x) (by omega)];omega
    refine ZY 3 ?_;refine Zv (q_shr 8 rfl rfl rfl rfl) ?_;refine ZY 4 ?_;refine Zv (Za ef ef) ?_;refine ZY 6 ?_;refine Zv (q_conv Tryz.it5.h (by rw[Tryz.underlying225];rfl) rfl (inU8 (by omega) (by omega))) ?_;refine Zv (q_lenAt _ Tryz.underlying9 rfl (by kernel_rfl) rfl e3 (by omega)) ?_;refine Zv (q_conv Tryz.it3.h (by rw[Tryz.underlying5];rfl) rfl (inI64 (by omega) (by omega))) ?_;refine Zv (Za ef ef) ?_;refine ZY 3 ?_;exact Zf ef Zq (⟨by simp only[resV];rw[hfin],rfl⟩)
   ·have e3:(x:Int)=((x:Nat):Int):=rfl;have h25:=hle x (by omega);have hfin:(0:Int)+(bitsLen x:Nat)=(bitsLen x:Nat):=by omega
    refine ZY 5 ?_;refine Zv (q_conv Tryz.it5.h (by rw[Tryz.underlying225];rfl) rfl (inU8 (by omega) (by omega))) ?_;refine Zv (q_lenAt _ Tryz.underlying9 rfl (by kernel_rfl) rfl e3 (by omega)) ?_;refine Zv (q_conv Tryz.it3.h (by rw[Tryz.underlying5];rfl) rfl (inI64 (by omega) (by omega))) ?_;refine Zv (Za ef ef) ?_;refine ZY 3 ?_;exact Zf ef Zq (⟨by simp only[resV];rw[hfin],rfl⟩)
theorem Len_S (x:Nat) (hx:x<65536):Spec Tryz.prog 138 [.int .u64 (x:Int)] [] fun Γ v Θ=>v=.int .i64 (bitsLen x:Nat)∧Θ=Γ:=by
 refine Zbd Tryz.func138 rfl Tryz.ntmps138 fun w0 Γ=>Zsh ?_;refine ZY 5 ?_;refine ZF ef ?_;refine ZY 4 ?_;refine Zp (Zcp Ze (Len64_S x hx) ?_);refine ZY 3 ?_;exact Zf ef Zq (⟨rfl,rfl⟩)
theorem nextPow_S (x:Nat) (hx0:0<x) (hx:x<65536):Spec Tryz.prog 188 [.int .i64 (x:Int)] [] fun Γ v Θ=>∃p:Int,(x<p∧p≤2*x)∧v=.int .u64 p∧Θ=Γ:=by
 refine Zbd Tryz.func188 rfl Tryz.ntmps188 fun w0 Γ=>Zsh ?_;have h1:=lt_two_pow_bitsLen x;have h2:=two_pow_bitsLen_le hx0;have hb:bitsLen x≤16:=(bitsLen_le_iff x 16).2 (by omega);have e2:((1:Int)*2 ^ bitsLen x)=((2 ^ bitsLen x:Nat):Int):=by rw[Int.one_mul];norm_cast
 have hw:IntKind.u64.wrap ((1:Int)*2 ^ bitsLen x)=((2 ^ bitsLen x:Nat):Int):=by rw[e2];exact wrap_in (inU64 (by omega) (by omega))
 refine ZY 7 ?_;refine Zv (q_conv Tryz.it215.h (by rw[Tryz.underlying3];rfl) rfl (inU64 (by omega) (by omega))) ?_;refine Zp (Zcp Ze (Len_S x hx) ?_);refine Zv (q_shlE (bitsLen x) rfl rfl rfl (Nat.ble_eq_true_of_le (Nat.le_trans hb (by decide)))) ?_;refine ZY 3 ?_;exact Zf ef Zq (⟨_,⟨by rw[hw];omega,by rw[hw];omega⟩,rfl,rfl⟩)
theorem xorNext_S (b:Nat) (r:Int):Spec Tryz.prog 189 [.pointer (some ⟨b,0,none⟩)] [blk b 270 #[.int .u64 r]] fun Γ v Θ=>∃r',v=.int .u64 r'∧Θ=blk b 270 #[.int .u64 r']::Γ:=by
 refine Zbd Tryz.func189 rfl Tryz.ntmps189 fun w0 Γ=>Zsh ?_;refine ZY 5 ?_;refine Zd ([blk b 270 #[.int .u64 r]]) [9] (Zra 0 9) ?_;refine ZY 6 ?_;refine Zw ef (q_shlE 13 rfl rfl rfl rfl) ?_;refine Zw ef (q_xorE rfl rfl) ?_;refine Zy ?_;refine Z1 (i:=9) ef ef ?_;generalize xorV r (IntKind.u64.wrap (r*2 ^ 13))=r1
 refine(S.store (cs':=[_]) Eo.h rfl rfl rfl rfl rfl ?_);refine ZL ([]) [] ?_;refine ZD ?_;refine Zy ?_;refine Zd ([blk b 270 #[.int .u64 r1]]) [9] (Zra 0 9) ?_;refine ZY 6 ?_;refine Zw ef (q_shr 7 rfl rfl rfl rfl) ?_;refine Zw ef (q_xorE rfl rfl) ?_;refine Zy ?_;refine Z1 (i:=9) ef ef ?_;generalize xorV r1 (r1 / 2 ^ 7)=r2
 refine(S.store (cs':=[_]) Eo.h rfl rfl rfl rfl rfl ?_);refine ZL ([]) [] ?_;refine ZD ?_;refine Zy ?_;refine Zd ([blk b 270 #[.int .u64 r2]]) [9] (Zra 0 9) ?_;refine ZY 6 ?_;refine Zw ef (q_shlE 17 rfl rfl rfl rfl) ?_;refine Zw ef (q_xorE rfl rfl) ?_;refine Zy ?_;refine Z1 (i:=9) ef ef ?_;generalize xorV r2 (IntKind.u64.wrap (r2*2 ^ 17))=r3
 refine(S.store (cs':=[_]) Eo.h rfl rfl rfl rfl rfl ?_);refine ZL ([]) [] ?_;refine ZD ?_;refine ZY 8 ?_;exact Zf ef Zq (⟨_,rfl,rfl⟩)
theorem break_S (s:SV) (d:Array Int) (a b:Nat) (hab:a+12<b) (hb:b≤d.size) (hsz:d.size≤65535) (hsn:s.n=d.size):Spec Tryz.prog 158 [s.v,.int .i64 (a:Int),.int .i64 (b:Int)] [own s 31 1 (uA d)] fun Γ _ Θ=>∃e,PermIn a b d e∧Θ=own s 31 1 (uA e)::Γ:=by
 refine Zbd Tryz.func158 rfl Tryz.ntmps158 fun w0 Γ=>Zsh ?_;refine S.ownSome s (by omega) fun sb so hsa _ _ _=>?_;obtain⟨l,hl⟩:∃l:Nat,(l:Int)=(b:Int)-a:=⟨b-a,by omega⟩;refine ZY 4 ?_;refine Zv (Zm ef ef) ?_;refine ZY 7 ?_
 refine Zj ef (fun h1=>?_) (fun h1=>?_)
 ·refine ZY 3 ?_;rw[←hl];refine Zv (q_conv Tryz.it270.h (by rw[Tryz.underlying3];rfl) rfl (inU64 (by omega) (by omega))) ?_;refine Zp (S.alloc Tryz.z270.h rfl ?_);intro b7;refine ZY 5 ?_;refine Zp (Zc1 Ze (nextPow_S l (by omega) (by omega)) ?_);rintro v Θ ⟨p,hp,rfl,rfl⟩;refine ZY 6 ?_;refine Zv (q_quo rfl rfl (⟨by omega,by omega⟩) (inI64 (by omega) (by omega))) ?_;refine Zv (q_mul rfl rfl (inI64 (by omega) (by omega))) ?_;refine Zv (Za ef ef) ?_;refine Zv (Zm ef ef) ?_;refine ZY 3 ?_;refine Zl (fun q ρ' Γ'=>∃(x:Nat) (zx:Int) (r:Int) (e:Array Int),q=a+l-x∧zx=x∧a≤x∧x≤a+l / 4*2+2∧e.size=d.size∧PermIn a b d e∧ρ'=[(0,s.v),(1,.int .i64 (a:Int)),(6,.int .i64 (l:Int)),(7,.pointer (some ⟨b7,0,none⟩)),(8,.int .u64 p),(9,.int .i64 zx)]∧Γ'=own s 31 1 (uA e)::blk b7 270 #[.int .u64 r]::Γ) (m:=_) (⟨a+l / 4*2-1,(a:Int)+(l:Int) / 4*2-1,(l:Int),d,rfl,by omega,by omega,by omega,rfl,permIn_refl _ _ _,rfl,rfl⟩) ?_;rintro q ρ' Γ' ⟨x,zx,r,e,hq,hzx,hax,hxl,hes,hpe,rfl,rfl⟩;refine ZY 6 ?_;refine Zv (q_quo rfl rfl (⟨by omega,by omega⟩) (inI64 (by omega) (by omega))) ?_;refine Zv (q_mul rfl rfl (inI64 (by omega) (by omega))) ?_;refine Zv (Za ef ef) ?_;refine Zv (Za ef ef) ?_;refine ZY 2 ?_
  refine Zj ef (fun h2=>?_) (fun h2=>?_)
  ·refine ZY 5 ?_;refine Zp (Zc1 Ze (xorNext_S b7 r) ?_);rintro v Θ ⟨r2,rfl,rfl⟩;refine Zy ?_;refine Zv (q_sub rfl rfl (inU64 (by omega) (by omega))) ?_;refine Zv (q_andE rfl rfl) ?_;obtain⟨o,ho⟩:∃o,o=andV r2 (p-1):=⟨_,rfl⟩;have hor:=andV_le r2 (q:=p-1) ⟨by omega,by omega⟩;rw[←ho]at hor ⊢;refine Zv (q_conv Tryz.it3.h (by rw[Tryz.underlying215];rfl) rfl (inI64 (by omega) (by omega))) ?_;refine ZY 8 ?_;refine Zy ?_
   refine Zc (fun ρ' Γ'=>∃(y:Nat) (zy:Int),zy=y∧y<l∧ρ'=[(0,s.v),(1,.int .i64 (a:Int)),(6,.int .i64 (l:Int)),(7,.pointer (some ⟨b7,0,none⟩)),(8,.int .u64 p),(9,.int .i64 zx),(10,.int .i64 zy)]∧Γ'=own s 31 1 (uA e)::blk b7 270 #[.int .u64 r2]::Γ) ?_ ?_
   ·refine Zj ef (fun h3=>?_) (fun h3=>?_)
    ·refine ZY 3 ?_;refine Zv (Zm ef ef) ?_;refine ZY 2 ?_;first | exact S.meet ⟨(o-l).toNat,o-l,by omega,by omega,rfl,rfl⟩ ⟨rfl,rfl,rfl,rfl,rfl,rfl,rfl,trivial⟩ Sub.ent | exact S.meet ⟨o.toNat,o,by omega,by omega,rfl,rfl⟩ ⟨rfl,rfl,rfl,rfl,rfl,rfl,rfl,trivial⟩ Sub.ent
    ·refine Zy ?_;first | exact S.meet ⟨(o-l).toNat,o-l,by omega,by omega,rfl,rfl⟩ ⟨rfl,rfl,rfl,rfl,rfl,rfl,rfl,trivial⟩ Sub.ent | exact S.meet ⟨o.toNat,o,by omega,by omega,rfl,rfl⟩ ⟨rfl,rfl,rfl,rfl,rfl,rfl,rfl,trivial⟩ Sub.ent
   ·rintro ρ' Γ' ⟨y,zy,hzy,hyl,rfl,rfl⟩;refine Zd ([own s 31 1 (uA e)]) [17] [0,1] ?_;refine ZY 2 ?_;refine ZP 2 [] ef (q_move rfl) ef ?_;refine ZP 3 [] ef (q_move rfl) ef ?_;refine ZP 4 [] ef (q_move rfl) ef ?_;refine ZP 5 (Zra 6 11) ef (q_add rfl rfl (inI64 (by omega) (by omega))) ef ?_;refine ZY 3 ?_;refine Zw ef (Za ef ef) ?_;refine Zw ef (Zx (a+y) ef (hsa) ef (by omega) ((by omega))) ?_;refine Zw ef (Zo (s) (a+y) ef (hsa) (uA_get (by omega))) ?_;refine ZY 2 ?_;refine Zw ef (Zx (x) ef (hsa) ef (by omega) (hzx)) ?_;refine Zw ef (Zo (s) (x) ef (hsa) (uA_get (by omega))) ?_;refine Zw ef (Zx (x) ef (hsa) ef (by omega) (hzx)) ?_;refine Z1 (i:=17) ef ef ?_;refine(S.storeOw (s) (x) Eo.h rfl rfl rfl hsa (by first | rfl | exact Nat.add_assoc _ _ _ | omega) (by rw[uA_len];omega) (uA_set _ _ _) ?_);refine ZL ([]) [18] ?_;refine Zw ef (Zx (a+y) ef (hsa) ef (by omega) ((by omega))) ?_;refine Z1 (i:=19) ef ef ?_;refine(S.storeOw (s) (a+y) Eo.h rfl rfl rfl hsa (by first | rfl | exact Nat.add_assoc _ _ _ | omega) (by rw[uA_len,Array.size_setIfInBounds];omega) (show _=uA (Go.Sort.swp e (x) (a+y)) from uA_set _ _ _) ?_);refine Zk [] ?_;refine ZD ?_;refine ZY 2 ?_;refine Zv (Za ef ef) ?_;refine ZY 2 ?_;exact ZX (q-1) (⟨x+1,zx+1,r2,swp e x (a+y),by omega,by omega,by omega,by omega,by rw[swpZ,hes],PermIn.swpZ (a:=a) (b:=b) (d:=d) (e:=e) hpe (by omega) (by omega) (by omega) (by omega) hb,rfl,rfl⟩) (by omega)
  ·refine Zy ?_;exact Zfn ef Zq (⟨e,hpe,rfl⟩)
 ·omega
open Go.Sort
section
variable {e:Array Int} {a b i j:Nat}
theorem scanSorted_stop (h:¬(i<b∧ltInt e[i]! e[i-1]! = false)):scanSorted ltInt e b i=i:=by
 rw[scanSorted,if_neg]
 simpa using h
theorem scanSorted_step (h:i<b) (h2:ltInt e[i]! e[i-1]! = false):scanSorted ltInt e b i=scanSorted ltInt e b (i+1):=by
 conv=>lhs;rw[scanSorted,if_pos (by rw[h2,decide_eq_true h];rfl)]
theorem shiftDown_stop (h:¬(1≤j∧ltInt e[j]! e[j-1]! = true)):shiftDown ltInt j e=e:=by
 cases j with
 | zero=>rfl
 | succ j=>
  rw[shiftDown,if_pos];simp only[Nat.add_sub_cancel]at h;cases hl:ltInt e[j+1]! e[j]! with
  | false=>rfl
  | true=>exact absurd ⟨by omega,hl⟩ h
theorem shiftDown_step (h:1≤j) (h2:ltInt e[j]! e[j-1]! = true):shiftDown ltInt j e=shiftDown ltInt (j-1) (swp e j (j-1)):=by
 cases j with
 | zero=>omega
 | succ j=>
  simp only[Nat.add_sub_cancel]at h2 ⊢;rw[shiftDown,if_neg (by rw[h2];simp)]
theorem shiftUp_stop (h:¬(j<b∧ltInt e[j]! e[j-1]! = true)):shiftUp ltInt b j e=e:=by
 rw[shiftUp]
 by_cases h1:j<b
 ·rw[if_pos h1,if_pos];cases hl:ltInt e[j]! e[j-1]! with
  | false=>rfl
  | true=>exact absurd ⟨h1,hl⟩ h
 ·rw[if_neg h1]
theorem shiftUp_step (h:j<b) (h2:ltInt e[j]! e[j-1]! = true):shiftUp ltInt b j e=shiftUp ltInt b (j+1) (swp e j (j-1)):=by
 conv=>lhs;rw[shiftUp,if_pos h,if_neg (by rw[h2];simp)]
theorem scanUp_stop {p:Int→Bool} (h:¬(i≤j∧p e[i]! = true)):scanUp p e j i=i:=by
 rw[scanUp,if_neg]
 simpa using h
theorem scanUp_step {p:Int→Bool} (h:i≤j) (h2:p e[i]! = true):scanUp p e j i=scanUp p e j (i+1):=by
 conv=>lhs;rw[scanUp,if_pos (by rw[h2,decide_eq_true h];rfl)]
theorem scanDown_stop {p:Int→Bool} (h:¬(i≤j∧p e[j]! = true)):scanDown p e i j=j:=by
 cases j with
 | zero=>rfl
 | succ j=>
  rw[scanDown,if_neg]
  simpa using h
theorem scanDown_step {p:Int→Bool} (h1:1≤j) (h:i≤j) (h2:p e[j]! = true):scanDown p e i j=scanDown p e i (j-1):=by
 cases j with
 | zero=>omega
 | succ j=>
  simp only[Nat.add_sub_cancel];rw[scanDown,if_pos (by rw[h2,decide_eq_true h];rfl)]
theorem scan_facts {p q:Int→Bool} (hq:∀x,q x=!p x) (h1:1≤i) (hij:i≤j+1):i≤scanUp p e j i∧scanUp p e j i≤j+1∧scanDown q e (scanUp p e j i) j≤j∧scanUp p e j i≤scanDown q e (scanUp p e j i) j+1∧(¬scanUp p e j i > scanDown q e (scanUp p e j i) j→scanUp p e j i<scanDown q e (scanUp p e j i) j):=by
 obtain⟨a1,a2,a3,a4,_,_,a7⟩:=round_facts p q hq e (i-1) (j+1) i j (by omega) hij (fun t h1 h2=>by omega) (fun t h1 h2=>by omega);exact⟨a1,a2,a3,a4,fun h=>(a7 h).2.2⟩
end
theorem partialIns_S (s:SV) (d:Array Int) (a b:Nat) (hab:a<b) (hb:b≤d.size) (hsz:d.size≤65535) (hsn:s.n=d.size):Spec Tryz.prog 161 [s.v,.int .i64 (a:Int),.int .i64 (b:Int)] [own s 31 1 (uA d)] fun Γ v Θ=>v=.bool (partialInsertionSort ltInt d a b).2∧Θ=own s 31 1 (uA (partialInsertionSort ltInt d a b).1)::Γ:=by
 refine Zbd Tryz.func161 rfl Tryz.ntmps161 fun w0 Γ=>Zsh ?_;refine S.ownSome s (by omega) fun sb so hsa _ _ _=>?_;refine ZY 7 ?_;refine Zv (Za ef ef) ?_;refine ZY 8 ?_;refine Zl (fun q ρ' Γ'=>∃(k i:Nat) (e:Array Int),q=5-k∧k≤5∧a<i∧i≤b∧e.size=d.size∧partialIns ltInt a b (5-k) i e=partialInsertionSort ltInt d a b∧ρ'=[(0,s.v),(1,.int .i64 (a:Int)),(2,.int .i64 (b:Int)),(7,.int .i64 (i:Int)),(8,.int .i64 (k:Int))]∧Γ'=own s 31 1 (uA e)::Γ) (m:=_) (⟨0,a+1,d,rfl,by omega,by omega,by omega,rfl,rfl,rfl,rfl⟩) ?_;rintro q ρ' Γ' ⟨k,i,e,hq,hk,hai,hib,hes,hps,rfl,rfl⟩;refine ZY 6 ?_
 refine Zj ef (fun h1=>?_) (fun h1=>?_)
 ·refine ZY 2 ?_
  refine Zc (fun ρ' Γ'=>∃(i2:Nat) (g:Array Int),a<i2∧i2≤b∧g.size=d.size∧partialIns ltInt a b (5-(k+1)) i2 g=partialInsertionSort ltInt d a b∧ρ'=[(0,s.v),(1,.int .i64 (a:Int)),(2,.int .i64 (b:Int)),(7,.int .i64 (i2:Int)),(8,.int .i64 (k:Int))]∧Γ'=own s 31 1 (uA g)::Γ) ?_ ?_
  ·refine ZY 2 ?_
   refine Zc (fun ρ' Γ'=>∃i2:Nat,i2=scanSorted ltInt e b i∧a<i2∧i2≤b∧ρ'=[(0,s.v),(1,.int .i64 (a:Int)),(2,.int .i64 (b:Int)),(7,.int .i64 (i2:Int)),(8,.int .i64 (k:Int))]∧Γ'=own s 31 1 (uA e)::Γ) ?_ ?_
   ·refine Zy ?_;refine Zl (fun q2 ρ' Γ'=>∃i':Nat,q2=b-i'∧a<i'∧i'≤b∧scanSorted ltInt e b i'=scanSorted ltInt e b i∧ρ'=[(0,s.v),(1,.int .i64 (a:Int)),(2,.int .i64 (b:Int)),(7,.int .i64 (i':Int)),(8,.int .i64 (k:Int))]∧Γ'=own s 31 1 (uA e)::Γ) (m:=_) (⟨i,rfl,by omega,by omega,rfl,rfl,rfl⟩) ?_;rintro q2 ρ' Γ' ⟨i',hq2,hai',hib',hsc,rfl,rfl⟩;refine ZY 2 ?_;refine Zd ([own s 31 1 (uA e)]) [] (Zra 0 4) ?_;refine ZY 4 ?_
    refine Zb 20 ef (fun hg5_3=>?_) (fun hg5_3=>?_)
    ·refine Zr (Zra 4 9) ?_;refine ZY 2 ?_;refine Zwg ef ef ef ef (Zx (i') ef (hsa) ef (by omega)) ?_;refine Zwg ef ef ef ef (Zo (s) (i') ef (hsa) (uA_get (by omega))) ?_;refine ZY 2 ?_;refine Zwg ef ef ef ef (Zm ef ef) ?_;refine Zwg ef ef ef ef (Zx (i' - 1) ef (hsa) ef (by omega) ((by omega))) ?_;refine Zwg ef ef ef ef (Zo (s) (i' - 1) ef (hsa) (uA_get (by omega))) ?_;refine Z1g (i:=13) ef ef ef ef ef (rfl) ?_;refine  (Zcp Ze (Less_S (e[i']!) (e[i' - 1]!)) ?_);refine Zk [14,15] ?_;refine ZY 2 ?_;refine ZD ?_
     refine Zi ef (fun h2=>?_) (fun h2=>?_)
     ·have hst2:scanSorted ltInt e b i'=scanSorted ltInt e b (i'+1):=scanSorted_step (by omega) (by simpa using h2);refine ZY 4 ?_;refine Zv (Za ef ef) ?_;refine ZY 2 ?_;exact ZX (q2-1) (⟨i'+1,by omega,by omega,by omega,hst2.symm.trans hsc,rfl,rfl⟩) (by omega)
     ·have hst:scanSorted ltInt e b i'=i':=scanSorted_stop (fun h=>by rw[h.2]at h2;cases h2);refine Zy ?_;exact ZM ⟨i',hst.symm.trans hsc,by omega,by omega,rfl,rfl⟩
    ·have hst:scanSorted ltInt e b i'=i':=scanSorted_stop (fun h=>hg5_3 (by omega));refine Zr (Zra 4 12) ?_;refine ZY 8 ?_;refine ZY 4 ?_;refine ZD ?_;refine ZY 2 ?_;exact ZM ⟨i',hst.symm.trans hsc,by omega,by omega,rfl,rfl⟩
   ·rintro ρ' Γ' ⟨i2,hi2,hai2,hib2,rfl,rfl⟩;have hps2:(if i2=b then (e,true) else if b-a<50 then (e,false) else partialIns ltInt a b (5-(k+1)) i2 (fixUp ltInt b i2 (fixDown ltInt a i2 (swp e i2 (i2-1)))))=partialInsertionSort ltInt d a b:=by rw[←hps,show 5-k=(5-(k+1))+1 by omega,partialIns_succ,←hi2]
    refine ZY 7 ?_
    refine Zj ef (fun h3=>?_) (fun h3=>?_)
    ·rw[if_pos (by omega)]at hps2;refine ZY 5 ?_;exact Zf ef Zq (⟨by rw[←hps2];first | done | rfl,by rw[←hps2]⟩)
    ·refine ZY 6 ?_;refine Zv (Zm ef ef) ?_;refine ZY 2 ?_
     refine Zj ef (fun h4=>?_) (fun h4=>?_)
     ·rw[if_neg (by omega),if_pos (by omega)]at hps2;refine ZY 5 ?_;exact Zf ef Zq (⟨by rw[←hps2];first | done | rfl,by rw[←hps2]⟩)
     ·rw[if_neg (by omega),if_neg (by omega)]at hps2;refine ZY 2 ?_;refine Zd ([own s 31 1 (uA e)]) [15] [0,1] ?_;refine ZY 2 ?_;refine ZP 2 [] ef (q_move rfl) ef ?_;refine ZP 3 [] ef (q_move rfl) ef ?_;refine ZP 4 (Zra 5 10) ef (q_sub rfl rfl (inI64 (by omega) (by omega))) ef ?_;refine ZY 2 ?_;refine Zw ef (Zm ef ef) ?_;refine Zw ef (Zx (i2-1) ef (hsa) ef (by omega) ((by omega))) ?_;refine Zw ef (Zo (s) (i2-1) ef (hsa) (uA_get (by omega))) ?_;refine ZY 2 ?_;refine Zw ef (Zx (i2) ef (hsa) ef (by omega)) ?_;refine Zw ef (Zo (s) (i2) ef (hsa) (uA_get (by omega))) ?_;refine Zw ef (Zx (i2) ef (hsa) ef (by omega)) ?_;refine Z1 (i:=15) ef ef ?_;refine(S.storeOw (s) (i2) Eo.h rfl rfl rfl hsa (by first | rfl | exact Nat.add_assoc _ _ _ | omega) (by rw[uA_len];omega) (uA_set _ _ _) ?_);refine ZL ([]) [16] ?_;refine Zw ef (Zx (i2-1) ef (hsa) ef (by omega) ((by omega))) ?_;refine Z1 (i:=17) ef ef ?_;refine(S.storeOw (s) (i2-1) Eo.h rfl rfl rfl hsa (by first | rfl | exact Nat.add_assoc _ _ _ | omega) (by rw[uA_len,Array.size_setIfInBounds];omega) (show _=uA (Go.Sort.swp e (i2) (i2-1)) from uA_set _ _ _) ?_);refine Zk [] ?_;refine ZD ?_;refine ZY 5 ?_;refine Zv (Zm ef ef) ?_;refine ZY 2 ?_
      refine Zc (fun ρ' Γ'=>∃f:Array Int,f.size=d.size∧f=fixDown ltInt a i2 (swp e i2 (i2-1))∧ρ'=[(0,s.v),(1,.int .i64 (a:Int)),(2,.int .i64 (b:Int)),(7,.int .i64 (i2:Int)),(8,.int .i64 (k:Int))]∧Γ'=own s 31 1 (uA f)::Γ) ?_ ?_
      ·refine Zj ef (fun h5=>?_) (fun h5=>?_)
       ·have hfd:fixDown ltInt a i2 (swp e i2 (i2-1))=shiftDown ltInt (i2-1) (swp e i2 (i2-1)):=if_pos (by omega);refine ZY 3 ?_;refine Zv (Zm ef ef) ?_;refine ZY 3 ?_;refine Zl (fun q3 ρ' Γ'=>∃(j:Nat) (z:Int) (f:Array Int),q3=j∧z=j∧j<i2∧f.size=d.size∧shiftDown ltInt j f=shiftDown ltInt (i2-1) (swp e i2 (i2-1))∧ρ'=[(0,s.v),(1,.int .i64 (a:Int)),(2,.int .i64 (b:Int)),(7,.int .i64 (i2:Int)),(8,.int .i64 (k:Int)),(9,.int .i64 z)]∧Γ'=own s 31 1 (uA f)::Γ) (m:=_) (⟨i2-1,(i2:Int)-1,swp e i2 (i2-1),rfl,by omega,by omega,by rw[swpZ,hes],rfl,rfl,rfl⟩) ?_;rintro q3 ρ' Γ' ⟨j,z,f,hq3,hz,hji,hfs,hsd,rfl,rfl⟩;refine ZY 6 ?_
        refine Zj ef (fun h6=>?_) (fun h6=>?_)
        ·refine ZY 5 ?_;refine Zd ([own s 31 1 (uA f)]) [] (Zra 0 9) ?_;refine ZY 2 ?_;refine Zw ef (Zx (j) ef (hsa) ef (by omega) (hz)) ?_;refine Zw ef (Zo (s) (j) ef (hsa) (uA_get (by omega))) ?_;refine ZY 2 ?_;refine Zw ef (Zm ef ef) ?_;refine Zw ef (Zx (j-1) ef (hsa) ef (by omega) ((by omega))) ?_;refine Zw ef (Zo (s) (j-1) ef (hsa) (uA_get (by omega))) ?_;refine Z1 (i:=9) ef ef ?_;refine  (Zcp Ze (Less_S (f[j]!) (f[j-1]!)) ?_);refine Zk [10] ?_;refine Zy ?_;refine ZD ?_
         refine Zi ef (fun h7=>?_) (fun h7=>?_)
         ·have hst:shiftDown ltInt j f=f:=shiftDown_stop (fun h=>by rw[h.2]at h7;cases h7);refine Zy ?_;first | exact S.meet ⟨f,hfs,(hst.symm.trans hsd).trans hfd.symm,rfl,rfl⟩ ⟨rfl,rfl,rfl,rfl,rfl,trivial⟩ Sub.ent | exact S.meet ⟨swp e i2 (i2-1),by rw[swpZ,hes],hfd.symm,rfl,rfl⟩ ⟨rfl,rfl,rfl,rfl,rfl,trivial⟩ Sub.ent
         ·have hst2:shiftDown ltInt j f=shiftDown ltInt (j-1) (swp f j (j-1)):=shiftDown_step (by omega) (by simpa using h7);refine Zy ?_;refine Zd ([own s 31 1 (uA f)]) [15] [0,1] ?_;refine ZY 2 ?_;refine ZP 2 [] ef (q_move rfl) ef ?_;refine ZP 3 [] ef (q_move rfl) ef ?_;refine ZP 4 (Zra 5 10) ef (q_sub rfl rfl (inI64 (by omega) (by omega))) ef ?_;refine ZY 2 ?_;refine Zw ef (Zm ef ef) ?_;refine Zw ef (Zx (j-1) ef (hsa) ef (by omega) ((by omega))) ?_;refine Zw ef (Zo (s) (j-1) ef (hsa) (uA_get (by omega))) ?_;refine ZY 2 ?_;refine Zw ef (Zx (j) ef (hsa) ef (by omega) (hz)) ?_;refine Zw ef (Zo (s) (j) ef (hsa) (uA_get (by omega))) ?_;refine Zw ef (Zx (j) ef (hsa) ef (by omega) (hz)) ?_;refine Z1 (i:=15) ef ef ?_;refine(S.storeOw (s) (j) Eo.h rfl rfl rfl hsa (by first | rfl | exact Nat.add_assoc _ _ _ | omega) (by rw[uA_len];omega) (uA_set _ _ _) ?_);refine ZL ([]) [16] ?_;refine Zw ef (Zx (j-1) ef (hsa) ef (by omega) ((by omega))) ?_;refine Z1 (i:=17) ef ef ?_;refine(S.storeOw (s) (j-1) Eo.h rfl rfl rfl hsa (by first | rfl | exact Nat.add_assoc _ _ _ | omega) (by rw[uA_len,Array.size_setIfInBounds];omega) (show _=uA (Go.Sort.swp f (j) (j-1)) from uA_set _ _ _) ?_);refine Zk [] ?_;refine ZD ?_;refine ZY 2 ?_;refine Zv (Zm ef ef) ?_;refine ZY 2 ?_;exact ZX (j-1) (⟨j-1,z-1,swp f j (j-1),rfl,by omega,by omega,by rw[swpZ,hfs],hst2.symm.trans hsd,rfl,rfl⟩) (by omega)
        ·have hst:shiftDown ltInt j f=f:=shiftDown_stop (fun h=>by omega);refine Zy ?_;first | exact S.meet ⟨f,hfs,(hst.symm.trans hsd).trans hfd.symm,rfl,rfl⟩ ⟨rfl,rfl,rfl,rfl,rfl,trivial⟩ Sub.ent | exact S.meet ⟨swp e i2 (i2-1),by rw[swpZ,hes],hfd.symm,rfl,rfl⟩ ⟨rfl,rfl,rfl,rfl,rfl,trivial⟩ Sub.ent
       ·have hfd:fixDown ltInt a i2 (swp e i2 (i2-1))=swp e i2 (i2-1):=if_neg (by omega);refine Zy ?_;first | exact S.meet ⟨f,hfs,(hst.symm.trans hsd).trans hfd.symm,rfl,rfl⟩ ⟨rfl,rfl,rfl,rfl,rfl,trivial⟩ Sub.ent | exact S.meet ⟨swp e i2 (i2-1),by rw[swpZ,hes],hfd.symm,rfl,rfl⟩ ⟨rfl,rfl,rfl,rfl,rfl,trivial⟩ Sub.ent
      ·rintro ρ' Γ' ⟨f,hfs,hff,rfl,rfl⟩;rw[←hff]at hps2;refine ZY 4 ?_;refine Zv (Zm ef ef) ?_;refine ZY 2 ?_
       refine Zj ef (fun h8=>?_) (fun h8=>?_)
       ·have hfu:fixUp ltInt b i2 f=shiftUp ltInt b (i2+1) f:=if_pos (by omega);refine ZY 3 ?_;refine Zv (Za ef ef) ?_;refine ZY 3 ?_;refine Zl (fun q4 ρ' Γ'=>∃(j:Nat) (g:Array Int),q4=b-j∧i2<j∧j≤b∧g.size=d.size∧shiftUp ltInt b j g=shiftUp ltInt b (i2+1) f∧ρ'=[(0,s.v),(1,.int .i64 (a:Int)),(2,.int .i64 (b:Int)),(7,.int .i64 (i2:Int)),(8,.int .i64 (k:Int)),(10,.int .i64 (j:Int))]∧Γ'=own s 31 1 (uA g)::Γ) (m:=_) (⟨i2+1,f,rfl,by omega,by omega,hfs,rfl,rfl,rfl⟩) ?_;rintro q4 ρ' Γ' ⟨j,g,hq4,hij,hjb,hgs,hsu,rfl,rfl⟩;refine ZY 7 ?_
        refine Zj ef (fun h9=>?_) (fun h9=>?_)
        ·refine ZY 5 ?_;refine Zd ([own s 31 1 (uA g)]) [] (Zra 0 9) ?_;refine ZY 2 ?_;refine Zw ef (Zx (j) ef (hsa) ef (by omega)) ?_;refine Zw ef (Zo (s) (j) ef (hsa) (uA_get (by omega))) ?_;refine ZY 2 ?_;refine Zw ef (Zm ef ef) ?_;refine Zw ef (Zx (j-1) ef (hsa) ef (by omega) ((by omega))) ?_;refine Zw ef (Zo (s) (j-1) ef (hsa) (uA_get (by omega))) ?_;refine Z1 (i:=9) ef ef ?_;refine  (Zcp Ze (Less_S (g[j]!) (g[j-1]!)) ?_);refine Zk [10] ?_;refine Zy ?_;refine ZD ?_
         refine Zi ef (fun h10=>?_) (fun h10=>?_)
         ·have hst:shiftUp ltInt b j g=g:=shiftUp_stop (fun h=>by rw[h.2]at h10;cases h10);refine Zy ?_;first | exact S.meet ⟨i2,g,by omega,by omega,hgs,by rw[←(hst.symm.trans hsu).trans hfu.symm]at hps2;exact hps2,rfl,rfl⟩ ⟨rfl,rfl,rfl,rfl,rfl,trivial⟩ Sub.ent | exact S.meet ⟨i2,f,by omega,by omega,hfs,hps2,rfl,rfl⟩ ⟨rfl,rfl,rfl,rfl,rfl,trivial⟩ Sub.ent
         ·have hst2:shiftUp ltInt b j g=shiftUp ltInt b (j+1) (swp g j (j-1)):=shiftUp_step (by omega) (by simpa using h10);refine Zy ?_;refine Zd ([own s 31 1 (uA g)]) [15] [0,1] ?_;refine ZY 2 ?_;refine ZP 2 [] ef (q_move rfl) ef ?_;refine ZP 3 [] ef (q_move rfl) ef ?_;refine ZP 4 (Zra 5 10) ef (q_sub rfl rfl (inI64 (by omega) (by omega))) ef ?_;refine ZY 2 ?_;refine Zw ef (Zm ef ef) ?_;refine Zw ef (Zx (j-1) ef (hsa) ef (by omega) ((by omega))) ?_;refine Zw ef (Zo (s) (j-1) ef (hsa) (uA_get (by omega))) ?_;refine ZY 2 ?_;refine Zw ef (Zx (j) ef (hsa) ef (by omega)) ?_;refine Zw ef (Zo (s) (j) ef (hsa) (uA_get (by omega))) ?_;refine Zw ef (Zx (j) ef (hsa) ef (by omega)) ?_;refine Z1 (i:=15) ef ef ?_;refine(S.storeOw (s) (j) Eo.h rfl rfl rfl hsa (by first | rfl | exact Nat.add_assoc _ _ _ | omega) (by rw[uA_len];omega) (uA_set _ _ _) ?_);refine ZL ([]) [16] ?_;refine Zw ef (Zx (j-1) ef (hsa) ef (by omega) ((by omega))) ?_;refine Z1 (i:=17) ef ef ?_;refine(S.storeOw (s) (j-1) Eo.h rfl rfl rfl hsa (by first | rfl | exact Nat.add_assoc _ _ _ | omega) (by rw[uA_len,Array.size_setIfInBounds];omega) (show _=uA (Go.Sort.swp g (j) (j-1)) from uA_set _ _ _) ?_);refine Zk [] ?_;refine ZD ?_;refine ZY 2 ?_;refine Zv (Za ef ef) ?_;refine ZY 2 ?_;exact ZX (q4-1) (⟨j+1,swp g j (j-1),by omega,by omega,by omega,by rw[swpZ,hgs],hst2.symm.trans hsu,rfl,rfl⟩) (by omega)
        ·have hst:shiftUp ltInt b j g=g:=shiftUp_stop (fun h=>by omega);refine Zy ?_;first | exact S.meet ⟨i2,g,by omega,by omega,hgs,by rw[←(hst.symm.trans hsu).trans hfu.symm]at hps2;exact hps2,rfl,rfl⟩ ⟨rfl,rfl,rfl,rfl,rfl,trivial⟩ Sub.ent | exact S.meet ⟨i2,f,by omega,by omega,hfs,hps2,rfl,rfl⟩ ⟨rfl,rfl,rfl,rfl,rfl,trivial⟩ Sub.ent
       ·have hfu:fixUp ltInt b i2 f=f:=if_neg (by omega);rw[hfu]at hps2;refine Zy ?_;first | exact S.meet ⟨i2,g,by omega,by omega,hgs,by rw[←(hst.symm.trans hsu).trans hfu.symm]at hps2;exact hps2,rfl,rfl⟩ ⟨rfl,rfl,rfl,rfl,rfl,trivial⟩ Sub.ent | exact S.meet ⟨i2,f,by omega,by omega,hfs,hps2,rfl,rfl⟩ ⟨rfl,rfl,rfl,rfl,rfl,trivial⟩ Sub.ent
  ·rintro ρ' Γ' ⟨i2,g,hai2,hib2,hgs,hps3,rfl,rfl⟩;refine ZY 2 ?_;refine Zv (Za ef ef) ?_;refine ZY 2 ?_;exact ZX (q-1) (⟨k+1,i2,g,by omega,by omega,by omega,by omega,hgs,hps3,rfl,rfl⟩) (by omega)
 ·rw[show 5-k=0 by omega]at hps;have hps:(e,false)=partialInsertionSort ltInt d a b:=hps;refine ZY 6 ?_;exact Zf ef Zq (⟨by rw[←hps];first | done | rfl,by rw[←hps]⟩)
theorem partition_S (s:SV) (d:Array Int) (a b pv:Nat) (hap:a≤pv) (hpb:pv<b) (hb:b≤d.size) (hsz:d.size≤65535) (hsn:s.n=d.size):Spec Tryz.prog 164 [s.v,.int .i64 (a:Int),.int .i64 (b:Int),.int .i64 (pv:Int)] [own s 31 1 (uA d)] fun Γ v Θ=>v=.tuple #[.int .i64 ((partition ltInt d a b pv).1:Nat),.bool (partition ltInt d a b pv).2.1]∧Θ=own s 31 1 (uA (partition ltInt d a b pv).2.2)::Γ:=by
 refine Zbd Tryz.func164 rfl Tryz.ntmps164 fun w0 Γ=>Zsh ?_;refine S.ownSome s (by omega) fun sb so hsa _ _ _=>?_;obtain⟨e,he⟩:∃e,e=swp d a pv:=⟨_,rfl⟩;have hes:e.size=d.size:=by rw[he,swpZ]
 obtain⟨p,hp⟩:∃p:Array Int→Int→Bool,p=fun f x=>ltInt x f[a]! := ⟨_,rfl⟩;obtain⟨q,hq⟩:∃q:Array Int→Int→Bool,q=fun f x=>!ltInt x f[a]! := ⟨_,rfl⟩;have hpq:∀f x,q f x=!p f x:=fun f x=>by rw[hp,hq]
 have hpv:∀f x,ltInt x f[a]! = true→p f x=true:=fun f x h=>by rw[hp];exact h
 have hpn:∀f x,p f x=true→ltInt x f[a]! = true:=fun f x h=>by rw[hp]at h;exact h
 have hqv:∀f x,(!ltInt x f[a]!)=true→q f x=true:=fun f x h=>by rw[hq];exact h
 have hqn:∀f x,q f x=true→(!ltInt x f[a]!)=true:=fun f x h=>by rw[hq]at h;exact h
 have hpt:partition ltInt d a b pv=if scanUp (p e) e (b-1) (a+1) > scanDown (q e) e (scanUp (p e) e (b-1) (a+1)) (b-1) then (scanDown (q e) e (scanUp (p e) e (b-1) (a+1)) (b-1),true,swp e (scanDown (q e) e (scanUp (p e) e (b-1) (a+1)) (b-1)) a) else
   ((partLoop ltInt a (scanUp (p e) e (b-1) (a+1)+1) (scanDown (q e) e (scanUp (p e) e (b-1) (a+1)) (b-1)-1) (swp e (scanUp (p e) e (b-1) (a+1)) (scanDown (q e) e (scanUp (p e) e (b-1) (a+1)) (b-1)))).1,false,
    swp (partLoop ltInt a (scanUp (p e) e (b-1) (a+1)+1) (scanDown (q e) e (scanUp (p e) e (b-1) (a+1)) (b-1)-1) (swp e (scanUp (p e) e (b-1) (a+1)) (scanDown (q e) e (scanUp (p e) e (b-1) (a+1)) (b-1)))).2 (partLoop ltInt a (scanUp (p e) e (b-1) (a+1)+1) (scanDown (q e) e (scanUp (p e) e (b-1) (a+1)) (b-1)-1) (swp e (scanUp (p e) e (b-1) (a+1)) (scanDown (q e) e (scanUp (p e) e (b-1) (a+1)) (b-1)))).1 a):=by
  rw[hp,hq,he];rfl
 have hpl:∀i j f,partLoop ltInt a i j f=if scanUp (p f) f j i > scanDown (q f) f (scanUp (p f) f j i) j then (scanDown (q f) f (scanUp (p f) f j i) j,f) else partLoop ltInt a (scanUp (p f) f j i+1) (scanDown (q f) f (scanUp (p f) f j i) j-1) (swp f (scanUp (p f) f j i) (scanDown (q f) f (scanUp (p f) f j i) j)):=fun i j f=>by
  rw[hp,hq];exact partLoop_eq ltInt a i j f
 clear hp hq
 refine ZY 6 ?_;refine Zd ([own s 31 1 (uA d)]) [13] [0,1] ?_;refine ZY 2 ?_;refine ZP 2 [] ef (q_move rfl) ef ?_;refine ZP 3 (Zra 4 9) ef (q_move rfl) ef ?_;refine ZY 2 ?_;refine Zw ef (Zx (pv) ef (hsa) ef (by omega)) ?_;refine Zw ef (Zo (s) (pv) ef (hsa) (uA_get (by omega))) ?_;refine ZY 2 ?_;refine Zw ef (Zx (a) ef (hsa) ef (by omega)) ?_;refine Zw ef (Zo (s) (a) ef (hsa) (uA_get (by omega))) ?_;refine Zw ef (Zx (a) ef (hsa) ef (by omega)) ?_;refine Z1 (i:=13) ef ef ?_;refine(S.storeOw (s) (a) Eo.h rfl rfl rfl hsa (by first | rfl | exact Nat.add_assoc _ _ _ | omega) (by rw[uA_len];omega) (uA_set _ _ _) ?_);refine ZL ([]) [14] ?_;refine Zw ef (Zx (pv) ef (hsa) ef (by omega)) ?_;refine Z1 (i:=15) ef ef ?_;refine(S.storeOw (s) (pv) Eo.h rfl rfl rfl hsa (by first | rfl | exact Nat.add_assoc _ _ _ | omega) (by rw[uA_len,Array.size_setIfInBounds];omega) (show _=uA (Go.Sort.swp d (a) (pv)) from uA_set _ _ _) ?_);refine Zk [] ?_;refine ZD ?_;refine ZY 2 ?_;rw[←he];refine Zy ?_;refine Zv (Za ef ef) ?_;refine Zy ?_;refine Zv (Zm ef ef) ?_;refine ZY 4 ?_
 refine Zc (fun ρ' Γ'=>∃i1:Nat,i1=scanUp (p e) e (b-1) (a+1)∧a<i1∧i1≤b∧ρ'=[(0,s.v),(1,.int .i64 (a:Int)),(10,.int .i64 (i1:Int)),(11,.int .i64 ((b:Int)-1))]∧Γ'=own s 31 1 (uA e)::Γ) ?_ ?_
 ·refine Zy ?_;refine Zl (fun r ρ' Γ'=>∃i':Nat,r=b-i'∧a<i'∧i'≤b∧scanUp (p e) e (b-1) i'=scanUp (p e) e (b-1) (a+1)∧ρ'=[(0,s.v),(1,.int .i64 (a:Int)),(10,.int .i64 (i':Int)),(11,.int .i64 ((b:Int)-1))]∧Γ'=own s 31 1 (uA e)::Γ) (m:=_) (⟨a+1,rfl,by omega,by omega,rfl,rfl,rfl⟩) ?_;rintro r ρ' Γ' ⟨i',hr,hai,hib,hsc,rfl,rfl⟩;refine ZY 2 ?_;refine Zd ([own s 31 1 (uA e)]) [] (Zra 0 4) ?_;refine ZY 4 ?_
  refine Zb 33 ef (fun hg3_3=>?_) (fun hg3_3=>?_)
  ·refine Zr (Zra 4 8) ?_;refine ZY 2 ?_;refine Zwg ef ef ef ef (Zx (i') ef (hsa) ef (by omega)) ?_;refine Zwg ef ef ef ef (Zo (s) (i') ef (hsa) (uA_get (by omega))) ?_;refine ZY 2 ?_;refine Zwg ef ef ef ef (Zx (a) ef (hsa) ef (by omega)) ?_;refine Zwg ef ef ef ef (Zo (s) (a) ef (hsa) (uA_get (by omega))) ?_;refine Z1g (i:=12) ef ef ef ef ef (rfl) ?_;refine  (Zcp Ze (Less_S (e[i']!) (e[a]!)) ?_);refine Zk [13] ?_;refine Zy ?_;refine ZD ?_
   refine Zi ef (fun h1=>?_) (fun h1=>?_)
   ·have hst2:scanUp (p e) e (b-1) i'=scanUp (p e) e (b-1) (i'+1):=scanUp_step (by omega) (hpv _ _ h1);refine ZY 4 ?_;refine Zv (Za ef ef) ?_;refine ZY 2 ?_;exact ZX (r-1) (⟨i'+1,by omega,by omega,by omega,hst2.symm.trans hsc,rfl,rfl⟩) (by omega)
   ·have hst:scanUp (p e) e (b-1) i'=i':=scanUp_stop (fun h=>by rw[hpn _ _ h.2]at h1;cases h1);refine Zy ?_;exact ZM ⟨i',hst.symm.trans hsc,by omega,by omega,rfl,rfl⟩
  ·have hst:scanUp (p e) e (b-1) i'=i':=scanUp_stop (fun h=>hg3_3 (by omega));refine Zr (Zra 4 10) ?_;refine ZY 8 ?_;refine ZY 2 ?_;refine ZD ?_;refine ZY 2 ?_;exact ZM ⟨i',hst.symm.trans hsc,by omega,by omega,rfl,rfl⟩
 ·rintro ρ' Γ' ⟨i1,hi1,hai1,hib1,rfl,rfl⟩;refine Zy ?_
  refine Zc (fun ρ' Γ'=>∃(j1:Nat) (z1:Int),z1=j1∧j1=scanDown (q e) e i1 (b-1)∧ρ'=[(0,s.v),(1,.int .i64 (a:Int)),(10,.int .i64 (i1:Int)),(11,.int .i64 z1)]∧Γ'=own s 31 1 (uA e)::Γ) ?_ ?_
  ·refine Zy ?_;refine Zl (fun r ρ' Γ'=>∃(j':Nat) (z:Int),r=j'∧z=j'∧j' < b∧scanDown (q e) e i1 j'=scanDown (q e) e i1 (b-1)∧ρ'=[(0,s.v),(1,.int .i64 (a:Int)),(10,.int .i64 (i1:Int)),(11,.int .i64 z)]∧Γ'=own s 31 1 (uA e)::Γ) (m:=_) (⟨b-1,(b:Int)-1,rfl,by omega,by omega,rfl,rfl,rfl⟩) ?_;rintro r ρ' Γ' ⟨j',z,hr,hz,hjb,hsc,rfl,rfl⟩;refine ZY 2 ?_;refine Zd ([own s 31 1 (uA e)]) [] (Zra 0 4) ?_;refine ZY 4 ?_
   refine Zb 49 ef (fun hg5_3=>?_) (fun hg5_3=>?_)
   ·refine Zr (Zra 4 8) ?_;refine ZY 2 ?_;refine Zwg ef ef ef ef (Zx (j') ef (hsa) ef (by omega) (hz)) ?_;refine Zwg ef ef ef ef (Zo (s) (j') ef (hsa) (uA_get (by omega))) ?_;refine ZY 2 ?_;refine Zwg ef ef ef ef (Zx (a) ef (hsa) ef (by omega)) ?_;refine Zwg ef ef ef ef (Zo (s) (a) ef (hsa) (uA_get (by omega))) ?_;refine Z1g (i:=12) ef ef ef ef ef (rfl) ?_;refine  (Zcp Ze (Less_S (e[j']!) (e[a]!)) ?_);refine Zk [13,14] ?_;refine ZY 2 ?_;refine ZD ?_
    refine Zi ef (fun h2=>?_) (fun h2=>?_)
    ·have hst2:scanDown (q e) e i1 j'=scanDown (q e) e i1 (j' - 1):=scanDown_step (by omega) (by omega) (hqv _ _ h2);refine ZY 4 ?_;refine Zv (Zm ef ef) ?_;refine ZY 2 ?_;exact ZX (j' - 1) (⟨j' - 1,z-1,rfl,by omega,by omega,hst2.symm.trans hsc,rfl,rfl⟩) (by omega)
    ·have hst:scanDown (q e) e i1 j'=j':=scanDown_stop (fun h=>by rw[hqn _ _ h.2]at h2;cases h2);refine Zy ?_;exact ZM ⟨j',z,hz,hst.symm.trans hsc,rfl,rfl⟩
   ·have hst:scanDown (q e) e i1 j'=j':=scanDown_stop (fun h=>hg5_3 (by omega));refine Zr (Zra 4 11) ?_;refine ZY 8 ?_;refine ZY 3 ?_;refine ZD ?_;refine ZY 2 ?_;exact ZM ⟨j',z,hz,hst.symm.trans hsc,rfl,rfl⟩
  ·rintro ρ' Γ' ⟨j1,z1,rfl,hj1,rfl,rfl⟩;obtain⟨f1,f2,f3,f4,f5⟩:=scan_facts (p:=p e) (q:=q e) (e:=e) (i:=a+1) (j:=b-1) (hpq e) (by omega) (by omega);rw[←hi1,←hj1]at f5 f4;rw[←hi1]at f1 f2;rw[←hi1,←hj1]at f3;rw[←hi1,←hj1]at hpt;refine ZY 7 ?_
   refine Zj ef (fun h3=>?_) (fun h3=>?_)
   ·rw[if_pos (by omega)]at hpt;refine Zy ?_;refine Zd ([own s 31 1 (uA e)]) [13] [0,1] ?_;refine ZY 2 ?_;refine ZP 2 [] ef (q_move rfl) ef ?_;refine ZP 3 (Zra 4 9) ef (q_move rfl) ef ?_;refine ZY 2 ?_;refine Zw ef (Zx (a) ef (hsa) ef (by omega)) ?_;refine Zw ef (Zo (s) (a) ef (hsa) (uA_get (by omega))) ?_;refine ZY 2 ?_;refine Zw ef (Zx (j1) ef (hsa) ef (by omega)) ?_;refine Zw ef (Zo (s) (j1) ef (hsa) (uA_get (by omega))) ?_;refine Zw ef (Zx (j1) ef (hsa) ef (by omega)) ?_;refine Z1 (i:=13) ef ef ?_;refine(S.storeOw (s) (j1) Eo.h rfl rfl rfl hsa (by first | rfl | exact Nat.add_assoc _ _ _ | omega) (by rw[uA_len];omega) (uA_set _ _ _) ?_);refine ZL ([]) [14] ?_;refine Zw ef (Zx (a) ef (hsa) ef (by omega)) ?_;refine Z1 (i:=15) ef ef ?_;refine(S.storeOw (s) (a) Eo.h rfl rfl rfl hsa (by first | rfl | exact Nat.add_assoc _ _ _ | omega) (by rw[uA_len,Array.size_setIfInBounds];omega) (show _=uA (Go.Sort.swp e (j1) (a)) from uA_set _ _ _) ?_);refine Zk [] ?_;refine ZD ?_;refine ZY 7 ?_;exact Zf ef Zq (⟨by rw[hpt];first | done | rfl,by rw[hpt]⟩)
   ·rw[if_neg (by omega)]at hpt;have f6:=f5 (by omega);refine ZY 2 ?_;refine Zd ([own s 31 1 (uA e)]) [13] [0,1] ?_;refine ZY 2 ?_;refine ZP 2 [] ef (q_move rfl) ef ?_;refine ZP 3 (Zra 4 9) ef (q_move rfl) ef ?_;refine ZY 2 ?_;refine Zw ef (Zx (j1) ef (hsa) ef (by omega)) ?_;refine Zw ef (Zo (s) (j1) ef (hsa) (uA_get (by omega))) ?_;refine ZY 2 ?_;refine Zw ef (Zx (i1) ef (hsa) ef (by omega)) ?_;refine Zw ef (Zo (s) (i1) ef (hsa) (uA_get (by omega))) ?_;refine Zw ef (Zx (i1) ef (hsa) ef (by omega)) ?_;refine Z1 (i:=13) ef ef ?_;refine(S.storeOw (s) (i1) Eo.h rfl rfl rfl hsa (by first | rfl | exact Nat.add_assoc _ _ _ | omega) (by rw[uA_len];omega) (uA_set _ _ _) ?_);refine ZL ([]) [14] ?_;refine Zw ef (Zx (j1) ef (hsa) ef (by omega)) ?_;refine Z1 (i:=15) ef ef ?_;refine(S.storeOw (s) (j1) Eo.h rfl rfl rfl hsa (by first | rfl | exact Nat.add_assoc _ _ _ | omega) (by rw[uA_len,Array.size_setIfInBounds];omega) (show _=uA (Go.Sort.swp e (i1) (j1)) from uA_set _ _ _) ?_);refine Zk [] ?_;refine ZD ?_;refine ZY 3 ?_;refine Zv (Za ef ef) ?_;refine ZY 4 ?_;obtain⟨L,hL⟩:∃L,L=partLoop ltInt a (i1+1) (j1-1) (swp e i1 j1):=⟨_,rfl⟩;rw[←hL]at hpt;refine Zy ?_;refine Zv (Zm ef ef) ?_;refine ZY 4 ?_;refine Zl (fun r ρ' Γ'=>∃(i j:Nat) (z:Int) (f:Array Int),r=j+1-i∧z=j∧a<i∧i≤j+1∧j<b∧f.size=d.size∧partLoop ltInt a i j f=L∧ρ'=[(0,s.v),(1,.int .i64 (a:Int)),(10,.int .i64 (i:Int)),(11,.int .i64 z)]∧Γ'=own s 31 1 (uA f)::Γ) (m:=_) (⟨i1+1,j1-1,(j1:Int)-1,swp e i1 j1,rfl,by omega,by omega,by omega,by omega,by rw[swpZ,hes],hL.symm,rfl,rfl⟩) ?_;rintro r3 ρ' Γ' ⟨i,j,z,f,hr3,hz,hai,hij,hjb,hfs,hlp,rfl,rfl⟩;obtain⟨k1,k2,k3,k4,k5⟩:=scan_facts (p:=p f) (q:=q f) (e:=f) (i:=i) (j:=j) (hpq f) (by omega) (by omega);rw[hpl]at hlp;refine ZY 2 ?_
    refine Zc (fun ρ' Γ'=>∃i2:Nat,i2=scanUp (p f) f j i∧ρ'=[(0,s.v),(1,.int .i64 (a:Int)),(10,.int .i64 (i2:Int)),(11,.int .i64 z)]∧Γ'=own s 31 1 (uA f)::Γ) ?_ ?_
    ·refine Zy ?_;refine Zl (fun r ρ' Γ'=>∃i':Nat,r=j+1-i'∧i≤i'∧i'≤j+1∧scanUp (p f) f j i'=scanUp (p f) f j i∧ρ'=[(0,s.v),(1,.int .i64 (a:Int)),(10,.int .i64 (i':Int)),(11,.int .i64 z)]∧Γ'=own s 31 1 (uA f)::Γ) (m:=_) (⟨i,rfl,by omega,by omega,rfl,rfl,rfl⟩) ?_;rintro r ρ' Γ' ⟨i',hr,hii,hij',hsc,rfl,rfl⟩;refine ZY 2 ?_;refine Zd ([own s 31 1 (uA f)]) [] (Zra 0 4) ?_;refine ZY 4 ?_
     refine Zb 102 ef (fun hg13_3=>?_) (fun hg13_3=>?_)
     ·refine Zr (Zra 4 8) ?_;refine ZY 2 ?_;refine Zwg ef ef ef ef (Zx (i') ef (hsa) ef (by omega)) ?_;refine Zwg ef ef ef ef (Zo (s) (i') ef (hsa) (uA_get (by omega))) ?_;refine ZY 2 ?_;refine Zwg ef ef ef ef (Zx (a) ef (hsa) ef (by omega)) ?_;refine Zwg ef ef ef ef (Zo (s) (a) ef (hsa) (uA_get (by omega))) ?_;refine Z1g (i:=12) ef ef ef ef ef (rfl) ?_;refine  (Zcp Ze (Less_S (f[i']!) (f[a]!)) ?_);refine Zk [13] ?_;refine Zy ?_;refine ZD ?_
      refine Zi ef (fun h4=>?_) (fun h4=>?_)
      ·have hst2:scanUp (p f) f j i'=scanUp (p f) f j (i'+1):=scanUp_step (by omega) (hpv _ _ h4);refine ZY 4 ?_;refine Zv (Za ef ef) ?_;refine ZY 2 ?_;exact ZX (r-1) (⟨i'+1,by omega,by omega,by omega,hst2.symm.trans hsc,rfl,rfl⟩) (by omega)
      ·have hst:scanUp (p f) f j i'=i':=scanUp_stop (fun h=>by rw[hpn _ _ h.2]at h4;cases h4);refine Zy ?_;exact ZM ⟨i',hst.symm.trans hsc,rfl,rfl⟩
     ·have hst:scanUp (p f) f j i'=i':=scanUp_stop (fun h=>hg13_3 (by omega));refine Zr (Zra 4 10) ?_;refine ZY 8 ?_;refine ZY 2 ?_;refine ZD ?_;refine ZY 2 ?_;exact ZM ⟨i',hst.symm.trans hsc,rfl,rfl⟩
    ·rintro ρ' Γ' ⟨i2,hi2,rfl,rfl⟩;rw[←hi2]at k1 k2 k3 k4 k5 hlp;refine Zy ?_
     refine Zc (fun ρ' Γ'=>∃(j2:Nat) (z2:Int),z2=j2∧j2=scanDown (q f) f i2 j∧ρ'=[(0,s.v),(1,.int .i64 (a:Int)),(10,.int .i64 (i2:Int)),(11,.int .i64 z2)]∧Γ'=own s 31 1 (uA f)::Γ) ?_ ?_
     ·refine Zy ?_;refine Zl (fun r ρ' Γ'=>∃(j':Nat) (z':Int),r=j'∧z'=j'∧j'≤j∧scanDown (q f) f i2 j'=scanDown (q f) f i2 j∧ρ'=[(0,s.v),(1,.int .i64 (a:Int)),(10,.int .i64 (i2:Int)),(11,.int .i64 z')]∧Γ'=own s 31 1 (uA f)::Γ) (m:=_) (⟨j,z,rfl,hz,by omega,rfl,rfl,rfl⟩) ?_;rintro r ρ' Γ' ⟨j',z',hr,hz',hjj,hsc,rfl,rfl⟩;refine ZY 2 ?_;refine Zd ([own s 31 1 (uA f)]) [] (Zra 0 4) ?_;refine ZY 4 ?_
      refine Zb 118 ef (fun hg15_3=>?_) (fun hg15_3=>?_)
      ·refine Zr (Zra 4 8) ?_;refine ZY 2 ?_;refine Zwg ef ef ef ef (Zx (j') ef (hsa) ef (by omega) (hz')) ?_;refine Zwg ef ef ef ef (Zo (s) (j') ef (hsa) (uA_get (by omega))) ?_;refine ZY 2 ?_;refine Zwg ef ef ef ef (Zx (a) ef (hsa) ef (by omega)) ?_;refine Zwg ef ef ef ef (Zo (s) (a) ef (hsa) (uA_get (by omega))) ?_;refine Z1g (i:=12) ef ef ef ef ef (rfl) ?_;refine  (Zcp Ze (Less_S (f[j']!) (f[a]!)) ?_);refine Zk [13,14] ?_;refine ZY 2 ?_;refine ZD ?_
       refine Zi ef (fun h5=>?_) (fun h5=>?_)
       ·have hst2:scanDown (q f) f i2 j'=scanDown (q f) f i2 (j' - 1):=scanDown_step (by omega) (by omega) (hqv _ _ h5);refine ZY 4 ?_;refine Zv (Zm ef ef) ?_;refine ZY 2 ?_;exact ZX (j' - 1) (⟨j' - 1,z' - 1,rfl,by omega,by omega,hst2.symm.trans hsc,rfl,rfl⟩) (by omega)
       ·have hst:scanDown (q f) f i2 j'=j':=scanDown_stop (fun h=>by rw[hqn _ _ h.2]at h5;cases h5);refine Zy ?_;exact ZM ⟨j',z',hz',hst.symm.trans hsc,rfl,rfl⟩
      ·have hst:scanDown (q f) f i2 j'=j':=scanDown_stop (fun h=>hg15_3 (by omega));refine Zr (Zra 4 11) ?_;refine ZY 8 ?_;refine ZY 3 ?_;refine ZD ?_;refine ZY 2 ?_;exact ZM ⟨j',z',hz',hst.symm.trans hsc,rfl,rfl⟩
     ·rintro ρ' Γ' ⟨j2,z2,rfl,hj2,rfl,rfl⟩;rw[←hj2]at k3 k4 k5 hlp;refine ZY 7 ?_
      refine Zj ef (fun h6=>?_) (fun h6=>?_)
      ·rw[if_pos (by omega)]at hlp;rw[←hlp]at hpt;refine ZY 2 ?_;refine Zd ([own s 31 1 (uA f)]) [13] [0,1] ?_;refine ZY 2 ?_;refine ZP 2 [] ef (q_move rfl) ef ?_;refine ZP 3 (Zra 4 9) ef (q_move rfl) ef ?_;refine ZY 2 ?_;refine Zw ef (Zx (a) ef (hsa) ef (by omega)) ?_;refine Zw ef (Zo (s) (a) ef (hsa) (uA_get (by omega))) ?_;refine ZY 2 ?_;refine Zw ef (Zx (j2) ef (hsa) ef (by omega)) ?_;refine Zw ef (Zo (s) (j2) ef (hsa) (uA_get (by omega))) ?_;refine Zw ef (Zx (j2) ef (hsa) ef (by omega)) ?_;refine Z1 (i:=13) ef ef ?_;refine(S.storeOw (s) (j2) Eo.h rfl rfl rfl hsa (by first | rfl | exact Nat.add_assoc _ _ _ | omega) (by rw[uA_len];omega) (uA_set _ _ _) ?_);refine ZL ([]) [14] ?_;refine Zw ef (Zx (a) ef (hsa) ef (by omega)) ?_;refine Z1 (i:=15) ef ef ?_;refine(S.storeOw (s) (a) Eo.h rfl rfl rfl hsa (by first | rfl | exact Nat.add_assoc _ _ _ | omega) (by rw[uA_len,Array.size_setIfInBounds];omega) (show _=uA (Go.Sort.swp f (j2) (a)) from uA_set _ _ _) ?_);refine Zk [] ?_;refine ZD ?_;refine ZY 7 ?_;exact Zf ef Zq (⟨by rw[hpt];first | done | rfl,by rw[hpt]⟩)
      ·rw[if_neg (by omega)]at hlp;have k6:=k5 (by omega);refine ZY 2 ?_;refine Zd ([own s 31 1 (uA f)]) [13] [0,1] ?_;refine ZY 2 ?_;refine ZP 2 [] ef (q_move rfl) ef ?_;refine ZP 3 (Zra 4 9) ef (q_move rfl) ef ?_;refine ZY 2 ?_;refine Zw ef (Zx (j2) ef (hsa) ef (by omega)) ?_;refine Zw ef (Zo (s) (j2) ef (hsa) (uA_get (by omega))) ?_;refine ZY 2 ?_;refine Zw ef (Zx (i2) ef (hsa) ef (by omega)) ?_;refine Zw ef (Zo (s) (i2) ef (hsa) (uA_get (by omega))) ?_;refine Zw ef (Zx (i2) ef (hsa) ef (by omega)) ?_;refine Z1 (i:=13) ef ef ?_;refine(S.storeOw (s) (i2) Eo.h rfl rfl rfl hsa (by first | rfl | exact Nat.add_assoc _ _ _ | omega) (by rw[uA_len];omega) (uA_set _ _ _) ?_);refine ZL ([]) [14] ?_;refine Zw ef (Zx (j2) ef (hsa) ef (by omega)) ?_;refine Z1 (i:=15) ef ef ?_;refine(S.storeOw (s) (j2) Eo.h rfl rfl rfl hsa (by first | rfl | exact Nat.add_assoc _ _ _ | omega) (by rw[uA_len,Array.size_setIfInBounds];omega) (show _=uA (Go.Sort.swp f (i2) (j2)) from uA_set _ _ _) ?_);refine Zk [] ?_;refine ZD ?_;refine ZY 3 ?_;refine Zv (Za ef ef) ?_;refine ZY 4 ?_;refine Zv (Zm ef ef) ?_;refine ZY 2 ?_;exact ZX (j2-1+1-(i2+1)) (⟨i2+1,j2-1,(j2:Int)-1,swp f i2 j2,rfl,by omega,by omega,by omega,by omega,by rw[swpZ,hfs],hlp,rfl,rfl⟩) (by omega)
theorem partitionEqual_S (s:SV) (d:Array Int) (a b pv:Nat) (hap:a≤pv) (hpb:pv<b) (hb:b≤d.size) (hsz:d.size≤65535) (hsn:s.n=d.size):Spec Tryz.prog 163 [s.v,.int .i64 (a:Int),.int .i64 (b:Int),.int .i64 (pv:Int)] [own s 31 1 (uA d)] fun Γ v Θ=>v=.int .i64 ((partitionEqual ltInt d a b pv).1:Nat)∧Θ=own s 31 1 (uA (partitionEqual ltInt d a b pv).2)::Γ:=by
 refine Zbd Tryz.func163 rfl Tryz.ntmps163 fun w0 Γ=>Zsh ?_;refine S.ownSome s (by omega) fun sb so hsa _ _ _=>?_;obtain⟨p,hp⟩:∃p:Array Int→Int→Bool,p=fun f x=>!ltInt f[a]! x:=⟨_,rfl⟩;obtain⟨q,hq⟩:∃q:Array Int→Int→Bool,q=fun f x=>ltInt f[a]! x:=⟨_,rfl⟩;have hpq:∀f x,q f x=!p f x:=fun f x=>by rw[hp,hq];simp
 have hpv:∀f x,(!ltInt f[a]! x)=true→p f x=true:=fun f x h=>by rw[hp];exact h
 have hpn:∀f x,p f x=true→(!ltInt f[a]! x)=true:=fun f x h=>by rw[hp]at h;exact h
 have hqv:∀f x,ltInt f[a]! x=true→q f x=true:=fun f x h=>by rw[hq];exact h
 have hqn:∀f x,q f x=true→ltInt f[a]! x=true:=fun f x h=>by rw[hq]at h;exact h
 have hpl:∀i j f,partEqLoop ltInt a i j f=if scanUp (p f) f j i > scanDown (q f) f (scanUp (p f) f j i) j then (scanUp (p f) f j i,f) else partEqLoop ltInt a (scanUp (p f) f j i+1) (scanDown (q f) f (scanUp (p f) f j i) j-1) (swp f (scanUp (p f) f j i) (scanDown (q f) f (scanUp (p f) f j i) j)):=fun i j f=>by
  rw[hp,hq];exact partEqLoop_eq ltInt a i j f
 obtain⟨L,hL⟩:∃L,L=partitionEqual ltInt d a b pv:=⟨_,rfl⟩;have hL2:partEqLoop ltInt a (a+1) (b-1) (swp d a pv)=L:=hL.symm;rw[←hL];clear hp hq
 refine ZY 5 ?_;refine Zd ([own s 31 1 (uA d)]) [13] [0,1] ?_;refine ZY 2 ?_;refine ZP 2 [] ef (q_move rfl) ef ?_;refine ZP 3 (Zra 4 9) ef (q_move rfl) ef ?_;refine ZY 2 ?_;refine Zw ef (Zx (pv) ef (hsa) ef (by omega)) ?_;refine Zw ef (Zo (s) (pv) ef (hsa) (uA_get (by omega))) ?_;refine ZY 2 ?_;refine Zw ef (Zx (a) ef (hsa) ef (by omega)) ?_;refine Zw ef (Zo (s) (a) ef (hsa) (uA_get (by omega))) ?_;refine Zw ef (Zx (a) ef (hsa) ef (by omega)) ?_;refine Z1 (i:=13) ef ef ?_;refine(S.storeOw (s) (a) Eo.h rfl rfl rfl hsa (by first | rfl | exact Nat.add_assoc _ _ _ | omega) (by rw[uA_len];omega) (uA_set _ _ _) ?_);refine ZL ([]) [14] ?_;refine Zw ef (Zx (pv) ef (hsa) ef (by omega)) ?_;refine Z1 (i:=15) ef ef ?_;refine(S.storeOw (s) (pv) Eo.h rfl rfl rfl hsa (by first | rfl | exact Nat.add_assoc _ _ _ | omega) (by rw[uA_len,Array.size_setIfInBounds];omega) (show _=uA (Go.Sort.swp d (a) (pv)) from uA_set _ _ _) ?_);refine Zk [] ?_;refine ZD ?_;refine ZY 3 ?_;refine Zv (Za ef ef) ?_;refine Zy ?_;refine Zv (Zm ef ef) ?_;refine ZY 5 ?_;refine Zl (fun r ρ' Γ'=>∃(i j:Nat) (z:Int) (f:Array Int),r=j+1-i∧z=j∧a<i∧i≤j+1∧j<b∧f.size=d.size∧partEqLoop ltInt a i j f=L∧ρ'=[(0,s.v),(1,.int .i64 (a:Int)),(9,.int .i64 (i:Int)),(10,.int .i64 z)]∧Γ'=own s 31 1 (uA f)::Γ) (m:=_) (⟨a+1,b-1,(b:Int)-1,swp d a pv,rfl,by omega,by omega,by omega,by omega,by rw[swpZ],hL2,rfl,rfl⟩) ?_;rintro r3 ρ' Γ' ⟨i,j,z,f,hr3,hz,hai,hij,hjb,hfs,hlp,rfl,rfl⟩;obtain⟨k1,k2,k3,k4,k5⟩:=scan_facts (p:=p f) (q:=q f) (e:=f) (i:=i) (j:=j) (hpq f) (by omega) (by omega);rw[hpl]at hlp;refine ZY 2 ?_
 refine Zc (fun ρ' Γ'=>∃i2:Nat,i2=scanUp (p f) f j i∧ρ'=[(0,s.v),(1,.int .i64 (a:Int)),(9,.int .i64 (i2:Int)),(10,.int .i64 z)]∧Γ'=own s 31 1 (uA f)::Γ) ?_ ?_
 ·refine Zy ?_;refine Zl (fun r ρ' Γ'=>∃i':Nat,r=j+1-i'∧i≤i'∧i'≤j+1∧scanUp (p f) f j i'=scanUp (p f) f j i∧ρ'=[(0,s.v),(1,.int .i64 (a:Int)),(9,.int .i64 (i':Int)),(10,.int .i64 z)]∧Γ'=own s 31 1 (uA f)::Γ) (m:=_) (⟨i,rfl,by omega,by omega,rfl,rfl,rfl⟩) ?_;rintro r ρ' Γ' ⟨i',hr,hii,hij',hsc,rfl,rfl⟩;refine ZY 2 ?_;refine Zd ([own s 31 1 (uA f)]) [] (Zra 0 4) ?_;refine ZY 4 ?_
  refine Zb 32 ef (fun hg3_3=>?_) (fun hg3_3=>?_)
  ·refine Zr (Zra 4 8) ?_;refine ZY 2 ?_;refine Zwg ef ef ef ef (Zx (a) ef (hsa) ef (by omega)) ?_;refine Zwg ef ef ef ef (Zo (s) (a) ef (hsa) (uA_get (by omega))) ?_;refine ZY 2 ?_;refine Zwg ef ef ef ef (Zx (i') ef (hsa) ef (by omega)) ?_;refine Zwg ef ef ef ef (Zo (s) (i') ef (hsa) (uA_get (by omega))) ?_;refine Z1g (i:=12) ef ef ef ef ef (rfl) ?_;refine  (Zcp Ze (Less_S (f[a]!) (f[i']!)) ?_);refine Zk [13,14] ?_;refine ZY 2 ?_;refine ZD ?_
   refine Zi ef (fun h1=>?_) (fun h1=>?_)
   ·have hst2:scanUp (p f) f j i'=scanUp (p f) f j (i'+1):=scanUp_step (by omega) (hpv _ _ h1);refine ZY 4 ?_;refine Zv (Za ef ef) ?_;refine ZY 2 ?_;exact ZX (r-1) (⟨i'+1,by omega,by omega,by omega,hst2.symm.trans hsc,rfl,rfl⟩) (by omega)
   ·have hst:scanUp (p f) f j i'=i':=scanUp_stop (fun h=>by rw[hpn _ _ h.2]at h1;cases h1);refine Zy ?_;exact ZM ⟨i',hst.symm.trans hsc,rfl,rfl⟩
  ·have hst:scanUp (p f) f j i'=i':=scanUp_stop (fun h=>hg3_3 (by omega));refine Zr (Zra 4 11) ?_;refine ZY 8 ?_;refine ZY 3 ?_;refine ZD ?_;refine ZY 2 ?_;exact ZM ⟨i',hst.symm.trans hsc,rfl,rfl⟩
 ·rintro ρ' Γ' ⟨i2,hi2,rfl,rfl⟩;rw[←hi2]at k1 k2 k3 k4 k5 hlp;refine Zy ?_
  refine Zc (fun ρ' Γ'=>∃(j2:Nat) (z2:Int),z2=j2∧j2=scanDown (q f) f i2 j∧ρ'=[(0,s.v),(1,.int .i64 (a:Int)),(9,.int .i64 (i2:Int)),(10,.int .i64 z2)]∧Γ'=own s 31 1 (uA f)::Γ) ?_ ?_
  ·refine Zy ?_;refine Zl (fun r ρ' Γ'=>∃(j':Nat) (z':Int),r=j'∧z'=j'∧j'≤j∧scanDown (q f) f i2 j'=scanDown (q f) f i2 j∧ρ'=[(0,s.v),(1,.int .i64 (a:Int)),(9,.int .i64 (i2:Int)),(10,.int .i64 z')]∧Γ'=own s 31 1 (uA f)::Γ) (m:=_) (⟨j,z,rfl,hz,by omega,rfl,rfl,rfl⟩) ?_;rintro r ρ' Γ' ⟨j',z',hr,hz',hjj,hsc,rfl,rfl⟩;refine ZY 2 ?_;refine Zd ([own s 31 1 (uA f)]) [] (Zra 0 4) ?_;refine ZY 4 ?_
   refine Zb 49 ef (fun hg5_3=>?_) (fun hg5_3=>?_)
   ·refine Zr (Zra 4 8) ?_;refine ZY 2 ?_;refine Zwg ef ef ef ef (Zx (a) ef (hsa) ef (by omega)) ?_;refine Zwg ef ef ef ef (Zo (s) (a) ef (hsa) (uA_get (by omega))) ?_;refine ZY 2 ?_;refine Zwg ef ef ef ef (Zx (j') ef (hsa) ef (by omega) (hz')) ?_;refine Zwg ef ef ef ef (Zo (s) (j') ef (hsa) (uA_get (by omega))) ?_;refine Z1g (i:=12) ef ef ef ef ef (rfl) ?_;refine  (Zcp Ze (Less_S (f[a]!) (f[j']!)) ?_);refine Zk [13] ?_;refine Zy ?_;refine ZD ?_
    refine Zi ef (fun h2=>?_) (fun h2=>?_)
    ·have hst2:scanDown (q f) f i2 j'=scanDown (q f) f i2 (j' - 1):=scanDown_step (by omega) (by omega) (hqv _ _ h2);refine ZY 4 ?_;refine Zv (Zm ef ef) ?_;refine ZY 2 ?_;exact ZX (j' - 1) (⟨j' - 1,z' - 1,rfl,by omega,by omega,hst2.symm.trans hsc,rfl,rfl⟩) (by omega)
    ·have hst:scanDown (q f) f i2 j'=j':=scanDown_stop (fun h=>by rw[hqn _ _ h.2]at h2;cases h2);refine Zy ?_;exact ZM ⟨j',z',hz',hst.symm.trans hsc,rfl,rfl⟩
   ·have hst:scanDown (q f) f i2 j'=j':=scanDown_stop (fun h=>hg5_3 (by omega));refine Zr (Zra 4 10) ?_;refine ZY 8 ?_;refine ZY 2 ?_;refine ZD ?_;refine ZY 2 ?_;exact ZM ⟨j',z',hz',hst.symm.trans hsc,rfl,rfl⟩
  ·rintro ρ' Γ' ⟨j2,z2,rfl,hj2,rfl,rfl⟩;rw[←hj2]at k3 k4 k5 hlp;refine ZY 7 ?_
   refine Zj ef (fun h3=>?_) (fun h3=>?_)
   ·rw[if_pos (by omega)]at hlp;refine ZY 7 ?_;exact Zf ef Zq (⟨by rw[←hlp];first | done | rfl,by rw[←hlp]⟩)
   ·rw[if_neg (by omega)]at hlp;have k6:=k5 (by omega);refine ZY 2 ?_;refine Zd ([own s 31 1 (uA f)]) [13] [0,1] ?_;refine ZY 2 ?_;refine ZP 2 [] ef (q_move rfl) ef ?_;refine ZP 3 (Zra 4 9) ef (q_move rfl) ef ?_;refine ZY 2 ?_;refine Zw ef (Zx (j2) ef (hsa) ef (by omega)) ?_;refine Zw ef (Zo (s) (j2) ef (hsa) (uA_get (by omega))) ?_;refine ZY 2 ?_;refine Zw ef (Zx (i2) ef (hsa) ef (by omega)) ?_;refine Zw ef (Zo (s) (i2) ef (hsa) (uA_get (by omega))) ?_;refine Zw ef (Zx (i2) ef (hsa) ef (by omega)) ?_;refine Z1 (i:=13) ef ef ?_;refine(S.storeOw (s) (i2) Eo.h rfl rfl rfl hsa (by first | rfl | exact Nat.add_assoc _ _ _ | omega) (by rw[uA_len];omega) (uA_set _ _ _) ?_);refine ZL ([]) [14] ?_;refine Zw ef (Zx (j2) ef (hsa) ef (by omega)) ?_;refine Z1 (i:=15) ef ef ?_;refine(S.storeOw (s) (j2) Eo.h rfl rfl rfl hsa (by first | rfl | exact Nat.add_assoc _ _ _ | omega) (by rw[uA_len,Array.size_setIfInBounds];omega) (show _=uA (Go.Sort.swp f (i2) (j2)) from uA_set _ _ _) ?_);refine Zk [] ?_;refine ZD ?_;refine ZY 3 ?_;refine Zv (Za ef ef) ?_;refine ZY 4 ?_;refine Zv (Zm ef ef) ?_;refine ZY 2 ?_;exact ZX (j2-1+1-(i2+1)) (⟨i2+1,j2-1,(j2:Int)-1,swp f i2 j2,rfl,by omega,by omega,by omega,by omega,by rw[swpZ,hfs],hlp,rfl,rfl⟩) (by omega)
theorem pdq_S (s:SV) (N:Nat) (hsz:N≤65535) (hsn:s.n=N):∀(n a b:Nat) (d:Array Int) (l:Int),n=b-a→a≤b→b≤d.size→d.size=N→0≤l∧l≤64→Below ltInt a b d→Spec Tryz.prog 137 [s.v,.int .i64 (a:Int),.int .i64 (b:Int),.int .i64 l] [own s 31 1 (uA d)] fun Γ _ Θ=>∃R,PermIn a b d R∧SortedIn ltInt a b R∧Θ=own s 31 1 (uA R)::Γ:=by
 intro n;induction n using Nat.strongRecOn with
 | _ n ih=>
 intro a b d l hn hab hb hdN hl hBel;refine Zbd Tryz.func137 rfl Tryz.ntmps137 fun w0 Γ=>Zsh ?_;refine ZY 8 ?_;refine Zy ?_;refine Zl (fun q ρ' Γ'=>∃(a' b':Nat) (l:Int) (wb wp:Bool) (e:Array Int),q=b' - a'∧a'≤b'∧a≤a'∧b'≤b∧(0≤l∧l≤64)∧e.size=d.size∧Below ltInt a' b' e∧(∀R,PermIn a' b' e R→SortedIn ltInt a' b' R→PermIn a b d R∧SortedIn ltInt a b R)∧ρ'=[(0,s.v),(1,.int .i64 (a':Int)),(2,.int .i64 (b':Int)),(3,.int .i64 l),(8,.bool wb),(9,.bool wp)]∧Γ'=own s 31 1 (uA e)::Γ) (m:=_) (⟨a,b,l,true,true,d,rfl,hab,by omega,by omega,hl,rfl,hBel,fun R h1 h2=>⟨h1,h2⟩,rfl,rfl⟩) ?_;rintro q ρ' Γ' ⟨a',b',l,wb,wp,e,hq,hab',haa,hbb,hl,hes,hB,hG,rfl,rfl⟩;refine ZY 5 ?_;refine Zv (Zm ef ef) ?_;refine ZY 8 ?_
 refine Zj ef (fun h1=>?_) (fun h1=>?_)
 ·obtain⟨p1,p2⟩:=insertionSort_holds swo_ltInt e a' b' hab' (by omega);obtain⟨p3,p4⟩:=hG _ p1 p2;refine ZY 5 ?_;refine Zp (Zc1 Ze (insSort_S s e a' b' hab' (by omega) (by omega) (by omega)) ?_);rintro v Θ rfl;refine ZY 2 ?_;exact Zf ef Zq (⟨_,p3,p4,rfl⟩)
 ·refine ZY 7 ?_
  refine Zj ef (fun h2=>?_) (fun h2=>?_)
  ·obtain⟨p1,p2⟩:=heapSort_holds swo_ltInt e a' b' hab' (by omega);obtain⟨p3,p4⟩:=hG _ p1 p2;refine ZY 5 ?_;refine Zp (Zc1 Ze (heapSort_S s e a' b' (by omega) (by omega) (by omega) (by omega)) ?_);rintro v Θ rfl;refine ZY 2 ?_;exact Zf ef Zq (⟨_,p3,p4,rfl⟩)
  ·refine ZY 7 ?_
   refine Zc (fun ρ' Γ'=>∃(l2:Int) (e1:Array Int),(0≤l2∧l2≤64)∧PermIn a' b' e e1∧ρ'=[(0,s.v),(1,.int .i64 (a':Int)),(2,.int .i64 (b':Int)),(3,.int .i64 l2),(8,.bool wb),(9,.bool wp),(10,.int .i64 ((b':Int)-a'))]∧Γ'=own s 31 1 (uA e1)::Γ) ?_ ?_
   ·refine Zi ef (fun h3=>?_) (fun h3=>?_)
    ·refine ZY 5 ?_;refine Zp (Zc1 Ze (break_S s e a' b' (by omega) (by omega) (by omega) (by omega)) ?_);rintro v Θ ⟨e1,hp1,rfl⟩;refine ZY 3 ?_;refine Zv (Zm ef ef) ?_;refine ZY 2 ?_;first | exact S.meet ⟨l-1,e1,by omega,hp1,rfl,rfl⟩ ⟨rfl,rfl,rfl,rfl,rfl,rfl,rfl,trivial⟩ Sub.ent | exact S.meet ⟨l,e,hl,permIn_refl _ _ _,rfl,rfl⟩ ⟨rfl,rfl,rfl,rfl,rfl,rfl,rfl,trivial⟩ Sub.ent
    ·refine Zy ?_;first | exact S.meet ⟨l-1,e1,by omega,hp1,rfl,rfl⟩ ⟨rfl,rfl,rfl,rfl,rfl,rfl,rfl,trivial⟩ Sub.ent | exact S.meet ⟨l,e,hl,permIn_refl _ _ _,rfl,rfl⟩ ⟨rfl,rfl,rfl,rfl,rfl,rfl,rfl,trivial⟩ Sub.ent
   ·rintro ρ' Γ' ⟨l2,e1,hl2,hp1,rfl,rfl⟩;have hz1:=hp1.1;refine ZY 5 ?_;refine Zp (Zc1 Ze (choose_S s e1 a' b' (by omega) (by omega) (by omega) (by omega)) ?_);rintro v Θ ⟨u,h,hu,rfl,rfl⟩;refine ZY 8 ?_;refine ZY 4 ?_
    refine Zc (fun ρ' Γ'=>∃(u2:Nat) (zu h2:Int) (e2:Array Int),zu=u2∧(a'≤u2∧u2<b')∧PermIn a' b' e e2∧ρ'=[(0,s.v),(1,.int .i64 (a':Int)),(2,.int .i64 (b':Int)),(3,.int .i64 l2),(8,.bool wb),(9,.bool wp),(10,.int .i64 ((b':Int)-a')),(11,.int .i64 zu),(12,.int .i64 h2)]∧Γ'=own s 31 1 (uA e2)::Γ) ?_ ?_
    ·refine Zj ef (fun h4=>?_) (fun h4=>?_)
     ·refine ZY 5 ?_;refine Zp (Zc1 Ze (reverse_S s e1 a' b' (by omega) (by omega) (by omega) (by omega)) ?_);rintro v Θ ⟨e2,hp2,rfl⟩;refine ZY 4 ?_;refine Zv (Zm ef ef) ?_;refine ZY 2 ?_;refine Zv (Zm ef ef) ?_;refine Zv (Zm ef ef) ?_;refine ZY 5 ?_;first | exact S.meet ⟨b' - 1-(u-a'),(b':Int)-1-((u:Int)-a'),1,e2,by omega,by omega,permIn_trans _ _ _ _ _ hp1 hp2,rfl,rfl⟩ ⟨rfl,rfl,rfl,rfl,rfl,rfl,rfl,rfl,rfl,trivial⟩ Sub.ent | exact S.meet ⟨u,u,h,e1,rfl,hu,hp1,rfl,rfl⟩ ⟨rfl,rfl,rfl,rfl,rfl,rfl,rfl,rfl,rfl,trivial⟩ Sub.ent
     ·refine Zy ?_;first | exact S.meet ⟨b' - 1-(u-a'),(b':Int)-1-((u:Int)-a'),1,e2,by omega,by omega,permIn_trans _ _ _ _ _ hp1 hp2,rfl,rfl⟩ ⟨rfl,rfl,rfl,rfl,rfl,rfl,rfl,rfl,rfl,trivial⟩ Sub.ent | exact S.meet ⟨u,u,h,e1,rfl,hu,hp1,rfl,rfl⟩ ⟨rfl,rfl,rfl,rfl,rfl,rfl,rfl,rfl,rfl,trivial⟩ Sub.ent
    ·rintro ρ' Γ' ⟨u2,zu,h2,e2,rfl,hu2,hp2,rfl,rfl⟩;have hz2:=hp2.1;refine ZY 2 ?_
     refine Zc (fun ρ' Γ'=>∃bb:Bool,ρ'=[(0,s.v),(1,.int .i64 (a':Int)),(2,.int .i64 (b':Int)),(3,.int .i64 l2),(8,.bool wb),(9,.bool wp),(10,.int .i64 ((b':Int)-a')),(11,.int .i64 (u2:Int)),(68,.bool bb)]∧Γ'=own s 31 1 (uA e2)::Γ) ?_ ?_
     ·refine ZY 3 ?_
      refine Zbb 62 ef (fun hg15_1=>?_) (fun hg15_1=>?_)
      ·refine ZY 3 ?_
       refine Zbb 65 ef (fun hg15_4=>?_) (fun hg15_4=>?_)
       ·refine ZY 4 ?_;first | exact S.meet ⟨false,rfl,rfl⟩ ⟨rfl,rfl,rfl,rfl,rfl,rfl,rfl,rfl,rfl,trivial⟩ Sub.ent | exact S.meet ⟨decide (h2=1),rfl,rfl⟩ ⟨rfl,rfl,rfl,rfl,rfl,rfl,rfl,rfl,rfl,trivial⟩ Sub.ent
       ·refine ZY 4 ?_;first | exact S.meet ⟨false,rfl,rfl⟩ ⟨rfl,rfl,rfl,rfl,rfl,rfl,rfl,rfl,rfl,trivial⟩ Sub.ent | exact S.meet ⟨decide (h2=1),rfl,rfl⟩ ⟨rfl,rfl,rfl,rfl,rfl,rfl,rfl,rfl,rfl,trivial⟩ Sub.ent
      ·refine ZY 7 ?_;first | exact S.meet ⟨false,rfl,rfl⟩ ⟨rfl,rfl,rfl,rfl,rfl,rfl,rfl,rfl,rfl,trivial⟩ Sub.ent | exact S.meet ⟨decide (h2=1),rfl,rfl⟩ ⟨rfl,rfl,rfl,rfl,rfl,rfl,rfl,rfl,rfl,trivial⟩ Sub.ent
     ·rintro ρ' Γ' ⟨bb,rfl,rfl⟩
      refine Zc (fun ρ' Γ'=>∃e3:Array Int,PermIn a' b' e e3∧ρ'=[(0,s.v),(1,.int .i64 (a':Int)),(2,.int .i64 (b':Int)),(3,.int .i64 l2),(8,.bool wb),(9,.bool wp),(10,.int .i64 ((b':Int)-a')),(11,.int .i64 (u2:Int))]∧Γ'=own s 31 1 (uA e3)::Γ) ?_ ?_
      ·refine Zi ef (fun h5=>?_) (fun h5=>?_)
       ·obtain⟨pp1,pp2⟩:=partialInsertionSort_holds swo_ltInt e2 a' b' (by omega) (by omega) (hB.perm (by omega) hp2);refine ZY 5 ?_;refine Zp (Zcp Ze (partialIns_S s e2 a' b' (by omega) (by omega) (by omega) (by omega)) ?_);refine Zy ?_
        refine Zi ef (fun h6=>?_) (fun h6=>?_)
        ·obtain⟨p3,p4⟩:=hG _ (permIn_trans _ _ _ _ _ hp2 pp1) (pp2 h6);refine Zy ?_;exact Zf ef Zq (⟨_,p3,p4,rfl⟩)
        ·refine Zy ?_;first | exact S.meet ⟨_,permIn_trans _ _ _ _ _ hp2 pp1,rfl,rfl⟩ ⟨rfl,rfl,rfl,rfl,rfl,rfl,rfl,rfl,trivial⟩ Sub.ent | exact S.meet ⟨e2,hp2,rfl,rfl⟩ ⟨rfl,rfl,rfl,rfl,rfl,rfl,rfl,rfl,trivial⟩ Sub.ent
       ·refine Zy ?_;first | exact S.meet ⟨_,permIn_trans _ _ _ _ _ hp2 pp1,rfl,rfl⟩ ⟨rfl,rfl,rfl,rfl,rfl,rfl,rfl,rfl,trivial⟩ Sub.ent | exact S.meet ⟨e2,hp2,rfl,rfl⟩ ⟨rfl,rfl,rfl,rfl,rfl,rfl,rfl,rfl,trivial⟩ Sub.ent
      ·rintro ρ' Γ' ⟨e3,hp3,rfl,rfl⟩;have hz3:=hp3.1;have hB3:=hB.perm (by omega) hp3;refine S.ownSome s (by omega) fun sb so hsa _ _ _=>?_;refine ZY 2 ?_
       refine Zc (fun ρ' Γ'=>∃bb:Bool,(bb=true→0<a'∧ltInt e3[a' - 1]! e3[u2]! = false)∧ρ'=[(0,s.v),(1,.int .i64 (a':Int)),(2,.int .i64 (b':Int)),(3,.int .i64 l2),(8,.bool wb),(9,.bool wp),(10,.int .i64 ((b':Int)-a')),(11,.int .i64 (u2:Int)),(87,.bool bb)]∧Γ'=own s 31 1 (uA e3)::Γ) ?_ ?_
       ·refine Zd ([own s 31 1 (uA e3)]) [] [0,1,2] ?_;refine ZY 3 ?_
        refine Zb 75 ef (fun hg17_2=>?_) (fun hg17_2=>?_)
        ·refine Zr (Zra 3 9) ?_;refine ZY 2 ?_;refine Zwg ef ef ef ef (Zm ef ef) ?_;refine Zwg ef ef ef ef (Zx (a' - 1) ef (hsa) ef (by omega) ((by omega))) ?_;refine Zwg ef ef ef ef (Zo (s) (a' - 1) ef (hsa) (uA_get (by omega))) ?_;refine ZY 2 ?_;refine Zwg ef ef ef ef (Zx (u2) ef (hsa) ef (by omega)) ?_;refine Zwg ef ef ef ef (Zo (s) (u2) ef (hsa) (uA_get (by omega))) ?_;refine Z1g (i:=12) ef ef ef ef ef (rfl) ?_;refine  (Zcp Ze (Less_S (e3[a' - 1]!) (e3[u2]!)) ?_);refine Zk [13,14] ?_;refine ZY 2 ?_;refine ZD ?_;first | exact S.meet ⟨false,fun h=>(by cases h),rfl,rfl⟩ ⟨rfl,rfl,rfl,rfl,rfl,rfl,rfl,rfl,rfl,trivial⟩ Sub.ent | exact S.meet ⟨!ltInt e3[a' - 1]! e3[u2]!,fun h=>⟨by omega,by simpa using h⟩,rfl,rfl⟩ ⟨rfl,rfl,rfl,rfl,rfl,rfl,rfl,rfl,rfl,trivial⟩ Sub.ent
        ·refine Zr (Zra 3 12) ?_;refine ZY 8 ?_;refine ZY 4 ?_;refine ZD ?_;first | exact S.meet ⟨false,fun h=>(by cases h),rfl,rfl⟩ ⟨rfl,rfl,rfl,rfl,rfl,rfl,rfl,rfl,rfl,trivial⟩ Sub.ent | exact S.meet ⟨!ltInt e3[a' - 1]! e3[u2]!,fun h=>⟨by omega,by simpa using h⟩,rfl,rfl⟩ ⟨rfl,rfl,rfl,rfl,rfl,rfl,rfl,rfl,rfl,trivial⟩ Sub.ent
       ·rintro ρ' Γ' ⟨bb,hbt,rfl,rfl⟩
        refine Zi ef (fun h7=>?_) (fun h7=>?_)
        ·obtain⟨h0,hnl⟩:=hbt h7;obtain⟨mid,d4,hpp⟩:∃mid d4,partitionEqual ltInt e3 a' b' u2=(mid,d4):=⟨_,_,rfl⟩;obtain⟨r1,r2,r3,r4,r5⟩:=round_eq swo_ltInt (partitionEqual_holds ltInt) h0 hu2.1 hu2.2 (by omega) hB3 hnl hpp;refine ZY 6 ?_;refine Zp (Zcp Ze ((by have h:=partitionEqual_S s e3 a' b' u2 hu2.1 hu2.2 (by omega) (by omega) (by omega);rw[hpp]at h;exact h)) ?_);refine ZY 8 ?_;first | exact S.next (b' - mid) ⟨mid,b',l2,wb,wp,d4,rfl,by omega,by omega,by omega,hl2,by omega,r4,fun R h1 h2=>hG R (permIn_trans _ _ _ _ _ hp3 (r5 R h1 h2).1) (r5 R h1 h2).2,rfl,rfl⟩ (by omega) ⟨rfl,rfl,rfl,rfl,rfl,rfl,trivial⟩ Sub.ent | exact S.next (b' - (mid+1)) ⟨mid+1,b',l2,_,ap,L,rfl,by omega,by omega,by omega,hl2,by omega,x1,fun R h1 h2=>hG R (permIn_trans _ _ _ _ _ hp3 (x2 R h1 h2).1) (x2 R h1 h2).2,rfl,rfl⟩ (by omega) ⟨rfl,rfl,rfl,rfl,rfl,rfl,trivial⟩ Sub.ent | exact S.next (mid-a') ⟨a',mid,l2,_,ap,L,rfl,by omega,by omega,by omega,hl2,by omega,x1,fun R h1 h2=>hG R (permIn_trans _ _ _ _ _ hp3 (x2 R h1 h2).1) (x2 R h1 h2).2,rfl,rfl⟩ (by omega) ⟨rfl,rfl,rfl,rfl,rfl,rfl,trivial⟩ Sub.ent
        ·obtain⟨mid,ap,d4,hpp⟩:∃mid ap d4,partition ltInt e3 a' b' u2=(mid,ap,d4):=⟨_,_,_,rfl⟩;obtain⟨r1,r2,r3,r4,r5,r6,r7⟩:=round_part swo_ltInt (partition_holds ltInt) hu2.1 hu2.2 (by omega) hB3 hpp;refine ZY 7 ?_;refine Zp (Zcp Ze ((by have h:=partition_S s e3 a' b' u2 hu2.1 hu2.2 (by omega) (by omega) (by omega);rw[hpp]at h;exact h)) ?_);refine ZY 8 ?_;refine ZY 7 ?_;refine Zv (Zm ef ef) ?_;refine ZY 2 ?_;refine Zv (Zm ef ef) ?_;refine ZY 6 ?_;refine Zv (q_quo rfl rfl (⟨by omega,by omega⟩) (inI64 (by omega) (by omega))) ?_;refine ZY 8 ?_
         refine Zj ef (fun h8=>?_) (fun h8=>?_)
         ·refine ZY 8 ?_;refine ZY 5 ?_;refine Zp (Zc1 Ze (ih (mid-a') (by omega) a' mid d4 l2 rfl (by omega) (by omega) (by omega) hl2 r4) ?_);rintro v Θ ⟨L,hL1,hL2,rfl⟩;obtain⟨x1,x2⟩:=r6 L hL1 hL2;have hLs:=hL1.1;refine ZY 3 ?_;refine Zv (Za ef ef) ?_;refine ZY 2 ?_;first | exact S.next (b' - mid) ⟨mid,b',l2,wb,wp,d4,rfl,by omega,by omega,by omega,hl2,by omega,r4,fun R h1 h2=>hG R (permIn_trans _ _ _ _ _ hp3 (r5 R h1 h2).1) (r5 R h1 h2).2,rfl,rfl⟩ (by omega) ⟨rfl,rfl,rfl,rfl,rfl,rfl,trivial⟩ Sub.ent | exact S.next (b' - (mid+1)) ⟨mid+1,b',l2,_,ap,L,rfl,by omega,by omega,by omega,hl2,by omega,x1,fun R h1 h2=>hG R (permIn_trans _ _ _ _ _ hp3 (x2 R h1 h2).1) (x2 R h1 h2).2,rfl,rfl⟩ (by omega) ⟨rfl,rfl,rfl,rfl,rfl,rfl,trivial⟩ Sub.ent | exact S.next (mid-a') ⟨a',mid,l2,_,ap,L,rfl,by omega,by omega,by omega,hl2,by omega,x1,fun R h1 h2=>hG R (permIn_trans _ _ _ _ _ hp3 (x2 R h1 h2).1) (x2 R h1 h2).2,rfl,rfl⟩ (by omega) ⟨rfl,rfl,rfl,rfl,rfl,rfl,trivial⟩ Sub.ent
         ·refine ZY 8 ?_;refine ZY 3 ?_;refine Zv (Za ef ef) ?_;refine ZY 2 ?_;refine Zp (Zc1 Ze (ih (b' - (mid+1)) (by omega) (mid+1) b' d4 l2 rfl (by omega) (by omega) (by omega) hl2 r5) ?_);rintro v Θ ⟨L,hL1,hL2,rfl⟩;obtain⟨x1,x2⟩:=r7 L hL1 hL2;have hLs:=hL1.1;refine ZY 5 ?_;first | exact S.next (b' - mid) ⟨mid,b',l2,wb,wp,d4,rfl,by omega,by omega,by omega,hl2,by omega,r4,fun R h1 h2=>hG R (permIn_trans _ _ _ _ _ hp3 (r5 R h1 h2).1) (r5 R h1 h2).2,rfl,rfl⟩ (by omega) ⟨rfl,rfl,rfl,rfl,rfl,rfl,trivial⟩ Sub.ent | exact S.next (b' - (mid+1)) ⟨mid+1,b',l2,_,ap,L,rfl,by omega,by omega,by omega,hl2,by omega,x1,fun R h1 h2=>hG R (permIn_trans _ _ _ _ _ hp3 (x2 R h1 h2).1) (x2 R h1 h2).2,rfl,rfl⟩ (by omega) ⟨rfl,rfl,rfl,rfl,rfl,rfl,trivial⟩ Sub.ent | exact S.next (mid-a') ⟨a',mid,l2,_,ap,L,rfl,by omega,by omega,by omega,hl2,by omega,x1,fun R h1 h2=>hG R (permIn_trans _ _ _ _ _ hp3 (x2 R h1 h2).1) (x2 R h1 h2).2,rfl,rfl⟩ (by omega) ⟨rfl,rfl,rfl,rfl,rfl,rfl,trivial⟩ Sub.ent
theorem sort_out {d R:Array Int} (hR1:PermIn 0 d.size d R) (hR2:SortedIn ltInt 0 d.size R):R.toList.Perm d.toList∧R.toList.Pairwise (·≤·):=by
 constructor
 ·have h:=hR1.2.2;have h1:(R.extract 0 d.size).toList=R.toList:=by rw[←hR1.1];simp
  have h2:(d.extract 0 d.size).toList=d.toList:=by simp
  rw[h1,h2]at h;exact h
 ·refine List.pairwise_iff_getElem.2 fun i j hi hj hij=>?_;have h:=hR2 i j (Nat.zero_le _) hij (by rw[←hR1.1];simpa using hj);have hi':i<R.size:=by simpa using hi
  have hj':j<R.size:=by simpa using hj
  rw[getElem!_pos R i hi',getElem!_pos R j hj']at h;have h:=of_decide_eq_false h;simp only[Array.getElem_toList];omega
theorem Sort_S (s:SV) (d:Array Int) (hsz:d.size≤65535) (hsn:s.n=d.size):Spec Tryz.prog 101 [s.v] [own s 31 1 (uA d)] fun Γ _ Θ=>∃R:Array Int,R.toList.Perm d.toList∧R.toList.Pairwise (·≤·)∧Θ=own s 31 1 (uA R)::Γ:=by
 refine Zbd Tryz.func101 rfl Tryz.ntmps101 fun w0 Γ=>Zsh ?_;have hbl:bitsLen s.n≤16:=(bitsLen_le_iff _ 16).2 (by omega);refine ZY 8 ?_;refine ZY 2 ?_;refine Zv (q_conv Tryz.it215.h (by rw[Tryz.underlying3];rfl) rfl (inU64 (by omega) (by omega))) ?_;refine Zp (Zcp Ze (Len_S s.n (by omega)) ?_);refine Zp (Zc1 Ze (pdq_S s d.size hsz hsn (s.n-0) 0 s.n d _ rfl (by omega) (by omega) rfl (by omega) (.inl rfl)) ?_);rintro v Θ ⟨R,hR1,hR2,rfl⟩;rw[hsn]at hR1 hR2;refine Zy ?_;exact Zfn ef Zq (⟨R,(sort_out hR1 hR2).1,(sort_out hR1 hR2).2,rfl⟩)
abbrev kv (z:Int):Value:=.int .u32 z
abbrev keyP (c mb:Nat) (l:List (Int×Value)):List Assn:=[blk c 117 #[.map (some mb)],mapL mb .u32 l]
abbrev jobIds (m:Mx):List Nat:=m.js.map (·.id)
namespace BN
abbrev ntC (x:Nt) (v:SV):List Value:=[.int .u8 (x.kind:Int),.int .u8 (x.node:Int),.int .u32 (x.epoch:Int),.int .u32 (x.life:Int),.int .u32 (x.tick:Int),.int .u32 (x.gen:Int),.int .u32 (x.job:Int),.int .u32 (x.ver:Int),.int .u8 (x.rank:Int),.int .i64 (x.credit:Int),.int .u32 (x.frm:Int),.int .u32 (x.til:Int),v.v]
abbrev odC (o:Od):List Value:=[.int .i64 (o.1:Int),.int .u8 (o.2.kind:Int),.int .u8 (o.2.node:Int),.int .u32 (o.2.epoch:Int),.int .u32 (o.2.life:Int),.int .u32 (o.2.tick:Int),.int .u32 (o.2.gen:Int),.int .u32 (o.2.job:Int),.int .u32 (o.2.ver:Int),.int .u8 (o.2.rank:Int),.int .i64 (o.2.credit:Int),.int .u32 (o.2.frm:Int),.int .u32 (o.2.til:Int),.slice none 0 0]
theorem odC_len:∀o,(odC o).length=14:=fun _=>rfl
abbrev pt (b:Nat):Value:=.pointer (some ⟨b,0,none⟩)
abbrev bjC (x:Bj) (av:SV) (lb db rb sb:Option Nat):List Value:=
 [.int .u32 (x.id:Int),.int .u8 (x.tier:Int),.int .i64 (x.k:Int),.int .i64 (x.w:Int),.int .u8 (x.state:Int),.int .i64 (x.credit:Int),av.v,.map lb,.int .i64 (x.work:Int),.int .u32 (x.ver:Int),.pointer (sb.map fun b=>⟨b,0,none⟩),.bool x.warned,.int .u32 (x.till:Int),.map db,.bool x.again,.bool x.done,.map rb]
def ranE (r:List (Nat×Nat×Nat)):List (Int×Value):=r.map fun y=>((y.1:Int),Value.agg #[.int .u32 (y.2.1:Int),.int .u32 (y.2.2:Int)])
def optR (b:Option Nat) (s:Option (List (Nat×Nat×Nat))):Assn:=match b,s with
 | none,none=>fun _=>True
 | some b,some s=>mapL b .i64 (ranE s)
 | _,_=>fun _=>False
abbrev Bb:=SV×List Int
abbrev bbV (p:Bb):Value:=p.1.v
abbrev bbB (p:Bb):Assn:=own p.1 5 1 (bcells p.2)
def blobs (v:SV) (bs:List (List Int)):Assn:=fun h=>∃os:List Bb,os.map (·.2)=bs∧stars [own v 22 1 (os.map bbV),alls os bbB] h
def savB (b:Option Nat) (id:Nat) (s:Option Sv):Assn:=match b,s with
 | none,none=>fun _=>True
 | some b,some s=>fun h=>∃(hb:Nat) (v:SV),stars [blk b 131 #[.int .u32 (id:Int),.int .u32 (s.ver:Int),.int .i64 (s.credit:Int),v.v,.map (some hb),.bool s.told],mapL hb .i64 (setE s.have_),if s.told then (fun _=>True) else blobs v s.bs] h
 | _,_=>fun _=>False
def JI (p:Nat) (x:Bj):Assn:=fun h=>∃(av:SV) (lb db rb sb:Option Nat),av.n=x.at_.length∧lb.isSome=x.loaded.isSome∧db.isSome=x.drops.isSome∧rb.isSome=x.ran.isSome∧sb.isSome=x.sav.isSome ∧
 stars [blk p 90 (bjC x av lb db rb sb).toArray,own av 3 1 (nds x.at_),optS lb x.loaded,optS db x.drops,optR rb x.ran,savB sb x.id x.sav] h
abbrev Ig:=SV×Im
abbrev igC (p:Ig):List Value:=[.int .u32 (p.2.job:Int),.int .u32 (p.2.ver:Int),.int .i64 (p.2.credit:Int),p.1.v]
abbrev igB (p:Ig):Assn:=blobs p.1 p.2.bs
def imgs (v:SV) (l:List Im):Assn:=fun h=>∃os:List Ig,os.map (·.2)=l∧stars [own v 60 4 (os.flatMap igC),alls os igB] h
structure JOk (N:Nat) (x:Bj):Prop where
 id1:1≤x.id
 id2:x.id≤4294967295
 tier:x.tier≤3
 k1:1≤x.k
 kn:x.k≤N
 w:x.w≤10000
 cr:x.credit≤x.w
 wk:x.work≤x.w
 rise:x.at_.Pairwise (· < ·)
 at_:∀n∈x.at_,n<N
 drop:∀d,x.drops=some d→d.Nodup
 lod:∀d,x.loaded=some d→d.Nodup
 ran:∀r,x.ran=some r→∀y∈r,y.2.1≤4294967295∧y.2.2≤4294967295
 ld:x.state=1→x.loaded.isSome=true
 svl:∀s,x.sav=some s→s.bs.length=x.at_.length∧s.credit≤x.w
structure BrOk (b:Br):Prop where
 R:b.m.R=b.rows
 N:b.m.N=b.nodes
 mok:MxOk b.m
 srt:JsOk b.js
 job:∀x∈b.js,JOk b.nodes x
 few:b.js.length≤1000
 q1:1≤b.quantum
 q2:b.quantum≤1000
 g1:1≤b.grace
 g2:b.grace≤1000
 now:b.now≤4294967295
 fin:b.fin≤4294967295
 mem:b.members.length≤1000
 stp:∀d,b.stops=some d→d.Nodup
abbrev bC (st:Br) (ub jb mb:Nat) (ov iv dv mv:SV) (sb:Option Nat):List Value:=
 [.int .i64 (st.nodes:Int),.int .i64 (st.rows:Int),.int .i64 (st.quantum:Int),.int .i64 (st.grace:Int),.int .u32 (st.hold:Int),.int .u32 (st.now:Int),.map (some ub),.map (some jb),pt mb,ov.v,iv.v,dv.v,.int .u32 (st.gen:Int),.int .i64 st.row,mv.v,.int .u32 (st.fin:Int),.map sb,.bool st.stopped]
abbrev jI (ps:Nat→Nat) (x:Bj):Assn:=JI (ps x.id) x
abbrev bX (b:Nat) (st:Br) (ps:Nat→Nat) (ub jb mb:Nat) (ov iv dv mv:SV) (sb:Option Nat) (l:List (Int×Value)) (Γ:List Assn):List Assn:=
 blk b 84 (bC st ub jb mb ov iv dv mv sb).toArray::mapL ub .i64 (setE st.up)::mapL jb .u32 l::alls st.js (jI ps)::MI mb st.m::own ov 97 14 (st.orders.flatMap odC)::imgs iv st.images::own dv 31 1 (idsV st.done)::own mv 31 1 (idsV st.members)::optS sb st.stops::Γ
structure BF (st:Br) (ps:Nat→Nat) (ov iv dv mv:SV) (sb:Option Nat) (l:List (Int×Value)):Prop where
 ok:BrOk st
 perm:l.Perm (st.js.map (jE ps))
 on:ov.n=st.orders.length
 im:iv.n=st.images.length
 dn:dv.n=st.done.length
 mn:mv.n=st.members.length
 sn:sb.isSome=st.stops.isSome
def BP (b:Nat) (st:Br) (ps:Nat→Nat):Assn:=fun h=>∃(ub jb mb:Nat) (ov iv dv mv:SV) (sb:Option Nat) (l:List (Int×Value)),BF st ps ov iv dv mv sb l∧stars (bX b st ps ub jb mb ov iv dv mv sb l []) h
section
variable {n:Nat} {md:Bool} {w0:WM md} {ρ:Env} {Γ Δ:List Assn} {φ:Act→World→Prop}
theorem S.bpOpen (b:Nat) (st:Br) (ps:Nat→Nat) [p:Pick (BP b st ps) Γ Δ] (k:∀ub jb mb ov iv dv mv sb l,BF st ps ov iv dv mv sb l→S n w0 ρ (bX b st ps ub jb mb ov iv dv mv sb l Δ) φ):S n w0 ρ Γ φ:=by
 intro a w ha hs hx;obtain⟨h0,l0,h1,h2,d,l1,l2,⟨ub,jb,mb,ov,iv,dv,mv,sb,l,q1,q2⟩,s⟩:=hs.ent p.ent;exact k ub jb mb ov iv dv mv sb l q1 a w ha ⟨h0,l0,(Ent.unpack (bX b st ps ub jb mb ov iv dv mv sb l []) Δ) _ ⟨h1,h2,d,l1,l2,q2,s⟩⟩ hx
theorem Ent.bp {b:Nat} {st:Br} {ps:Nat→Nat} {ub jb mb:Nat} {ov iv dv mv:SV} {sb:Option Nat} {l:List (Int×Value)} (h:BF st ps ov iv dv mv sb l) (Γ:List Assn):Ent (bX b st ps ub jb mb ov iv dv mv sb l Γ) (BP b st ps::Γ):=
 (Ent.pack (bX b st ps ub jb mb ov iv dv mv sb l []) Γ).trans (Ent.mono1 Γ fun _ s=>⟨ub,jb,mb,ov,iv,dv,mv,sb,l,h,s⟩)
theorem S.bpClose (b:Nat) (st:Br) (ps:Nat→Nat) (ub jb mb:Nat) (ov iv dv mv:SV) (sb:Option Nat) (l:List (Int×Value)) (h:BF st ps ov iv dv mv sb l) [q:Picks (bX b st ps ub jb mb ov iv dv mv sb l []) Γ Δ] (k:S n w0 ρ (BP b st ps::Δ) φ):S n w0 ρ Γ φ:=
 S.ent (q.ent.trans (Ent.bp h Δ)) k
theorem S.bpOk (b:Nat) (st:Br) (ps:Nat→Nat) [p:Pick (BP b st ps) Γ Δ] (k:BrOk st→S n w0 ρ Γ φ):S n w0 ρ Γ φ:=by
 intro a w ha hs hx;obtain⟨_,_,_,_,_,_,_,_,_,_,_,q1,_⟩:=(hs.ent p.ent).head;exact k q1.ok a w ha hs hx
theorem S.jiOpen (p:Nat) (x:Bj) [q:Pick (JI p x) Γ Δ] (k:∀av lb db rb sb,av.n=x.at_.length→lb.isSome=x.loaded.isSome→db.isSome=x.drops.isSome→rb.isSome=x.ran.isSome→sb.isSome=x.sav.isSome→S n w0 ρ (blk p 90 (bjC x av lb db rb sb).toArray::own av 3 1 (nds x.at_)::optS lb x.loaded::optS db x.drops::optR rb x.ran::savB sb x.id x.sav::Δ) φ):S n w0 ρ Γ φ:=by
 intro a w ha hs hx;obtain⟨h0,l0,h1,h2,d,l1,l2,⟨av,lb,db,rb,sb,q1,q2,q3,q4,q5,q6⟩,s⟩:=hs.ent q.ent;exact k av lb db rb sb q1 q2 q3 q4 q5 a w ha ⟨h0,l0,(Ent.unpack [blk p 90 (bjC x av lb db rb sb).toArray,own av 3 1 (nds x.at_),optS lb x.loaded,optS db x.drops,optR rb x.ran,savB sb x.id x.sav] Δ) _ ⟨h1,h2,d,l1,l2,q6,s⟩⟩ hx
theorem S.jiClose (p:Nat) (x:Bj) (av:SV) (lb db rb sb:Option Nat) (h1:av.n=x.at_.length) (h2:lb.isSome=x.loaded.isSome) (h3:db.isSome=x.drops.isSome) (h4:rb.isSome=x.ran.isSome) (h5:sb.isSome=x.sav.isSome)
  [q:Picks [blk p 90 (bjC x av lb db rb sb).toArray,own av 3 1 (nds x.at_),optS lb x.loaded,optS db x.drops,optR rb x.ran,savB sb x.id x.sav] Γ Δ] (k:S n w0 ρ (JI p x::Δ) φ):S n w0 ρ Γ φ:=
 S.ent (q.ent.trans ((Ent.pack [_,_,_,_,_,_] Δ).trans (Ent.mono1 Δ fun _ s=>⟨av,lb,db,rb,sb,h1,h2,h3,h4,h5,s⟩))) k
end
theorem Spec.bpOk {b:Nat} {st:Br} {ps:Nat→Nat} {P:Program} {f:FuncId} {args:List Value} {pre:List Assn} {post:List Assn→Value→List Assn→Prop} {md:Bool} (h:BrOk st→Spec P f args (BP b st ps::pre) post md):Spec P f args (BP b st ps::pre) post md:=by
 intro Γ w hs;obtain⟨_,_,_,_,_,_,_,_,_,_,_,q1,_⟩:=hs.head;exact h q1.ok Γ w hs
abbrev rkC (r:Rk):List Value:=[.int .u8 (r.place:Int),.bool r.run,.int .u32 (r.gen:Int),.int .u32 (r.frm:Int),.int .u32 (r.til:Int)]
abbrev Ro:=Nat×Rk×Nat
abbrev roE (o:Ro):Int×Value:=((o.1:Int),pt o.2.2)
abbrev roB (o:Ro):Assn:=blk o.2.2 111 (rkC o.2.1).toArray
abbrev roR (o:Ro):Nat×Rk:=(o.1,o.2.1)
structure Ot where
 x:Nt
 v:SV
 bs:List Int
abbrev otC (o:Ot):List Value:=ntC o.x o.v
abbrev otB (o:Ot):Assn:=own o.v 5 1 (bcells o.bs)
abbrev otR (o:Ot):Nt×List Int:=(o.x,o.bs)
abbrev niC (x:Nt):List Value:=ntC x SV.nil
abbrev ndX (p:Nat) (nd:Nd) (rb:Nat) (iv ov:SV) (rs:List Ro) (os:List Ot) (Γ:List Assn):List Assn:=
 blk p 107 #[.bool nd.up,.map (some rb),iv.v,ov.v,.bool nd.wrong]::mapL rb .u32 (rs.map roE)::alls rs roB::own iv 72 13 (nd.inn.flatMap niC)::own ov 72 13 (os.flatMap otC)::alls os otB::Γ
structure NF (nd:Nd) (iv ov:SV) (rs:List Ro) (os:List Ot):Prop where
 rk:rs.map roR=nd.rk
 os:os.map otR=nd.out
 i:iv.n=nd.inn.length
 o:ov.n=nd.out.length
def NI (p:Nat) (nd:Nd):Assn:=fun h=>∃(rb:Nat) (iv ov:SV) (rs:List Ro) (os:List Ot),NF nd iv ov rs os∧stars (ndX p nd rb iv ov rs os []) h
abbrev joC (j:Jo):List Value:=[.int .u32 (j.id:Int),.int .u8 (j.tier:Int),.int .i64 (j.k:Int),.int .i64 (j.w:Int),.int .u8 0,.int .i64 0]
abbrev joE (j:Jo):Int×Value:=((j.id:Int),.agg (joC j).toArray)
abbrev setT (l:List Nat):List (Int×Value):=l.map fun n:Nat=>((n:Int),Value.bool true)
def ranM (b:Nat) (f:List (Nat×Nat)):Assn:=fun h=>∃l:List (Int×Value),(∀id:Nat,(alGet (id:Int) l).getD (.int .i64 0)=.int .i64 (nLook id f:Nat))∧mapL b .u32 l h
def warM (b:Nat):Assn:=fun h=>∃l:List (Int×Value),mapL b .u32 l h
def lstM (v:SV) (n:Nat):Assn:=fun h=>∃l:List Nat,l.length≤n∧v.n=l.length∧own v 31 1 (idsV l) h
abbrev smC (s:Sm) (b:Nat) (nv:SV) (rb jb gb db wb:Nat) (iv dv wv:SV):List Value:=
 [pt b,.int .i64 (s.cn:Int),.int .i64 (s.cr:Int),.int .i64 (s.cq:Int),.int .i64 (s.cg:Int),nv.v,.int .u32 (s.now:Int),.int .u32 (s.next:Int),.map (some rb),.map (some jb),.map (some gb),.map (some db),iv.v,.map (some wb),dv.v,wv.v]
abbrev No:=Nat×Nd
abbrev noB (o:No):Assn:=NI o.1 o.2
abbrev noV (o:No):Value:=pt o.1
abbrev smX (p:Nat) (s:Sm) (b:Nat) (ps:Nat→Nat) (nv:SV) (ns:List No) (rb jb gb db wb:Nat) (iv dv wv:SV) (Γ:List Assn):List Assn:=
 blk p 55 (smC s b nv rb jb gb db wb iv dv wv).toArray::BP b s.b ps::own nv 103 1 (ns.map noV)::alls ns noB::ranM rb s.ran::mapL jb .u32 (s.jobs.map joE)::mapL gb .u32 (setT s.gone)::mapL db .u32 (setT s.done)::imgs iv s.images::warM wb::lstM dv s.fu::lstM wv s.fu::Γ
structure SF (s:Sm) (nv:SV) (ns:List No) (iv:SV):Prop where
 nd:ns.map (·.2)=s.nd
 nn:nv.n=s.nd.length
 im:iv.n=s.images.length
def SP (p:Nat) (s:Sm):Assn:=fun h=>∃(b:Nat) (ps:Nat→Nat) (nv:SV) (ns:List No) (rb jb gb db wb:Nat) (iv dv wv:SV),SF s nv ns iv∧stars (smX p s b ps nv ns rb jb gb db wb iv dv wv []) h
section
variable {n:Nat} {md:Bool} {w0:WM md} {ρ:Env} {Γ Δ:List Assn} {φ:Act→World→Prop}
theorem S.niOpen (p:Nat) (nd:Nd) [q:Pick (NI p nd) Γ Δ] (k:∀rb iv ov rs os,NF nd iv ov rs os→S n w0 ρ (ndX p nd rb iv ov rs os Δ) φ):S n w0 ρ Γ φ:=by
 intro a w ha hs hx;obtain⟨h0,l0,h1,h2,d,l1,l2,⟨rb,iv,ov,rs,os,q1,q2⟩,s⟩:=hs.ent q.ent;exact k rb iv ov rs os q1 a w ha ⟨h0,l0,(Ent.unpack (ndX p nd rb iv ov rs os []) Δ) _ ⟨h1,h2,d,l1,l2,q2,s⟩⟩ hx
theorem S.niClose (p:Nat) (nd:Nd) (rb:Nat) (iv ov:SV) (rs:List Ro) (os:List Ot) (h:NF nd iv ov rs os) [q:Picks (ndX p nd rb iv ov rs os []) Γ Δ] (k:S n w0 ρ (NI p nd::Δ) φ):S n w0 ρ Γ φ:=
 S.ent (q.ent.trans ((Ent.pack (ndX p nd rb iv ov rs os []) Δ).trans (Ent.mono1 Δ fun _ s=>⟨rb,iv,ov,rs,os,h,s⟩))) k
theorem S.spOpen (p:Nat) (s:Sm) [q:Pick (SP p s) Γ Δ] (k:∀b ps nv ns rb jb gb db wb iv dv wv,SF s nv ns iv→S n w0 ρ (smX p s b ps nv ns rb jb gb db wb iv dv wv Δ) φ):S n w0 ρ Γ φ:=by
 intro a w ha hs hx;obtain⟨h0,l0,h1,h2,d,l1,l2,⟨b,ps,nv,ns,rb,jb,gb,db,wb,iv,dv,wv,q1,q2⟩,s'⟩:=hs.ent q.ent;exact k b ps nv ns rb jb gb db wb iv dv wv q1 a w ha ⟨h0,l0,(Ent.unpack (smX p s b ps nv ns rb jb gb db wb iv dv wv []) Δ) _ ⟨h1,h2,d,l1,l2,q2,s'⟩⟩ hx
theorem S.spClose (p:Nat) (s:Sm) (b:Nat) (ps:Nat→Nat) (nv:SV) (ns:List No) (rb jb gb db wb:Nat) (iv dv wv:SV) (h:SF s nv ns iv) [q:Picks (smX p s b ps nv ns rb jb gb db wb iv dv wv []) Γ Δ] (k:S n w0 ρ (SP p s::Δ) φ):S n w0 ρ Γ φ:=
 S.ent (q.ent.trans ((Ent.pack (smX p s b ps nv ns rb jb gb db wb iv dv wv []) Δ).trans (Ent.mono1 Δ fun _ s'=>⟨b,ps,nv,ns,rb,jb,gb,db,wb,iv,dv,wv,h,s'⟩))) k
end
section
variable {α:Type}
theorem nGet_put (k:Nat) (v:α) (l:List (Nat×α)) (i:Nat):nGet i (nPut k v l)=if i=k then some v else nGet i l:=by
 induction l with
 | nil=>
  simp only[nPut,nGet]
  by_cases h:k=i
  ·rw[if_pos h,if_pos h.symm]
  ·rw[if_neg h,if_neg (fun e=>h e.symm)]
 | cons x l ih=>
  unfold nPut
  by_cases hx:x.1=k
  ·rw[if_pos hx];simp only[nGet]
   by_cases h:k=i
   ·rw[if_pos h,if_pos h.symm]
   ·rw[if_neg h,if_neg (fun e=>h e.symm),if_neg (by omega)]
  ·rw[if_neg hx];simp only[nGet]
   by_cases h:x.1=i
   ·rw[if_pos h,if_neg (by omega),if_pos h]
   ·rw[if_neg h,ih,if_neg h]
abbrev keys (l:List (Nat×α)):List Nat:=l.map (·.1)
theorem nGet_none {k:Nat} {l:List (Nat×α)}:nGet k l=none↔k∉keys l:=by
 induction l with
 | nil=>simp[nGet]
 | cons x l ih=>
  simp only[nGet,keys,List.map_cons,List.mem_cons,not_or]
  by_cases h:x.1=k
  ·rw[if_pos h];simp[h]
  ·rw[if_neg h,ih];exact⟨fun h2=>⟨fun e=>h e.symm,h2⟩,fun h2=>h2.2⟩
theorem nGet_mem {k:Nat} {v:α} {l:List (Nat×α)} (h:nGet k l=some v):(k,v)∈l:=by
 induction l with
 | nil=>cases h
 | cons x l ih=>
  simp only[nGet]at h
  split at h
  ·rename_i e;cases h;exact List.mem_cons.2 (.inl (by rw[←e]))
  ·exact List.mem_cons_of_mem _ (ih h)
theorem nGet_of_mem {k:Nat} {v:α} {l:List (Nat×α)} (hn:(keys l).Nodup) (h:(k,v)∈l):nGet k l=some v:=by
 induction l with
 | nil=>cases h
 | cons x l ih=>
  simp only[keys,List.map_cons,List.nodup_cons]at hn;simp only[nGet]
  rcases List.mem_cons.1 h with e | h
  ·rw[if_pos (by rw[←e]),←e]
  ·rw[if_neg (fun e=>hn.1 (List.mem_map.2 ⟨_,h,e.symm⟩)),ih hn.2 h]
theorem mem_keys_put {k:Nat} {v:α} {l:List (Nat×α)} {i:Nat}:i∈keys (nPut k v l)↔i=k∨i∈keys l:=by
 have h1:=nGet_put k v l i
 constructor
 ·intro h
  by_cases e:i=k
  ·exact .inl e
  ·rw[if_neg e]at h1;refine .inr (Classical.byContradiction fun h2=>?_);rw[nGet_none.2 h2]at h1;exact nGet_none.1 h1 h
 ·intro h;refine Classical.byContradiction fun h2=>?_;rw[nGet_none.2 h2]at h1
  rcases h with h | h
  ·rw[if_pos h]at h1;cases h1
  ·by_cases e:i=k
   ·rw[if_pos e]at h1;cases h1
   ·rw[if_neg e]at h1;exact nGet_none.1 h1.symm h
theorem nPut_keys (k:Nat) (v:α) {l:List (Nat×α)} (hn:(keys l).Nodup):(keys (nPut k v l)).Nodup:=by
 induction l with
 | nil=>simp[nPut,keys]
 | cons x l ih=>
  have hn':=hn;simp only[keys,List.map_cons,List.nodup_cons]at hn;unfold nPut
  split
  ·rename_i e;simp only[keys,List.map_cons,List.nodup_cons];rw[←e];exact hn
  ·rename_i e;show (x.1::keys (nPut k v l)).Nodup;rw[List.nodup_cons];refine⟨fun h=>?_,ih hn.2⟩
   rcases mem_keys_put.1 h with h | h
   ·exact e h
   ·exact hn.1 h
end
def noRun (l:Rs):Prop:=∀y∈l,y.2.run=false
def oneRun (l:Rs):Prop:=∀y∈l,∀z∈l,y.2.run=true→z.2.run=true→y.1=z.1
theorem runOf_some {l:Rs} (h:runOf l≠0):∃r,(runOf l,r)∈l∧r.run=true:=by
 unfold runOf at h ⊢;cases hf:l.find? (·.2.run) with
 | none=>rw[hf]at h;exact absurd rfl h
 | some x=>exact⟨x.2,List.mem_of_find?_eq_some hf,by have h9:=List.find?_some hf;exact h9⟩
def pos (l:Rs):Prop:=∀y∈l,y.1≠0
def fin (rk:Rs) (q:List Nt):Nd:=q.foldl actR ⟨true,rk,[],[],false⟩
abbrev jT (ps:Nat→Nat) (js:List Bj) (i:Nat):Assn:=alls (js.take i) (jI ps)
abbrev jD (ps:Nat→Nat) (js:List Bj) (i:Nat):Assn:=alls (js.drop (i+1)) (jI ps)
abbrev jX (p:Nat) (x:Bj) (av:SV) (lb db rb sb:Option Nat) (Γ:List Assn):List Assn:=
 blk p 90 (bjC x av lb db rb sb).toArray::own av 3 1 (nds x.at_)::optS lb x.loaded::optS db x.drops::optR rb x.ran::savB sb x.id x.sav::Γ
structure JF (x:Bj) (av:SV) (lb db rb sb:Option Nat):Prop where
 an:av.n=x.at_.length
 l:lb.isSome=x.loaded.isSome
 d:db.isSome=x.drops.isSome
 r:rb.isSome=x.ran.isSome
 s:sb.isSome=x.sav.isSome
abbrev bR (b:Nat) (st:Br) (ps:Nat→Nat) (ub jb mb:Nat) (ov iv dv mv:SV) (sb:Option Nat) (l:List (Int×Value)) (i:Nat) (Γ:List Assn):List Assn:=
 blk b 84 (bC st ub jb mb ov iv dv mv sb).toArray::mapL ub .i64 (setE st.up)::mapL jb .u32 l::jT ps st.js i::jD ps st.js i::MI mb st.m::own ov 97 14 (st.orders.flatMap odC)::imgs iv st.images::own dv 31 1 (idsV st.done)::own mv 31 1 (idsV st.members)::optS sb st.stops::Γ
theorem Ent.third (A B C:Assn) (Γ:List Assn):Ent (A::B::C::Γ) (C::A::B::Γ):=((Ent.swap B C Γ).cons A).trans (Ent.swap A C _)
theorem Ent.focus {b:Nat} {st:Br} {ps:Nat→Nat} {ub jb mb:Nat} {ov iv dv mv:SV} {sb:Option Nat} {l:List (Int×Value)} {i:Nat} {x:Bj} (hx:st.js[i]?=some x) (Γ:List Assn) :
  Ent (bX b st ps ub jb mb ov iv dv mv sb l Γ) (JI (ps x.id) x::bR b st ps ub jb mb ov iv dv mv sb l i Γ):=by
 have h1:Ent (alls st.js (jI ps)::MI mb st.m::own ov 97 14 (st.orders.flatMap odC)::imgs iv st.images::own dv 31 1 (idsV st.done)::own mv 31 1 (idsV st.members)::optS sb st.stops::Γ) (JI (ps x.id) x::jT ps st.js i::jD ps st.js i::MI mb st.m::own ov 97 14 (st.orders.flatMap odC)::imgs iv st.images::own dv 31 1 (idsV st.done)::own mv 31 1 (idsV st.members)::optS sb st.stops::Γ):=Ent.allsAt (jI ps) hx _;exact((((h1.cons _).cons _).cons _).trans (((Ent.swap _ _ _).cons _).cons _)).trans (((Ent.swap _ _ _).cons _).trans (Ent.swap _ _ _))
theorem Ent.unfocus {b:Nat} {st:Br} {ps:Nat→Nat} {ub jb mb:Nat} {ov iv dv mv:SV} {sb:Option Nat} {l:List (Int×Value)} {i:Nat} {x x':Bj} (hx:st.js[i]?=some x) (hid:x'.id=x.id) (hset:setJ st.js x'=st.js.set i x') (hF:BF (st.set x') ps ov iv dv mv sb l) (Γ:List Assn) :
  Ent (JI (ps x.id) x'::bR b st ps ub jb mb ov iv dv mv sb l i Γ) (BP b (st.set x') ps::Γ):=by
 have h1:Ent (JI (ps x.id) x'::jT ps st.js i::jD ps st.js i::MI mb st.m::own ov 97 14 (st.orders.flatMap odC)::imgs iv st.images::own dv 31 1 (idsV st.done)::own mv 31 1 (idsV st.members)::optS sb st.stops::Γ) (alls (st.js.set i x') (jI ps)::MI mb st.m::own ov 97 14 (st.orders.flatMap odC)::imgs iv st.images::own dv 31 1 (idsV st.done)::own mv 31 1 (idsV st.members)::optS sb st.stops::Γ):=by
  rw[←hid];exact Ent.allsBack (jI ps) (x':=x') hx _
 have h2:Ent (bX b (st.set x') ps ub jb mb ov iv dv mv sb l Γ) (BP b (st.set x') ps::Γ):=Ent.bp hF Γ;have h3:(st.set x').js=st.js.set i x':=hset;rw[←h3]at h1;exact(((Ent.swap _ _ _).trans ((Ent.swap _ _ _).cons _)).trans (((Ent.swap _ _ _).cons _).cons _)).trans ((((h1.cons _).cons _).cons _).trans h2)
theorem Ent.ungone {b:Nat} {st st':Br} {ps:Nat→Nat} {ub jb mb:Nat} {ov iv dv mv:SV} {sb:Option Nat} {l:List (Int×Value)} {i:Nat} (hrm:st'.js=st.js.eraseIdx i) (hF:BF st' ps ov iv dv mv sb l) (Γ:List Assn) :
  Ent (bR b {st' with js:=st.js} ps ub jb mb ov iv dv mv sb l i Γ) (BP b st' ps::Γ):=by
 have h1:∀Θ:List Assn,Ent (jT ps st.js i::jD ps st.js i::Θ) (alls st'.js (jI ps)::Θ):=fun Θ=>by
  rw[hrm,List.eraseIdx_eq_take_drop_succ];exact Ent.allsAppend _ _ _ _
 have h2:Ent (bX b st' ps ub jb mb ov iv dv mv sb l Γ) (BP b st' ps::Γ):=Ent.bp hF Γ;exact((((h1 _).cons _).cons _).cons _).trans h2
section
variable {n:Nat} {md:Bool} {w0:WM md} {ρ:Env} {Γ Δ:List Assn} {φ:Act→World→Prop}
theorem S.blkAs (b:Nat) {T:TypeId} {cs:Array Value} (cs':Array Value) [h:HasB Γ b T cs Δ] (e:cs=cs') (k:S n w0 ρ (blk b T cs'::Δ) φ):S n w0 ρ Γ φ:=S.ent h.ent (e ▸ k)
theorem S.bjOpen (b:Nat) (st:Br) (ps:Nat→Nat) (x:Bj) (hx:getJ st.js x.id=some x) [p:Pick (BP b st ps) Γ Δ] (k:∀ub jb mb ov iv dv mv sb l i av lb db rb qb,BF st ps ov iv dv mv sb l→st.js[i]?=some x→(∀y:Bj,y.id=x.id→setJ st.js y=st.js.set i y)→rmJ st.js x.id=st.js.eraseIdx i→JF x av lb db rb qb →
  S n w0 ρ (jX (ps x.id) x av lb db rb qb (bR b st ps ub jb mb ov iv dv mv sb l i Δ)) φ):S n w0 ρ Γ φ:=by
 refine S.bpOpen b st ps fun ub jb mb ov iv dv mv sb l hF=>?_;obtain⟨i,h1,h2,h3⟩:=getJ_at hF.ok.srt hx;refine S.ent (Ent.focus h1 Δ) ?_;refine S.jiOpen (ps x.id) x fun av lb db rb qb q1 q2 q3 q4 q5=>?_;exact k ub jb mb ov iv dv mv sb l i av lb db rb qb hF h1 h2 h3 ⟨q1,q2,q3,q4,q5⟩
theorem S.bjClose (b:Nat) (st:Br) (ps:Nat→Nat) (ub jb mb:Nat) (ov iv dv mv:SV) (sb:Option Nat) (l:List (Int×Value)) (i:Nat) {x:Bj} (x':Bj) (av:SV) (lb db rb qb:Option Nat) (hx:st.js[i]?=some x) (hid:x'.id=x.id) (hset:setJ st.js x'=st.js.set i x') (hF:BF (st.set x') ps ov iv dv mv sb l) (hJ:JF x' av lb db rb qb)
  [q:Picks (jX (ps x.id) x' av lb db rb qb (bR b st ps ub jb mb ov iv dv mv sb l i [])) Γ Δ] (k:S n w0 ρ (BP b (st.set x') ps::Δ) φ):S n w0 ρ Γ φ:=by
 refine S.ent ?_ k
 have h1:Ent (jX (ps x.id) x' av lb db rb qb (bR b st ps ub jb mb ov iv dv mv sb l i Δ)) (JI (ps x.id) x'::bR b st ps ub jb mb ov iv dv mv sb l i Δ):=
  (Ent.pack (jX (ps x.id) x' av lb db rb qb []) _).trans (Ent.mono1 _ fun _ s=>⟨av,lb,db,rb,qb,hJ.an,hJ.l,hJ.d,hJ.r,hJ.s,s⟩)
 exact q.ent.trans (h1.trans (Ent.unfocus hx hid hset hF Δ))
end
theorem BrOk.set {st:Br} (h:BrOk st) {x:Bj} (hx:JOk st.nodes x):BrOk (st.set x):=⟨h.R,h.N,h.mok,setJ_ok h.srt x,fun y hy=>by
 obtain⟨z,hz,e⟩:=List.mem_map.1 hy
 have hj:JOk st.nodes y:=by
  rw[←e]
  split
  ·exact hx
  ·exact h.job z hz
 exact hj,by show (setJ st.js x).length≤_;rw[setJ_len];exact h.few,h.q1,h.q2,h.g1,h.g2,h.now,h.fin,h.mem,h.stp⟩
theorem BF.set {st:Br} {ps:Nat→Nat} {ov iv dv mv:SV} {sb:Option Nat} {l:List (Int×Value)} (h:BF st ps ov iv dv mv sb l) {x:Bj} (hx:JOk st.nodes x):BF (st.set x) ps ov iv dv mv sb l:=⟨h.ok.set hx,by show l.Perm ((setJ st.js x).map (jE ps));rw[jE_set];exact h.perm,h.on,h.im,h.dn,h.mn,h.sn⟩
theorem BrOk.at_ {st:Br} (h:BrOk st) {x:Bj} (hx:getJ st.js x.id=some x):JOk st.nodes x:=h.job x (getJ_some hx).1
theorem has_S (b:Nat) (s:List Nat) (n:Nat):Spec Tryz.prog 73 [.map (some b),.int .i64 (n:Int)] [mapL b .i64 (setE s)] fun Γ v Θ=>v=.bool (decide (n∈s))∧Θ=mapL b .i64 (setE s)::Γ:=by
 refine Zbd Tryz.func73 rfl Tryz.ntmps73 fun w0 Γ=>Zsh ?_;refine ZY 8 ?_;refine Zv (q_lookupOk (.agg #[]) (decide (n∈s)) Tryz.underlying81 Tryz.underlying3 Tryz.zv134.h rfl rfl rfl (by rw[setE_get];by_cases h:n∈s;(rw[if_pos h,decide_eq_true h]);(rw[if_neg h,decide_eq_false h]))) ?_;refine ZY 3 ?_;refine Zp (S.alloc Tryz.z134.h rfl ?_);intro b5;refine Zp (Zs ef ef (cs':=[]) ef ?_);refine ZY 8 ?_;exact Zf ef Zq (⟨rfl,rfl⟩)
theorem hasN_S (n:Int):Spec Tryz.prog 73 [.map none,.int .i64 n] [] fun Γ v Θ=>v=.bool false∧Θ=Γ:=by
 refine Zbd Tryz.func73 rfl Tryz.ntmps73 fun w0 Γ=>Zsh ?_;refine ZY 8 ?_;refine Zv (q_lookupOkN Tryz.underlying81 Tryz.underlying3 Tryz.zv134.h rfl rfl rfl) ?_;refine ZY 3 ?_;refine Zp (S.alloc Tryz.z134.h rfl ?_);intro b5;refine Zp (Zs ef ef (cs':=[]) ef ?_);refine ZY 8 ?_;exact Zf ef Zq (⟨rfl,rfl⟩)
theorem hasO_S (b:Option Nat) (s:Option (List Nat)) (n:Nat):Spec Tryz.prog 73 [.map b,.int .i64 (n:Int)] [optS b s] fun Γ v Θ=>v=.bool (decide (n∈s.getD []))∧Θ=optS b s::Γ:=by
 cases b with
 | none=>
  cases s with
  | none=>exact fun Γ w hs=>hasN_S n (optS none none::Γ) w hs |>.mono fun e w' h=>h
  | some s=>exact fun Γ w hs=>absurd hs.optEq (by simp)
 | some b=>
  cases s with
  | none=>exact fun Γ w hs=>absurd hs.optEq (by simp)
  | some s=>exact has_S b s n
theorem add_S (b:Nat) (s:List Nat) (n:Nat):Spec Tryz.prog 38 [.map (some b),.int .i64 (n:Int)] [mapL b .i64 (setE s)] fun Γ _ Θ=>Θ=mapL b .i64 (setE (sAdd s n))::Γ:=by
 refine Zbd Tryz.func38 rfl Tryz.ntmps38 fun w0 Γ=>Zsh ?_;refine ZY 3 ?_;refine Zv (q_build (pvs:=[]) [] Tryz.z134.h Tryz.p134.h trivial rfl) ?_;refine Zp (S.mapUpdate Tryz.underlying81 Tryz.underlying3 rfl rfl rfl rfl ?_);rw[setE_put];refine Zy ?_;exact Zfn ef Zq (rfl)
theorem order_S (b:Nat) (st:Br) (ub jb mb:Nat) (ov iv dv mv:SV) (sb:Option Nat) (n:Nat) (x:Nt) (os:List Od) (hov:ov.n=os.length) (hl:os.length≤1000000):Spec Tryz.prog 74 [pt b,.int .i64 (n:Int),.agg (ntC x SV.nil).toArray] [blk b 84 (bC st ub jb mb ov iv dv mv sb).toArray,own ov 97 14 (os.flatMap odC)] fun Γ _ Θ=>
  ∃ov2:SV,ov2.n=(os++[(n,x)]).length∧Θ=blk b 84 (bC st ub jb mb ov2 iv dv mv sb).toArray::own ov2 97 14 ((os++[(n,x)]).flatMap odC)::Γ:=by
 refine Zbd Tryz.func74 rfl Tryz.ntmps74 fun w0 Γ=>Zsh ?_;have hlen:(os++[((n,x):Od)]).length=os.length+1:=by simp
 refine ZY 2 ?_;refine Zp (S.box (cs:=[_,_,_,_,_,_,_,_,_,_,_,_,_]) rfl rfl rfl ?_);intro b5;refine Zy ?_;refine Zd ([blk b5 72 (ntC x SV.nil).toArray,blk b 84 (bC st ub jb mb ov iv dv mv sb).toArray]) [12] (Zra 0 8) ?_;refine ZY 7 ?_;refine Zw ef (q_build (pvs:=[(_,_),(_,_)]) [_,_,_,_,_,_,_,_,_,_,_,_,_,_] Tryz.z97.h Tryz.p97.h ⟨⟨rfl,rfl⟩,⟨rfl,rfl⟩,trivial⟩ rfl) ?_;refine Z1 (i:=8) ef ef ?_;refine(S.buildSlice (pvs:=[(_,_)]) [_,_,_,_,_,_,_,_,_,_,_,_,_,_] Tryz.underlying37 Tryz.inf97.h rfl rfl ⟨⟨rfl,rfl⟩,trivial⟩ rfl rfl ?_);intro b14;refine Zk [] ?_;refine Z1 (i:=9) ef ef ?_;refine(S.appendOw (s:=ov) (1) (odC (n,x)) Tryz.underlying37 Tryz.inf97.h rfl rfl rfl (blk_slAt (b:=b14) rfl (by unfold maxLen;omega)) (by first | rfl | exact allOne_bcells _) (⟨by omega,by omega⟩) rfl ?_);intro ov2 hov2;refine Zk [10,11] ?_;refine ZY 2 ?_;refine Z1 (i:=12) ef ef ?_;refine(S.store (cs':=[_,_,_,_,_,_,_,_,_,_,_,_,_,_,_,_,_,_]) Eo.h rfl rfl rfl rfl rfl ?_);refine ZL ([]) [] ?_;refine ZD ?_;rw[flat_snoc odC os ((n,x):Od)];exact Zfn ef Zq (⟨ov2,by omega,rfl⟩)
end BN
theorem Ent.opt1 {q:Nat} {s:Option (List Nat)} {d:List Nat} (h:s=some d) (Γ:List Assn):Ent (optS (some q) s::Γ) (mapL q .i64 (setE d)::Γ):=by rw[h];exact Ent.refl _
theorem Ent.opt2 {q:Nat} {s:Option (List Nat)} {d:List Nat} (h:s=some d) (Γ:List Assn):Ent (mapL q .i64 (setE d)::Γ) (optS (some q) s::Γ):=by rw[h];exact Ent.refl _
namespace BN
theorem optRNil (Γ:List Assn):Ent Γ (optR none none::Γ):=fun h hs=>⟨HL.emp,h,HL.emp_disj _,HL.emp_le _,HL.le.refl _,trivial,hs⟩
theorem savNil (id:Nat) (Γ:List Assn):Ent Γ (savB none id none::Γ):=fun h hs=>⟨HL.emp,h,HL.emp_disj _,HL.emp_le _,HL.le.refl _,trivial,hs⟩
theorem removeR_N (m:Mx) (j:Nat):(removeR m j).2.R=m.R∧(removeR m j).2.N=m.N:=by
 unfold removeR;split <;> exact⟨rfl,rfl⟩
theorem removeR_ok {m:Mx} (hm:MxOk m) (j:Nat):MxOk (removeR m j).2:=by
 unfold removeR
 split
 ·exact hm.del j
 ·exact hm
theorem BrOk.mset {st:Br} (h:BrOk st) {m:Mx} (hm:MxOk m) (hR:m.R=st.m.R) (hN:m.N=st.m.N):BrOk {st with m:=m}:=⟨by rw[hR];exact h.R,by rw[hN];exact h.N,hm,h.srt,fun x hx=>h.job x hx,h.few,h.q1,h.q2,h.g1,h.g2,h.now,h.fin,h.mem,h.stp⟩
theorem BrOk.jset {st:Br} (h:BrOk st) {js:List Bj} (hs:JsOk js) (hj:∀x∈js,JOk st.nodes x) (hl:js.length≤1000):BrOk {st with js:=js}:=⟨h.R,h.N,h.mok,hs,fun x hx=>hj x hx,hl,h.q1,h.q2,h.g1,h.g2,h.now,h.fin,h.mem,h.stp⟩
theorem BrOk.oset {st:Br} (h:BrOk st) (os:List Od):BrOk {st with orders:=os}:=⟨h.R,h.N,h.mok,h.srt,fun x hx=>h.job x hx,h.few,h.q1,h.q2,h.g1,h.g2,h.now,h.fin,h.mem,h.stp⟩
theorem BrOk.dset {st:Br} (h:BrOk st) (ds:List Nat):BrOk {st with done:=ds}:=⟨h.R,h.N,h.mok,h.srt,fun x hx=>h.job x hx,h.few,h.q1,h.q2,h.g1,h.g2,h.now,h.fin,h.mem,h.stp⟩
theorem set_self {st:Br} (h:BrOk st) {x:Bj} (hx:getJ st.js x.id=some x):st.set x=st:=by
 have:=setJ_self h.srt hx;show {st with js:=setJ st.js x}=st;rw[this]
abbrev anew (x:Bj):Bj:={id:=x.id,tier:=x.tier,k:=x.k,w:=x.w,state:=0,credit:=x.credit,work:=x.credit,ver:=x.ver}
theorem JOk.anew {N:Nat} {x:Bj} (h:JOk N x):JOk N (anew x):=⟨h.id1,h.id2,h.tier,h.k1,h.kn,h.w,h.cr,h.cr,List.Pairwise.nil,fun n hn=>(by cases hn),fun d hd=>(by cases hd),fun d hd=>(by cases hd),fun r hr=>(by cases hr),fun e=>absurd (show (0:Nat)=1 from e) (by decide),fun s hs=>(by cases hs)⟩
theorem goneR_ok {st:Br} (h:BrOk st) {x:Bj} (hx:JOk st.nodes x):BrOk (goneR st x):=by
 unfold goneR;have hm:=h.mset (removeR_ok h.mok x.id) (removeR_N _ _).1 (removeR_N _ _).2
 split
 ·split
  ·exact hm.set (x:=BN.anew x) hx.anew
  ·exact hm.jset (js:=rmJ st.js x.id) (rmJ_ok h.srt _) (fun y hy=>h.job y ((List.mem_filter.1 hy).1)) (Nat.le_trans (List.length_filter_le _ _) h.few)
 ·exact h.set hx
theorem goneR_same (st:Br) (x:Bj):(goneR st x).orders=st.orders∧(goneR st x).images=st.images∧(goneR st x).done=st.done∧(goneR st x).nodes=st.nodes∧(goneR st x).up=st.up:=by
 unfold goneR
 split
 ·split <;> exact⟨rfl,rfl,rfl,rfl,rfl⟩
 ·exact⟨rfl,rfl,rfl,rfl,rfl⟩
theorem gone_S (b:Nat) (st:Br) (ps:Nat→Nat) (x:Bj) (hx:getJ st.js x.id=some x):Spec Tryz.prog 53 [pt b,pt (ps x.id)] [BP b st ps] fun Γ _ Θ=>Θ=BP b (goneR st x) ps::Γ:=by
 refine Spec.bpOk fun hok=>?_;have hjx:=hok.at_ hx;cases hd:x.drops with
 | none=>
  have hg:goneR st x=st.set x:=by rw[goneR,hd,if_neg (by simp)]
  refine Zbd Tryz.func53 rfl Tryz.ntmps53 fun w0 Γ=>Zsh ?_;refine S.bjOpen b st ps x hx fun ub jb mb ov iv dv mv sb l i av lb db rb qb hF hi hset hrm hJ=>?_;have hdb:db=none:=by have:=hJ.d;rw[hd]at this;cases db with | none=>rfl | some q=>cases this
  subst hdb;refine ZY 7 ?_;refine Zv (q_eqMN Tryz.underlying81 rfl rfl) ?_;refine ZY 8 ?_;refine ZY 3 ?_;refine S.bjClose b st ps ub jb mb ov iv dv mv sb l i x av lb none rb qb hi rfl (hset x rfl) (hF.set hjx) hJ ?_;exact Zf ef Zq (by rw[hg])
 | some d=>
  refine Zbd Tryz.func53 rfl Tryz.ntmps53 fun w0 Γ=>Zsh ?_;refine S.bjOpen b st ps x hx fun ub jb mb ov iv dv mv sb l i av lb db rb qb hF hi hset hrm hJ=>?_;obtain⟨q,hq⟩:∃q,db=some q:=by have:=hJ.d;rw[hd]at this;cases db with | none=>cases this | some q=>exact⟨q,rfl⟩
  subst hq;refine S.conv (optS (some q) x.drops) (Ent.opt1 hd _) ?_;have hml:=setE_len d;refine ZY 7 ?_;refine Zv (q_eqMN Tryz.underlying81 rfl rfl) ?_;refine ZY 8 ?_;refine Zy ?_
  refine Zj ef (fun h1=>?_) (fun h1=>?_)
  ·have hg:goneR st x=st.set x:=by rw[goneR,hd,if_neg (fun e=>by rw[Option.some.inj e]at h1;exact absurd h1 (by decide))]
   refine S.conv (mapL q .i64 (setE d)) (Ent.opt2 hd _) ?_;refine Zy ?_;refine S.bjClose b st ps ub jb mb ov iv dv mv sb l i x av lb (some q) rb qb hi rfl (hset x rfl) (hF.set hjx) hJ ?_;exact Zf ef Zq (by rw[hg])
  ·have hd0:x.drops=some []:=by rw[hd];congr;exact List.eq_nil_of_length_eq_zero (by omega)
   have hm:=hok.mset (removeR_ok hok.mok x.id) (removeR_N _ _).1 (removeR_N _ _).2;refine ZY 2 ?_;refine Zd ([blk (ps x.id) 90 (bjC x av lb (some q) rb qb).toArray,blk b 84 (bC st ub jb mb ov iv dv mv sb).toArray]) [] (Zra 0 9) ?_;refine ZY 8 ?_;refine Zy ?_;refine Z1 (i:=9) ef ef ?_;refine  (Zcp Ze (Remove_S mb st.m x.id) ?_);refine Zk [] ?_;refine ZD ?_;refine ZY 8 ?_;refine Zy ?_
   refine Zi ef (fun h2=>?_) (fun h2=>?_)
   ·have ha:x.again=false:=by simpa using h2
    have hg:goneR st x={st with m:=(removeR st.m x.id).2,js:=rmJ st.js x.id}:=by rw[goneR,if_pos hd0,if_neg (by rw[ha];decide)]
    refine Zy ?_;refine Zd ([blk (ps x.id) 90 (bjC x av lb (some q) rb qb).toArray,blk b 84 (bC st ub jb mb ov iv dv mv sb).toArray]) [] (Zra 0 9) ?_;refine ZY 8 ?_;refine Zy ?_;refine Z1 (i:=9) ef ef ?_;refine(S.mapDelete Tryz.underlying82 Tryz.underlying31 rfl rfl rfl ?_);refine Zk [] ?_;refine ZD ?_;refine Zy ?_;have hF2:BF {st with m:=(removeR st.m x.id).2,js:=rmJ st.js x.id} ps ov iv dv mv sb (alDel (x.id:Int) l):=⟨by rw[←hg];exact goneR_ok hok hjx,jE_rm hok.srt hF.perm hx,hF.on,hF.im,hF.dn,hF.mn,hF.sn⟩;refine S.sub (bR b {st with m:=(removeR st.m x.id).2} ps ub jb mb ov iv dv mv sb (alDel (x.id:Int) l) i Γ) ?_;refine S.ent (Ent.ungone (st:=st) (st':={st with m:=(removeR st.m x.id).2,js:=rmJ st.js x.id}) hrm hF2 Γ) ?_;exact Zf ef Zq (by rw[hg])
   ·have ha:x.again=true:=by simpa using h2
    have hg:goneR st x=Br.set {st with m:=(removeR st.m x.id).2} (anew x):=by rw[goneR,if_pos hd0,if_pos ha]
    refine ZY 2 ?_;refine Zd ([blk (ps x.id) 90 (bjC x av lb (some q) rb qb).toArray]) [16] (Zra 0 16) ?_;refine ZY 8 ?_;refine ZY 6 ?_;refine Zw ef (q_build (pvs:=[(_,_),(_,_),(_,_)]) [_,_,_,_,_,_,_,_,_,_,_,_,_,_,_,_,_] Tryz.z90.h Tryz.p90.h ⟨⟨rfl,rfl⟩,⟨rfl,rfl⟩,⟨rfl,rfl⟩,trivial⟩ rfl) ?_;refine Zy ?_;refine Z1 (i:=16) ef ef ?_;refine  (Zs ef ef (cs':=[_,_,_,_,_,_,_,_,_,_,_,_,_,_,_,_,_]) ef ?_);refine ZL ([]) [] ?_;refine ZD ?_;refine ZY 7 ?_;have hF2:BF (Br.set {st with m:=(removeR st.m x.id).2} (anew x)) ps ov iv dv mv sb l:=⟨by rw[←hg];exact goneR_ok hok hjx,by show l.Perm ((setJ st.js (anew x)).map (jE ps));rw[jE_set];exact hF.perm,hF.on,hF.im,hF.dn,hF.mn,hF.sn⟩;refine S.blkAs (ps x.id) (bjC (anew x) SV.nil none none none none).toArray rfl ?_;refine S.ent (show Ent _ (own SV.nil 3 1 (nds (anew x).at_)::_) from Ent.ownNil 3 1) ?_;refine S.ent ((Ent.optNil _).trans ((Ent.optNil _).trans ((optRNil _).trans (savNil x.id _)))) ?_;refine S.sub (jX (ps x.id) (anew x) SV.nil none none none none (bR b {st with m:=(removeR st.m x.id).2} ps ub jb mb ov iv dv mv sb l i Γ)) ?_;refine S.bjClose b {st with m:=(removeR st.m x.id).2} ps ub jb mb ov iv dv mv sb l i (anew x) SV.nil none none none none hi rfl (hset (anew x) rfl) hF2 ⟨rfl,rfl,rfl,rfl,rfl⟩ ?_;exact Zfn ef Zq (by rw[hg])
theorem rise_len {l:List Nat} {N:Nat} (h:l.Pairwise (· < ·)) (hN:∀n∈l,n<N):l.length≤N:=by
 have key:∀i,(hi:i<l.length)→i≤l[i]:=by
  intro i;induction i with
  | zero=>intro _;exact Nat.zero_le _
  | succ i ih=>
   intro hi;have h1:=ih (by omega);have h2:=List.pairwise_iff_getElem.1 h i (i+1) (by omega) hi (by omega);omega
 rcases Nat.eq_zero_or_pos l.length with e | e
 ·omega
 ·have h1:=key (l.length-1) (by omega);have h2:=hN _ (List.getElem_mem (show l.length-1<l.length by omega));omega
theorem BrOk.N16 {st:Br} (h:BrOk st):st.nodes≤16:=by rw[←h.N];exact h.mok.N16
theorem JOk.len {N:Nat} {x:Bj} (h:JOk N x):x.at_.length≤N:=rise_len h.rise h.at_
theorem gone_set (st:Br) {x y:Bj} (h:x.id=y.id):goneR (st.set x) y=goneR st y:=by
 unfold goneR Br.set
 split
 ·split
  ·show ({st with m:=_,js:=setJ (setJ st.js x) _}:Br)=_;rw[setJ_set (x:=x) (y:=anew y) st.js h]
  ·show ({st with m:=_,js:=rmJ (setJ st.js x) y.id}:Br)=_;rw[←h,rmJ_set]
 ·show ({st with js:=setJ (setJ st.js x) y}:Br)=_;rw[setJ_set (x:=x) (y:=y) st.js h]
theorem set_set (st:Br) {x y:Bj} (h:x.id=y.id):(st.set x).set y=st.set y:=by
 unfold Br.set;show ({st with js:=setJ (setJ st.js x) y}:Br)=_;rw[setJ_set (x:=x) (y:=y) st.js h]
theorem drop_some {x:Bj} {d:List Nat} (h:x.drops=some d) (st:Br) (a:Bool):dropR st x a=goneR st (dropX x a d):=by rw[dropR,h]
theorem drop_none {x:Bj} (h:x.drops=none) (st:Br) (a:Bool):dropR st x a=goneR {st with orders:=st.orders++(upOf st x).map (dropOrd x.id)} (dropX x a (upOf st x)):=by rw[dropR,h]
theorem drop_set (st:Br) {x y:Bj} (h:x.id=y.id) (a:Bool):dropR (st.set x) y a=dropR st y a:=by
 cases hd:y.drops with
 | some d=>rw[drop_some hd,drop_some hd];exact gone_set st h
 | none=>rw[drop_none hd,drop_none hd];exact gone_set {st with orders:=st.orders++(upOf st y).map (dropOrd y.id)} (x:=x) h
theorem get_set (st:Br) {x:Bj} {z:Bj} (hz:getJ st.js x.id=some z):getJ (st.set x).js x.id=some x:=by
 show getJ (setJ st.js x) x.id=some x;rw[getJ_set,if_pos rfl,hz];rfl
theorem JOk.dropX {N:Nat} {x:Bj} (h:JOk N x) (a:Bool) {ds:List Nat} (hd:ds.Nodup):JOk N (dropX x a ds):=⟨h.id1,h.id2,h.tier,h.k1,h.kn,h.w,h.cr,h.cr,h.rise,h.at_,fun d e=>(by cases e;exact hd),h.lod,h.ran,fun e=>absurd (show (3:Nat)=1 from e) (by decide),fun s hs=>(by cases hs)⟩
theorem upOf_nodup {N:Nat} {x:Bj} (h:JOk N x) (st:Br):(upOf st x).Nodup:=(h.rise.imp fun h=>Nat.ne_of_lt h).filter _
theorem upOf_len (st:Br) (x:Bj):(upOf st x).length≤x.at_.length:=List.length_filter_le _ _
theorem dropR_ok {st:Br} (h:BrOk st) {x:Bj} (hx:JOk st.nodes x) (a:Bool):BrOk (dropR st x a):=by
 cases hd:x.drops with
 | some d=>rw[drop_some hd];exact goneR_ok h (hx.dropX a (hx.drop d hd))
 | none=>rw[drop_none hd];exact goneR_ok (h.oset _) (x:=dropX x a (upOf st x)) (hx.dropX a (upOf_nodup hx st))
theorem dropR_same (st:Br) (x:Bj) (a:Bool):(dropR st x a).orders.length≤st.orders.length+x.at_.length∧(dropR st x a).images=st.images∧(dropR st x a).done=st.done∧(dropR st x a).nodes=st.nodes∧(dropR st x a).up=st.up:=by
 cases hd:x.drops with
 | some d=>
  rw[drop_some hd];obtain⟨h1,h2,h3,h4,h5⟩:=goneR_same st (dropX x a d);exact⟨by rw[h1];omega,h2,h3,h4,h5⟩
 | none=>
  rw[drop_none hd];obtain⟨h1,h2,h3,h4,h5⟩:=goneR_same {st with orders:=st.orders++(upOf st x).map (dropOrd x.id)} (dropX x a (upOf st x));refine⟨?_,h2,h3,h4,h5⟩;rw[h1,List.length_append,List.length_map];have:=upOf_len st x;omega
theorem drop_S (b:Nat) (st:Br) (ps:Nat→Nat) (x:Bj) (a:Bool) (hx:getJ st.js x.id=some x) (hl:st.orders.length≤900000):Spec Tryz.prog 52 [pt b,pt (ps x.id),.bool a] [BP b st ps] fun Γ _ Θ=>Θ=BP b (dropR st x a) ps::Γ:=by
 refine Spec.bpOk fun hok=>?_;have hjx:=hok.at_ hx;have hN:=hok.N16;have hal:=hjx.len;cases hd:x.drops with
 | some d=>
  refine Zbd Tryz.func52 rfl Tryz.ntmps52 fun w0 Γ=>Zsh ?_;refine S.bjOpen b st ps x hx fun ub jb mb ov iv dv mv sb l i av lb db rb qb hF hi hset hrm hJ=>?_;obtain⟨q,hq⟩:∃q,db=some q:=by have:=hJ.d;rw[hd]at this;cases db with | none=>cases this | some q=>exact⟨q,rfl⟩
  subst hq;obtain⟨x1,hx1⟩:∃x1:Bj,x1=dropX x a d:=⟨_,rfl⟩;have hj1:JOk st.nodes x1:=by rw[hx1];exact hjx.dropX a (hjx.drop d hd)
  have hid:x1.id=x.id:=by rw[hx1]
  have hgo:dropR st x a=goneR (st.set x1) x1:=by rw[gone_set st rfl,drop_some hd,hx1]
  refine Zy ?_
  refine Zc (fun ρ' Γ'=>ρ'=[(0,pt b),(1,pt (ps x.id)),(2,.bool a)]∧Γ'=blk (ps x.id) 90 (bjC {x with again:=a&&!x.done} av lb (some q) rb qb).toArray::own av 3 1 (nds x.at_)::optS lb x.loaded::optS (some q) x.drops::optR rb x.ran::savB qb x.id x.sav::bR b st ps ub jb mb ov iv dv mv sb l i Γ) ?_ ?_
  ·refine ZY 4 ?_
   refine Zbb 10 ef (fun hg0_2=>?_) (fun hg0_2=>?_)
   ·refine ZY 8 ?_;refine ZY 2 ?_;refine S.blkAs (ps x.id) (bjC {x with again:=a&&!x.done} av lb (some q) rb qb).toArray (by rw[hg0_2];rfl) ?_;exact ZM ⟨rfl,rfl⟩
   ·refine ZY 8 ?_;refine ZY 2 ?_;refine S.blkAs (ps x.id) (bjC {x with again:=a&&!x.done} av lb (some q) rb qb).toArray (by rw[hg0_2];rfl) ?_;exact ZM ⟨rfl,rfl⟩
  ·rintro ρ' Γ' ⟨rfl,rfl⟩;refine ZY 8 ?_;refine ZY 8 ?_;refine ZY 8 ?_;refine ZY 2 ?_;refine Zv (q_eqMN Tryz.underlying81 rfl rfl) ?_;refine Zy ?_;refine ZF ef ?_;refine ZY 8 ?_;refine ZY 4 ?_;refine S.blkAs (ps x.id) (bjC x1 av lb (some q) rb none).toArray (by rw[hx1];rfl) ?_;refine S.ent (savNil x.id _) ?_;refine S.conv (optS (some q) x.drops) (show Ent _ (optS (some q) x1.drops::_) by rw[hx1,hd];exact Ent.refl _) ?_;refine S.sub (jX (ps x.id) x1 av lb (some q) rb none (bR b st ps ub jb mb ov iv dv mv sb l i Γ)) (e:=by subst hx1;infer_instance) ?_;refine S.bjClose b st ps ub jb mb ov iv dv mv sb l i x1 av lb (some q) rb none hi hid (hset x1 hid) (hF.set hj1) ⟨by rw[hx1];exact hJ.an,by rw[hx1];exact hJ.l,by rw[hx1];rfl,by rw[hx1];exact hJ.r,by rw[hx1];rfl⟩ ?_;refine Zp (Zc1 Ze ((hid ▸ gone_S b (st.set x1) ps x1 (get_set st (by rw[hid];exact hx)):Spec Tryz.prog 53 [pt b,pt (ps x.id)] [BP b (st.set x1) ps] fun Γ _ Θ=>Θ=BP b (goneR (st.set x1) x1) ps::Γ)) ?_);rintro v Θ rfl;refine Zy ?_;exact Zfn ef Zq (by rw[hgo])
 | none=>
  refine Zbd Tryz.func52 rfl Tryz.ntmps52 fun w0 Γ=>Zsh ?_;refine S.bjOpen b st ps x hx fun ub jb mb ov iv dv mv sb l i av lb db rb qb hF hi hset hrm hJ=>?_;have hdb:db=none:=by have:=hJ.d;rw[hd]at this;cases db with | none=>rfl | some q=>cases this
  subst hdb;have han:=hJ.an;refine Zy ?_
  refine Zc (fun ρ' Γ'=>ρ'=[(0,pt b),(1,pt (ps x.id)),(2,.bool a)]∧Γ'=blk (ps x.id) 90 (bjC {x with again:=a&&!x.done} av lb none rb qb).toArray::own av 3 1 (nds x.at_)::optS lb x.loaded::optR rb x.ran::bR b st ps ub jb mb ov iv dv mv sb l i Γ) ?_ ?_
  ·refine ZY 4 ?_
   refine Zbb 10 ef (fun hg0_2=>?_) (fun hg0_2=>?_)
   ·refine ZY 8 ?_;refine ZY 2 ?_;refine S.blkAs (ps x.id) (bjC {x with again:=a&&!x.done} av lb none rb qb).toArray (by rw[hg0_2];rfl) ?_;exact ZM ⟨rfl,rfl⟩
   ·refine ZY 8 ?_;refine ZY 2 ?_;refine S.blkAs (ps x.id) (bjC {x with again:=a&&!x.done} av lb none rb qb).toArray (by rw[hg0_2];rfl) ?_;exact ZM ⟨rfl,rfl⟩
  ·rintro ρ' Γ' ⟨rfl,rfl⟩;refine ZY 8 ?_;refine ZY 8 ?_;refine ZY 8 ?_;refine ZY 2 ?_;refine Zv (q_eqMN Tryz.underlying81 rfl rfl) ?_;refine Zy ?_;refine ZT ef ?_;refine ZY 3 ?_;refine Zp (S.makeMap .i64 rfl ?_);intro b36;refine S.conv (mapL b36 .i64 []) (show Ent _ (mapL b36 .i64 (setE [])::_) from Ent.refl _) ?_;refine ZY 8 ?_;refine ZY 3 ?_;refine S.blkAs (ps x.id) (bjC {x with again:=a&&!x.done,work:=x.credit} av lb (some b36) rb none).toArray rfl ?_;refine ZY 3 ?_;refine Zl (fun k ρ' Γ'=>∃(e:Nat) (ds:List Nat) (os:List Od) (ov2:SV),k=x.at_.length-e∧e≤x.at_.length∧ds=(x.at_.take e).filter (fun n=>decide (n∈st.up))∧os=st.orders++ds.map (dropOrd x.id)∧ov2.n=os.length∧ρ'=[(0,pt b),(1,pt (ps x.id)),(42,av.v),(43,.int .i64 (av.n:Int)),(44,.int .i64 (e:Int))] ∧   Γ'=blk (ps x.id) 90 (bjC {x with again:=a&&!x.done,work:=x.credit} av lb (some b36) rb none).toArray::mapL b36 .i64 (setE ds)::own av 3 1 (nds x.at_)::optS lb x.loaded::optR rb x.ran::blk b 84 (bC st ub jb mb ov2 iv dv mv sb).toArray::mapL ub .i64 (setE st.up)::mapL jb .u32 l::jT ps st.js i::jD ps st.js i::MI mb st.m::own ov2 97 14 (os.flatMap odC)::imgs iv st.images::own dv 31 1 (idsV st.done)::own mv 31 1 (idsV st.members)::optS sb st.stops::Γ) (m:=_) (⟨0,[],st.orders,ov,rfl,by omega,rfl,by simp,hF.on,rfl,rfl⟩) ?_;rintro k ρ' Γ' ⟨e,ds,os,ov2,hk,he,hds,hos,hov2,rfl,rfl⟩
   have hdl:ds.length≤x.at_.length:=by
    rw[hds];exact Nat.le_trans (List.length_filter_le _ _) (by rw[List.length_take];omega)
   have hol:os.length≤900016:=by rw[hos,List.length_append,List.length_map];omega
   refine ZY 5 ?_
   refine Zj ef (fun h2=>?_) (fun h2=>?_)
   ·refine S.ownSome av (by omega) fun ab ao haa _ _ _=>?_;obtain⟨y,hy⟩:=getE (show e<x.at_.length by omega);have htk:x.at_.take (e+1)=x.at_.take e++[y]:=by rw[List.take_add_one,hy];rfl
    refine ZY 5 ?_;refine Zv (Zx (e) ef (haa) ef (by omega)) ?_;refine Zv (Zo (av) (e) ef (haa) (by rw[List.getElem?_map,hy];rfl)) ?_;refine ZY 8 ?_;refine Zy ?_;refine Zp (Zcp Ze (has_S ub st.up y) ?_);refine Zy ?_
    refine Zj ef (fun h3=>?_) (fun h3=>?_)
    ·have hny:y∉ds:=fun hm=>by
      rw[hds]at hm;obtain⟨j,hj,e2⟩:=List.mem_take_iff_getElem.1 (List.mem_filter.1 hm).1;obtain⟨he2,e3⟩:=List.getElem?_eq_some_iff.1 hy;have:=List.pairwise_iff_getElem.1 hjx.rise j e (by omega) he2 (by omega);omega
     have hds2:ds++[y]=(x.at_.take (e+1)).filter (fun n=>decide (n∈st.up)):=by rw[htk,List.filter_append,←hds];simp[h3]
     have hos2:os++[(y,{kind:=10,job:=x.id})]=st.orders++(ds++[y]).map (dropOrd x.id):=by rw[hos,List.map_append,List.append_assoc];rfl
     refine ZY 7 ?_;refine Zp (Zc1 Ze (add_S b36 ds y) ?_);rintro v Θ rfl;rw[show sAdd ds y=ds++[y] from if_neg hny];refine ZY 8 ?_;refine Zy ?_;refine Zv (q_build (pvs:=[(_,_),(_,_)]) [_,_,_,_,_,_,_,_,_,_,_,_,_] Tryz.z72.h Tryz.p72.h ⟨⟨rfl,rfl⟩,⟨rfl,rfl⟩,trivial⟩ rfl) ?_;refine Zp (Zc1 Ze (order_S b st ub jb mb ov2 iv dv mv sb y {kind:=10,job:=x.id} os hov2 (by omega)) ?_);rintro v Θ ⟨ov3,hov3,rfl⟩;refine ZY 2 ?_;refine Zv (Za ef ef) ?_;refine ZY 2 ?_;first | exact ZX (k-1) ⟨e+1,ds++[y],os++[(y,{kind:=10,job:=x.id})],ov3,by omega,by omega,hds2,hos2,hov3,rfl,rfl⟩ (by omega) | exact ZX (k-1) ⟨e+1,ds,os,ov2,by omega,by omega,hds2,hos,hov2,rfl,rfl⟩ (by omega)
    ·have hds2:ds=(x.at_.take (e+1)).filter (fun n=>decide (n∈st.up)):=by rw[htk,List.filter_append,←hds];simp[h3]
     refine ZY 2 ?_;refine Zv (Za ef ef) ?_;refine ZY 2 ?_;first | exact ZX (k-1) ⟨e+1,ds++[y],os++[(y,{kind:=10,job:=x.id})],ov3,by omega,by omega,hds2,hos2,hov3,rfl,rfl⟩ (by omega) | exact ZX (k-1) ⟨e+1,ds,os,ov2,by omega,by omega,hds2,hos,hov2,rfl,rfl⟩ (by omega)
   ·have hen:e=x.at_.length:=by omega
    rw[hen,List.take_length]at hds;obtain⟨x1,hx1⟩:∃x1:Bj,x1=dropX x a ds:=⟨_,rfl⟩;have hdn:ds.Nodup:=by rw[hds];exact(hjx.rise.imp fun h=>Nat.ne_of_lt h).filter _
    have hj1:JOk st.nodes x1:=by rw[hx1];exact hjx.dropX a hdn
    have hid:x1.id=x.id:=by rw[hx1]
    have hgo:dropR st x a=goneR (Br.set {st with orders:=os} x1) x1:=by
     rw[gone_set _ rfl,drop_none hd,hx1,hos,hds];rfl
    refine ZY 8 ?_;refine ZY 4 ?_;refine S.blkAs (ps x.id) (bjC x1 av lb (some b36) rb none).toArray (by rw[hx1];rfl) ?_;refine S.ent (savNil x.id _) ?_;refine S.conv (mapL b36 .i64 (setE ds)) (Ent.opt2 (show x1.drops=some ds by rw[hx1]) _) ?_;refine S.sub (jX (ps x.id) x1 av lb (some b36) rb none (bR b {st with orders:=os} ps ub jb mb ov2 iv dv mv sb l i Γ)) (e:=by subst hx1;infer_instance) ?_;refine S.bjClose b {st with orders:=os} ps ub jb mb ov2 iv dv mv sb l i x1 av lb (some b36) rb none hi hid (hset x1 hid) (BF.set (st:={st with orders:=os}) ⟨hok.oset os,hF.perm,hov2,hF.im,hF.dn,hF.mn,hF.sn⟩ hj1) ⟨by rw[hx1];exact hJ.an,by rw[hx1];exact hJ.l,by rw[hx1];rfl,by rw[hx1];exact hJ.r,by rw[hx1];rfl⟩ ?_;refine Zp (Zc1 Ze ((hid ▸ gone_S b (Br.set {st with orders:=os} x1) ps x1 (get_set {st with orders:=os} (by rw[hid];exact hx)):Spec Tryz.prog 53 [pt b,pt (ps x.id)] [BP b (Br.set {st with orders:=os} x1) ps] fun Γ _ Θ=>Θ=BP b (goneR (Br.set {st with orders:=os} x1) x1) ps::Γ)) ?_);rintro v Θ rfl;refine Zy ?_;exact Zfn ef Zq (by rw[hgo])
theorem JOk.dn {N:Nat} {x:Bj} (h:JOk N x):JOk N {x with done:=true}:=⟨h.id1,h.id2,h.tier,h.k1,h.kn,h.w,h.cr,h.wk,h.rise,h.at_,h.drop,h.lod,h.ran,h.ld,h.svl⟩
theorem finish_set (st:Br) {x y:Bj} (h:x.id=y.id):finishR (st.set x) y=finishR st y:=by
 unfold finishR
 split
 ·exact set_set st h
 ·exact drop_set {st with done:=st.done++[y.id]} (x:=x) (y:={y with done:=true}) h false
theorem finish_S (b:Nat) (st:Br) (ps:Nat→Nat) (x:Bj) (hx:getJ st.js x.id=some x) (hl:st.orders.length≤900000) (hd:st.done.length≤900000):Spec Tryz.prog 39 [pt b,pt (ps x.id)] [BP b st ps] fun Γ _ Θ=>Θ=BP b (finishR st x) ps::Γ:=by
 refine Spec.bpOk fun hok=>?_;have hjx:=hok.at_ hx;refine Zbd Tryz.func39 rfl Tryz.ntmps39 fun w0 Γ=>Zsh ?_;refine S.bjOpen b st ps x hx fun ub jb mb ov iv dv mv sb l i av lb db rb qb hF hi hset hrm hJ=>?_;have hdn:=hF.dn;have hdl:(st.done++[x.id]).length=st.done.length+1:=by simp
 obtain⟨x1,hx1⟩:∃x1:Bj,x1={x with done:=true}:=⟨_,rfl⟩;have hj1:JOk st.nodes x1:=by rw[hx1];exact hjx.dn
 have hid:x1.id=x.id:=by rw[hx1]
 have hJ1:JF x1 av lb db rb qb:=by rw[hx1];exact⟨hJ.an,hJ.l,hJ.d,hJ.r,hJ.s⟩
 have hids:idsV st.done++[.int .u32 (x.id:Int)]=idsV (st.done++[x.id]):=by simp
 have hx2:getJ (Br.set {st with done:=st.done++[x.id]} x1).js x1.id=some x1:=get_set {st with done:=st.done++[x.id]} (by rw[hid];exact hx)
 have hspec:Spec Tryz.prog 52 [pt b,pt (ps x.id),.bool false] [BP b (Br.set {st with done:=st.done++[x.id]} x1) ps] fun Γ _ Θ=>Θ=BP b (dropR (Br.set {st with done:=st.done++[x.id]} x1) x1 false) ps::Γ:=by
  rw[←hid];exact drop_S b _ ps x1 false hx2 hl
 refine ZY 2 ?_;refine Zd ([blk (ps x.id) 90 (bjC x av lb db rb qb).toArray]) [] (Zra 0 12) ?_;refine ZY 8 ?_;refine ZY 4 ?_
 refine Zb 15 ef (fun hg0_11=>?_) (fun hg0_11=>?_)
 ·have hg:finishR st x=st.set x:=by rw[finishR,if_pos (.inl (by omega))]
  refine Zr (Zra 12 5) ?_;refine ZY 5 ?_;refine ZD ?_;refine ZY 2 ?_;refine S.bjClose b st ps ub jb mb ov iv dv mv sb l i x av lb db rb qb hi rfl (hset x rfl) (hF.set hjx) hJ ?_;exact Zf ef Zq (by rw[hg])
 ·refine Zr (Zra 12 5) ?_;refine ZY 5 ?_;refine ZD ?_
  refine Zi ef (fun h1=>?_) (fun h1=>?_)
  ·have hg:finishR st x=st.set x:=by rw[finishR,if_pos (.inr h1)]
   refine Zy ?_;refine S.bjClose b st ps ub jb mb ov iv dv mv sb l i x av lb db rb qb hi rfl (hset x rfl) (hF.set hjx) hJ ?_;exact Zf ef Zq (by rw[hg])
  ·have hg:finishR st x=dropR {st with done:=st.done++[x.id]} x1 false:=by rw[finishR,if_neg (by rw[h1];intro h;rcases h with h | h;omega;cases h),hx1]
   refine ZY 8 ?_;refine Zy ?_;refine Zd ([blk (ps x.id) 90 (bjC {x with done:=true} av lb db rb qb).toArray,blk b 84 (bC st ub jb mb ov iv dv mv sb).toArray]) [14] (Zra 0 10) ?_;refine ZY 8 ?_;refine ZY 2 ?_;refine Z1 (i:=10) ef ef ?_;refine(S.buildSlice (pvs:=[(_,_)]) [_] Tryz.underlying53 Tryz.inf31.h rfl rfl ⟨⟨rfl,rfl⟩,trivial⟩ rfl rfl ?_);intro b34;refine Zk [] ?_;refine Z1 (i:=11) ef ef ?_;refine(S.appendOw (s:=dv) (1) ([.int .u32 (x.id:Int)]) Tryz.underlying53 Tryz.inf31.h rfl rfl rfl (blk_slAt (b:=b34) rfl (by unfold maxLen;omega)) (by first | rfl | exact allOne_bcells _) (⟨by omega,by omega⟩) rfl ?_);intro dv2 hdv2;rw[hids];refine Zk [12,13] ?_;refine ZY 2 ?_;refine Z1 (i:=14) ef ef ?_;refine(S.store (cs':=[_,_,_,_,_,_,_,_,_,_,_,_,_,_,_,_,_,_]) Eo.h rfl rfl rfl rfl rfl ?_);refine ZL ([]) [] ?_;refine ZD ?_;refine ZY 3 ?_;refine S.sub (jX (ps x.id) x1 av lb db rb qb (bR b {st with done:=st.done++[x.id]} ps ub jb mb ov iv dv2 mv sb l i Γ)) (e:=by subst hx1;infer_instance) ?_;refine S.bjClose b {st with done:=st.done++[x.id]} ps ub jb mb ov iv dv2 mv sb l i x1 av lb db rb qb hi hid (hset x1 hid) (BF.set (st:={st with done:=st.done++[x.id]}) ⟨hok.dset _,hF.perm,hF.on,hF.im,by show dv2.n=(st.done++[x.id]).length;omega,hF.mn,hF.sn⟩ hj1) hJ1 ?_;refine Zp (Zc1 Ze (hspec) ?_);rintro v Θ rfl;rw[drop_set {st with done:=st.done++[x.id]} (x:=x1) (y:=x1) rfl];refine Zy ?_;exact Zfn ef Zq (by rw[hg])
theorem node_S (b:Nat) (st:Br) (ps:Nat→Nat) (n:Int) (up:Bool):Spec Tryz.prog 37 [pt b,.int .i64 n,.bool up] [BP b st ps] fun Γ v Θ=>v=.int .i64 (nodeR st n up)∧Θ=BP b st ps::Γ:=by
 refine Zbd Tryz.func37 rfl Tryz.ntmps37 fun w0 Γ=>Zsh ?_;refine S.bpOpen b st ps fun ub jb mb ov iv dv mv sb l hF=>?_;refine ZY 8 ?_;refine ZY 4 ?_;refine ZF ef ?_;refine Zy ?_
 refine Zc (fun ρ' Γ'=>ρ'=[(0,pt b),(1,.int .i64 n),(2,.bool up),(10,.bool (decide (n<0∨(st.nodes:Int)≤n)))]∧Γ'=bX b st ps ub jb mb ov iv dv mv sb l Γ) ?_ ?_
 ·refine ZY 4 ?_
  refine Zb 13 ef (fun hg3_2=>?_) (fun hg3_2=>?_)
  ·refine ZY 8 ?_;refine ZY 2 ?_;first | (rw[show decide (n<0∨(st.nodes:Int)≤n)=true from decide_eq_true (.inl hg3_2)];exact S.meet ⟨rfl,rfl⟩ ⟨rfl,rfl,rfl,rfl,trivial⟩ Sub.ent) | (rw[show decide (n<0∨(st.nodes:Int)≤n)=decide ((st.nodes:Int)≤n) from decide_eq_decide.2 (by omega)];exact S.meet ⟨rfl,rfl⟩ ⟨rfl,rfl,rfl,rfl,trivial⟩ Sub.ent)
  ·refine ZY 8 ?_;refine ZY 2 ?_;first | (rw[show decide (n<0∨(st.nodes:Int)≤n)=true from decide_eq_true (.inl hg3_2)];exact S.meet ⟨rfl,rfl⟩ ⟨rfl,rfl,rfl,rfl,trivial⟩ Sub.ent) | (rw[show decide (n<0∨(st.nodes:Int)≤n)=decide ((st.nodes:Int)≤n) from decide_eq_decide.2 (by omega)];exact S.meet ⟨rfl,rfl⟩ ⟨rfl,rfl,rfl,rfl,trivial⟩ Sub.ent)
 ·rintro ρ' Γ' ⟨rfl,rfl⟩
  refine Zj ef (fun h2=>?_) (fun h2=>?_)
  ·have hn:nodeR st n up=1:=by rw[nodeR,if_pos h2]
   refine ZY 5 ?_;refine S.bpClose b st ps ub jb mb ov iv dv mv sb l hF ?_;exact Zf ef Zq (⟨by rw[hn];rfl,rfl⟩)
  ·refine ZY 7 ?_;refine Zp (Zcp Ze (IsUp_S mb st.m n) ?_);refine ZY 4 ?_
   refine Zi ef (fun h3=>?_) (fun h3=>?_)
   ·have hn:nodeR st n up=14:=by rw[nodeR,if_neg h2,if_pos (by simpa using h3)]
    refine ZY 5 ?_;refine S.bpClose b st ps ub jb mb ov iv dv mv sb l hF ?_;exact Zf ef Zq (⟨by rw[hn];rfl,rfl⟩)
   ·have hn:nodeR st n up=0:=by rw[nodeR,if_neg h2,if_neg (by simpa using h3)]
    refine ZY 6 ?_;refine S.bpClose b st ps ub jb mb ov iv dv mv sb l hF ?_;exact Zf ef Zq (⟨by rw[hn];rfl,rfl⟩)
theorem node_in {st:Br} {n:Int} {up:Bool} (h:nodeR st n up=0):0≤n∧n<st.nodes:=by
 unfold nodeR at h
 split at h
 ·cases h
 ·omega
theorem upR_N2 (m:Mx) (z:Int) (on:Bool):(upR m z on).2.R=m.R∧(upR m z on).2.N=m.N:=by
 unfold upR;split <;> exact⟨rfl,rfl⟩
theorem upR_ok2 {m:Mx} (hm:MxOk m) (z:Int) (on:Bool):MxOk (upR m z on).2:=by
 unfold upR
 split
 ·rename_i h;have:=nodeB_iff.1 h;exact hm.setUp (by omega) on
 ·exact hm
theorem BrOk.uset {st:Br} (h:BrOk st) (u:List Nat):BrOk {st with up:=u}:=⟨h.R,h.N,h.mok,h.srt,h.job,h.few,h.q1,h.q2,h.g1,h.g2,h.now,h.fin,h.mem,h.stp⟩
theorem upR'_ok {st:Br} (h:BrOk st) (n:Int):BrOk (upR' st n).2:=by
 unfold upR'
 split
 ·exact h
 ·exact(h.uset (sAdd st.up n.toNat)).mset (upR_ok2 h.mok n true) (upR_N2 _ _ _).1 (upR_N2 _ _ _).2
theorem Up_S (b:Nat) (st:Br) (ps:Nat→Nat) (n:Int):Spec Tryz.prog 12 [pt b,.int .i64 n] [BP b st ps] fun Γ v Θ=>v=.int .i64 (upR' st n).1∧Θ=BP b (upR' st n).2 ps::Γ:=by
 refine Spec.bpOk fun hok=>?_;refine Zbd Tryz.func12 rfl Tryz.ntmps12 fun w0 Γ=>Zsh ?_;refine ZY 8 ?_;refine Zy ?_;refine Zp (Zcp Ze (node_S b st ps n false) ?_);refine ZY 7 ?_
 refine Zj ef (fun h1=>?_) (fun h1=>?_)
 ·have hu:upR' st n=(nodeR st n false,st):=by rw[upR',if_pos h1]
  refine ZY 6 ?_;exact Zf ef Zq (⟨by rw[hu];rfl,by rw[hu]⟩)
 ·have hr:=node_in (Classical.byContradiction h1);have hu:upR' st n=((upR st.m n true).1,{st with up:=sAdd st.up n.toNat,m:=(upR st.m n true).2}):=by rw[upR',if_neg h1]
  obtain⟨k,rfl⟩:∃k:Nat,n=k:=⟨n.toNat,by omega⟩;refine S.bpOpen b st ps fun ub jb mb ov iv dv mv sb l hF=>?_;refine ZY 8 ?_;refine Zp (Zc1 Ze (add_S ub st.up k) ?_);rintro v Θ rfl;refine ZY 8 ?_;refine Zp (Zcp Ze (Go.Proofs.YtdackcibfkkniaaGreatDoor.Up_S mb st.m k true) ?_);refine ZY 3 ?_;refine S.sub (bX b {st with up:=sAdd st.up k,m:=(upR st.m k true).2} ps ub jb mb ov iv dv mv sb l Γ) ?_;refine S.bpClose b {st with up:=sAdd st.up k,m:=(upR st.m k true).2} ps ub jb mb ov iv dv mv sb l ⟨(hok.uset (sAdd st.up k)).mset (upR_ok2 hok.mok k true) (upR_N2 _ _ _).1 (upR_N2 _ _ _).2,hF.perm,hF.on,hF.im,hF.dn,hF.mn,hF.sn⟩ ?_;exact Zf ef Zq (⟨by rw[hu];rfl,by rw[hu,Int.toNat_natCast]⟩)
end BN
theorem rangeS2 {α:Type} {P:Program} {g:Operand} {p:Tmp} {assign body:Code} {Q:Exit→Act→World→Prop} {a:Act} {w:World} {w0:WM false} {gf:FuncId} {fs cs:List Value} {enc:α→Value} {G:List α→α→Prop} {E:List α→Prop} {pre:List Assn}
  (hg:a.eval g=.func (.func gf) fs.toArray cs.toArray) (he:enterT P gf=true) (hseq:SeqS P gf fs cs enc G E pre) (I:List α→List Assn) {Γ:List Assn} (hs:Sat w (pre++(I []++Γ))) (hx:Ext w0 w)
  (A:α→Nat→Act→Prop) (extra:α→Nat→Assn) (hassign:∀(l:Nat) (x:α) (W:World) (Δ:List Assn) (K:Act→World→Prop),Sat W Δ→Ext w0 W→(∀b a' W',A x b a'→Sat W' (extra x b::Δ)→Ext w0 W'→K a' W')→assign.wpIn (Fence.wide.inRound l) 0 P (Exit.then K (fun _ _ _=>False)) {tmps:=a.tmps.setIfInBounds p (enc x),defers:=[]} W)
  (hbody:∀(l:Nat) (done:List α) (x:α) (b:Nat) (a':Act) (Θ:List Assn) (W:World),G done x→A x b a'→Sat W (extra x b::(I done++Θ))→Ext w0 W →
   body.wpIn (Fence.wide.inRound l) 0 P (fun e _ W'=>e=.normal∧Sat W' (I (done++[x])++Θ)∧Ext w0 W') a' W)
  (hdone:∀(D:Nat) (xs:List α) (W:World),E xs→Sat W (defA D::(pre++(I xs++Γ)))→Ext w0 W→Q .normal {a with defers:={target:=.collected D,args:=#[]}::a.defers} W) :
  (Code.rangeFunc g #[p] assign body).wpIn Fence.wide 0 P Q a w:=by
 refine wpIn_rangeFunc fun fn _=>?_;obtain⟨rec,hrec⟩:∃rec:LoopState→Loop,rec=fun st=>{state:=st,pending:=none,fn,tmps:=a.tmps,params:=#[p],assign,body,defers:=w.heap.size}:=⟨_,rfl⟩;obtain⟨W1,hW1⟩:∃W1,(w.alloc (.deferred (some []))).alloc (.loop (rec .ready))=W1:=⟨_,rfl⟩
 have hs1:Sat W1 (loopA (w.heap.size+1) (rec .ready)::defA w.heap.size::(pre++(I []++Γ))):=by
  have h1:=hs.newObj (.deferred (some [])) defA fun b=>HL.one_self _ _;have h2:=h1.newObj (.loop (rec .ready)) (fun b=>loopA b (rec .ready)) fun b=>HL.one_self _ _;rw[World.size_alloc,hW1]at h2;exact h2
 have hx1:Ext w0 W1:=by rw[←hW1];exact(hx.alloc _).alloc _
 refine⟨w.heap.size+1,[{target:=.collected w.heap.size,args:=#[]}],W1,{target:=.fn (.func gf) cs.toArray,args:=fs.toArray++#[.func (.yield (w.heap.size+1)) #[] #[]]},W1,gf,
  fs.toArray++#[.func (.yield (w.heap.size+1)) #[] #[]]++cs.toArray,W1,?_,?_,fun _ _=>trivial,?_,fun h=>by simp[Fence.wide]at h,?_⟩
 ·rw[←hW1,hrec];exact run_enterLoop_outer _ _ _ _ _
 ·simp only[resolve,hg];simp[go_sem]
 ·have hcf:∀args w,(callFunc gf args).run P w=.ok (.enter gf args) w:=fun args w=>by
   unfold enterT at he
   split at he
   ·rename_i f hf;simp only[Bool.and_eq_true,bne_iff_ne,ne_eq]at he;obtain⟨h1,h2⟩:=he;have h2':¬f.body=none:=by cases hb:f.body <;> simp[hb]at h2 ⊢
    simp[callFunc,hf,h1,h2']
   ·cases he
  simp[invoke,go_sem,hcf]
 ·have hent:∀(st:LoopState) (done:List α),Ent (loopA (w.heap.size+1) (rec st)::defA w.heap.size::(pre++(I done++Γ))) (pre++((loopA (w.heap.size+1) (rec st)::I done)++(defA w.heap.size::Γ))):=fun st done=>
   ((Ent.cons _ (Ent.cons _ (Ent.pack pre _))).trans ((Ent.cons _ (Ent.swap _ _ _)).trans (Ent.swap _ _ _))).trans ((Ent.cons (stars pre) ((Ent.cons _ ((Ent.cons _ (Ent.pack (I done) Γ)).trans ((Ent.swap _ _ _).trans (Ent.unpack (I done) _)))))).trans (Ent.unpack pre _))
  have hback:∀(st:LoopState) (done:List α),Ent (pre++((loopA (w.heap.size+1) (rec st)::I done)++(defA w.heap.size::Γ))) (loopA (w.heap.size+1) (rec st)::defA w.heap.size::(pre++(I done++Γ))):=fun st done=>
   (Ent.pack pre _).trans ((Ent.cons _ (Ent.cons _ ((Ent.pack (I done) _).trans ((Ent.swap _ _ _).trans (Ent.cons _ (Ent.unpack (I done) Γ)))))).trans ((Ent.swap _ _ _).trans (Ent.cons _ ((Ent.swap _ _ _).trans (Ent.cons _ (Ent.unpack pre _))))))
  have hcall:=hseq (w.heap.size+1) w0 (fun done=>loopA (w.heap.size+1) (rec .ready)::I done) ?_ (defA w.heap.size::Γ) W1 (hs1.ent (hent _ _)) hx1
  ·obtain⟨hc1,hc2⟩:=hcall;refine⟨trivial,fun fr hr=>?_⟩;obtain⟨e,w',f',⟨⟨v,rfl⟩,xs,hE,hs',hx'⟩,st,rest⟩:=hc2 fr hr;refine⟨_,w',f',?_,st,rest⟩;have hs2:=hs'.ent (hback _ _);have hl2:=hs2.isLoop;have hend:=run_endLoop (P:=P) hl2 (by rw[hrec];simp);have hp:(rec .ready).pending=none:=by rw[hrec]
   obtain⟨W2,hW2⟩:∃W2,W2=w'.putObj (w.heap.size+1) (.loop {rec .ready with state:=.exhausted}):=⟨_,rfl⟩;rw[←hW2,hp]at hend;refine⟨none,W2,hend,?_⟩;rw[hW2]
   refine hdone w.heap.size xs _ hE ?_ ?_
   ·have:=hs2.putLoop ({rec .ready with state:=.exhausted});exact(this.ent (Ent.drop _ _))
   ·exact hx'.setObj _ _
  ·intro done x Θ W hxs hsat hext;have hl:=(show Sat W (loopA (w.heap.size+1) (rec .ready)::(I done++Θ)) from hsat).isLoop
   have hy:(Instr.yield (w.heap.size+1) #[enc x]).run P W=.ok (.round (w.heap.size+1) fn (a.tmps.setIfInBounds p (enc x)) assign body) W:=by
    have:=run_yield (P:=P) (args:=#[enc x]) hl (by rw[hrec];rfl);rw[hrec]at this
    simpa using this
   refine⟨fn,_,assign,body,hy,roundIn_of_wpIn (F:=Fence.wide) trivial ?_⟩;refine hassign (w.heap.size+1) x W _ _ hsat hext fun b a' W' hA hsat' hext'=>?_;have hsat2:Sat W' (loopA (w.heap.size+1) (rec .ready)::(extra x b::(I done++Θ))):=hsat'.ent (Ent.swap _ _ _);have hl':=hsat2.isLoop;have hsB:=hsat2.putLoop {rec .ready with state:=.busy};refine⟨_,run_beginRound hl' (by rw[hrec]),?_⟩;have hsB':Sat (W'.putObj (w.heap.size+1) (.loop {rec .ready with state:=.busy})) (extra x b::(I done++(loopA (w.heap.size+1) {rec .ready with state:=.busy}::Θ))):=hsB.ent ((Ent.swap _ _ _).trans (Ent.cons _ (((Ent.cons _ (Ent.pack (I done) Θ)).trans (Ent.swap _ _ _)).trans (Ent.unpack (I done) _))));refine wpIn_mono (hbody (w.heap.size+1) done x b a' _ _ hxs hA hsB' (hext'.setObj _ _)) ?_;rintro e a3 W3 ⟨rfl,hs3,hx3⟩;have hs4:Sat W3 (loopA (w.heap.size+1) {rec .ready with state:=.busy}::(I (done++[x])++Θ)):=hs3.ent ((Ent.pack (I (done++[x])) _).trans ((Ent.swap _ _ _).trans (Ent.cons _ (Ent.unpack (I (done++[x])) Θ))));have hl3:=hs4.isLoop;have hend:=run_endRound (P:=P) none hl3;refine⟨_,_,hend,rfl,?_,hx3.setObj _ _⟩;have:=hs4.putLoop ({rec .ready with state:=.ready});rw[hrec]at this ⊢;exact this
section
variable {P:Program} {n:Nat} {ρ:Env} {Γ:List Assn} {Q:Exit→Act→World→Prop}
theorem S.rangeFA {α:Type} {g:Operand} {p q:Nat} {id:Nat} {body:Code} {w0:WM false} {gf:FuncId} {fs cs:List Value} {enc:α→Value} {G:List α→α→Prop} {E:List α→Prop} {pre Γ':List Assn} {t1 t2:TypeId} {s1 s2:String} {af1 af2:Array Edge} {T:TypeId} (cells:α→List Value)
  (hg:ev ρ g=some (.func (.func gf) fs.toArray cs.toArray)) (he:enterT P gf=true) (hseq:SeqS P gf fs cs enc G E pre) (I:List α→List Assn) (hI:Ent Γ (pre++(I []++Γ'))) (hp:Nat.blt p n=true)
  (hpre:∀(w0:WM false) (l:Nat) (x:α) (Δ:List Assn) (K:Act→World→Prop),(∀b,S n w0 ((q,.pointer (some ⟨b,0,none⟩))::(p,enc x)::ρ) (blk b T (cells x).toArray::Δ) K)→S n w0 ((p,enc x)::ρ) Δ ((Code.region id #[⟨some q,.alloc T,t1,s1,af1,none⟩,⟨none,.store T (.tmp q) (.tmp p),t2,s2,af2,none⟩] false).wpIn {Fence.wide with round:=some l} 0 P (Exit.then K (fun _ _ _=>False))))
  (hbody:∀(l b:Nat) (done:List α) (x:α) (Θ:List Assn),G done x →
   S n w0 ((q,.pointer (some ⟨b,0,none⟩))::(p,enc x)::ρ) (blk b T (cells x).toArray::(I done++Θ)) (body.wpIn {Fence.wide with round:=some l} 0 P fun e _ W'=>e=.normal∧Sat W' (I (done++[x])++Θ)∧Ext w0 W'))
  (hdone:∀D xs,E xs→S n w0 ρ (defA D::(pre++(I xs++Γ'))) (withD [{target:=.collected D,args:=#[]}] (Q .normal))) :
  S n w0 ρ Γ ((Code.rangeFunc g #[p] (.region id #[⟨some q,.alloc T,t1,s1,af1,none⟩,⟨none,.store T (.tmp q) (.tmp p),t2,s2,af2,none⟩] false) body).wp P Q):=by
 intro a w ha hs hx
 refine(wpIn_wide (n:=0)).1 (rangeS2 (ha.ev hg) he hseq I (hs.ent hI) hx (fun x b a'=>EnvOk n ((q,.pointer (some ⟨b,0,none⟩))::(p,enc x)::ρ) a') (fun x b=>blk b T (cells x).toArray) ?_ ?_ ?_)
 ·intro l x W Δ K hsW hxW hK
  have ha2:EnvOk n ((p,enc x)::ρ) {tmps:=a.tmps.setIfInBounds p (enc x),defers:=[]}:=by
   have h1:=ha.put hp (enc x);exact⟨h1.size,rfl,h1.get⟩
  exact hpre w0 l x Δ K (fun b a' W' ha' hs' hx'=>hK b a' W' ha' hs' hx') _ W ha2 hsW hxW
 ·intro l done x b a' Θ W hxs hA hsW hxW;exact hbody l b done x Θ hxs a' W hA hsW hxW
 ·intro D xs W hE hsW hxW;have:=hdone D xs hE a W ha hsW hxW;rw[ha.defers];exact this
def outB (b:Nat) (T E:TypeId) (sz m:Nat) (done:List Value):Assn:=fun h=>∃sv:SV,sv.n=m∧stars [blk b T #[sv.v],own sv E sz done] h
theorem Ent.outB {b:Nat} {T E:TypeId} {sz m:Nat} {done:List Value} (sv:SV) (hn:sv.n=m) (Γ:List Assn):Ent (blk b T #[sv.v]::own sv E sz done::Γ) (outB b T E sz m done::Γ):=
 (Ent.pack [blk b T #[sv.v],own sv E sz done] Γ).trans (Ent.mono1 Γ fun _ p=>⟨sv,hn,p⟩)
theorem S.outB {md:Bool} {w0:WM md} {φ:Act→World→Prop} {b:Nat} {T E:TypeId} {sz m:Nat} {done:List Value} {Δ:List Assn} [p:Pick (outB b T E sz m done) Γ Δ] (k:∀sv:SV,sv.n=m→S n w0 ρ (blk b T #[sv.v]::own sv E sz done::Δ) φ):S n w0 ρ Γ φ:=by
 intro a w ha hs hx;obtain⟨h0,l,h1,h2,d,l1,l2,⟨sv,hn,q⟩,s⟩:=hs.ent p.ent;exact k sv hn a w ha ⟨h0,l,(Ent.unpack [blk b T #[sv.v],own sv E sz done] Δ) _ ⟨h1,h2,d,l1,l2,q,s⟩⟩ hx
end
namespace BN
abbrev keyP (c mb:Nat) (l:List (Int×Value)):List Assn:=[blk c 82 #[.map (some mb)],mapL mb .u32 l]
theorem keys_seq (c mb:Nat) (l:List (Int×Value)):SeqS Tryz.prog 104 [] [.pointer (some ⟨c,0,none⟩)] kv (fun done _=>done.length<l.length) (fun xs=>xs.Perm (l.map (·.1))) (keyP c mb l):=by
 intro y w0 J hY Γ w hs hx;refine callsIn_wide.2 (calls_of_S (n:=14) (l:=[.func (.yield y) #[] #[],.pointer (some ⟨c,0,none⟩)]) (Γ:=stars (J [])::blk c 82 #[.map (some mb)]::mapL mb .u32 l::Γ) (w0:=w0) Tryz.func104 rfl Tryz.ntmps104 rfl ?_ (hs.ent (((Ent.cons _ (Ent.cons _ (Ent.pack (J []) Γ))).trans (Ent.cons _ (Ent.swap _ _ _))).trans (Ent.swap _ _ _))) hx);show S _ w0 [(0,.func (.yield y) #[] #[]),(1,.pointer (some ⟨c,0,none⟩))] (stars (J [])::blk c 82 #[.map (some mb)]::mapL mb .u32 l::Γ) _;refine S.seq fun K1 hK1=>?_;refine S.region rfl ?_;refine S.op (S.q (q_load Eo.h rfl rfl) rfl rfl ?_);refine S.op (S.range Tryz.underlying82 rfl rfl ?_);intro r5;first | with_reducible refine S.nilK ?_ | refine S.nil ?_
 refine hK1 _ _ ?_;refine S.block ?_;refine S.loop (fun m ρ' Γ'=>∃(left:List (Int×Value)) (cur:Option (Int×Value)) (L:List Int),m=left.length∧(L++left.map (·.1)).Perm (l.map (·.1))∧ρ'=[(0,.func (.yield y) #[] #[]),(5,.pointer (some ⟨r5,0,none⟩))]∧Γ'=rngM r5 mb .u32 l left cur::stars (J L)::blk c 82 #[.map (some mb)]::Γ) (m:=_) (ρ0:=_) (Γ0:=_) (⟨l,none,[],rfl,List.Perm.refl _,rfl,rfl⟩) (by repeat (first | exact trivial | refine⟨rfl,?_⟩)) Sub.ent ?_;rintro m ρ' Γ' ⟨left,cur,L,hm,hL,rfl,rfl⟩;refine S.seq fun K2 hK2=>?_;refine S.region rfl ?_
 refine S.op (S.nextR rfl rfl (fun hl6=>?_) (fun i6 z6 v6 hi6=>?_))
 ·have hl0:left=[]:=hl6;subst hl0;rw[List.map_nil,List.append_nil]at hL;refine S.op (S.q (q_extract rfl rfl) rfl rfl ?_);first | with_reducible refine S.nilK ?_ | refine S.nil ?_
  refine hK2 _ _ ?_;refine S.seq fun K3 hK3=>?_;refine S.condF rfl ?_;refine S.exit ?_
  with_reducible repeat (first | refine S.then_n ?_ | refine S.then_x ?_ | refine S.then_r ?_ | refine S.inBlock_n ?_ | refine S.inBlock_r ?_ | refine S.inBlock_x rfl ?_ | refine S.noGoto_r ?_ | refine S.noGoto_n ?_ | refine S.noGoto_x ?_)
  with_reducible refine S.inBlock_s ?_
  with_reducible repeat (first | refine S.then_n ?_ | refine S.then_x ?_ | refine S.then_r ?_ | refine S.inBlock_n ?_ | refine S.inBlock_r ?_ | refine S.inBlock_x rfl ?_ | refine S.noGoto_r ?_ | refine S.noGoto_n ?_ | refine S.noGoto_x ?_)
  with_reducible repeat (first | refine S.then_n ?_ | refine S.then_x ?_ | refine S.then_r ?_ | refine S.inBlock_n ?_ | refine S.inBlock_r ?_ | refine S.inBlock_x rfl ?_ | refine S.noGoto_r ?_ | refine S.noGoto_n ?_ | refine S.noGoto_x ?_)
  refine S.finR rfl ?_;exact fun v w hs hx=>⟨⟨v,rfl⟩,_,hL,hs.ent ((Ent.rngM _).trans ((Sub.ent (Δ:=blk c 82 #[.map (some mb)]::mapL mb .u32 l::stars (J L)::Γ)).trans (Ent.cons _ (Ent.cons _ (Ent.unpack _ _))))),hx⟩
 ·have hpe:=erase_perm hi6;have hel:=hpe.length_eq;rw[List.length_cons]at hel
  have hL2:((L++[z6])++(left.eraseIdx i6).map (·.1)).Perm (l.map (·.1)):=by
   rw[List.append_assoc];exact(List.Perm.append_left L (hpe.map (·.1)).symm).trans hL
  have hlt:L.length<l.length:=by
   have:=hL.length_eq;rw[List.length_append,List.length_map,List.length_map]at this;omega
  refine S.op (S.q (q_extract rfl rfl) rfl rfl ?_);first | with_reducible refine S.nilK ?_ | refine S.nil ?_
  refine hK2 _ _ ?_;refine S.seq fun K4 hK4=>?_;refine S.condT rfl ?_;refine S.skip ?_
  with_reducible repeat (first | refine S.then_n ?_ | refine S.then_x ?_ | refine S.then_r ?_ | refine S.inBlock_n ?_ | refine S.inBlock_r ?_ | refine S.inBlock_x rfl ?_ | refine S.noGoto_r ?_ | refine S.noGoto_n ?_ | refine S.noGoto_x ?_)
  refine hK4 _ _ ?_;refine S.block ?_;refine S.seq fun K5 hK5=>?_;refine S.region rfl ?_;refine S.op (S.q (q_entryR rfl) rfl rfl ?_);refine S.op (S.q (q_extract rfl rfl) rfl rfl ?_);refine S.op (S.q (q_assign rfl) rfl rfl ?_);first | with_reducible refine S.nilK ?_ | refine S.nil ?_
  refine hK5 _ _ ?_;refine S.seq fun K6 hK6=>?_;refine S.regionW rfl ?_;refine S.opI rfl ?_;refine  (S.q (q_move rfl) rfl rfl ?_);refine S.opI rfl ?_;refine  (S.q (q_move rfl) rfl rfl ?_);refine S.yieldI rfl rfl (fun w hs hx=>hY L z6 (rngM r5 mb .u32 l (left.eraseIdx i6) (some (z6,v6))::blk c 82 #[.map (some mb)]::Γ) w hlt (hs.ent ((Ent.swap _ _ _).trans (Ent.unpack _ _))) hx) rfl ?_;refine S.ent (Ent.pack _ _) ?_;refine S.opI rfl ?_;refine  (S.q (q_not rfl) rfl rfl ?_);refine S.nilI ?_;refine hK6 _ _ ?_;refine S.condF rfl ?_;refine S.skip ?_
  with_reducible repeat (first | refine S.then_n ?_ | refine S.then_x ?_ | refine S.then_r ?_ | refine S.inBlock_n ?_ | refine S.inBlock_r ?_ | refine S.inBlock_x rfl ?_ | refine S.noGoto_r ?_ | refine S.noGoto_n ?_ | refine S.noGoto_x ?_)
  with_reducible repeat (first | refine S.then_n ?_ | refine S.then_x ?_ | refine S.then_r ?_ | refine S.inBlock_n ?_ | refine S.inBlock_r ?_ | refine S.inBlock_x rfl ?_ | refine S.noGoto_r ?_ | refine S.noGoto_n ?_ | refine S.noGoto_x ?_)
  with_reducible repeat (first | refine S.then_n ?_ | refine S.then_x ?_ | refine S.then_r ?_ | refine S.inBlock_n ?_ | refine S.inBlock_r ?_ | refine S.inBlock_x rfl ?_ | refine S.noGoto_r ?_ | refine S.noGoto_n ?_ | refine S.noGoto_x ?_)
  exact ZX ((left.eraseIdx i6).length) (⟨left.eraseIdx i6,some (z6,v6),L++[z6],rfl,hL2,rfl,rfl⟩) (by omega)
theorem Keys_S (mb:Nat):Spec Tryz.prog 65 [.map (some mb)] [] fun Γ v Θ=>∃c,v=.func (.func 104) #[] #[.pointer (some ⟨c,0,none⟩)]∧Θ=blk c 82 #[.map (some mb)]::Γ:=by
 refine Zbd Tryz.func65 rfl Tryz.ntmps65 fun w0 Γ=>Zsh ?_;refine ZY 2 ?_;refine Zp (S.box (cs:=[_]) rfl rfl rfl ?_);intro b1;refine ZY 8 ?_;exact Zf ef Zq (⟨b1,rfl,rfl⟩)
theorem AppendSeq_S (c mb:Nat) (l:List (Int×Value)) (hl:l.length≤65535):Spec Tryz.prog 136 [.slice none 0 0,.func (.func 104) #[] #[.pointer (some ⟨c,0,none⟩)]] (keyP c mb l) fun Γ v Θ=>∃(sv:SV) (xs:List Int),v=sv.v∧sv.n=xs.length∧xs.Perm (l.map (·.1))∧Θ=own sv 31 1 (xs.map kv)::blk c 82 #[.map (some mb)]::mapL mb .u32 l::Γ:=by
 refine Spec.of_bodyM Tryz.func136 rfl Tryz.ntmps136 rfl ?_;intro w0 Γ;show S _ w0 [(0,SV.nil.v),(1,.func (.func 104) #[] #[.pointer (some ⟨c,0,none⟩)])] (blk c 82 #[.map (some mb)]::mapL mb .u32 l::Γ) _;refine S.seq fun K1 hK1=>?_;refine S.region rfl ?_;refine S.op (S.box (cs:=[_]) rfl rfl rfl ?_);intro b2;refine S.op (S.q (q_assign rfl) rfl rfl ?_);refine S.nilK ?_;refine hK1 _ _ ?_;refine S.seq1 ?_;refine S.seq fun K4 hK4=>?_;refine S.region rfl ?_;refine S.op (S.q (q_move rfl) rfl rfl ?_);refine S.nilK ?_;refine hK4 _ _ ?_;refine S.block ?_
 refine S.rangeF (fs:=[]) (cs:=[.pointer (some ⟨c,0,none⟩)]) (enc:=kv) (p:=7) (q:=5) rfl Eo.h (keys_seq c mb l) (fun done=>[outA b2 53 31 (done.map kv)]) (Γ':=Γ) ?_ rfl rfl ?_ ?_
 ·exact(Sub.ent (Δ:=blk c 82 #[.map (some mb)]::mapL mb .u32 l::blk b2 53 #[SV.nil.v]::Γ)).trans (Ent.cons _ (Ent.cons _ ((Ent.cons _ (Ent.ownNil 31 1)).trans (Ent.outA SV.nil rfl _))))
 ·intro y done x Θ hlt;show S _ w0 _ (outA b2 53 31 (done.map kv)::Θ) _;refine S.outA (b:=b2) (T:=53) (E:=31) (done:=done.map kv) fun sv hsv=>?_;rw[List.length_map]at hsv;refine S.blockR (S.regionR rfl ?_);refine S.opI rfl ?_;refine(S.q (q_load Eo.h rfl rfl) rfl rfl ?_);refine S.opI rfl ?_;refine(S.q (q_move rfl) rfl rfl ?_);refine S.opI rfl ?_;refine(S.buildSlice (pvs:=[(_,_)]) [_] Tryz.underlying53 Tryz.inf31.h rfl rfl ⟨⟨rfl,rfl⟩,trivial⟩ rfl rfl ?_);intro b10;refine S.opI rfl ?_;refine(S.appendOw (s:=sv) 1 [kv x] Tryz.underlying53 Tryz.inf31.h rfl rfl rfl (blk_slAt (b:=b10) rfl (show 1≤maxLen by unfold maxLen;omega)) rfl ⟨by omega,by omega⟩ rfl ?_);intro s2 hs2;refine S.opI rfl ?_;refine(S.store (cs':=[_]) Eo.h rfl rfl rfl rfl rfl ?_);refine S.nilI ?_;refine S.endR ?_;have e:done.map kv++[kv x]=(done++[x]).map kv:=by simp
  rw[e];exact(Sub.ent (Δ:=blk b2 53 #[s2.v]::own s2 31 1 ((done++[x]).map kv)::Θ)).trans (Ent.outA s2 (by simp[hs2,hsv]) Θ)
 ·intro D xs hxs;show S _ w0 _ (defA D::blk c 82 #[.map (some mb)]::mapL mb .u32 l::outA b2 53 31 (xs.map kv)::Γ) _;refine S.outA (b:=b2) (T:=53) (E:=31) (done:=xs.map kv) fun sv hsv=>?_;rw[List.length_map]at hsv;refine S.seqD (S.regionD rfl ?_);refine S.qD (q_load Eo.h rfl rfl) rfl rfl ?_;refine S.qD (q_assign rfl) rfl rfl ?_;refine S.nilD (S.retD ?_);exact S.finM (rs:=[_]) (vs:=[_]) Tryz.results136 ⟨rfl,trivial⟩ (Θ:=own sv 31 1 (xs.map kv)::blk c 82 #[.map (some mb)]::mapL mb .u32 l::Γ) ⟨sv,xs,rfl,hsv,hxs,rfl⟩ Sub.ent
theorem Collect_S (c mb:Nat) (l:List (Int×Value)) (hl:l.length≤65535):Spec Tryz.prog 100 [.func (.func 104) #[] #[.pointer (some ⟨c,0,none⟩)]] (keyP c mb l) fun Γ v Θ=>∃(sv:SV) (xs:List Int),v=sv.v∧sv.n=xs.length∧xs.Perm (l.map (·.1))∧Θ=own sv 31 1 (xs.map kv)::blk c 82 #[.map (some mb)]::mapL mb .u32 l::Γ:=by
 refine Zbd Tryz.func100 rfl Tryz.ntmps100 fun w0 Γ=>Zsh ?_;refine ZY 7 ?_;refine Zp (Zc1 Ze (AppendSeq_S c mb l hl) ?_);rintro v Θ ⟨sv,xs,rfl,hsn,hxs,rfl⟩;refine ZY 3 ?_;exact Zf ef Zq (⟨sv,xs,rfl,hsn,hxs,rfl⟩)
theorem Sorted_S (c mb:Nat) (l:List (Int×Value)) (hl:l.length≤65535):Spec Tryz.prog 61 [.func (.func 104) #[] #[.pointer (some ⟨c,0,none⟩)]] (keyP c mb l) fun Γ v Θ=>∃(sv:SV) (xs:List Int),v=sv.v∧sv.n=xs.length∧xs.Perm (l.map (·.1))∧xs.Pairwise (·≤·)∧Θ=own sv 31 1 (xs.map kv)::blk c 82 #[.map (some mb)]::mapL mb .u32 l::Γ:=by
 refine Zbd Tryz.func61 rfl Tryz.ntmps61 fun w0 Γ=>Zsh ?_;refine ZY 7 ?_;refine Zp (Zc1 Ze (Collect_S c mb l hl) ?_);rintro v Θ ⟨sv,xs,rfl,hsn,hxs,rfl⟩;have hxl:xs.length=l.length:=by rw[hxs.length_eq,List.length_map]
 refine ZY 5 ?_;refine Zp (Zc1 Ze (Sort_S sv xs.toArray (by simpa [hxl] using hl) (by simpa using hsn)) ?_);rintro v Θ ⟨R,hR1,hR2,rfl⟩;have hR1:R.toList.Perm xs:=hR1;have hRl:sv.n=R.toList.length:=by rw[hR1.length_eq,hsn]
 refine ZY 7 ?_;exact Zf ef Zq (⟨sv,R.toList,rfl,hRl,hR1.trans hxs,hR2,rfl⟩)
abbrev Rn:=Nat×Nat×Nat
abbrev rnV (p:Nat×Nat):Value:=.agg #[.int .u32 (p.1:Int),.int .u32 (p.2:Int)]
abbrev rnC (p:Nat×Nat):List Value:=[.int .u32 (p.1:Int),.int .u32 (p.2:Int)]
abbrev rnE (y:Rn):Int×Value:=((y.1:Int),rnV y.2)
abbrev valP (c mb:Nat) (r:List Rn):List Assn:=[blk c 88 #[.map (some mb)],mapL mb .i64 (ranE r)]
theorem vals_seq (c mb:Nat) (r:List Rn):SeqS Tryz.prog 155 [] [.pointer (some ⟨c,0,none⟩)] rnV (fun done _=>done.length<r.length) (fun xs=>xs.Perm (r.map (·.2))) (valP c mb r):=by
 intro y w0 J hY Γ w hs hx;refine callsIn_wide.2 (calls_of_S (n:=15) (l:=[.func (.yield y) #[] #[],.pointer (some ⟨c,0,none⟩)]) (Γ:=stars (J [])::blk c 88 #[.map (some mb)]::mapL mb .i64 (ranE r)::Γ) (w0:=w0) Tryz.func155 rfl Tryz.ntmps155 rfl ?_ (hs.ent (((Ent.cons _ (Ent.cons _ (Ent.pack (J []) Γ))).trans (Ent.cons _ (Ent.swap _ _ _))).trans (Ent.swap _ _ _))) hx);show S _ w0 [(0,.func (.yield y) #[] #[]),(1,.pointer (some ⟨c,0,none⟩))] (stars (J [])::blk c 88 #[.map (some mb)]::mapL mb .i64 (ranE r)::Γ) _;refine S.seq fun K1 hK1=>?_;refine S.region rfl ?_;refine S.op (S.q (q_load Eo.h rfl rfl) rfl rfl ?_);refine S.op (S.range Tryz.underlying88 rfl rfl ?_);intro r6;first | with_reducible refine S.nilK ?_ | refine S.nil ?_
 refine hK1 _ _ ?_;refine S.block ?_;refine S.loop (fun m ρ' Γ'=>∃(left:List (Int×Value)) (lr:List Rn) (cur:Option (Int×Value)) (L:List (Nat×Nat)),m=left.length∧left=lr.map rnE∧(L++lr.map (·.2)).Perm (r.map (·.2))∧ρ'=[(0,.func (.yield y) #[] #[]),(6,.pointer (some ⟨r6,0,none⟩))]∧Γ'=rngM r6 mb .i64 (ranE r) left cur::stars (J L)::blk c 88 #[.map (some mb)]::Γ) (m:=_) (ρ0:=_) (Γ0:=_) (⟨ranE r,r,none,[],rfl,rfl,List.Perm.refl _,rfl,rfl⟩) (by repeat (first | exact trivial | refine⟨rfl,?_⟩)) Sub.ent ?_;rintro m ρ' Γ' ⟨left,lr,cur,L,hm,hlr,hL,rfl,rfl⟩;refine S.seq fun K2 hK2=>?_;refine S.region rfl ?_
 refine S.op (S.nextR rfl rfl (fun hl7=>?_) (fun i7 z7 v7 hi7=>?_))
 ·have hl0:left=[]:=hl7;have hl1:lr=[]:=by rw[hl0]at hlr;exact List.map_eq_nil_iff.1 hlr.symm
  subst hl0;rw[hl1,List.map_nil,List.append_nil]at hL;refine S.op (S.q (q_extract rfl rfl) rfl rfl ?_);first | with_reducible refine S.nilK ?_ | refine S.nil ?_
  refine hK2 _ _ ?_;refine S.seq fun K3 hK3=>?_;refine S.condF rfl ?_;refine S.exit ?_
  with_reducible repeat (first | refine S.then_n ?_ | refine S.then_x ?_ | refine S.then_r ?_ | refine S.inBlock_n ?_ | refine S.inBlock_r ?_ | refine S.inBlock_x rfl ?_ | refine S.noGoto_r ?_ | refine S.noGoto_n ?_ | refine S.noGoto_x ?_)
  with_reducible refine S.inBlock_s ?_
  with_reducible repeat (first | refine S.then_n ?_ | refine S.then_x ?_ | refine S.then_r ?_ | refine S.inBlock_n ?_ | refine S.inBlock_r ?_ | refine S.inBlock_x rfl ?_ | refine S.noGoto_r ?_ | refine S.noGoto_n ?_ | refine S.noGoto_x ?_)
  with_reducible repeat (first | refine S.then_n ?_ | refine S.then_x ?_ | refine S.then_r ?_ | refine S.inBlock_n ?_ | refine S.inBlock_r ?_ | refine S.inBlock_x rfl ?_ | refine S.noGoto_r ?_ | refine S.noGoto_n ?_ | refine S.noGoto_x ?_)
  refine S.finR rfl ?_;exact fun v w hs hx=>⟨⟨v,rfl⟩,_,hL,hs.ent ((Ent.rngM _).trans ((Sub.ent (Δ:=blk c 88 #[.map (some mb)]::mapL mb .i64 (ranE r)::stars (J L)::Γ)).trans (Ent.cons _ (Ent.cons _ (Ent.unpack _ _))))),hx⟩
 ·obtain⟨p,hp,he⟩:∃p:Rn,lr[i7]?=some p∧(z7,v7)=rnE p:=by
   rw[hlr,List.getElem?_map]at hi7;cases hg:lr[i7]? with
   | none=>rw[hg]at hi7;cases hi7
   | some p=>rw[hg]at hi7;exact⟨p,rfl,(Option.some.inj hi7).symm⟩
  obtain⟨rfl,rfl⟩:z7=(p.1:Int)∧v7=rnV p.2:=⟨congrArg Prod.fst he,congrArg Prod.snd he⟩;have hpe:=perm_erase hp;have hel:=hpe.length_eq;rw[List.length_cons]at hel
  have hL2:((L++[p.2])++(lr.eraseIdx i7).map (·.2)).Perm (r.map (·.2)):=by
   rw[List.append_assoc];exact(List.Perm.append_left L (hpe.map (·.2)).symm).trans hL
  have hlt:L.length<r.length:=by
   have:=hL.length_eq;rw[List.length_append,List.length_map,List.length_map]at this;omega
  have hle:left.eraseIdx i7=(lr.eraseIdx i7).map rnE:=by rw[hlr,map_eraseIdx']
  have hll:left.length=lr.length:=by rw[hlr,List.length_map]
  refine S.op (S.q (q_extract rfl rfl) rfl rfl ?_);first | with_reducible refine S.nilK ?_ | refine S.nil ?_
  refine hK2 _ _ ?_;refine S.seq fun K4 hK4=>?_;refine S.condT rfl ?_;refine S.skip ?_
  with_reducible repeat (first | refine S.then_n ?_ | refine S.then_x ?_ | refine S.then_r ?_ | refine S.inBlock_n ?_ | refine S.inBlock_r ?_ | refine S.inBlock_x rfl ?_ | refine S.noGoto_r ?_ | refine S.noGoto_n ?_ | refine S.noGoto_x ?_)
  refine hK4 _ _ ?_;refine S.block ?_;refine S.seq fun K5 hK5=>?_;refine S.region rfl ?_;refine S.op (S.q (q_entryR rfl) rfl rfl ?_);refine S.op (S.q (q_extract rfl rfl) rfl rfl ?_);refine S.op (S.alloc Tryz.z175.h rfl ?_);intro b4;refine S.op (S.storeS (cs':=[_,_]) Eo.h rfl rfl rfl rfl rfl rfl ?_);first | with_reducible refine S.nilK ?_ | refine S.nil ?_
  refine hK5 _ _ ?_;refine S.seq fun K6 hK6=>?_;refine S.regionW rfl ?_;refine S.opI rfl ?_;refine  (S.q (q_move rfl) rfl rfl ?_);refine S.opI rfl ?_;refine  (S.q (q_loadS [_,_] Eo.h rfl rfl ⟨rfl,rfl,trivial⟩) rfl rfl ?_);refine S.yieldI rfl rfl (fun w hs hx=>hY L p.2 (blk b4 175 (rnC p.2).toArray::rngM r6 mb .i64 (ranE r) (left.eraseIdx i7) (some ((p.1:Int),rnV p.2))::blk c 88 #[.map (some mb)]::Γ) w hlt (hs.ent ((Ent.third _ _ _ _).trans (Ent.unpack _ _))) hx) rfl ?_;refine S.ent (Ent.pack _ _) ?_;refine S.opI rfl ?_;refine  (S.q (q_not rfl) rfl rfl ?_);refine S.nilI ?_;refine hK6 _ _ ?_;refine S.condF rfl ?_;refine S.skip ?_
  with_reducible repeat (first | refine S.then_n ?_ | refine S.then_x ?_ | refine S.then_r ?_ | refine S.inBlock_n ?_ | refine S.inBlock_r ?_ | refine S.inBlock_x rfl ?_ | refine S.noGoto_r ?_ | refine S.noGoto_n ?_ | refine S.noGoto_x ?_)
  with_reducible repeat (first | refine S.then_n ?_ | refine S.then_x ?_ | refine S.then_r ?_ | refine S.inBlock_n ?_ | refine S.inBlock_r ?_ | refine S.inBlock_x rfl ?_ | refine S.noGoto_r ?_ | refine S.noGoto_n ?_ | refine S.noGoto_x ?_)
  with_reducible repeat (first | refine S.then_n ?_ | refine S.then_x ?_ | refine S.then_r ?_ | refine S.inBlock_n ?_ | refine S.inBlock_r ?_ | refine S.inBlock_x rfl ?_ | refine S.noGoto_r ?_ | refine S.noGoto_n ?_ | refine S.noGoto_x ?_)
  exact ZX ((left.eraseIdx i7).length) (⟨left.eraseIdx i7,lr.eraseIdx i7,some ((p.1:Int),rnV p.2),L++[p.2],rfl,hle,hL2,rfl,rfl⟩) (by rw[hle,List.length_map];omega)
theorem Values_S (mb:Nat):Spec Tryz.prog 132 [.map (some mb)] [] fun Γ v Θ=>∃c,v=.func (.func 155) #[] #[.pointer (some ⟨c,0,none⟩)]∧Θ=blk c 88 #[.map (some mb)]::Γ:=by
 refine Zbd Tryz.func132 rfl Tryz.ntmps132 fun w0 Γ=>Zsh ?_;refine ZY 2 ?_;refine Zp (S.box (cs:=[_]) rfl rfl rfl ?_);intro b1;refine ZY 8 ?_;exact Zf ef Zq (⟨b1,rfl,rfl⟩)
theorem AppendSeq2_S (c mb:Nat) (r:List Rn) (hl:r.length≤65535):Spec Tryz.prog 154 [.slice none 0 0,.func (.func 155) #[] #[.pointer (some ⟨c,0,none⟩)]] (valP c mb r) fun Γ v Θ=>∃(sv:SV) (xs:List (Nat×Nat)),v=sv.v∧sv.n=xs.length∧xs.Perm (r.map (·.2))∧Θ=own sv 175 2 (xs.flatMap rnC)::blk c 88 #[.map (some mb)]::mapL mb .i64 (ranE r)::Γ:=by
 refine Spec.of_bodyM Tryz.func154 rfl Tryz.ntmps154 rfl ?_;intro w0 Γ;show S _ w0 [(0,SV.nil.v),(1,.func (.func 155) #[] #[.pointer (some ⟨c,0,none⟩)])] (blk c 88 #[.map (some mb)]::mapL mb .i64 (ranE r)::Γ) _;refine S.seq fun K1 hK1=>?_;refine S.region rfl ?_;refine S.op (S.box (cs:=[_]) rfl rfl rfl ?_);intro b2;refine S.op (S.q (q_assign rfl) rfl rfl ?_);refine S.nilK ?_;refine hK1 _ _ ?_;refine S.seq1 ?_;refine S.seq fun K4 hK4=>?_;refine S.region rfl ?_;refine S.op (S.q (q_move rfl) rfl rfl ?_);refine S.nilK ?_;refine hK4 _ _ ?_;refine S.block ?_
 refine S.rangeFA (fs:=[]) (cs:=[.pointer (some ⟨c,0,none⟩)]) (enc:=rnV) (p:=7) (q:=5) (T:=175) rnC rfl Eo.h (vals_seq c mb r) (fun done=>[outB b2 205 175 2 done.length (done.flatMap rnC)]) (Γ':=Γ) ?_ rfl ?_ ?_ ?_
 ·exact(Sub.ent (Δ:=blk c 88 #[.map (some mb)]::mapL mb .i64 (ranE r)::blk b2 205 #[SV.nil.v]::Γ)).trans (Ent.cons _ (Ent.cons _ ((Ent.cons _ (Ent.ownNil 175 2)).trans (Ent.outB SV.nil rfl _))))
 ·intro w0 l x Δ K hK;refine S.regionR rfl ?_;refine S.opI rfl ?_;refine(S.alloc Tryz.z175.h rfl ?_);intro b5;refine S.opI rfl ?_;refine(S.storeS (cs':=[_,_]) Eo.h rfl rfl rfl rfl rfl rfl ?_);refine S.nilI ?_;exact hK b5
 ·intro y b5 done x Θ hlt;show S _ w0 _ (blk b5 175 (rnC x).toArray::outB b2 205 175 2 done.length (done.flatMap rnC)::Θ) _;refine S.outB (b:=b2) (T:=205) (E:=175) (sz:=2) (m:=done.length) (done:=done.flatMap rnC) fun sv hsv=>?_;refine S.blockR (S.regionR rfl ?_);refine S.opI rfl ?_;refine(S.q (q_load Eo.h rfl rfl) rfl rfl ?_);refine S.opI rfl ?_;refine(S.q (q_loadS [_,_] Eo.h rfl rfl ⟨rfl,rfl,trivial⟩) rfl rfl ?_);refine S.opI rfl ?_;refine(S.buildSlice (pvs:=[(_,_)]) [_,_] Tryz.underlying205 Tryz.inf175.h rfl rfl ⟨⟨rfl,rfl⟩,trivial⟩ rfl rfl ?_);intro b10;refine S.opI rfl ?_;refine(S.appendOw (s:=sv) 1 (rnC x) Tryz.underlying205 Tryz.inf175.h rfl rfl rfl (blk_slAt (b:=b10) rfl (show 1≤maxLen by unfold maxLen;omega)) rfl ⟨by omega,by omega⟩ rfl ?_);intro s2 hs2;refine S.opI rfl ?_;refine(S.store (cs':=[_]) Eo.h rfl rfl rfl rfl rfl ?_);refine S.nilI ?_;refine S.endR ?_;have e:done.flatMap rnC++rnC x=(done++[x]).flatMap rnC:=flat_snoc rnC done x;rw[e];exact(Sub.ent (Δ:=blk b2 205 #[s2.v]::own s2 175 2 ((done++[x]).flatMap rnC)::Θ)).trans (Ent.outB s2 (by simp[hs2,hsv]) Θ)
 ·intro D xs hxs;show S _ w0 _ (defA D::blk c 88 #[.map (some mb)]::mapL mb .i64 (ranE r)::outB b2 205 175 2 xs.length (xs.flatMap rnC)::Γ) _;refine S.outB (b:=b2) (T:=205) (E:=175) (sz:=2) (m:=xs.length) (done:=xs.flatMap rnC) fun sv hsv=>?_;refine S.seqD (S.regionD rfl ?_);refine S.qD (q_load Eo.h rfl rfl) rfl rfl ?_;refine S.qD (q_assign rfl) rfl rfl ?_;refine S.nilD (S.retD ?_);exact S.finM (rs:=[_]) (vs:=[_]) Tryz.results154 ⟨rfl,trivial⟩ (Θ:=own sv 175 2 (xs.flatMap rnC)::blk c 88 #[.map (some mb)]::mapL mb .i64 (ranE r)::Γ) ⟨sv,xs,rfl,hsv,hxs,rfl⟩ Sub.ent
theorem Collect2_S (c mb:Nat) (r:List Rn) (hl:r.length≤65535):Spec Tryz.prog 131 [.func (.func 155) #[] #[.pointer (some ⟨c,0,none⟩)]] (valP c mb r) fun Γ v Θ=>∃(sv:SV) (xs:List (Nat×Nat)),v=sv.v∧sv.n=xs.length∧xs.Perm (r.map (·.2))∧Θ=own sv 175 2 (xs.flatMap rnC)::blk c 88 #[.map (some mb)]::mapL mb .i64 (ranE r)::Γ:=by
 refine Zbd Tryz.func131 rfl Tryz.ntmps131 fun w0 Γ=>Zsh ?_;refine ZY 7 ?_;refine Zp (Zc1 Ze (AppendSeq2_S c mb r hl) ?_);rintro v Θ ⟨sv,xs,rfl,hsn,hxs,rfl⟩;refine ZY 3 ?_;exact Zf ef Zq (⟨sv,xs,rfl,hsn,hxs,rfl⟩)
end BN
section
variable {P:Program} {n:Nat} {md:Bool} {w0:WM md} {ρ:Env} {Γ:List Assn} {Q:Exit→Act→World→Prop} {K:Act→World→Prop} {ty:TypeId} {pos:String} {af:Array Edge} {gd:Option (Nat×Bool)}
theorem zeroCells_len (z:Array Value) (m:Nat):(Builtin.zeroCells z m).toList.length=m*z.size:=by simp[Builtin.zeroCells]
theorem zeroCells_one {z:Array Value} (h:∀u∈z.toList,u.oneCell'=true) (m:Nat):∀u∈(Builtin.zeroCells z m).toList,u.oneCell'=true:=by
 intro u hu;simp only[Builtin.zeroCells,Array.toList_map,List.mem_map]at hu;obtain⟨i,hi,rfl⟩:=hu;have hi2:i<m*z.size:=by simpa using hi
 have hz:0<z.size:=by
  rcases Nat.eq_zero_or_pos z.size with e | e
  ·rw[e,Nat.mul_zero]at hi2;omega
  ·exact e
 have hlt:=Nat.mod_lt i hz;rw[getElem!_pos z (i % z.size) hlt];exact h _ (by simp)
theorem run_clear_many {w:World} {t e:TypeId} {ii:TypeInfo} {z:Value} (m:Nat) (hm:0<m) (hu:P.underlying t=some (.slice e)) (hi:P.info? e=some ii) (hz:ii.zero=some z) (g off cap:Nat) (cur:Array Value) (hg:Blk w g e cur) (hfit:off+m*z.cells.size≤cur.size) (h1:∀u∈z.cells.toList,u.oneCell'=true) :
  (Builtin.clear_ #[t] ty #[.slice (some ⟨g,off,none⟩) m cap]).run P w=.ok (.tuple #[]) (w.setRow g (cur.toList.take off++(Builtin.zeroCells z.cells m).toList++cur.toList.drop (off+(Builtin.zeroCells z.cells m).toList.length)).toArray):=by
 have hst:=run_storeCells_at P g off e (Builtin.zeroCells z.cells m).toList 0 cur w hg (by rw[zeroCells_len];simpa using hfit) (zeroCells_one h1 m);simp only[Nat.add_zero]at hst;obtain⟨k,rfl⟩:∃k,m=k+1:=⟨m-1,by omega⟩;simp[Builtin.clear_,run_underlying hu,zeroValue,typeInfo,hi,hz,hst]
theorem S.clearSlack {t e sz by_:Nat} {zs:List Value} {x:Operand} (s:SV) (m:Nat) {xs:List Value} {p:Option Addr} {q cc:Nat} {Δ:List Assn} {b off:Nat} (hu:P.underlying t=some (.slice e)) (hi:infoT P e=some (zs,sz,by_)) (hzl:Nat.beq zs.length sz=true) (hz1:allOne zs=true) (hx:ev ρ x=some (.slice p q cc)) [h:HasOw Γ s e sz xs Δ] (hp:s.a=some ⟨b,off,none⟩)
  (hq:q=m) (hpp:0<m→p=some ⟨b,off+s.n*sz,none⟩) (hc:s.n+m≤s.c) (k:S n w0 ρ (own s e sz xs::Δ) K) :
  S n w0 ρ Γ (Ow P Q ⟨none,.call {callee:=.builtin .clear,args:=#[x],argTypes:=#[t]},ty,pos,af,gd⟩ K):=by
 intro a w ha hs hxt;subst hq
 rcases Nat.eq_zero_or_pos q with hm0 | hm0
 ·subst hm0
  have hr0:(Builtin.clear_ #[t] ty #[.slice p 0 cc]).run P w=.ok (.tuple #[]) w:=by
   cases p <;> simp[Builtin.clear_,run_underlying hu]
  have hr:(execOp a.eval ⟨none,.call {callee:=.builtin .clear,args:=#[x],argTypes:=#[t]},ty,pos,af,gd⟩).run P w=.ok (.value (.tuple #[])) w:=by
   simp[execOp,ha.ev hx,resolve,invoke,builtin,hr0]
  unfold Ow Oper.wp;rw[hr,Oper.upon_value];exact k _ _ (ha.putNone _) (hs.ent h.ent) hxt
 have hpp:=hpp hm0;subst hpp;unfold infoT at hi;split at hi
 case h_2=>cases hi
 rename_i i hi';split at hi
 case h_2=>cases hi
 rename_i z hz;simp only[Option.some.injEq,Prod.mk.injEq]at hi;obtain⟨rfl,rfl,rfl⟩:=hi;have hzs:=Nat.eq_of_beq_eq_true hzl;have hO:=h.own hs;obtain⟨sa,sn,sc⟩:=s;simp only at hp hc hx hO;subst hp;have hlen:=hO.1
 rcases hO.2 with ⟨h0,_⟩ | ⟨b',off',c',cur,q1,q2,hB,q4,q5,q6,q7⟩
 ·cases h0
 simp only[SV.v,Value.slice.injEq,Option.some.injEq,Addr.mk.injEq,and_true,true_and]at q1;obtain⟨⟨rfl,rfl⟩,rfl⟩:=q1;have hcm:(sn+q)*i.size≤sc*i.size:=Nat.mul_le_mul_right _ hc;rw[Nat.add_mul]at hcm;have hzs2:z.cells.size=i.size:=by simpa using hzs
 have hfit:off+sn*i.size+q*z.cells.size≤cur.size:=by rw[hzs2];omega
 have hzl2:(Builtin.zeroCells z.cells q).toList.length=q*i.size:=by rw[zeroCells_len,hzs2]
 have hr0:=run_clear_many (P:=P) (ty:=ty) q hm0 hu hi' hz b (off+sn*i.size) cc cur hB hfit (fun v hv=>List.all_eq_true.1 hz1 v hv)
 have hr:(execOp a.eval ⟨none,.call {callee:=.builtin .clear,args:=#[x],argTypes:=#[t]},ty,pos,af,gd⟩).run P w=.ok (.value (.tuple #[])) (w.setRow b (cur.toList.take (off+sn*i.size)++(Builtin.zeroCells z.cells q).toList++cur.toList.drop (off+sn*i.size+(Builtin.zeroCells z.cells q).toList.length)).toArray):=by
  simp[execOp,ha.ev hx,resolve,invoke,builtin,hr0]
 unfold Ow Oper.wp;rw[hr,Oper.upon_value];refine k _ _ (ha.putNone _) ?_ (hxt.trans ⟨rfl,rfl,rfl,by simp[World.setRow],Nat.le_refl _⟩)
 refine(hs.ent h.ent).ownUpd (b:=b) ⟨hlen,.inr ⟨b,off,sc,_,rfl,rfl,setRow_heap w b cur _ e _ hB,q4,q5,?_,?_⟩⟩ rfl ⟨rfl,rfl,rfl,by simp[World.setRow],fun k _ hk=>setRow_other w b k _ hk,Nat.le_refl _⟩
 ·simp only[List.size_toArray,List.length_append,List.length_take,List.length_drop,Array.length_toList];omega
 ·have hlt:(cur.toList.take (off+sn*i.size)).length=off+sn*i.size:=by simp;omega
  simp only;rw[List.append_assoc,List.drop_append_of_le_length (by omega),←q7,List.drop_take];have e2:off+sn*i.size-off=sn*i.size:=by omega
  rw[e2,List.take_left' (by rw[List.length_take,List.length_drop,Array.length_toList];omega)]
end
namespace BN
def oI (r:Option Nat):Int:=match r with
 | some i=>(i:Int)
 | none=>-1
theorem Index_S (R:Assn) (s:SV) (l:List Nat) (n:Int) (hsn:s.n=l.length) (hR:RdS R s s.n 1 (nds l)):Spec Tryz.prog 93 [s.v,.int .i64 n] [R] fun Γ v Θ=>(∃r:Option Nat,v=.int .i64 (oI r)∧(r=none→∀x∈l,(x:Int)≠n)∧∀i,r=some i→∃x:Nat,l[i]?=some x∧(x:Int)=n∧∀y∈l.take i,(y:Int)≠n)∧Θ=R::Γ:=by
 refine Zbd Tryz.func93 rfl Tryz.ntmps93 fun w0 Γ=>Zsh ?_;refine S.rCap hR fun _ hc1 hc2=>?_;refine ZY 8 ?_;refine ZY 4 ?_;refine Zl (fun q ρ' Γ'=>∃i:Nat,q=l.length-i∧i≤l.length∧(∀y∈l.take i,(y:Int)≠n)∧ρ'=[(0,s.v),(1,.int .i64 n),(7,.int .i64 (s.n:Int)),(8,.int .i64 (i:Int))]∧Γ'=R::Γ) (m:=_) (⟨0,rfl,by omega,fun y hy=>(by cases hy),rfl,rfl⟩) ?_;rintro q ρ' Γ' ⟨i,hq,hi,hno,rfl,rfl⟩;refine ZY 5 ?_
 refine Zj ef (fun h1=>?_) (fun h1=>?_)
 ·refine S.rSome hR (by omega) fun sb so hsa=>?_;obtain⟨x,hx⟩:=getE (show i<l.length by omega);have htk:l.take (i+1)=l.take i++[x]:=by rw[List.take_add_one,hx];rfl
  refine ZY 8 ?_;refine ZY 5 ?_;refine Zv (Zx (i) ef (hsa) ef (by omega)) ?_;refine Zv (q_loadR hR i Eo.h rfl hsa (by omega) (by omega) (by rw[List.getElem?_map,hx];rfl)) ?_;refine ZY 2 ?_
  refine Zj ef (fun h2=>?_) (fun h2=>?_)
  ·refine ZY 6 ?_;exact Zf ef Zq (⟨⟨some i,rfl,fun h=>(by cases h),fun j hj=>by cases hj;exact⟨x,hx,h2.symm,hno⟩⟩,rfl⟩)
  ·have hno2:∀y∈l.take (i+1),(y:Int)≠n:=fun y hy=>by
    rw[htk,List.mem_append,List.mem_singleton]at hy
    rcases hy with hy | rfl
    ·exact hno y hy
    ·exact fun e=>h2 e.symm
   refine ZY 2 ?_;refine Zv (Za ef ef) ?_;refine ZY 2 ?_;exact ZX (q-1) (⟨i+1,by omega,by omega,hno2,rfl,rfl⟩) (by omega)
 ·rw[show i=l.length by omega,List.take_length]at hno;refine ZY 6 ?_;exact Zf ef Zq (⟨⟨none,rfl,fun _=>hno,fun j hj=>(by cases hj)⟩,rfl⟩)
theorem Contains_S (R:Assn) (s:SV) (l:List Nat) (n:Nat) (hsn:s.n=l.length) (hR:RdS R s s.n 1 (nds l)):Spec Tryz.prog 51 [s.v,.int .i64 (n:Int)] [R] fun Γ v Θ=>v=.bool (decide (n∈l))∧Θ=R::Γ:=by
 refine Zbd Tryz.func51 rfl Tryz.ntmps51 fun w0 Γ=>Zsh ?_;refine ZY 8 ?_;refine Zp (Zc1 Ze (Index_S R s l (n:Int) hsn hR) ?_);rintro v Θ ⟨⟨r,rfl,h1,h2⟩,rfl⟩
 have hb:decide (n∈l)=decide ((0:Int)≤oI r):=by
  cases r with
  | none=>rw[decide_eq_false (fun hm=>h1 rfl n hm rfl)];rfl
  | some i=>
   obtain⟨x,hx,e,_⟩:=h2 i rfl;rw[decide_eq_true (show n∈l from (show x=n by omega) ▸ List.mem_of_getElem? hx),decide_eq_true (show (0:Int)≤oI (some i) from by show (0:Int)≤(i:Int);omega)]
 refine ZY 4 ?_;exact Zf ef Zq (⟨by rw[hb];rfl,rfl⟩)
theorem lost1_S (t:Nat) (n:Int) (o:Od):Spec Tryz.prog 49 [.agg (odC o).toArray,pt t] [blk t 3 #[.int .i64 n]] fun Γ v Θ=>v=.bool (decide ((o.1:Int)=n))∧Θ=blk t 3 #[.int .i64 n]::Γ:=by
 refine Zbd Tryz.func49 rfl Tryz.ntmps49 fun w0 Γ=>Zsh ?_;refine ZY 2 ?_;refine Zp (S.box (cs:=[_,_,_,_,_,_,_,_,_,_,_,_,_,_]) rfl rfl rfl ?_);intro b2;refine ZY 8 ?_;refine ZY 3 ?_;exact Zf ef Zq (⟨rfl,rfl⟩)
abbrev lostF (t:Nat):Value:=.func (.func 49) #[] #[pt t]
theorem IndexO_S (t:Nat) (n:Int) (s:SV) (os:List Od) (hsn:s.n=os.length):Spec Tryz.prog 92 [s.v,lostF t] [own s 97 14 (os.flatMap odC),blk t 3 #[.int .i64 n]] fun Γ v Θ=>(∃r:Option Nat,v=.int .i64 (oI r)∧(r=none→∀x∈os,(x.1:Int)≠n)∧∀i,r=some i→∃x:Od,os[i]?=some x∧(x.1:Int)=n∧∀y∈os.take i,(y.1:Int)≠n)∧Θ=own s 97 14 (os.flatMap odC)::blk t 3 #[.int .i64 n]::Γ:=by
 refine Zbd Tryz.func92 rfl Tryz.ntmps92 fun w0 Γ=>Zsh ?_;refine S.ownLen s fun hl1 hl2 hl3=>?_;have hmx:maxLen≤9223372036854775807:=by unfold maxLen;omega
 refine ZY 8 ?_;refine ZY 4 ?_;refine Zl (fun q ρ' Γ'=>∃i:Nat,q=os.length-i∧i≤os.length∧(∀y∈os.take i,(y.1:Int)≠n)∧ρ'=[(0,s.v),(1,lostF t),(7,.int .i64 (s.n:Int)),(8,.int .i64 (i:Int))]∧Γ'=own s 97 14 (os.flatMap odC)::blk t 3 #[.int .i64 n]::Γ) (m:=_) (⟨0,rfl,by omega,fun y hy=>(by cases hy),rfl,rfl⟩) ?_;rintro q ρ' Γ' ⟨i,hq,hi,hno,rfl,rfl⟩;refine ZY 5 ?_
 refine Zj ef (fun h1=>?_) (fun h1=>?_)
 ·refine S.ownSome s (by omega) fun sb so hsa _ _ _=>?_;obtain⟨x,hx⟩:=getE (show i<os.length by omega);have htk:os.take (i+1)=os.take i++[x]:=by rw[List.take_add_one,hx];rfl
  refine ZY 8 ?_;refine ZY 5 ?_;refine Zv (Zx (i) ef (hsa) ef (by omega)) ?_;refine Zv (q_loadOwS (s) (i*14) [_,_,_,_,_,_,_,_,_,_,_,_,_,_] Eo.h rfl hsa (by first | rfl | exact Nat.add_assoc _ _ _ | omega) rfl (flat_seg (enc:=odC) (sz:=14) odC_len hx)) ?_;refine Zp (S.callC (fs:=[]) (cs:=[pt t]) (vs:=[_]) Eo.h rfl ⟨rfl,trivial⟩ (lost1_S t n x) rfl ?_);rintro v Θ ⟨rfl,rfl⟩;refine Zy ?_
  refine Zj ef (fun h2=>?_) (fun h2=>?_)
  ·refine ZY 6 ?_;exact Zf ef Zq (⟨⟨some i,rfl,fun h=>(by cases h),fun j hj=>by cases hj;exact⟨x,hx,h2,hno⟩⟩,rfl⟩)
  ·have hno2:∀y∈os.take (i+1),(y.1:Int)≠n:=fun y hy=>by
    rw[htk,List.mem_append,List.mem_singleton]at hy
    rcases hy with hy | rfl
    ·exact hno y hy
    ·exact h2
   refine ZY 2 ?_;refine Zv (Za ef ef) ?_;refine ZY 2 ?_;exact ZX (q-1) (⟨i+1,by omega,by omega,hno2,rfl,rfl⟩) (by omega)
 ·rw[show i=os.length by omega,List.take_length]at hno;refine ZY 6 ?_;exact Zf ef Zq (⟨⟨none,rfl,fun _=>hno,fun j hj=>(by cases hj)⟩,rfl⟩)
theorem Delete_S (t n:Nat) (s:SV) (os:List Od) (hsn:s.n=os.length):Spec Tryz.prog 48 [s.v,lostF t] [own s 97 14 (os.flatMap odC),blk t 3 #[.int .i64 (n:Int)]] fun Γ v Θ=>∃u:SV,v=u.v∧u.n=(os.filter fun o=>decide (o.1≠n)).length∧Θ=own u 97 14 ((os.filter fun o=>decide (o.1≠n)).flatMap odC)::blk t 3 #[.int .i64 (n:Int)]::Γ:=by
 refine Zbd Tryz.func48 rfl Tryz.ntmps48 fun w0 Γ=>Zsh ?_;refine S.ownLen s fun hl1 hl2 hl3=>?_;have hmx:maxLen≤9223372036854775807:=by unfold maxLen;omega
 have hself:∀l:List Od,(∀y∈l,(y.1:Int)≠(n:Int))→l.filter (fun o=>decide (o.1≠n))=l:=fun l h=>List.filter_eq_self.2 fun y hy=>decide_eq_true (by have:=h y hy;omega);refine ZY 8 ?_;refine Zp (Zc1 Ze (IndexO_S t n s os hsn) ?_);rintro v Θ ⟨⟨r,rfl,hr1,hr2⟩,rfl⟩;refine ZY 8 ?_
 refine Zj ef (fun h1=>?_) (fun h1=>?_)
 ·have hrn:r=none:=by cases r with | none=>rfl | some i=>exact absurd h1 (by show ¬(i:Int)=-1;omega)
  have hfl:=hself os (hr1 hrn);refine ZY 6 ?_;exact Zf ef Zq (⟨s,rfl,by rw[hfl];exact hsn,by rw[hfl]⟩)
 ·obtain⟨i0,hi0⟩:∃i,r=some i:=by cases r with | none=>exact absurd rfl h1 | some i=>exact⟨i,rfl⟩
  obtain⟨x0,hx0,hx1,hx2⟩:=hr2 i0 hi0;subst hi0;have hi0l:=(List.getElem?_eq_some_iff.1 hx0).1;have htk0:os.take (i0+1)=os.take i0++[x0]:=by rw[List.take_add_one,hx0];rfl
  have hf0:os.take i0=(os.take (i0+1)).filter fun o=>decide (o.1≠n):=by
   rw[htk0,List.filter_append,hself _ hx2];have hxn:x0.1=n:=by omega
   simp[hxn]
  rw[show oI (some i0)=(i0:Int) from rfl];refine ZY 5 ?_;refine Zv (q_add rfl rfl (inI64 (by omega) (by omega))) ?_;refine ZY 3 ?_;refine Zl (fun q ρ' Γ'=>∃(i j:Nat) (cur:List Od),q=os.length-j∧i<j∧j≤os.length∧cur.length=os.length∧cur.take i=(os.take j).filter (fun o=>decide (o.1≠n))∧cur.drop j=os.drop j∧ρ'=[(0,s.v),(1,lostF t),(5,.int .i64 (i:Int)),(6,.int .i64 (j:Int))]∧Γ'=own s 97 14 (cur.flatMap odC)::blk t 3 #[.int .i64 (n:Int)]::Γ) (m:=_) (⟨i0,i0+1,os,rfl,by omega,by omega,rfl,hf0,rfl,rfl,rfl⟩) ?_;rintro q ρ' Γ' ⟨i,j,cur,hq,hij,hj,hcl,hci,hcd,rfl,rfl⟩;refine ZY 8 ?_
  refine Zj ef (fun h2=>?_) (fun h2=>?_)
  ·refine S.ownSome s (by omega) fun sb so hsa _ _ _=>?_;obtain⟨x,hx⟩:=getE (show j<os.length by omega)
   have hxc:cur[j]?=some x:=by
    have:=congrArg (fun l:List Od=>l[0]?) hcd;simp only[List.getElem?_drop,Nat.add_zero]at this;rw[this,hx]
   have htk:os.take (j+1)=os.take j++[x]:=by rw[List.take_add_one,hx];rfl
   have hcd2:cur.drop (j+1)=os.drop (j+1):=by rw[←List.drop_drop,hcd,List.drop_drop]
   refine ZY 7 ?_;refine Zv (Zx (j) ef (hsa) ef (by omega)) ?_;refine Zv (q_loadOwS (s) (j*14) [_,_,_,_,_,_,_,_,_,_,_,_,_,_] Eo.h rfl hsa (by first | rfl | exact Nat.add_assoc _ _ _ | omega) rfl (flat_seg (enc:=odC) (sz:=14) odC_len hxc)) ?_;refine Zp (S.alloc Tryz.z97.h rfl ?_);intro b7;refine Zp (Zs ef ef (cs':=[_,_,_,_,_,_,_,_,_,_,_,_,_,_]) ef ?_);refine ZY 5 ?_;refine Zp (S.callC (fs:=[]) (cs:=[pt t]) (vs:=[_]) Eo.h rfl ⟨rfl,trivial⟩ (lost1_S t n x) rfl ?_);rintro v Θ ⟨rfl,rfl⟩;refine ZY 2 ?_
   refine Zi ef (fun h3=>?_) (fun h3=>?_)
   ·have hne:x.1≠n:=fun e=>by rw[decide_eq_true (show (x.1:Int)=n by omega)]at h3;cases h3
    have hil:i<cur.length:=by omega
    have hci2:(cur.set i x).take (i+1)=(os.take (j+1)).filter fun o=>decide (o.1≠n):=by
     rw[htk,List.filter_append,←hci,List.take_add_one,List.getElem?_set_self hil,List.take_set_of_le (Nat.le_refl i)];simp[hne]
    have hcd3:(cur.set i x).drop (j+1)=os.drop (j+1):=by rw[List.drop_set_of_lt (by omega),hcd2]
    refine ZY 5 ?_;refine Zv (Zx (i) ef (hsa) ef (by omega)) ?_;refine Zp (S.storeOwS (s) (i*14) Eo.h rfl rfl rfl rfl hsa (by first | rfl | exact Nat.add_assoc _ _ _ | omega) (by rw[flat_length odC_len];show i*14+14≤_;omega) (flat_put odC_len hil x) ?_);refine ZY 3 ?_;refine Zv (q_add rfl rfl (inI64 (by omega) (by omega))) ?_;refine ZY 4 ?_;refine Zv (q_add rfl rfl (inI64 (by omega) (by omega))) ?_;refine ZY 2 ?_;first | exact ZX (q-1) ⟨i+1,j+1,cur.set i x,by omega,by omega,by omega,by rw[List.length_set];exact hcl,hci2,hcd3,rfl,rfl⟩ (by omega) | exact ZX (q-1) ⟨i,j+1,cur,by omega,by omega,by omega,hcl,hci2,hcd2,rfl,rfl⟩ (by omega)
   ·have heq:x.1=n:=by
     have:=of_decide_eq_true (p:=(x.1:Int)=n) (by simpa using h3);omega
    have hci2:cur.take i=(os.take (j+1)).filter fun o=>decide (o.1≠n):=by
     rw[htk,List.filter_append,←hci];simp[heq]
    refine ZY 3 ?_;refine Zv (q_add rfl rfl (inI64 (by omega) (by omega))) ?_;refine ZY 2 ?_;first | exact ZX (q-1) ⟨i+1,j+1,cur.set i x,by omega,by omega,by omega,by rw[List.length_set];exact hcl,hci2,hcd3,rfl,rfl⟩ (by omega) | exact ZX (q-1) ⟨i,j+1,cur,by omega,by omega,by omega,hcl,hci2,hcd2,rfl,rfl⟩ (by omega)
  ·have hjl:j=os.length:=by omega
   rw[hjl,List.take_length]at hci;refine S.ownSome s (by omega) fun sb so hsa _ _ _=>?_;refine S.conv (own s 97 14 (cur.flatMap odC)) (Ent.ownTake s 97 14 (cur.flatMap odC) (k:=i) (by omega) _) ?_;rw[flat_take odC_len,hci];refine ZY 5 ?_;refine Zv (q_sliceFrom i Eo.h rfl rfl rfl (by omega)) ?_;refine Zp (S.clearSlack ⟨s.a,i,s.c⟩ (s.n-i) Tryz.underlying37 Tryz.inf97.h rfl rfl rfl hsa rfl (fun _=>by rw[if_neg (by omega),hsa];simp[Addr.add]) (by show i+(s.n-i)≤s.c;omega) ?_);refine ZY 5 ?_;refine Zv (q_sliceTo (i) Eo.h rfl rfl rfl (by omega)) ?_;refine ZY 3 ?_;exact Zf ef Zq (⟨⟨s.a,i,s.c⟩,rfl,by rw[←hci,List.length_take];show i=_;omega,rfl⟩)
theorem in_S (n:Nat) (hn:n≤1099511627776):Spec Tryz.prog 125 [.int .i64 (n:Int)] [] fun Γ v Θ=>v=.int .i64 (n:Int)∧Θ=Γ:=by
 refine Zbd Tryz.func125 rfl Tryz.ntmps125 fun w0 Γ=>Zsh ?_;refine ZY 7 ?_;refine Zv (q_max ((n:Int)) rfl rfl (⟨by omega,by omega,by omega⟩)) ?_;refine Zv (q_min ((n:Int)) rfl rfl (⟨by omega,by omega,by omega⟩)) ?_;refine ZY 3 ?_;exact Zf ef Zq (⟨rfl,rfl⟩)
theorem cadd_S (a b:Nat) (ha:a≤549755813888) (hb:b≤549755813888):Spec Tryz.prog 134 [.int .i64 (a:Int),.int .i64 (b:Int)] [] fun Γ v Θ=>v=.int .i64 (a+b:Nat)∧Θ=Γ:=by
 refine Zbd Tryz.func134 rfl Tryz.ntmps134 fun w0 Γ=>Zsh ?_;refine ZY 7 ?_;refine Zp (Zcp Ze (in_S a (by omega)) ?_);refine Zy ?_;refine Zp (Zcp Ze (in_S b (by omega)) ?_);refine Zv (Za ef ef) ?_;refine Zp (Zcp Ze (in_S (a+b) (by omega)) ?_);refine ZY 3 ?_;exact Zf ef Zq (⟨rfl,rfl⟩)
theorem csub_S (a b:Nat) (ha:a≤1099511627776) (hb:b≤a):Spec Tryz.prog 145 [.int .i64 (a:Int),.int .i64 (b:Int)] [] fun Γ v Θ=>v=.int .i64 (a-b:Nat)∧Θ=Γ:=by
 refine Zbd Tryz.func145 rfl Tryz.ntmps145 fun w0 Γ=>Zsh ?_;refine ZY 7 ?_;refine Zp (Zcp Ze (in_S a (by omega)) ?_);refine Zy ?_;refine Zp (Zcp Ze (in_S b (by omega)) ?_);refine Zv (Zm ef ef) ?_;rw[show (a:Int)-(b:Int)=((a-b:Nat):Int) by omega];refine Zp (Zcp Ze (in_S (a-b) (by omega)) ?_);refine ZY 3 ?_;exact Zf ef Zq (⟨rfl,rfl⟩)
theorem left_S (a b:Nat) (ha:a≤1099511627776) (hb:b≤a):Spec Tryz.prog 112 [.int .i64 (a:Int),.int .i64 (b:Int)] [] fun Γ v Θ=>v=.int .i64 (a-b:Nat)∧Θ=Γ:=by
 refine Zbd Tryz.func112 rfl Tryz.ntmps112 fun w0 Γ=>Zsh ?_;refine ZY 8 ?_;refine Zp (Zcp Ze (csub_S a b ha hb) ?_);refine ZY 3 ?_;exact Zf ef Zq (⟨rfl,rfl⟩)
theorem keep_S (a b:Nat) (ha:a≤1099511627776) (hb:b≤1099511627776):Spec Tryz.prog 133 [.int .i64 (a:Int),.int .i64 0,.int .i64 (b:Int)] [] fun Γ v Θ=>v=.int .i64 (min a b:Nat)∧Θ=Γ:=by
 refine Zbd Tryz.func133 rfl Tryz.ntmps133 fun w0 Γ=>Zsh ?_;refine ZY 7 ?_;refine Zp (Zcp Ze (in_S a ha) ?_);refine Zy ?_;refine Zp (Zcp Ze (in_S 0 (by omega)) ?_);refine Zv (q_max ((a:Int)) rfl rfl (⟨by omega,by show ((0:Nat):Int)≤_;omega,by omega⟩)) ?_;refine Zy ?_;refine Zp (Zcp Ze (in_S b hb) ?_);refine Zv (q_min (((min a b:Nat):Int)) rfl rfl (⟨by omega,by omega,by omega⟩)) ?_;refine ZY 3 ?_;exact Zf ef Zq (⟨rfl,rfl⟩)
theorem later_S (t n:Nat) (ht:t≤4294967295) (hn:n≤1000000):Spec Tryz.prog 83 [.int .u32 (t:Int),.int .i64 (n:Int)] [] fun Γ v Θ=>v=.int .u32 (laterR t n:Nat)∧Θ=Γ:=by
 refine Zbd Tryz.func83 rfl Tryz.ntmps83 fun w0 Γ=>Zsh ?_;have hl:laterR t n=min (t+n) 4294967295:=rfl;refine ZY 7 ?_;refine Zv (q_conv Tryz.it3.h (by rw[Tryz.underlying31];rfl) rfl (inI64 (by omega) (by omega))) ?_;refine Zy ?_;refine Zp (Zcp Ze (in_S n (by omega)) ?_);refine Zv (Za ef ef) ?_;refine Zv (q_min (((laterR t n:Nat):Int)) rfl rfl (⟨by omega,by omega,by omega⟩)) ?_;refine Zv (q_conv Tryz.it31.h (by rw[Tryz.underlying3];rfl) rfl (inU32 (by omega) (by omega))) ?_;refine ZY 3 ?_;exact Zf ef Zq (⟨rfl,rfl⟩)
theorem overlapUp_perm {l m:List (Nat×Nat)} (h:l.Perm m):∀a,overlapUp l a=overlapUp m a:=by
 induction h with
 | nil=>exact fun _=>rfl
 | cons x _ ih=>exact fun a=>by rw[overlapUp,overlapUp,ih]
 | swap x y l=>
  intro a;simp only[overlapUp];have e:((max (max a.1 y.1) x.1,min (min a.2 y.2) x.2):Nat×Nat)=(max (max a.1 x.1) y.1,min (min a.2 x.2) y.2):=Prod.ext (by show max (max a.1 y.1) x.1=max (max a.1 x.1) y.1;omega) (by show min (min a.2 y.2) x.2=min (min a.2 x.2) y.2;omega);rw[e];split <;> split <;> rfl
 | trans _ _ ih1 ih2=>exact fun a=>(ih1 a).trans (ih2 a)
theorem overlapR_perm {l m:List (Nat×Nat)} (h:l.Perm m):overlapR l=overlapR m:=by
 unfold overlapR;rw[overlapUp_perm h];have:(l=[])↔m=[]:=⟨fun e=>by subst e;exact h.nil_eq.symm,fun e=>by subst e;exact h.eq_nil⟩
 by_cases e:l=[]
 ·rw[if_pos e,if_pos (this.1 e)]
 ·rw[if_neg e,if_neg (fun q=>e (this.2 q))]
theorem overlapR_le (l:List (Nat×Nat)):overlapR l≤4294967296:=by
 have key:∀(l:List (Nat×Nat)) (a p:Nat×Nat),a.2≤4294967295→overlapUp l a=some p→p.2≤4294967295:=by
  intro l;induction l with
  | nil=>intro a p h e;cases e;exact h
  | cons x l ih=>
   intro a p h e;rw[overlapUp]at e
   split at e
   ·cases e
   ·exact ih _ _ (show min a.2 x.2≤_ by omega) e
 unfold overlapR
 split
 ·omega
 ·split
  ·omega
  ·rename_i f t e;have:=key _ _ _ (by show 4294967295≤4294967295;omega) e
   split
   ·omega
   ·have:t≤4294967295:=this;omega
theorem overlap_S (sv:SV) (xs:List (Nat×Nat)) (hsn:sv.n=xs.length) (hb:∀x∈xs,x.1≤4294967295∧x.2≤4294967295):Spec Tryz.prog 130 [sv.v] [own sv 175 2 (xs.flatMap rnC)] fun Γ v Θ=>v=.int .i64 (overlapR xs:Nat)∧Θ=own sv 175 2 (xs.flatMap rnC)::Γ:=by
 refine Zbd Tryz.func130 rfl Tryz.ntmps130 fun w0 Γ=>Zsh ?_;refine S.ownLen sv fun hl1 hl2 hl3=>?_;have hmx:maxLen≤9223372036854775807:=by unfold maxLen;omega
 refine ZY 8 ?_;refine ZY 3 ?_
 refine Zj ef (fun h1=>?_) (fun h1=>?_)
 ·have he:xs=[]:=List.eq_nil_of_length_eq_zero (by omega);refine ZY 5 ?_;exact Zf ef Zq (⟨by subst he;rfl,rfl⟩)
 ·have hne:xs≠[]:=fun e=>by rw[e]at hsn;exact absurd (show sv.n=0 from hsn) (by omega)
  refine ZY 8 ?_;refine ZY 6 ?_;refine Zl (fun q ρ' Γ'=>∃(i f u:Nat),q=xs.length-i∧i≤xs.length∧f≤4294967295∧u≤4294967295∧overlapUp xs (0,4294967295)=overlapUp (xs.drop i) (f,u)∧ρ'=[(0,sv.v),(3,.int .u32 (f:Int)),(4,.int .u32 (u:Int)),(10,sv.v),(11,.int .i64 (sv.n:Int)),(12,.int .i64 (i:Int))]∧Γ'=own sv 175 2 (xs.flatMap rnC)::Γ) (m:=_) (⟨0,0,4294967295,rfl,by omega,by omega,by omega,rfl,rfl,rfl⟩) ?_;rintro q ρ' Γ' ⟨i,f,u,hq,hi,hf,hu,hup,rfl,rfl⟩;refine ZY 5 ?_
  refine Zj ef (fun h2=>?_) (fun h2=>?_)
  ·refine S.ownSome sv (by omega) fun sb so hsa _ _ _=>?_;obtain⟨x,hx⟩:=getE (show i<xs.length by omega);have hxb:=hb x (List.mem_of_getElem? hx)
   have hdr:xs.drop i=x::xs.drop (i+1):=by
    obtain⟨h1,h2⟩:=List.getElem?_eq_some_iff.1 hx;rw[List.drop_eq_getElem_cons h1,h2]
   refine ZY 5 ?_;refine Zv (Zx (i) ef (hsa) ef (by omega)) ?_;refine Zv (q_loadOwS (sv) (i*2) [_,_] Eo.h rfl hsa (by first | rfl | exact Nat.add_assoc _ _ _ | omega) rfl (flat_seg (enc:=rnC) (sz:=2) (fun _=>rfl) hx)) ?_;refine Zp (S.alloc Tryz.z175.h rfl ?_);intro b6;refine Zp (Zs ef ef (cs':=[_,_]) ef ?_);refine ZY 2 ?_;refine Zd0 (Zra 0 10) ?_;refine Zy ?_;refine Zw ef (q_indexA Tryz.ar175.h rfl rfl (⟨by omega,by omega⟩)) ?_;refine Zw ef (q_load Eo.h rfl rfl) ?_;refine Zw ef (q_max (((max f x.1:Nat):Int)) rfl rfl (by omega)) ?_;refine Zy ?_;refine Zw ef (q_indexA Tryz.ar175.h rfl rfl (⟨by omega,by omega⟩)) ?_;refine Zw ef (q_load Eo.h rfl rfl) ?_;refine Zw ef (q_min (((min u x.2:Nat):Int)) rfl rfl (by omega)) ?_;refine ZY 2 ?_;refine ZD ?_;refine ZY 2 ?_;refine Zv (q_indexA Tryz.ar175.h rfl rfl (⟨by omega,by omega⟩)) ?_;refine Zv (q_load Eo.h rfl rfl) ?_;refine Zv (q_indexA Tryz.ar175.h rfl rfl (⟨by omega,by omega⟩)) ?_;refine Zv (q_load Eo.h rfl rfl) ?_;refine ZY 2 ?_
   refine Zj ef (fun h3=>?_) (fun h3=>?_)
   ·have h0:overlapR xs=0:=by
     unfold overlapR;rw[if_neg hne,hup,hdr,overlapUp,if_pos (show x.2<x.1 by omega)]
    refine ZY 5 ?_;exact Zf ef Zq (⟨by rw[h0];rfl,rfl⟩)
   ·have hup2:overlapUp xs (0,4294967295)=overlapUp (xs.drop (i+1)) (max f x.1,min u x.2):=by rw[hup,hdr,overlapUp,if_neg (show ¬x.2<x.1 by omega)]
    refine ZY 2 ?_;refine Zv (Za ef ef) ?_;refine ZY 2 ?_;exact ZX (q-1) (⟨i+1,max f x.1,min u x.2,by omega,by omega,by omega,by omega,hup2,rfl,rfl⟩) (by omega)
  ·have hov:overlapR xs=if u<f then 0 else u-f+1:=by
    unfold overlapR;rw[if_neg hne,hup,show i=xs.length by omega,List.drop_length];rfl
   refine ZY 8 ?_
   refine Zj ef (fun h4=>?_) (fun h4=>?_)
   ·have h0:overlapR xs=0:=by rw[hov,if_pos (by omega)]
    refine ZY 5 ?_;exact Zf ef Zq (⟨by rw[h0];rfl,rfl⟩)
   ·have h0:(overlapR xs:Int)=(u:Int)-(f:Int)+1:=by rw[hov,if_neg (by omega)];omega
    refine ZY 5 ?_;refine Zv (Zm ef ef) ?_;refine Zv (q_conv Tryz.it3.h (by rw[Tryz.underlying31];rfl) rfl (inI64 (by omega) (by omega))) ?_;refine Zv (Za ef ef) ?_;refine ZY 3 ?_;exact Zf ef Zq (⟨by rw[h0];rfl,rfl⟩)
theorem srt_eq:∀ {l m:List Int},l.Perm m→l.Pairwise (·≤·)→m.Pairwise (· < ·)→l=m:=by
 intro l m h hl hm;exact h.eq_of_pairwise (fun a b _ _ h1 h2=>Int.le_antisymm h1 h2) hl (hm.imp fun h=>Int.le_of_lt h)
abbrev pts (ps:Nat→Nat) (js:List Bj):List Value:=js.map fun x=>pt (ps x.id)
theorem all_S (b:Nat) (st:Br) (ps:Nat→Nat):Spec Tryz.prog 50 [pt b] [BP b st ps] fun Γ v Θ=>∃av:SV,v=av.v∧av.n=st.js.length∧Θ=own av 86 1 (pts ps st.js)::BP b st ps::Γ:=by
 refine Spec.bpOk fun hok=>?_;refine Zbd Tryz.func50 rfl Tryz.ntmps50 fun w0 Γ=>Zsh ?_;have hfew:=hok.few;refine S.bpOpen b st ps fun ub jb mb ov iv dv mv sb l hF=>?_;have hll:l.length≤65535:=by rw[hF.perm.length_eq,List.length_map];omega
 refine ZY 8 ?_;refine ZY 7 ?_;refine Zp (Zc1 Ze (Keys_S jb) ?_);rintro v Θ ⟨c,rfl,rfl⟩;refine Zp (Zc1 Ze (Sorted_S c jb l hll) ?_);rintro v Θ ⟨sv,xs,rfl,hsv,hxs,hxp,rfl⟩
 have hx0:xs=st.js.map fun x=>(x.id:Int):=by
  refine srt_eq (hxs.trans ?_) hxp ?_
  ·have:=hF.perm.map (·.1);rw[List.map_map]at this;exact this
  ·exact List.pairwise_map.2 (hok.srt.imp fun h=>by omega)
 have hxl:xs.length=st.js.length:=by rw[hx0,List.length_map]
 have hcells:xs.map kv=st.js.map fun x=>Value.int .u32 (x.id:Int):=by rw[hx0,List.map_map];rfl
 rw[hcells];refine S.ownLen sv fun hl1 hl2 hl3=>?_;have hmx:maxLen≤9223372036854775807:=by unfold maxLen;omega
 refine S.ent (show Ent _ (own SV.nil 86 1 (pts ps (st.js.take 0))::_) from Ent.ownNil 86 1) ?_;refine ZY 4 ?_;refine Zl (fun q ρ' Γ'=>∃(i:Nat) (av:SV),q=st.js.length-i∧i≤st.js.length∧av.n=i∧ρ'=[(0,pt b),(3,av.v),(11,sv.v),(12,.int .i64 (sv.n:Int)),(13,.int .i64 (i:Int))]∧Γ'=own av 86 1 (pts ps (st.js.take i))::own sv 31 1 (st.js.map fun x=>Value.int .u32 (x.id:Int))::bX b st ps ub jb mb ov iv dv mv sb l Γ) (m:=_) (⟨0,SV.nil,rfl,by omega,rfl,rfl,rfl⟩) ?_;rintro q ρ' Γ' ⟨i,av,hq,hi,hav,rfl,rfl⟩;refine ZY 5 ?_
 refine Zj ef (fun h1=>?_) (fun h1=>?_)
 ·refine S.ownSome sv (by omega) fun sb' so hsa _ _ _=>?_;obtain⟨x,hx⟩:=getE (show i<st.js.length by omega);have htk:st.js.take (i+1)=st.js.take i++[x]:=by rw[List.take_add_one,hx];rfl
  have hgx:getJ st.js x.id=some x:=getJ_mem hok.srt (List.mem_of_getElem? hx);refine ZY 5 ?_;refine Zv (Zx (i) ef (hsa) ef (by omega)) ?_;refine Zv (Zo (sv) (i) ef (hsa) (by rw[List.getElem?_map,hx];rfl)) ?_;refine ZY 8 ?_;refine Zy ?_;refine Zv (q_lookup1 (pt (ps x.id)) Tryz.underlying82 Tryz.underlying31 Tryz.zv86.h rfl rfl rfl (by rw[jE_get hok.srt hF.perm,hgx];rfl)) ?_;refine Zp (S.buildSlice (pvs:=[(_,_)]) [_] Tryz.underlying99 Tryz.inf86.h rfl rfl ⟨⟨rfl,rfl⟩,trivial⟩ rfl rfl ?_);intro b24;refine Zp (S.appendOw (s:=av) (1) ([pt (ps x.id)]) Tryz.underlying99 Tryz.inf86.h rfl rfl rfl (blk_slAt (b:=b24) rfl (by unfold maxLen;omega)) (by first | rfl | exact allOne_bcells _) (⟨by omega,by omega⟩) rfl ?_);intro av2 hav2;rw[show pts ps (st.js.take i)++[pt (ps x.id)]=pts ps (st.js.take (i+1)) by rw[htk];simp];refine ZY 3 ?_;refine Zv (Za ef ef) ?_;refine ZY 2 ?_;exact ZX (q-1) (⟨i+1,av2,by omega,by omega,by omega,rfl,rfl⟩) (by omega)
 ·rw[show i=st.js.length by omega,List.take_length];refine ZY 7 ?_;refine S.bpClose b st ps ub jb mb ov iv dv mv sb l hF ?_;exact Zf ef Zq (⟨av,rfl,by omega,rfl⟩)
theorem wrap32 (n:Nat):IntKind.u32.wrap ((n:Int)+1)=((u32 (n+1):Nat):Int):=by
 simp only[IntKind.wrap,IntKind.bits,IntKind.signed,Bool.false_and,Bool.false_eq_true,if_false];show ((n:Int)+1) % 4294967296=(((n+1) % 4294967296:Nat):Int);omega
theorem zeroRow_nil (m:Nat):zeroRow [.slice none 0 0] m=(List.replicate m ((SV.nil,[]):Bb)).map bbV:=by
 induction m with
 | zero=>rfl
 | succ m ih=>rw[List.replicate_succ,List.map_cons,←ih];rfl
theorem allsNilB (m:Nat) (Γ:List Assn):Ent Γ (alls (List.replicate m ((SV.nil,[]):Bb)) bbB::Γ):=by
 induction m with
 | zero=>exact Ent.allsNil _ _
 | succ m ih=>
  rw[List.replicate_succ];exact(ih.trans (show Ent _ (bbB (SV.nil,[])::_) from Ent.ownNil 5 1)).trans (Ent.allsCons bbB _ _ _)
theorem Ent.blobs0 (v:SV) (m:Nat) (Γ:List Assn):Ent (own v 22 1 (zeroRow [.slice none 0 0] m)::Γ) (blobs v (List.replicate m [])::Γ):=by
 have h1:Ent (own v 22 1 (zeroRow [.slice none 0 0] m)::Γ) (own v 22 1 ((List.replicate m ((SV.nil,[]):Bb)).map bbV)::alls (List.replicate m ((SV.nil,[]):Bb)) bbB::Γ):=by
  rw[zeroRow_nil];exact(allsNilB m Γ).cons _
 refine h1.trans ((Ent.pack [_,_] Γ).trans (Ent.mono1 Γ fun _ s=>⟨_,?_,s⟩));rw[List.map_replicate]
theorem mapNil (l:List Nat):l.map (fun _=>([]:List Int))=List.replicate l.length []:=List.map_const' ..
section
variable {n:Nat} {md:Bool} {w0:WM md} {ρ:Env} {Γ Δ:List Assn} {φ:Act→World→Prop}
theorem S.savClose (q hb:Nat) (v:SV) (id ver credit:Nat) (hv:List Nat) (bs:List (List Int)) [p:Picks [blk q 131 #[.int .u32 (id:Int),.int .u32 (ver:Int),.int .i64 (credit:Int),v.v,.map (some hb),.bool false],mapL hb .i64 (setE hv),blobs v bs] Γ Δ] (k:S n w0 ρ (savB (some q) id (some ⟨ver,credit,hv,false,bs⟩)::Δ) φ):S n w0 ρ Γ φ:=
 S.ent (p.ent.trans ((Ent.pack [_,_,_] Δ).trans (Ent.mono1 Δ fun _ s=>⟨hb,v,s⟩))) k
theorem S.savToldClose (q hb:Nat) (v:SV) (id ver credit:Nat) (hv:List Nat) (bs:List (List Int)) [p:Picks [blk q 131 #[.int .u32 (id:Int),.int .u32 (ver:Int),.int .i64 (credit:Int),v.v,.map (some hb),.bool true],mapL hb .i64 (setE hv)] Γ Δ] (k:S n w0 ρ (savB (some q) id (some ⟨ver,credit,hv,true,bs⟩)::Δ) φ):S n w0 ρ Γ φ:=
 S.ent (p.ent.trans ((((show Ent Δ ((fun _=>True)::Δ) from fun h hs=>⟨HL.emp,h,HL.emp_disj _,HL.emp_le _,HL.le.refl _,trivial,hs⟩).cons _).cons _).trans ((Ent.pack [_,_,fun _=>True] Δ).trans (Ent.mono1 Δ fun _ s=>⟨hb,v,s⟩)))) k
theorem S.savOpen (q:Nat) (id:Nat) (s:Sv) [p:Pick (savB (some q) id (some s)) Γ Δ] (k:∀(hb:Nat) (v:SV),S n w0 ρ (blk q 131 #[.int .u32 (id:Int),.int .u32 (s.ver:Int),.int .i64 (s.credit:Int),v.v,.map (some hb),.bool s.told]::mapL hb .i64 (setE s.have_)::(if s.told then (fun _=>True) else blobs v s.bs)::Δ) φ):S n w0 ρ Γ φ:=by
 intro a w ha hs hx;obtain⟨h0,l0,h1,h2,d,l1,l2,⟨hb,v,q1⟩,s'⟩:=hs.ent p.ent;exact k hb v a w ha ⟨h0,l0,(Ent.unpack [_,_,_] Δ) _ ⟨h1,h2,d,l1,l2,q1,s'⟩⟩ hx
end
abbrev saveY (x:Bj):Bj:={x with ver:=u32 (x.ver+1),sav:=some ⟨u32 (x.ver+1),x.work,[],false,x.at_.map fun _=>[]⟩}
theorem JOk.saveY {N:Nat} {x:Bj} (h:JOk N x):JOk N (saveY x):=⟨h.id1,h.id2,h.tier,h.k1,h.kn,h.w,h.cr,h.wk,h.rise,h.at_,h.drop,h.lod,h.ran,h.ld,fun s hs=>(by cases hs;exact⟨List.length_map ..,h.wk⟩)⟩
theorem saveR_no {st:Br} {x:Bj} (h:x.work=x.credit∨x.sav.isSome∨x.drops.isSome∨x.state≠2):saveR st x=st.set x:=by rw[saveR,if_pos h]
theorem saveR_yes {st:Br} {x:Bj} (h:¬(x.work=x.credit∨x.sav.isSome∨x.drops.isSome∨x.state≠2)):saveR st x=Br.set {st with orders:=st.orders++x.at_.map (saveOrd (saveY x))} (saveY x):=by rw[saveR,if_neg h]
theorem saveR_ok {st:Br} (h:BrOk st) {x:Bj} (hx:JOk st.nodes x):BrOk (saveR st x):=by
 by_cases hc:x.work=x.credit∨x.sav.isSome∨x.drops.isSome∨x.state≠2
 ·rw[saveR_no hc];exact h.set hx
 ·rw[saveR_yes hc];exact(h.oset _).set (x:=BN.saveY x) hx.saveY
theorem saveR_same (st:Br) (x:Bj):(saveR st x).orders.length≤st.orders.length+x.at_.length∧(saveR st x).images=st.images∧(saveR st x).done=st.done∧(saveR st x).nodes=st.nodes:=by
 by_cases hc:x.work=x.credit∨x.sav.isSome∨x.drops.isSome∨x.state≠2
 ·rw[saveR_no hc];exact⟨by show st.orders.length≤_;omega,rfl,rfl,rfl⟩
 ·rw[saveR_yes hc];exact⟨by show (st.orders++_).length≤_;rw[List.length_append,List.length_map];omega,rfl,rfl,rfl⟩
theorem save_set (st:Br) {x y:Bj} (h:x.id=y.id):saveR (st.set x) y=saveR st y:=by
 by_cases hc:y.work=y.credit∨y.sav.isSome∨y.drops.isSome∨y.state≠2
 ·rw[saveR_no hc,saveR_no hc];exact set_set st h
 ·rw[saveR_yes hc,saveR_yes hc];exact set_set {st with orders:=st.orders++y.at_.map (saveOrd (saveY y))} (x:=x) (y:=saveY y) h
theorem save_S (b:Nat) (st:Br) (ps:Nat→Nat) (x:Bj) (hx:getJ st.js x.id=some x) (hl:st.orders.length≤900000):Spec Tryz.prog 87 [pt b,pt (ps x.id)] [BP b st ps] fun Γ _ Θ=>Θ=BP b (saveR st x) ps::Γ:=by
 refine Spec.bpOk fun hok=>?_;have hjx:=hok.at_ hx;have hN:=hok.N16;have hal:=hjx.len;refine Spec.of_body Tryz.func87 rfl Tryz.ntmps87 rfl ?_;intro w0 Γ;show S _ w0 [(0,pt b),(1,pt (ps x.id))] (BP b st ps::Γ) _;refine S.bjOpen b st ps x hx fun ub jb mb ov iv dv mv sb l i av lb db rb qb hF hi hset hrm hJ=>?_
 by_cases hw:x.work=x.credit
 ·have hg:saveR st x=st.set x:=saveR_no (.inl hw);refine ZS ?_;refine ZY 2 ?_;refine Zd ([blk (ps x.id) 90 (bjC x av lb db rb qb).toArray]) [] (Zra 0 11) ?_;refine ZY 8 ?_;refine ZY 3 ?_;refine Zu 16 true ef ((decide_eq_true (by rw[hw]))) ?_;refine Zr (Zra 11 21) ?_;refine ZY 8 ?_;refine ZY 8 ?_;refine ZY 5 ?_;refine ZD ?_;refine ZY 2 ?_;refine S.bjClose b st ps ub jb mb ov iv dv mv sb l i x av lb db rb qb hi rfl (hset x rfl) (hF.set hjx) hJ ?_;exact Zf ef Zq (by rw[hg])
 have hwf:decide ((x.work:Int)=(x.credit:Int))=false:=decide_eq_false (by omega);cases hs:x.sav with
 | some s=>
  have hg:saveR st x=st.set x:=saveR_no (.inr (.inl (by rw[hs];rfl)));obtain⟨q,hq⟩:∃q,qb=some q:=by have:=hJ.s;rw[hs]at this;cases qb with | none=>cases this | some q=>exact⟨q,rfl⟩
  subst hq;refine ZS ?_;refine ZY 2 ?_;refine Zd ([blk (ps x.id) 90 (bjC x av lb db rb (some q)).toArray]) [] (Zra 0 11) ?_;refine ZY 8 ?_;refine ZY 3 ?_;refine Zu 16 false ef (hwf) ?_;refine Zr (Zra 11 7) ?_;refine ZY 7 ?_;refine Zr (Zra 18 14) ?_;refine ZY 8 ?_;refine ZY 6 ?_;refine ZD ?_;refine ZY 2 ?_;refine S.bjClose b st ps ub jb mb ov iv dv mv sb l i x av lb db rb (some q) hi rfl (hset x rfl) (hF.set hjx) hJ ?_;exact Zf ef Zq (by rw[hg])
 | none=>
 have hqb:qb=none:=by have:=hJ.s;rw[hs]at this;cases qb with | none=>rfl | some q=>cases this
 subst hqb;cases hd:x.drops with
 | some d=>
  have hg:saveR st x=st.set x:=saveR_no (.inr (.inr (.inl (by rw[hd];rfl))));obtain⟨q,hq⟩:∃q,db=some q:=by have:=hJ.d;rw[hd]at this;cases db with | none=>cases this | some q=>exact⟨q,rfl⟩
  subst hq;refine ZS ?_;refine ZY 2 ?_;refine Zd ([blk (ps x.id) 90 (bjC x av lb (some q) rb none).toArray]) [] (Zra 0 11) ?_;refine ZY 8 ?_;refine ZY 3 ?_;refine Zu 16 false ef (hwf) ?_;refine Zr (Zra 11 7) ?_;refine ZY 7 ?_;refine Zr (Zra 18 7) ?_;refine ZY 4 ?_;refine Zwg ef ef ef ef (q_neMN Tryz.underlying81 rfl rfl) ?_;refine ZY 2 ?_;refine Zr (Zra 25 7) ?_;refine ZY 7 ?_;refine ZD ?_;refine ZY 2 ?_;refine S.bjClose b st ps ub jb mb ov iv dv mv sb l i x av lb (some q) rb none hi rfl (hset x rfl) (hF.set hjx) hJ ?_;exact Zf ef Zq (by rw[hg])
 | none=>
  have hdb:db=none:=by have:=hJ.d;rw[hd]at this;cases db with | none=>rfl | some q=>cases this
  subst hdb;have han:=hJ.an;obtain⟨x1,hx1⟩:∃x1:Bj,x1=saveY x:=⟨_,rfl⟩;have hj1:JOk st.nodes x1:=by rw[hx1];exact hjx.saveY
  have hid:x1.id=x.id:=by rw[hx1]
  refine ZS ?_;refine ZY 2 ?_;refine Zd ([blk (ps x.id) 90 (bjC x av lb none rb none).toArray]) [] (Zra 0 11) ?_;refine ZY 8 ?_;refine ZY 3 ?_;refine Zu 16 false ef (hwf) ?_;refine Zr (Zra 11 7) ?_;refine ZY 7 ?_;refine Zr (Zra 18 7) ?_;refine ZY 4 ?_;refine Zwg ef ef ef ef (q_neMN Tryz.underlying81 rfl rfl) ?_;refine ZY 2 ?_;refine Zr (Zra 25 7) ?_;refine ZY 7 ?_;refine ZD ?_
  refine Zj ef (fun h1=>?_) (fun h1=>?_)
  ·have hg:saveR st x=st.set x:=saveR_no (.inr (.inr (.inr (by omega))));refine Zy ?_;refine S.bjClose b st ps ub jb mb ov iv dv mv sb l i x av lb none rb none hi rfl (hset x rfl) (hF.set hjx) hJ ?_;exact Zf ef Zq (by rw[hg])
  ·have hg:saveR st x=Br.set {st with orders:=st.orders++x.at_.map (saveOrd x1)} x1:=by
    rw[hx1];refine saveR_yes fun h=>?_
    rcases h with h | h | h | h
    ·exact hw h
    ·rw[hs]at h;cases h
    ·rw[hd]at h;cases h
    ·exact h (by omega)
   refine ZY 7 ?_;refine Zv (q_addW rfl rfl) ?_;rw[wrap32];refine ZY 5 ?_;refine Zd ([blk (ps x.id) 90 (bjC {x with ver:=u32 (x.ver+1)} av lb none rb none).toArray]) [26] (Zra 0 19) ?_;refine ZY 8 ?_;refine ZY 8 ?_;refine ZY 3 ?_
   refine Z2 (i:=19) (j:=21) ef ef ef ?_ ?_
   ·refine(S.makeSlice (av.n) (av.n) Tryz.underlying58 Tryz.inf22.h rfl rfl rfl rfl rfl (by omega) (by omega) rfl ?_);intro bv hbv;refine Zk [20] ?_;refine Zw ef (q_build (pvs:=[(_,_),(_,_),(_,_),(_,_)]) [_,_,_,_] Tryz.z60.h Tryz.p60.h ⟨⟨rfl,rfl⟩,⟨rfl,rfl⟩,⟨rfl,rfl⟩,⟨rfl,rfl⟩,trivial⟩ rfl) ?_;refine Z1 (i:=21) ef ef ?_;refine(S.makeMap .i64 rfl ?_);intro b66;refine Zk [22] ?_;refine Zw ef (q_build (pvs:=[(_,_),(_,_)]) [_,_,_,_,_,_] Tryz.z131.h Tryz.p131.h ⟨⟨rfl,rfl⟩,⟨rfl,rfl⟩,trivial⟩ rfl) ?_;refine Z1 (i:=23) ef ef ?_;refine(S.box (cs:=[_,_,_,_,_,_]) rfl rfl rfl ?_);intro b68;refine S.conv (mapL b66 .i64 []) (show Ent _ (mapL b66 .i64 (setE [])::_) from Ent.refl _) ?_;refine Zk [24,25] ?_;refine ZY 2 ?_;refine Z1 (i:=26) ef ef ?_;refine(S.store (cs':=[_,_,_,_,_,_,_,_,_,_,_,_,_,_,_,_,_]) Eo.h rfl rfl rfl rfl rfl ?_);refine ZL ([]) [] ?_;refine ZD ?_;refine ZY 2 ?_;refine S.blkAs (ps x.id) (bjC {x with ver:=u32 (x.ver+1)} av lb none rb (some b68)).toArray rfl ?_;refine ZY 8 ?_;refine Zl (fun k ρ' Γ'=>∃(e:Nat) (os:List Od) (ov2:SV),k=x.at_.length-e∧e≤x.at_.length∧os=st.orders++(x.at_.take e).map (saveOrd x1)∧ov2.n=os.length∧ρ'=[(0,pt b),(1,pt (ps x.id)),(74,av.v),(75,.int .i64 (av.n:Int)),(76,.int .i64 (e:Int))] ∧   Γ'=blk (ps x.id) 90 (bjC {x with ver:=u32 (x.ver+1)} av lb none rb (some b68)).toArray::blk b68 131 #[.int .u32 (x.id:Int),.int .u32 (u32 (x.ver+1):Nat),.int .i64 (x.work:Int),bv.v,.map (some b66),.bool false]::mapL b66 .i64 (setE [])::own bv 22 1 (zeroRow [.slice none 0 0] av.n)::own av 3 1 (nds x.at_)::optS lb x.loaded::optS none x.drops::optR rb x.ran::blk b 84 (bC st ub jb mb ov2 iv dv mv sb).toArray::mapL ub .i64 (setE st.up)::mapL jb .u32 l::jT ps st.js i::jD ps st.js i::MI mb st.m::own ov2 97 14 (os.flatMap odC)::imgs iv st.images::own dv 31 1 (idsV st.done)::own mv 31 1 (idsV st.members)::optS sb st.stops::Γ) (m:=_) (⟨0,st.orders,ov,rfl,by omega,by simp,hF.on,rfl,rfl⟩) ?_;rintro k ρ' Γ' ⟨e,os,ov2,hk,he,hos,hov2,rfl,rfl⟩;have hol:os.length≤900016:=by rw[hos,List.length_append,List.length_map,List.length_take];omega
    refine ZY 5 ?_
    refine Zj ef (fun h2=>?_) (fun h2=>?_)
    ·refine S.ownSome av (by omega) fun ab ao haa _ _ _=>?_;obtain⟨y,hy⟩:=getE (show e<x.at_.length by omega);have htk:x.at_.take (e+1)=x.at_.take e++[y]:=by rw[List.take_add_one,hy];rfl
     have hos2:os++[((y,{kind:=8,job:=x.id,ver:=u32 (x.ver+1),credit:=x.work}):Od)]=st.orders++(x.at_.take (e+1)).map (saveOrd x1):=by rw[hos,htk,List.map_append,List.append_assoc,hx1];rfl
     refine ZY 5 ?_;refine Zv (Zx (e) ef (haa) ef (by omega)) ?_;refine Zv (Zo (av) (e) ef (haa) (by rw[List.getElem?_map,hy];rfl)) ?_;refine ZY 2 ?_;refine Zd ([blk (ps x.id) 90 (bjC {x with ver:=u32 (x.ver+1)} av lb none rb (some b68)).toArray]) [] (Zra 0 16) ?_;refine ZY 8 ?_;refine ZY 7 ?_;refine Zw ef (q_build (pvs:=[(_,_),(_,_),(_,_),(_,_)]) [_,_,_,_,_,_,_,_,_,_,_,_,_] Tryz.z72.h Tryz.p72.h ⟨⟨rfl,rfl⟩,⟨rfl,rfl⟩,⟨rfl,rfl⟩,⟨rfl,rfl⟩,trivial⟩ rfl) ?_;refine Z1 (i:=16) ef ef ?_;refine  (Zc1 Ze (order_S b st ub jb mb ov2 iv dv mv sb y {kind:=8,job:=x.id,ver:=u32 (x.ver+1),credit:=x.work} os hov2 (by omega)) ?_);rintro v Θ ⟨ov3,hov3,rfl⟩;refine Zk [] ?_;refine ZD ?_;refine Zy ?_;refine Zv (Za ef ef) ?_;refine ZY 2 ?_;exact ZX (k-1) (⟨e+1,os++[((y,{kind:=8,job:=x.id,ver:=u32 (x.ver+1),credit:=x.work}):Od)],ov3,by omega,by omega,hos2,hov3,rfl,rfl⟩) (by omega)
    ·rw[show e=x.at_.length by omega,List.take_length]at hos;refine Zy ?_;refine S.blkAs (ps x.id) (bjC x1 av lb none rb (some b68)).toArray (by rw[hx1]) ?_;refine S.conv (own bv 22 1 (zeroRow [.slice none 0 0] av.n)) (Ent.blobs0 bv av.n _) ?_;rw[show List.replicate av.n ([]:List Int)=x.at_.map fun _=>[] by rw[mapNil,han]];refine S.savClose b68 b66 bv x.id (u32 (x.ver+1)) x.work [] (x.at_.map fun _=>[]) ?_;refine S.sub (jX (ps x.id) x1 av lb none rb (some b68) (bR b {st with orders:=os} ps ub jb mb ov2 iv dv mv sb l i Γ)) (e:=by subst hx1;infer_instance) ?_;refine S.bjClose b {st with orders:=os} ps ub jb mb ov2 iv dv mv sb l i x1 av lb none rb (some b68) hi hid (hset x1 hid) (BF.set (st:={st with orders:=os}) ⟨hok.oset os,hF.perm,hov2,hF.im,hF.dn,hF.mn,hF.sn⟩ hj1) ⟨by rw[hx1];exact hJ.an,by rw[hx1];exact hJ.l,by rw[hx1];exact hJ.d,by rw[hx1];exact hJ.r,by rw[hx1];rfl⟩ ?_;exact Zfn ef Zq (by rw[hg,←hos])
   ·refine(S.makeMap .i64 rfl ?_);intro b66;refine Zk [] ?_;refine Z1 (i:=19) ef ef ?_;refine(S.makeSlice (av.n) (av.n) Tryz.underlying58 Tryz.inf22.h rfl rfl rfl rfl rfl (by omega) (by omega) rfl ?_);intro bv hbv;refine Zk [20,22] ?_;refine Zw ef (q_build (pvs:=[(_,_),(_,_),(_,_),(_,_)]) [_,_,_,_] Tryz.z60.h Tryz.p60.h ⟨⟨rfl,rfl⟩,⟨rfl,rfl⟩,⟨rfl,rfl⟩,⟨rfl,rfl⟩,trivial⟩ rfl) ?_;refine Zw ef (q_build (pvs:=[(_,_),(_,_)]) [_,_,_,_,_,_] Tryz.z131.h Tryz.p131.h ⟨⟨rfl,rfl⟩,⟨rfl,rfl⟩,trivial⟩ rfl) ?_;refine Z1 (i:=23) ef ef ?_;refine(S.box (cs:=[_,_,_,_,_,_]) rfl rfl rfl ?_);intro b68;refine S.conv (mapL b66 .i64 []) (show Ent _ (mapL b66 .i64 (setE [])::_) from Ent.refl _) ?_;refine Zk [24,25] ?_;refine ZY 2 ?_;refine Z1 (i:=26) ef ef ?_;refine(S.store (cs':=[_,_,_,_,_,_,_,_,_,_,_,_,_,_,_,_,_]) Eo.h rfl rfl rfl rfl rfl ?_);refine ZL ([]) [] ?_;refine ZD ?_;refine ZY 2 ?_;refine S.blkAs (ps x.id) (bjC {x with ver:=u32 (x.ver+1)} av lb none rb (some b68)).toArray rfl ?_;refine ZY 8 ?_;refine Zl (fun k ρ' Γ'=>∃(e:Nat) (os:List Od) (ov2:SV),k=x.at_.length-e∧e≤x.at_.length∧os=st.orders++(x.at_.take e).map (saveOrd x1)∧ov2.n=os.length∧ρ'=[(0,pt b),(1,pt (ps x.id)),(74,av.v),(75,.int .i64 (av.n:Int)),(76,.int .i64 (e:Int))] ∧   Γ'=blk (ps x.id) 90 (bjC {x with ver:=u32 (x.ver+1)} av lb none rb (some b68)).toArray::blk b68 131 #[.int .u32 (x.id:Int),.int .u32 (u32 (x.ver+1):Nat),.int .i64 (x.work:Int),bv.v,.map (some b66),.bool false]::mapL b66 .i64 (setE [])::own bv 22 1 (zeroRow [.slice none 0 0] av.n)::own av 3 1 (nds x.at_)::optS lb x.loaded::optS none x.drops::optR rb x.ran::blk b 84 (bC st ub jb mb ov2 iv dv mv sb).toArray::mapL ub .i64 (setE st.up)::mapL jb .u32 l::jT ps st.js i::jD ps st.js i::MI mb st.m::own ov2 97 14 (os.flatMap odC)::imgs iv st.images::own dv 31 1 (idsV st.done)::own mv 31 1 (idsV st.members)::optS sb st.stops::Γ) (m:=_) (⟨0,st.orders,ov,rfl,by omega,by simp,hF.on,rfl,rfl⟩) ?_;rintro k ρ' Γ' ⟨e,os,ov2,hk,he,hos,hov2,rfl,rfl⟩;have hol:os.length≤900016:=by rw[hos,List.length_append,List.length_map,List.length_take];omega
    refine ZY 5 ?_
    refine Zj ef (fun h2=>?_) (fun h2=>?_)
    ·refine S.ownSome av (by omega) fun ab ao haa _ _ _=>?_;obtain⟨y,hy⟩:=getE (show e<x.at_.length by omega);have htk:x.at_.take (e+1)=x.at_.take e++[y]:=by rw[List.take_add_one,hy];rfl
     have hos2:os++[((y,{kind:=8,job:=x.id,ver:=u32 (x.ver+1),credit:=x.work}):Od)]=st.orders++(x.at_.take (e+1)).map (saveOrd x1):=by rw[hos,htk,List.map_append,List.append_assoc,hx1];rfl
     refine ZY 5 ?_;refine Zv (Zx (e) ef (haa) ef (by omega)) ?_;refine Zv (Zo (av) (e) ef (haa) (by rw[List.getElem?_map,hy];rfl)) ?_;refine ZY 2 ?_;refine Zd ([blk (ps x.id) 90 (bjC {x with ver:=u32 (x.ver+1)} av lb none rb (some b68)).toArray]) [] (Zra 0 16) ?_;refine ZY 8 ?_;refine ZY 7 ?_;refine Zw ef (q_build (pvs:=[(_,_),(_,_),(_,_),(_,_)]) [_,_,_,_,_,_,_,_,_,_,_,_,_] Tryz.z72.h Tryz.p72.h ⟨⟨rfl,rfl⟩,⟨rfl,rfl⟩,⟨rfl,rfl⟩,⟨rfl,rfl⟩,trivial⟩ rfl) ?_;refine Z1 (i:=16) ef ef ?_;refine  (Zc1 Ze (order_S b st ub jb mb ov2 iv dv mv sb y {kind:=8,job:=x.id,ver:=u32 (x.ver+1),credit:=x.work} os hov2 (by omega)) ?_);rintro v Θ ⟨ov3,hov3,rfl⟩;refine Zk [] ?_;refine ZD ?_;refine Zy ?_;refine Zv (Za ef ef) ?_;refine ZY 2 ?_;exact ZX (k-1) (⟨e+1,os++[((y,{kind:=8,job:=x.id,ver:=u32 (x.ver+1),credit:=x.work}):Od)],ov3,by omega,by omega,hos2,hov3,rfl,rfl⟩) (by omega)
    ·rw[show e=x.at_.length by omega,List.take_length]at hos;refine Zy ?_;refine S.blkAs (ps x.id) (bjC x1 av lb none rb (some b68)).toArray (by rw[hx1]) ?_;refine S.conv (own bv 22 1 (zeroRow [.slice none 0 0] av.n)) (Ent.blobs0 bv av.n _) ?_;rw[show List.replicate av.n ([]:List Int)=x.at_.map fun _=>[] by rw[mapNil,han]];refine S.savClose b68 b66 bv x.id (u32 (x.ver+1)) x.work [] (x.at_.map fun _=>[]) ?_;refine S.sub (jX (ps x.id) x1 av lb none rb (some b68) (bR b {st with orders:=os} ps ub jb mb ov2 iv dv mv sb l i Γ)) (e:=by subst hx1;infer_instance) ?_;refine S.bjClose b {st with orders:=os} ps ub jb mb ov2 iv dv mv sb l i x1 av lb none rb (some b68) hi hid (hset x1 hid) (BF.set (st:={st with orders:=os}) ⟨hok.oset os,hF.perm,hov2,hF.im,hF.dn,hF.mn,hF.sn⟩ hj1) ⟨by rw[hx1];exact hJ.an,by rw[hx1];exact hJ.l,by rw[hx1];exact hJ.d,by rw[hx1];exact hJ.r,by rw[hx1];rfl⟩ ?_;exact Zfn ef Zq (by rw[hg,←hos])
abbrev ranX (x:Bj):Bj:={x with ran:=none}
abbrev cntX (x:Bj) (r:List Rn):Bj:={x with ran:=none,work:=min (x.work+overlapR (r.map (·.2))) x.w}
theorem JOk.ranX {N:Nat} {x:Bj} (h:JOk N x):JOk N (ranX x):=⟨h.id1,h.id2,h.tier,h.k1,h.kn,h.w,h.cr,h.wk,h.rise,h.at_,h.drop,h.lod,fun r hr=>(by cases hr),h.ld,h.svl⟩
theorem JOk.cntX {N:Nat} {x:Bj} (h:JOk N x) (r:List Rn):JOk N (cntX x r):=⟨h.id1,h.id2,h.tier,h.k1,h.kn,h.w,h.cr,Nat.min_le_right ..,h.rise,h.at_,h.drop,h.lod,fun r hr=>(by cases hr),h.ld,h.svl⟩
theorem countR_ok {st:Br} (h:BrOk st) {x:Bj} (hx:JOk st.nodes x):BrOk (countR st x):=by
 unfold countR
 split
 ·exact h.set hx
 ·split
  ·exact h.set (x:=BN.ranX x) hx.ranX
  ·exact saveR_ok h (x:=BN.cntX x _) (hx.cntX _)
theorem countR_same (st:Br) (x:Bj):(countR st x).orders.length≤st.orders.length+x.at_.length∧(countR st x).images=st.images∧(countR st x).done=st.done∧(countR st x).nodes=st.nodes:=by
 unfold countR
 split
 ·exact⟨by show st.orders.length≤_;omega,rfl,rfl,rfl⟩
 ·split
  ·exact⟨by show st.orders.length≤_;omega,rfl,rfl,rfl⟩
  ·exact saveR_same st (cntX x _)
theorem Ent.optR1 {q:Nat} {s:Option (List Rn)} {r:List Rn} (h:s=some r) (Γ:List Assn):Ent (optR (some q) s::Γ) (mapL q .i64 (ranE r)::Γ):=by rw[h];exact Ent.refl _
theorem Ent.optR2 {q:Nat} {s:Option (List Rn)} {r:List Rn} (h:s=some r) (Γ:List Assn):Ent (mapL q .i64 (ranE r)::Γ) (optR (some q) s::Γ):=by rw[h];exact Ent.refl _
theorem count_S (b:Nat) (st:Br) (ps:Nat→Nat) (x:Bj) (hx:getJ st.js x.id=some x) (hl:st.orders.length≤900000):Spec Tryz.prog 95 [pt b,pt (ps x.id)] [BP b st ps] fun Γ _ Θ=>Θ=BP b (countR st x) ps::Γ:=by
 refine Spec.bpOk fun hok=>?_;have hjx:=hok.at_ hx;have hN:=hok.N16;have hal:=hjx.len;refine Spec.of_body Tryz.func95 rfl Tryz.ntmps95 rfl ?_;intro w0 Γ;show S _ w0 [(0,pt b),(1,pt (ps x.id))] (BP b st ps::Γ) _;refine S.bjOpen b st ps x hx fun ub jb mb ov iv dv mv sb l i av lb db rb qb hF hi hset hrm hJ=>?_;cases hr:x.ran with
 | none=>
  have hg:countR st x=st.set x:=by rw[countR,hr]
  have hrb:rb=none:=by have:=hJ.r;rw[hr]at this;cases rb with | none=>rfl | some q=>cases this
  subst hrb;refine ZS ?_;refine ZY 8 ?_;refine ZY 8 ?_;refine Zy ?_;refine Zd ([blk (ps x.id) 90 (bjC x av lb db none qb).toArray]) [] [0,1,2] ?_;refine Zy ?_;refine Zw ef (q_eqMN Tryz.underlying88 rfl rfl) ?_;refine Zy ?_;refine Zr (Zra 3 16) ?_;refine ZY 8 ?_;refine ZY 8 ?_;refine ZD ?_;refine ZY 2 ?_;refine S.bjClose b st ps ub jb mb ov iv dv mv sb l i x av lb db none qb hi rfl (hset x rfl) (hF.set hjx) hJ ?_;exact Zf ef Zq (by rw[hg])
 | some r=>
 obtain⟨q,hq⟩:∃q,rb=some q:=by have:=hJ.r;rw[hr]at this;cases rb with | none=>cases this | some q=>exact⟨q,rfl⟩
 subst hq;cases hd:x.drops with
 | some d=>
  have hg:countR st x=st.set (ranX x):=by rw[countR,hr];exact if_pos (.inl (by rw[hd];rfl))
  obtain⟨qd,hqd⟩:∃q,db=some q:=by have:=hJ.d;rw[hd]at this;cases db with | none=>cases this | some q=>exact⟨q,rfl⟩
  subst hqd;refine ZS ?_;refine ZY 8 ?_;refine ZY 8 ?_;refine Zy ?_;refine Zd ([blk (ps x.id) 90 (bjC (ranX x) av lb (some qd) none qb).toArray]) [] [0,1,2] ?_;refine Zy ?_;refine Zw ef (q_eqMN Tryz.underlying88 rfl rfl) ?_;refine Zy ?_;refine Zr (Zra 3 7) ?_;refine ZY 4 ?_;refine Zwg ef ef ef ef (q_neMN Tryz.underlying81 rfl rfl) ?_;refine ZY 2 ?_;refine Zr (Zra 10 9) ?_;refine ZY 8 ?_;refine Zy ?_;refine ZD ?_;refine ZY 2 ?_;refine S.ent (optRNil _) ?_;refine S.bjClose b st ps ub jb mb ov iv dv mv sb l i (ranX x) av lb (some qd) none qb hi rfl (hset (ranX x) rfl) (hF.set hjx.ranX) ⟨hJ.an,hJ.l,hJ.d,rfl,hJ.s⟩ ?_;exact Zf ef Zq (by rw[hg])
 | none=>
  have hdb:db=none:=by have:=hJ.d;rw[hd]at this;cases db with | none=>rfl | some q=>cases this
  subst hdb;have han:=hJ.an;have hrl:(ranE r).length=r.length:=List.length_map ..;refine S.conv (optR (some q) x.ran) (Ent.optR1 hr _) ?_;obtain⟨x1,hx1⟩:∃x1:Bj,x1=cntX x r:=⟨_,rfl⟩;have hj1:JOk st.nodes x1:=by rw[hx1];exact hjx.cntX r
  have hid:x1.id=x.id:=by rw[hx1]
  have hw1:x1.work=min (x.work+overlapR (r.map (·.2))) x.w:=by rw[hx1]
  have hx2:getJ (st.set x1).js x1.id=some x1:=get_set st (by rw[hid];exact hx)
  have hspec:Spec Tryz.prog 87 [pt b,pt (ps x.id)] [BP b (st.set x1) ps] fun Γ _ Θ=>Θ=BP b (saveR (st.set x1) x1) ps::Γ:=by
   rw[←hid];exact save_S b _ ps x1 hx2 hl
  refine ZS ?_;refine ZY 8 ?_;refine ZY 8 ?_;refine Zy ?_;refine Zd ([blk (ps x.id) 90 (bjC (ranX x) av lb none none qb).toArray,mapL q .i64 (ranE r)]) [] [0,1,2] ?_;refine Zy ?_;refine Zw ef (q_eqMN Tryz.underlying88 rfl rfl) ?_;refine Zy ?_;refine Zr (Zra 3 7) ?_;refine ZY 4 ?_;refine Zwg ef ef ef ef (q_neMN Tryz.underlying81 rfl rfl) ?_;refine ZY 2 ?_;refine Zr (Zra 10 9) ?_;refine ZY 8 ?_;refine Zy ?_;refine ZD ?_
  refine Zj ef (fun h1=>?_) (fun h1=>?_)
  ·have hg:countR st x=st.set (ranX x):=by rw[countR,hr];exact if_pos (.inr (by omega))
   refine Zy ?_;refine S.ent (optRNil _) ?_;refine S.bjClose b st ps ub jb mb ov iv dv mv sb l i (ranX x) av lb none none qb hi rfl (hset (ranX x) rfl) (hF.set hjx.ranX) ⟨hJ.an,hJ.l,hJ.d,rfl,hJ.s⟩ ?_;exact Zf ef Zq (by rw[hg])
  ·have hg:countR st x=saveR st x1:=by
    rw[hx1,countR,hr]
    exact if_neg (fun h=>by
     rcases h with h | h
     ·rw[hd]at h;cases h
     ·exact h (by omega))
   refine ZY 4 ?_;refine Zp (Zc1 Ze (Values_S q) ?_);rintro v Θ ⟨c,rfl,rfl⟩;refine Zp (Zc1 Ze (Collect2_S c q r (by omega)) ?_);rintro v Θ ⟨sv,xs,rfl,hsv,hxs,rfl⟩
   have hxb:∀y∈xs,y.1≤4294967295∧y.2≤4294967295:=fun y hy=>by
    obtain⟨z,hz,e⟩:=List.mem_map.1 ((hxs.mem_iff).1 hy);rw[←e];exact hjx.ran r hr z hz
   have hov:=overlapR_perm hxs;have hole:=overlapR_le xs;have hwb:=hjx.wk;have hww:=hjx.w;refine Zp (Zcp Ze (overlap_S sv xs hsv hxb) ?_);refine ZY 3 ?_;refine Zd ([blk (ps x.id) 90 (bjC (ranX x) av lb none none qb).toArray]) [15] [0,1,2,3,4,5,7,8,9,10,11] ?_;refine ZY 8 ?_;refine ZY 3 ?_;refine Z1 (i:=6) ef ef ?_;refine  (Zcp Ze (cadd_S x.work (overlapR xs) (by omega) (by omega)) ?_);refine Zk [] ?_;refine Z1 (i:=12) ef ef ?_;refine  (Zc1 Ze (keep_S (x.work+overlapR xs) x.w (by omega) (by omega)) ?_);rintro v Θ ⟨rfl,hG⟩;rw[hG,hov,←hw1];refine Zk [13,14] ?_;refine ZY 2 ?_;refine Z1 (i:=15) ef ef ?_;refine(S.store (cs':=[_,_,_,_,_,_,_,_,_,_,_,_,_,_,_,_,_]) Eo.h rfl rfl rfl rfl rfl ?_);refine ZL ([]) [] ?_;refine ZD ?_;refine ZY 3 ?_;refine S.blkAs (ps x.id) (bjC x1 av lb none none qb).toArray (by rw[hx1]) ?_;refine S.ent (optRNil _) ?_;refine S.sub (jX (ps x.id) x1 av lb none none qb (bR b st ps ub jb mb ov iv dv mv sb l i Γ)) (e:=by subst hx1;infer_instance) ?_;refine S.bjClose b st ps ub jb mb ov iv dv mv sb l i x1 av lb none none qb hi hid (hset x1 hid) (hF.set hj1) ⟨by rw[hx1];exact hJ.an,by rw[hx1];exact hJ.l,by rw[hx1];exact hJ.d,by rw[hx1];rfl,by rw[hx1];exact hJ.s⟩ ?_;refine Zp (Zc1 Ze (hspec) ?_);rintro v Θ rfl;rw[save_set st (x:=x1) (y:=x1) rfl];refine Zy ?_;exact Zfn ef Zq (by rw[hg])
end BN
end Go.Proofs.YtdackcibfkkniaaGreatDoor
