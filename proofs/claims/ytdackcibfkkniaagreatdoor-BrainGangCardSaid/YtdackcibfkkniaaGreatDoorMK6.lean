/- BrainGang: who runs runs together, whatever happens. -/
import Derived.Test.YtdackcibfkkniaaGreatDoorMK5
set_option maxRecDepth 20000
set_option synthInstance.maxSize 9999
set_option synthInstance.maxHeartbeats 400000
namespace Go.Proofs.YtdackcibfkkniaaGreatDoor
open Go.RowKit
namespace BN
theorem set_key {nd:List Nd} {i:Nat} {n n':Nd} (_:nd[i]?=some n) (j:Nat) (m:Nd) (hm:(nd.set i n')[j]?=some m):(j=i∧m=n')∨(j≠i∧nd[j]?=some m):=by
 rw[List.getElem?_set]at hm
 split at hm
 ·rename_i e
  split at hm
  ·cases hm;exact .inl ⟨e.symm,rfl⟩
  ·cases hm
 ·rename_i e;exact .inr ⟨Ne.symm e,hm⟩
theorem node_of {b:Br} (h:BrI b never) {i:Nat} (hi:i<b.nodes):nodeB b.m i=true:=nodeB_iff.2 ⟨by omega,by rw[h.ok.N];omega⟩
theorem lost_gi {b:Br} {nd:List Nd} (h:GJ b nd) {i:Nat} {n:Nd} (hn:nd[i]?=some n) (hu:n.up=true):GJ (lostR b i).2 (nd.set i {up:=false,rk:=[],inn:=[],out:=[],wrong:=n.wrong}):=by
 have hi:i∈b.up:=(h.gi.ofUp hn).1 hu;have hlt:=up_lt h.gi.bi hi;have hnb:=node_of h.gi.bi hlt
 have hno:¬nodeR b i true≠0:=by
  unfold nodeR;rw[if_neg (by omega),(h.gi.bi.up i).1 hi];exact fun e=>e rfl
 rw[lostR_good hno];have hw:=(h.gi.node i n hn hu).wr;have hmem:∀j,j∈(lost0 b i).up↔j∈b.up∧j≠i:=fun j=>sDel_mem
 have hI0:BrI (lost0 b i) (only i):=by
  refine⟨lost0_ok h.gi.bi.ok i,fun x hx=>?_,fun z hz=>?_,fun j=>?_⟩
  ·have hX:=h.gi.bi.j x hx
   have hms:∀ {k},k∈b.up∨never x.id k→k∈(lost0 b i).up∨only i x.id k:=fun {k} hk=>by
    have hk:=hk.resolve_right fun e=>e
    by_cases e:k=i
    ·exact .inr e
    ·exact .inl ((hmem k).2 ⟨hk,e⟩)
   have hl:look (lost0 b i).m.js x.id=look b.m.js x.id:=by show look (upR b.m i false).2.js x.id=_;rw[upR,if_pos hnb];rfl
   exact⟨hX.st,fun e=>by rw[hl];exact hX.q e,fun e=>by rw[hl];exact hX.p e,hX.d,fun e k hk=>hms (hX.u e k hk),fun d e k hk=>hms (hX.du d e k hk),hX.da⟩
  ·refine h.gi.bi.mj z ?_;have hz:z∈(upR b.m i false).2.js:=hz;rw[upR,if_pos hnb]at hz;exact hz
  ·rw[hmem,h.gi.bi.up];exact(isUp_down hnb).symm
 obtain⟨k1,k2,k3,k4⟩:=losts_BI b.ids hI0 (fun e=>((hmem i).1 e).2 rfl) (D:=[]) (fun z _ e=>(by cases e));obtain⟨E,k1⟩:=k1;obtain⟨t,ht⟩:∃t,t=each (lostJ i) (lost0 b i) b.ids:=⟨_,rfl⟩;rw[←ht]at k1 k2 k3 k4 ⊢
 have hids:∀z∈t.js,z.id∈b.ids:=fun z hz=>by
  have key:∀(l:List Nat) (c:Br),(∀z∈c.js,z.id∈b.ids)→∀z∈(each (lostJ i) c l).js,z.id∈b.ids:=by
   intro l;induction l with
   | nil=>exact fun _ h=>h
   | cons id l ih=>
    intro c hc;have e:each (lostJ i) c (id::l)=each (lostJ i) (match getJ c.js id with | none=>c | some x=>lostJ i c x) l:=rfl;rw[e];refine ih _ ?_;cases hg:getJ c.js id with
    | none=>exact hc
    | some x=>
     have hx:=hc x (getJ_some hg).1
     have gk:∀(c1:Br) (y:Bj),c1.js=c.js→y.id=x.id→∀z∈(goneR c1 y).js,z.id∈b.ids:=fun c1 y e1 e2 z hz=>by
      rcases gone_mem hz with rfl | rfl | ⟨m1,_⟩
      ·rw[e2];exact hx
      ·show y.id∈_;rw[e2];exact hx
      ·rw[e1]at m1;exact hc z m1
     show ∀z∈(lostJ i c x).js,_;unfold lostJ
     split
     ·split
      ·rename_i hd;rw[drop_none hd];exact gk {c with orders:=c.orders++(upOf c x).map (dropOrd x.id)} _ rfl rfl
      ·exact gk c _ rfl rfl
     ·exact hc
  rw[ht]at hz;exact key b.ids (lost0 b i) (fun z hz=>List.mem_map.2 ⟨z,hz,rfl⟩) z hz
 have hI:BrI t never:=by
  refine⟨k2.ok,fun x hx=>?_,k2.mj,k2.up⟩;have hX:=k2.j x hx;obtain⟨o1,o2⟩:=k4 x hx (by rw[List.append_nil];exact hids x hx);exact⟨hX.st,hX.q,hX.p,hX.d,fun e k hk=>.inl ((hX.u e k hk).resolve_right fun (e2:k=i)=>o1 e (by rw[←e2];exact hk)),fun d e k hk=>.inl ((hX.du d e k hk).resolve_right fun (e2:k=i)=>o2 d e (by rw[←e2];exact hk)),hX.da⟩
 refine unstop_gi (n:=i) ⟨hI,by rw[List.length_set,k1.nodes];exact h.gi.len,fun o ho=>?_,fun j m hm=>?_,fun j m hm k=>?_,fun j m hm k e=>?_,fun m hm k=>?_,fun j hj e=>?_,by rw[k1.stops,k1.stopped];exact h.sf,fun o ho=>?_⟩
 ·rw[k1.ord]at ho;rw[k3]
  rcases List.mem_append.1 ho with ho | ho
  ·obtain⟨h1,h2⟩:=List.mem_filter.1 (show o∈b.orders.filter _ from ho);exact(hmem _).2 ⟨h.gi.dst o h1,of_decide_eq_true h2⟩
  ·exact k1.dst o ho
 ·rw[k3]
  rcases set_key hn j m hm with ⟨rfl,rfl⟩ | ⟨e,hm⟩
  ·exact(decide_eq_false fun e=>((hmem _).1 e).2 rfl).symm
  ·rw[h.gi.up j m hm];exact decide_eq_decide.2 ⟨fun k=>(hmem j).2 ⟨k,e⟩,fun k=>((hmem j).1 k).1⟩
 ·rcases set_key hn j m hm with ⟨rfl,rfl⟩ | ⟨e,hm⟩
  ·exact⟨rfl,rfl,rfl,hw⟩
  ·exact h.gi.off j m hm k
 ·rcases set_key hn j m hm with ⟨rfl,rfl⟩ | ⟨e2,hm⟩
  ·exact absurd rfl e
  ·have hN:=h.gi.node j m hm k;have hj:j∈b.up:=(h.gi.ofUp hm).1 k
   have hq:qOf (lost0 b i).orders j=qOf b.orders j:=by
    show qOf (b.orders.filter fun o=>decide (o.1≠i)) j=_;unfold qOf;rw[List.filter_filter]
    congr 1
    refine List.filter_congr fun o _=>?_
    by_cases e3:o.1=j
    ·rw[decide_eq_true e3,decide_eq_true (show o.1≠i by rw[e3];exact e2)];rfl
    ·rw[decide_eq_false e3];rfl
   have hN0:NodeI (lost0 b i) j m:=⟨hN.kn,hN.ps,hN.one,hN.wr,by rw[hq];exact hN.right,by rw[hq];exact hN.ld,fun id=>by rw[hq];exact hN.here id,by rw[hq];exact hN.ph⟩;exact hN0.step k1 ((hmem j).2 ⟨hj,e2⟩)
 ·rcases set_key hn i m hm with ⟨_,rfl⟩ | ⟨e,_⟩
  ·cases k
  ·exact absurd rfl e
 ·rw[k1.stops]at hj;rw[k3];exact(hmem j).2 ⟨h.gi.stp j hj,e⟩
 ·rw[k1.ord]at ho
  rcases List.mem_append.1 ho with ho | ho
  ·exact h.ork o (List.mem_filter.1 (show o∈b.orders.filter _ from ho)).1
  ·exact(k1.k5 o ho).2.2.2
theorem up_gi {b:Br} {nd:List Nd} (h:GJ b nd) {i:Nat} {n:Nd} (hn:nd[i]?=some n) (hu:n.up=false):GJ (upR' b i).2 (nd.set i {n with up:=true}):=by
 have hi:i∉b.up:=fun e=>by have:=(h.gi.ofUp hn).2 e;rw[hu]at this;cases this
 have hlt:i<b.nodes:=by rw[←h.gi.len];exact(List.getElem?_eq_some_iff.1 hn).1
 have hnb:=node_of h.gi.bi hlt
 have hno:¬nodeR b i false≠0:=by
  unfold nodeR
  have:isUpB b.m i=false:=by
   cases e:isUpB b.m i with
   | false=>rfl
   | true=>exact absurd ((h.gi.bi.up i).2 e) hi
  rw[if_neg (by omega),this];exact fun e=>e rfl
 have ok:=upR'_ok h.gi.bi.ok (i:Int);rw[upR',if_neg hno]at ok ⊢;obtain⟨b',hb'⟩:∃b':Br,b'={b with up:=sAdd b.up (i:Int).toNat,m:=(upR b.m i true).2}:=⟨_,rfl⟩;have hmem:∀j,j∈b'.up↔j∈b.up∨j=i:=fun j=>by rw[hb'];exact mem_sAdd
 have hl:∀k,look b'.m.js k=look b.m.js k:=fun k=>by rw[hb'];show look (upR b.m i true).2.js k=_;rw[upR,if_pos hnb];rfl
 have hms:b'.m.js=b.m.js:=by rw[hb'];show (upR b.m i true).2.js=_;rw[upR,if_pos hnb];rfl
 have hupm:∀j:Nat,isUpB b'.m j=true↔isUpB b.m j=true∨j=i:=fun j=>by rw[hb'];exact isUp_on h.gi.bi.ok.mok hnb
 have e1:b'.js=b.js:=by rw[hb']
 have e2:b'.orders=b.orders:=by rw[hb']
 have e3:b'.stops=b.stops:=by rw[hb']
 have e4:b'.stopped=b.stopped:=by rw[hb']
 have e5:b'.gen=b.gen:=by rw[hb']
 have e6:b'.members=b.members:=by rw[hb']
 have e7:b'.nodes=b.nodes:=by rw[hb']
 have ok:BrOk b':=by rw[hb'];exact ok
 show GJ {b with up:=sAdd b.up (i:Int).toNat,m:=(upR b.m i true).2} _;rw[←hb']
 have hI:BrI b' never:=⟨ok,fun x hx=>by
  rw[e1]at hx;have hX:=h.gi.bi.j x hx;have mv:∀ {k},k∈b.up∨never x.id k→k∈b'.up∨never x.id k:=fun {k} hk=>.inl ((hmem k).2 (.inl (hk.resolve_right fun e=>e)));exact⟨hX.st,fun e=>by rw[hl];exact hX.q e,fun e=>by rw[hl];exact hX.p e,hX.d,fun e k hk=>mv (hX.u e k hk),fun d e k hk=>mv (hX.du d e k hk),hX.da⟩,fun z hz=>by rw[hms]at hz;rw[e1];exact h.gi.bi.mj z hz,fun j=>by rw[hmem,hupm,h.gi.bi.up]⟩
 have hp:∀j id,Pres b' j id↔Pres b j id:=fun j id=>by unfold Pres;rw[e1]
 refine⟨⟨hI,by rw[List.length_set,e7];exact h.gi.len,fun o ho=>(hmem _).2 (.inl (h.gi.dst o (by rw[←e2];exact ho))),fun j m hm=>?_,fun j m hm k=>?_,fun j m hm k=>?_,fun j hj=>(hmem j).2 (.inl (h.gi.stp j (by rw[←e3];exact hj)))⟩,by rw[e3,e4];exact h.sf,by rw[e2];exact h.ork⟩
 ·rcases set_key hn j m hm with ⟨rfl,rfl⟩ | ⟨e,hm⟩
  ·exact(decide_eq_true ((hmem _).2 (.inr rfl))).symm
  ·rw[h.gi.up j m hm];exact decide_eq_decide.2 ⟨fun k=>(hmem j).2 (.inl k),fun k=>((hmem j).1 k).resolve_right e⟩
 ·rcases set_key hn j m hm with ⟨rfl,rfl⟩ | ⟨e,hm⟩
  ·cases k
  ·exact h.gi.off j m hm k
 ·rcases set_key hn j m hm with ⟨rfl,rfl⟩ | ⟨e,hm⟩
  ·obtain⟨o1,o2,o3,o4⟩:=h.gi.off j n hn hu
   have hq:qOf b'.orders j=[]:=by
    rw[e2];unfold qOf;rw[List.map_eq_nil_iff,List.filter_eq_nil_iff];exact fun o ho k=>hi (by rw[←of_decide_eq_true k];exact h.gi.dst o ho)
   refine⟨by rw[o1];exact List.nodup_nil,by rw[o1];exact fun _ k=>(by cases k),by rw[o1];exact fun _ k=>(by cases k),o4,?_,?_,fun id=>?_,?_⟩
   ·show (fin n.rk (n.inn++qOf b'.orders j)).wrong=false;rw[hq,o1,o2];rfl
   ·show ∀x∈n.inn++qOf b'.orders j,_;rw[hq,o2];exact fun x k=>(by cases k)
   ·show (nGet id (fin n.rk (n.inn++qOf b'.orders j)).rk).isSome=true↔_;rw[hq,o1,o2,hp];refine⟨fun k=>(by cases k),fun⟨x,x1,x2,x3⟩=>?_⟩;exact absurd (((h.gi.bi.j x (getJ_some x1).1).u x2 j x3).resolve_right fun e=>e) hi
   ·show Ph b'.gen b'.members (decide (j∈b'.stops.getD [])) b'.stopped n.rk (n.inn++qOf b'.orders j) n.out;rw[hq,o1,o2,o3];exact .rest (decide_eq_false fun k=>hi (h.gi.stp j (by rw[←e3];exact k))) (fun _ k=>(by cases k)) (fun _ k=>(by cases k)) (fun _ k=>(by cases k)) (fun _ k=>(by cases k))
  ·have hN:=h.gi.node j m hm k;exact⟨hN.kn,hN.ps,hN.one,hN.wr,by rw[e2];exact hN.right,by rw[e2];exact hN.ld,fun id=>by rw[e2];exact(hN.here id).trans (hp j id).symm,by rw[e2,e5,e6,e3,e4];exact hN.ph⟩
theorem ords_at:∀(os:List Od) (nd:List Nd),(∀o∈os,∃n,nd[o.1]?=some n∧n.up=true)→(ordsR nd os).length=nd.length∧∀(i:Nat) (n:Nd),nd[i]?=some n→(ordsR nd os)[i]?=some {n with inn:=n.inn++qOf os i}
 | [],nd,_=>⟨rfl,fun i n h=>by rw[show ordsR nd []=nd from rfl,h];simp[qOf]⟩
 | o::os,nd,h=>by
  obtain⟨n0,h1,h2⟩:=h o (List.mem_cons_self ..)
  have e:ordsR nd (o::os)=ordsR (nd.set o.1 {n0 with inn:=n0.inn++[o.2]}) os:=by
   show ordsR (ordR nd o) os=_;rw[ordR,h1];simp only[h2,if_true]
  have hlt:=(List.getElem?_eq_some_iff.1 h1).1
  obtain⟨k1,k2⟩:=ords_at os (nd.set o.1 {n0 with inn:=n0.inn++[o.2]}) fun p hp=>by
   obtain⟨m,m1,m2⟩:=h p (List.mem_cons_of_mem _ hp)
   by_cases e:p.1=o.1
   ·rw[e,List.getElem?_set_self hlt];exact⟨_,rfl,h2⟩
   ·rw[List.getElem?_set_ne (Ne.symm e)];exact⟨m,m1,m2⟩
  rw[e];refine⟨k1.trans (List.length_set ..),fun i n hn=>?_⟩
  by_cases ei:o.1=i
  ·subst ei;rw[h1]at hn;cases hn;rw[k2 o.1 _ (List.getElem?_set_self hlt)];have:qOf (o::os) o.1=o.2::qOf os o.1:=by unfold qOf;rw[List.filter_cons,if_pos (by simp),List.map_cons]
   rw[this,List.append_assoc];rfl
  ·rw[k2 i n (by rw[List.getElem?_set_ne ei];exact hn)];have:qOf (o::os) i=qOf os i:=by unfold qOf;rw[List.filter_cons,if_neg (by simpa using ei)]
   rw[this]
theorem take_gi {b:Br} {nd:List Nd} (h:GJ b nd):GJ {b with orders:=[],images:=[],done:=[]} (ordsR nd b.orders):=by
 have hd:∀o∈b.orders,∃n,nd[o.1]?=some n∧n.up=true:=fun o ho=>by
  have hi:=h.gi.dst o ho;have hlt:=up_lt h.gi.bi hi;obtain⟨n,hn⟩:=getE (show o.1<nd.length by rw[h.gi.len];exact hlt);exact⟨n,hn,(h.gi.ofUp hn).2 hi⟩
 obtain⟨k1,k2⟩:=ords_at b.orders nd hd
 have key:∀(i:Nat) (m:Nd),(ordsR nd b.orders)[i]?=some m→∃n,nd[i]?=some n∧m={n with inn:=n.inn++qOf b.orders i}:=fun i m hm=>by
  obtain⟨n,hn⟩:=getE (show i<nd.length by rw[←k1];exact(List.getElem?_eq_some_iff.1 hm).1);rw[k2 i n hn]at hm;cases hm;exact⟨n,hn,rfl⟩
 refine⟨⟨h.gi.bi.same ?_ rfl rfl rfl,k1.trans h.gi.len,fun o ho=>(by cases ho),fun i m hm=>?_,fun i m hm k=>?_,fun i m hm k=>?_,h.gi.stp⟩,h.sf,fun o ho=>(by cases ho)⟩
 ·exact⟨h.gi.bi.ok.R,h.gi.bi.ok.N,h.gi.bi.ok.mok,h.gi.bi.ok.srt,fun x hx=>h.gi.bi.ok.job x hx,h.gi.bi.ok.few,h.gi.bi.ok.q1,h.gi.bi.ok.q2,h.gi.bi.ok.g1,h.gi.bi.ok.g2,h.gi.bi.ok.now,h.gi.bi.ok.fin,h.gi.bi.ok.mem,h.gi.bi.ok.stp⟩
 ·obtain⟨n,hn,rfl⟩:=key i m hm;exact h.gi.up i n hn
 ·obtain⟨n,hn,rfl⟩:=key i m hm;obtain⟨o1,o2,o3,o4⟩:=h.gi.off i n hn k;refine⟨o1,?_,o3,o4⟩;show n.inn++qOf b.orders i=[];rw[o2,List.nil_append];unfold qOf;rw[List.map_eq_nil_iff,List.filter_eq_nil_iff];refine fun o ho q=>?_;have:=(h.gi.ofUp hn).2 (by rw[←of_decide_eq_true q];exact h.gi.dst o ho);rw[show n.up=false from k]at this;cases this
 ·obtain⟨n,hn,rfl⟩:=key i m hm;have hN:=h.gi.node i n hn k;have hq:(n.inn++qOf b.orders i)++qOf ([]:List Od) i=n.inn++qOf b.orders i:=by rw[show qOf ([]:List Od) i=[] from rfl,List.append_nil]
  refine⟨hN.kn,hN.ps,hN.one,hN.wr,?_,?_,fun id=>?_,?_⟩
  ·show (fin n.rk ((n.inn++qOf b.orders i)++qOf [] i)).wrong=false;rw[hq];exact hN.right
  ·show ∀x∈(n.inn++qOf b.orders i)++qOf [] i,_;rw[hq];exact hN.ld
  ·show (nGet id (fin n.rk ((n.inn++qOf b.orders i)++qOf [] i)).rk).isSome=true↔_;rw[hq];exact hN.here id
  ·show Ph b.gen b.members _ b.stopped n.rk ((n.inn++qOf b.orders i)++qOf [] i) n.out;rw[hq];exact hN.ph
def Ag (b:Br):Prop:=∀x∈b.js,x.done=true→x.again=false
def JR (b b':Br):Prop:=Ag b→(b'.done=b.done∧b'.now=b.now)∧Ag b'∧∀z∈b'.js,∃x∈b.js,z.id=x.id∧(x.done=true→z.done=true)
theorem JR.refl (b:Br):JR b b:=fun h=>⟨⟨rfl,rfl⟩,h,fun z hz=>⟨z,hz,rfl,fun h=>h⟩⟩
theorem JR.trans {a b c:Br} (h:JR a b) (k:JR b c):JR a c:=fun ha=>by
 obtain⟨h1,h2,h3⟩:=h ha;obtain⟨k1,k2,k3⟩:=k h2;refine⟨⟨k1.1.trans h1.1,k1.2.trans h1.2⟩,k2,fun z hz=>?_⟩;obtain⟨y,y1,y2,y3⟩:=k3 z hz;obtain⟨x,x1,x2,x3⟩:=h3 y y1;exact⟨x,x1,y2.trans x2,fun e=>y3 (x3 e)⟩
theorem JR.same {b b':Br} (hj:b'.js=b.js) (hd:b'.done=b.done) (hn:b'.now=b.now):JR b b':=fun h=>⟨⟨hd,hn⟩,fun x hx=>by rw[hj]at hx;exact h x hx,fun z hz=>by rw[hj]at hz;exact⟨z,hz,rfl,fun h=>h⟩⟩
theorem setJ_mem {js:List Bj} {y z:Bj} (hz:z∈setJ js y):z=y∨(z∈js∧z.id≠y.id):=by
 obtain⟨w,hw,e⟩:=List.mem_map.1 hz
 split at e
 ·exact .inl e.symm
 ·rename_i hne;subst e;exact .inr ⟨hw,hne⟩
theorem jr_set {b:Br} {x y:Bj} (hx:getJ b.js x.id=some x) (hid:y.id=x.id) (h1:x.done=true→y.done=true) (h2:(x.done=true→x.again=false)→y.done=true→y.again=false):JR b (b.set y):=fun h=>by
 have hm:=(getJ_some hx).1
 refine⟨⟨rfl,rfl⟩,fun z hz=>?_,fun z hz=>?_⟩
 ·rcases setJ_mem (show z∈setJ b.js y from hz) with rfl | ⟨k,_⟩
  ·exact h2 (h x hm)
  ·exact h z k
 ·rcases setJ_mem (show z∈setJ b.js y from hz) with rfl | ⟨k,_⟩
  ·exact⟨x,hm,hid,h1⟩
  ·exact⟨z,k,rfl,fun h=>h⟩
theorem jr_gone {b:Br} {x y:Bj} (hx:getJ b.js x.id=some x) (hid:y.id=x.id) (h1:x.done=true→y.done=true) (h2:(x.done=true→x.again=false)→y.done=true→y.again=false):JR b (goneR b y):=fun h=>by
 have hm:=(getJ_some hx).1;unfold goneR
 split
 ·split
  ·rename_i ha
   have hnd:x.done≠true:=fun e=>by
    have:=h2 (h x hm) (h1 e);rw[ha]at this;cases this
   have:=jr_set (b:={b with m:=(removeR b.m y.id).2}) (y:=anew y) hx hid (fun e=>absurd e hnd) (fun _ e=>(by cases e)) h;exact this
  ·refine⟨⟨rfl,rfl⟩,fun z hz=>h z (List.mem_filter.1 (show z∈rmJ b.js y.id from hz)).1,fun z hz=>⟨z,(List.mem_filter.1 (show z∈rmJ b.js y.id from hz)).1,rfl,fun h=>h⟩⟩
 ·exact jr_set hx hid h1 h2 h
theorem jr_drop {b:Br} {x y:Bj} (hx:getJ b.js x.id=some x) (hid:y.id=x.id) (h1:x.done=true→y.done=true) (a:Bool):JR b (dropR b y a):=by
 have h2:∀d,(x.done=true→x.again=false)→(dropX y a d).done=true→(dropX y a d).again=false:=fun d _ e=>by
  show (a&&!y.done)=false;rw[show y.done=true from e];simp
 cases hd:y.drops with
 | some d=>rw[drop_some hd];exact jr_gone hx hid h1 (h2 d)
 | none=>
  rw[drop_none hd];exact(JR.same (b:=b) (b':={b with orders:=b.orders++(upOf b y).map (dropOrd y.id)}) rfl rfl rfl).trans (jr_gone (b:={b with orders:=b.orders++(upOf b y).map (dropOrd y.id)}) hx hid h1 (h2 _))
theorem jr_save {b:Br} {x y:Bj} (hx:getJ b.js x.id=some x) (hid:y.id=x.id) (hd:y.done=x.done) (ha:y.again=x.again):JR b (saveR b y):=by
 by_cases hc:y.work=y.credit∨y.sav.isSome∨y.drops.isSome∨y.state≠2
 ·rw[saveR_no hc];exact jr_set hx hid (fun e=>hd.trans e) (fun h e=>ha.trans (h (hd.symm.trans e)))
 ·rw[saveR_yes hc];exact(JR.same (b:=b) (b':={b with orders:=b.orders++y.at_.map (saveOrd (saveY y))}) rfl rfl rfl).trans (jr_set (b:={b with orders:=b.orders++y.at_.map (saveOrd (saveY y))}) (y:=saveY y) hx hid (fun e=>hd.trans e) (fun h e=>ha.trans (h (hd.symm.trans e))))
theorem jr_each {f:Br→Bj→Br} (hf:∀b x,getJ b.js x.id=some x→JR b (f b x)):∀(l:List Nat) (b:Br),JR b (each f b l)
 | [],b=>.refl b
 | id::l,b=>by
  have e:each f b (id::l)=each f (match getJ b.js id with | none=>b | some x=>f b x) l:=rfl;rw[e];cases hg:getJ b.js id with
  | none=>exact jr_each hf l b
  | some x=>exact(hf b x (by rw[(getJ_some hg).2];exact hg)).trans (jr_each hf l _)
theorem jr_count {b:Br} {x:Bj} (hx:getJ b.js x.id=some x):JR b (countR b x):=by
 unfold countR
 split
 ·exact jr_set hx rfl (fun e=>e) (fun h e=>h e)
 ·split
  ·exact jr_set (y:=ranX x) hx rfl (fun e=>e) (fun h e=>h e)
  ·exact jr_save (y:=cntX x _) hx rfl rfl rfl
theorem jr_stopHeard (b:Br) (n:Nat):JR b (stopHeardR b n):=by
 unfold stopHeardR
 split
 ·exact .refl b
 ·split
  ·exact .same rfl rfl rfl
  ·exact(JR.same (b:=b) (b':={b with stops:=none,stopped:=false}) rfl rfl rfl).trans (jr_each (fun _ _ h=>jr_count h) _ _)
theorem jr_lost (b:Br) (n:Int):JR b (lostR b n).2:=by
 unfold lostR
 split
 ·exact .refl b
 ·refine JR.trans (b:=each (lostJ n.toNat) {b with up:=sDel b.up n.toNat,m:=(upR b.m n false).2,orders:=b.orders.filter fun o=>decide (o.1≠n.toNat)} b.ids) ?_ (jr_stopHeard _ _);refine(JR.same (b:=b) (b':={b with up:=sDel b.up n.toNat,m:=(upR b.m n false).2,orders:=b.orders.filter fun o=>decide (o.1≠n.toNat)}) rfl rfl rfl).trans (jr_each (fun c x hx=>?_) _ _);unfold lostJ
  split
  ·split
   ·exact jr_drop hx rfl (fun e=>e) true
   ·exact jr_gone hx rfl (fun e=>e) (fun h e=>h e)
  ·exact .refl c
theorem jr_hearJ {b:Br} {x:Bj} (hx:getJ b.js x.id=some x) (n:Nat) (t:Nt) (bl:List Int):JR b (hearJ b x n t bl):=by
 unfold hearJ
 split
 ·split
  ·exact jr_set hx rfl (fun e=>e) (fun h e=>h e)
  ·exact .refl b
 split
 ·unfold savedR;cases hs:x.sav with
  | none=>exact .refl b
  | some s=>
   cases hr:rankOf x.at_ n with
   | none=>exact .refl b
   | some rank=>
    simp only
    split
    ·exact .refl b
    ·split
     ·exact(jr_set (b:=b) (y:={x with sav:=some {s with bs:=s.bs.set rank bl,have_:=sAdd s.have_ n,told:=true}}) hx rfl (fun e=>e) (fun h e=>h e)).trans (.same rfl rfl rfl)
     ·exact jr_set (y:={x with sav:=some {s with bs:=s.bs.set rank bl,have_:=sAdd s.have_ n}}) hx rfl (fun e=>e) (fun h e=>h e)
 split
 ·split
  ·exact .refl b
  ·exact jr_gone hx rfl (fun e=>e) (fun h e=>h e)
 ·exact .refl b
theorem jr_hear (b:Br) (n:Int) (t:Nt) (bl:List Int):JR b (hearR b n t bl).2:=by
 unfold hearR
 split
 ·exact .refl b
 split
 ·show JR b (heardR b n.toNat t);unfold heardR
  split
  ·refine JR.trans ?_ (jr_stopHeard _ _);cases hg:getJ b.js t.job with
   | none=>exact .refl b
   | some y=>
    simp only
    split
    ·exact .refl b
    ·split
     ·exact jr_set (x:=y) (by rw[(getJ_some hg).2];exact hg) rfl (fun e=>e) (fun h e=>h e)
     ·exact .refl b
  ·exact .refl b
 ·cases hg:getJ b.js t.job with
  | none=>exact .refl b
  | some x=>
   simp only
   split
   ·exact jr_hearJ (by rw[(getJ_some hg).2];exact hg) _ _ _
   ·exact .refl b
theorem jr_cancel (b:Br) (id:Nat):JR b (cancelR b id).2:=by
 unfold cancelR;cases hg:getJ b.js id with
 | none=>exact .refl b
 | some x=>
  have hx:getJ b.js x.id=some x:=by rw[(getJ_some hg).2];exact hg
  simp only
  split
  ·exact jr_drop hx rfl (fun e=>e) false
  ·split
   ·exact jr_set hx rfl (fun e=>e) (fun _ _=>rfl)
   ·exact .refl b
theorem jr_load {b:Br} {x:Bj} (hx:getJ b.js x.id=some x) (s:PL.St):JR b (loadR b x s):=by
 by_cases hp:(putR b.m x.id s.row s.nodes).1≠0
 ·rw[loadR_no hp];exact .same rfl rfl rfl
 ·rw[loadR_yes hp];exact(JR.same (b:=b) (b':={b with m:=(putR b.m x.id s.row s.nodes).2,orders:=b.orders++loadOrd x (nats s.nodes)}) rfl rfl rfl).trans (jr_set (b:={b with m:=(putR b.m x.id s.row s.nodes).2,orders:=b.orders++loadOrd x (nats s.nodes)}) (y:=lodY x (nats s.nodes)) hx rfl (fun e=>e) (fun h e=>h e))
theorem jr_place:∀(zs:List (Nat×PL.St)) (b:Br),JR b (placeUp b zs)
 | [],b=>.refl b
 | p::zs,b=>by
  have e:placeUp b (p::zs)=placeUp (plStep b p) zs:=by rw[placeUp_eq,placeUp_eq];rfl
  rw[e];refine JR.trans ?_ (jr_place zs _);unfold plStep
  split
  ·cases hg:getJ b.js p.1 with
   | none=>exact .refl b
   | some x=>exact jr_load (by rw[(getJ_some hg).2];exact hg) _
  ·exact .refl b
theorem jr_preempt (b:Br):JR b (preemptR b):=by
 unfold preemptR
 split
 ·exact .refl b
 split
 ·exact .refl b
 split
 ·exact .refl b
 ·refine jr_each (f:=warnJ) (fun c x hx=>?_) _ _;exact(JR.same (b:=c) (b':={c with orders:=c.orders++x.at_.map fun n=>((n,{kind:=12,job:=x.id,tick:=laterR c.now c.grace}):Od)}) rfl rfl rfl).trans (jr_set (b:={c with orders:=c.orders++x.at_.map fun n=>((n,{kind:=12,job:=x.id,tick:=laterR c.now c.grace}):Od)}) (y:={x with warned:=true,till:=laterR c.now c.grace}) hx rfl (fun e=>e) (fun h e=>h e))
theorem jr_start (b:Br):∀(i:Nat) (row:Int),JR b (startUp b row i)
 | 0,_=>.refl b
 | i+1,row=>by
  rw[startUp]
  split
  ·exact .refl b
  split
  ·rw[runR_eq];refine(JR.same (b:=b) (b':=run0 {b with row:=(nextR b.m row).1} _) rfl rfl rfl).trans (jr_each (f:=goJob) (fun c x hx=>?_) _ _);exact(JR.same (b:=c) (b':={c with stops:=some (x.at_.foldl sAdd (c.stops.getD [])),orders:=c.orders++x.at_.map fun n=>((n,{kind:=5,gen:=c.gen,job:=x.id}):Od)}) rfl rfl rfl).trans (jr_set (b:={c with stops:=some (x.at_.foldl sAdd (c.stops.getD [])),orders:=c.orders++x.at_.map fun n=>((n,{kind:=5,gen:=c.gen,job:=x.id}):Od)}) (y:={x with ran:=some []}) hx rfl (fun e=>e) (fun h e=>h e))
  ·exact jr_start b i _
theorem jr_work (b:Br):JR b (workR b):=by
 have h1:=jr_each (f:=leaveJ) (fun c x hx=>by
  unfold leaveJ
  split
  ·exact jr_drop hx rfl (fun e=>e) true
  ·exact .refl c) b.ids b
 have h2:=h1.trans (jr_place (zsR (each leaveJ b b.ids)) _);have h3:=h2.trans (jr_preempt _);have h4:=h3.trans (JR.same (b':=rep (preemptR (placeUp (each leaveJ b b.ids) (zsR (each leaveJ b b.ids))))) rfl rfl rfl);have h5:=h4.trans (jr_each (f:=saveR) (fun _ x hx=>jr_save (y:=x) hx rfl rfl rfl) (rep (preemptR (placeAll (each leaveJ b b.ids)))).ids _);exact h5.trans (jr_start _ _ _)
structure DI (b:Br) (dn:List Nat) (next:Nat):Prop where
 srt:JsOk b.js
 nd:(dn++b.done).Nodup
 old:∀id∈dn++b.done,∀x,getJ b.js id=some x→x.done=true
 lt:∀x∈b.js,x.id<next
 ltd:∀id∈dn++b.done,id<next
 ag:Ag b
theorem DI.jr {b b':Br} {dn:List Nat} {next:Nat} (h:DI b dn next) (k:JR b b') (hs:JsOk b'.js):DI b' dn next:=by
 obtain⟨⟨k1,_⟩,k2,k3⟩:=k h.ag
 refine⟨hs,by rw[k1];exact h.nd,fun id hid z hz=>?_,fun z hz=>?_,by rw[k1];exact h.ltd,k2⟩
 ·rw[k1]at hid;obtain⟨z1,z2⟩:=getJ_some hz;obtain⟨x,x1,x2,x3⟩:=k3 z z1;exact x3 (h.old id hid x (by rw[←z2,x2];exact getJ_mem h.srt x1))
 ·obtain⟨x,x1,x2,_⟩:=k3 z hz;rw[x2];exact h.lt x x1
theorem finish_DI {b:Br} {dn:List Nat} {next:Nat} (h:DI b dn next) {x y:Bj} (hx:getJ b.js x.id=some x) (hid:y.id=x.id) (hd:y.done=x.done) (ha:y.again=x.again) (hs:JsOk (finishR b y).js):DI (finishR b y) dn next:=by
 unfold finishR at hs ⊢
 split at hs
 ·rename_i hc;rw[if_pos hc];exact h.jr (jr_set hx hid (fun e=>hd.trans e) (fun k e=>ha.trans (k (hd.symm.trans e)))) hs
 ·rename_i hc;rw[if_neg hc];have hnd:y.done≠true:=fun e=>hc (.inr e);obtain⟨b1,hb1⟩:∃b1:Br,b1={b with done:=b.done++[y.id]}:=⟨_,rfl⟩;rw[←hb1]at hs ⊢;have hx1:getJ b1.js x.id=some x:=by rw[hb1];exact hx
  have hno:y.id∉dn++b.done:=fun e=>hnd (by rw[hd];exact h.old y.id e x (by rw[hid];exact hx));have hag:Ag b1:=by rw[hb1];exact h.ag
  obtain⟨⟨k1,_⟩,k2,k3⟩:=jr_drop (y:={y with done:=true}) hx1 hid (fun _=>rfl) false hag;have e1:b1.done=b.done++[y.id]:=by rw[hb1]
  have e2:b1.js=b.js:=by rw[hb1]
  have hdone:dn++(dropR b1 {y with done:=true} false).done=(dn++b.done)++[y.id]:=by rw[k1,e1,List.append_assoc]
  have key:∀z∈(dropR b1 {y with done:=true} false).js,z.id=y.id→z.done=true:=fun z hz e=>by
   have g:∀(c:Br) (d:List Nat),c.js=b.js→z∈(goneR c (dropX {y with done:=true} false d)).js→z.done=true:=fun c d ec hz=>by
    unfold goneR at hz
    split at hz
    ·split at hz
     ·rename_i ha2;exact absurd ha2 (by show ¬(false&&!true)=true;decide)
     ·have:=(List.mem_filter.1 (show z∈rmJ c.js y.id from hz)).2;exact absurd e (by simpa using this)
    ·rcases setJ_mem (show z∈setJ c.js _ from hz) with rfl | ⟨_,k⟩
     ·rfl
     ·exact absurd e k
   cases hdr:y.drops with
   | some d=>
    rw[drop_some (x:={y with done:=true}) hdr]at hz;exact g b1 d e2 hz
   | none=>
    rw[drop_none (x:={y with done:=true}) hdr]at hz;refine g _ _ ?_ hz;exact e2
  refine⟨hs,?_,fun id hi z hz=>?_,fun z hz=>?_,?_,k2⟩
  ·rw[hdone];exact List.nodup_append.2 ⟨h.nd,List.nodup_cons.2 ⟨by simp,List.nodup_nil⟩,fun a h1 c h2 e=>hno (by rw[←List.mem_singleton.1 h2,←e];exact h1)⟩
  ·rw[hdone]at hi;obtain⟨z1,z2⟩:=getJ_some hz
   rcases List.mem_append.1 hi with hi | hi
   ·obtain⟨w,w1,w2,w3⟩:=k3 z z1;rw[e2]at w1;exact w3 (h.old id hi w (by rw[←z2,w2];exact getJ_mem h.srt w1))
   ·exact key z z1 (z2.trans (List.mem_singleton.1 hi))
  ·obtain⟨w,w1,w2,_⟩:=k3 z hz;rw[e2]at w1;rw[w2];exact h.lt w w1
  ·rw[hdone];intro id hi
   rcases List.mem_append.1 hi with hi | hi
   ·exact h.ltd id hi
   ·rw[List.mem_singleton.1 hi,hid];exact h.lt x (getJ_some hx).1
theorem published_DI {b:Br} {dn:List Nat} {next:Nat} (h:DI b dn next) (id ver:Nat) (ok:Bool) (hs:JsOk (publishedR b id ver ok).2.js):DI (publishedR b id ver ok).2 dn next:=by
 unfold publishedR at hs ⊢;cases hg:getJ b.js id with
 | none=>exact h
 | some x=>
  rw[hg]at hs;simp only at hs ⊢
  split at hs
  ·exact h
  ·split at hs
   ·rename_i e2;rw[if_pos e2];exact h
   ·rename_i e2;rw[if_neg e2];exact finish_DI h (x:=x) (by rw[(getJ_some hg).2];exact hg) rfl rfl rfl hs
theorem finish_now (b:Br) {x y:Bj} (hx:getJ b.js x.id=some x) (hid:y.id=x.id) (_:y.done=x.done) (_:y.again=x.again) (hag:Ag b):(finishR b y).now=b.now:=by
 unfold finishR
 split
 ·rfl
 ·exact((jr_drop (b:={b with done:=b.done++[y.id]}) (x:=x) (y:={y with done:=true}) hx hid (fun _=>rfl) false) hag).1.2
theorem published_now {b:Br} (hag:Ag b) (id ver:Nat) (ok:Bool):(publishedR b id ver ok).2.now=b.now:=by
 unfold publishedR;cases hg:getJ b.js id with
 | none=>rfl
 | some x=>
  simp only
  split
  ·rfl
  ·split
   ·rfl
   ·exact finish_now b (x:=x) (by rw[(getJ_some hg).2];exact hg) rfl rfl rfl hag
theorem tick_DI {b:Br} {dn:List Nat} {next:Nat} (h:DI b dn next) {now:Nat} (hn:b.now<now) (hs:JsOk (tickR b now).2.js):DI (tickR b now).2 dn next∧(tickR b now).2.now=now∧(tickR b now).1=0:=by
 have h1:DI {b with now:=now} dn next:=⟨h.srt,h.nd,h.old,h.lt,h.ltd,h.ag⟩;unfold tickR at hs ⊢;rw[if_neg (by omega)]at hs ⊢
 split
 ·exact⟨h1,rfl,rfl⟩
 rename_i k2;rw[if_neg k2]at hs
 split
 ·split
  ·exact⟨⟨h.srt,h.nd,h.old,h.lt,h.ltd,h.ag⟩,rfl,rfl⟩
  ·exact⟨h1,rfl,rfl⟩
 ·rename_i k3;rw[if_neg k3]at hs;have hj:=jr_work {b with now:=now};exact⟨h1.jr hj hs,(hj h1.ag).1.2,rfl⟩
theorem done_take:∀(l:List Nat) (nd:List Nd) (dn:List Nat),(dn++l).Nodup→l.foldl doneR (nd,dn)=(nd,dn++l)
 | [],nd,dn,_=>by rw[List.append_nil];rfl
 | id::l,nd,dn,h=>by
  have hno:id∉dn:=fun e=>by
   have:=(List.nodup_append.1 h).2.2 id e id (List.mem_cons_self ..);exact this rfl
  have e:doneR (nd,dn) id=(nd,dn++[id]):=by rw[doneR,if_neg hno,sAdd,if_neg hno]
  rw[List.foldl_cons,e,done_take l nd (dn++[id]) (by rw[List.append_assoc];exact h),List.append_assoc];rfl
end BN
instance ZSl.z3 {a v:Value} {l:List Value}:ZSl (a::l) (0+0+0) v (v::l):=⟨rfl,Nat.succ_pos _⟩
namespace BN
section
variable {s:Sm} {a:Ac}
theorem sact_tick (h:a.do_=0∨a.do_=1):sactR s a=stickR s:=by rw[sactR];exact if_pos h
theorem sact_add (h:a.do_=2) (hj:s.jobs.length<20):sactR s a=sAddR s ⟨s.next,a.tier % 4,1+a.k % s.cn,1+a.w % 20⟩:=by
 rw[sactR];rw[if_neg (by omega),if_pos h,if_pos hj]
theorem sact_add0 (h:a.do_=2) (hj:¬s.jobs.length<20):sactR s a=takeR {s with ok:=s.ok&&tkB s}:=by
 rw[sactR];rw[if_neg (by omega),if_pos h,if_neg hj]
theorem sact_can (h:a.do_=3):sactR s a=sCanR s (1+a.n % max s.next 1):=by
 rw[sactR];rw[if_neg (by omega),if_neg (by omega),if_pos h]
theorem sact_lost (h:a.do_=4):sactR s a=sLostR s (a.n % s.nd.length):=by
 rw[sactR];rw[if_neg (by omega),if_neg (by omega),if_neg (by omega),if_pos h]
theorem sact_up (h:a.do_=5):sactR s a=sUpR s (a.n % s.nd.length):=by
 rw[sactR];rw[if_neg (by omega),if_neg (by omega),if_neg (by omega),if_neg (by omega),if_pos h]
theorem sact_del (h:a.do_=6∨a.do_=7∨a.do_=8∨a.do_=9):sactR s a=(deliverR s (a.n % s.nd.length) a.back).2:=by
 rw[sactR];rw[if_neg (by omega),if_neg (by omega),if_neg (by omega),if_neg (by omega),if_neg (by omega),if_pos h]
theorem sact_pub (h:a.do_=10):sactR s a=(publishR s (!a.fail)).2:=by
 rw[sactR];rw[if_neg (by omega),if_neg (by omega),if_neg (by omega),if_neg (by omega),if_neg (by omega),if_neg (by omega),if_pos h]
theorem sact_calm (h:a.do_=11):sactR s a=calmR s:=by
 rw[sactR];rw[if_neg (by omega),if_neg (by omega),if_neg (by omega),if_neg (by omega),if_neg (by omega),if_neg (by omega),if_neg (by omega),if_pos h]
theorem sact_no (h:12≤a.do_):sactR s a=s:=by
 rw[sactR];rw[if_neg (by omega),if_neg (by omega),if_neg (by omega),if_neg (by omega),if_neg (by omega),if_neg (by omega),if_neg (by omega),if_neg (by omega)]
end
theorem jo_put {js:List Jo} {j:Jo} (h:∀x∈js,x.id≠j.id):alPut (j.id:Int) (.agg (joC j).toArray) (js.map joE)=(js++[j]).map joE:=by
 induction js with
 | nil=>rfl
 | cons x l ih=>
  have hx:=h x List.mem_cons_self;simp only[List.map_cons,alPut];rw[if_neg (by omega),ih fun y hy=>h y (List.mem_cons_of_mem _ hy)];rfl
abbrev acC (a:Ac):List Value:=[.int .u8 (a.do_:Int),.int .u8 (a.n:Int),.int .u8 (a.tier:Int),.int .u8 (a.k:Int),.int .u8 (a.w:Int),.bool a.back,.bool a.fail]
structure AcOk (a:Ac):Prop where
 d:a.do_≤255
 n:a.n≤255
 t:a.tier≤255
 k:a.k≤255
 w:a.w≤255
set_option maxHeartbeats 1000000 in
theorem sact_S (p:Nat) (s:Sm) (a:Ac) (ha:AcOk a) (hn1:1≤s.nd.length) (hc1:1≤s.cn) (hc16:s.cn≤16) (hok:(sactR s a).ok=true) {W:World} (hW:TabW W):Spec Tryz.prog 20 [pt p,.agg (acC a).toArray] [SP p s,old W] fun Γ _ Θ=>Θ=SP p (sactR s a)::old W::Γ:=by
 obtain⟨a1,a2,a3,a4,a5⟩:=ha;obtain⟨T,hT⟩:∃T,T=sactR s a:=⟨_,rfl⟩;rw[←hT]at hok ⊢;refine Zbd Tryz.func20 rfl Tryz.ntmps20 fun w0 Γ=>Zsh ?_;refine S.spOpen p s fun b ps nv ns rb jb gb db wb iv dv wv hF=>?_;have hnn:=hF.nn;refine S.ownLen nv fun hv1 hv2 hv3=>?_;have hmx:maxLen≤9223372036854775807:=by unfold maxLen;omega
 obtain⟨i,hi⟩:∃i,i=a.n % nv.n:=⟨_,rfl⟩;have hil:i<s.nd.length:=by rw[hi,hnn];exact Nat.mod_lt _ hn1
 refine ZY 2 ?_;refine Zp (S.box (cs:=[_,_,_,_,_,_,_]) rfl rfl rfl ?_);intro b3;refine S.blkAs b3 (acC a).toArray rfl ?_;refine ZY 2 ?_;refine Zd0 (Zra 0 10) ?_;refine ZY 2 ?_;refine Zw ef (q_conv Tryz.it3.h (by rw[Tryz.underlying5];rfl) rfl (inI64 (by omega) (by omega))) ?_;refine ZY 5 ?_;refine Zw ef (q_rem rfl rfl (⟨by omega,by omega⟩)) ?_;refine Zy ?_;refine ZD ?_;refine Zy ?_
 refine Zc (fun ρ' Γ'=>ρ'=[(0,pt p),(3,pt b3),(4,.int .i64 (i:Int))]∧Γ'=SP p s::blk b3 46 (acC a).toArray::old W::Γ) ?_ ?_
 ·refine ZY 8 ?_;refine ZY 2 ?_;refine S.ent (lst0 s.fu _) ?_;refine S.ent (lst0 s.fu _) ?_;refine S.blkAs p (smC s b nv rb jb gb db wb iv SV.nil SV.nil).toArray rfl ?_;refine S.spClose p s b ps nv ns rb jb gb db wb iv SV.nil SV.nil hF ?_;rw[hi];exact ZM ⟨rfl,rfl⟩
 ·rintro ρ' Γ' ⟨rfl,rfl⟩;rw[hnn]at hi;refine ZY 8 ?_;refine ZY 4 ?_
  refine Zc (fun ρ' Γ'=>ρ'=[(0,pt p),(3,pt b3),(4,.int .i64 (i:Int)),(24,.int .u8 (a.do_:Int)),(25,.bool (decide (a.do_=0∨a.do_=1)))]∧Γ'=SP p s::blk b3 46 (acC a).toArray::old W::Γ) ?_ ?_
  ·refine Zj ef (fun h1=>?_) (fun h1=>?_)
   ·refine Zy ?_;first | (rw[show decide (a.do_=0∨a.do_=1)=decide ((a.do_:Int)=0) from decide_eq_decide.2 (by omega)];exact S.meet ⟨rfl,rfl⟩ ⟨rfl,rfl,rfl,rfl,rfl,trivial⟩ Sub.ent) | (rw[show decide (a.do_=0∨a.do_=1)=decide ((a.do_:Int)=1) from decide_eq_decide.2 (by omega)];exact S.meet ⟨rfl,rfl⟩ ⟨rfl,rfl,rfl,rfl,rfl,trivial⟩ Sub.ent)
   ·refine ZY 4 ?_;first | (rw[show decide (a.do_=0∨a.do_=1)=decide ((a.do_:Int)=0) from decide_eq_decide.2 (by omega)];exact S.meet ⟨rfl,rfl⟩ ⟨rfl,rfl,rfl,rfl,rfl,trivial⟩ Sub.ent) | (rw[show decide (a.do_=0∨a.do_=1)=decide ((a.do_:Int)=1) from decide_eq_decide.2 (by omega)];exact S.meet ⟨rfl,rfl⟩ ⟨rfl,rfl,rfl,rfl,rfl,trivial⟩ Sub.ent)
  ·rintro ρ' Γ' ⟨rfl,rfl⟩
   refine Zj ef (fun h2=>?_) (fun h2=>?_)
   ·rw[sact_tick h2]at hT;refine ZY 2 ?_;refine Zp (Zc1 Ze (stick_S p s (stB_ok (stick_ok (by rw[←hT];exact hok)).2) hW) ?_);rintro v Θ rfl;refine Zy ?_;exact Zfn ef Zq (by rw[hT])
   ·refine ZY 5 ?_
    refine Zj ef (fun h3=>?_) (fun h3=>?_)
    ·have hdo:a.do_=2:=by omega
     refine S.spOpen p s fun b ps nv ns rb jb gb db wb iv dv wv hF=>?_;obtain⟨j,hj⟩:∃j:Jo,j=⟨s.next,a.tier % 4,1+a.k % s.cn,1+a.w % 20⟩:=⟨_,rfl⟩;have hm1:=Int.emod_lt_of_pos (a.k:Int) (show (0:Int)<s.cn by omega);have hm2:=Int.emod_nonneg (a.k:Int) (show (s.cn:Int)≠0 by omega);refine Zy ?_;refine Zd ([blk p 55 (smC s b nv rb jb gb db wb iv dv wv).toArray,blk b3 46 (acC a).toArray]) [] (Zra 0 23) ?_;refine ZY 6 ?_;refine Zw ef (q_rem rfl rfl (⟨by omega,by omega⟩)) ?_;refine ZY 2 ?_;refine Zw ef (q_conv Tryz.it3.h (by rw[Tryz.underlying5];rfl) rfl (inI64 (by omega) (by omega))) ?_;refine ZY 5 ?_;refine Zw ef (q_rem rfl rfl (⟨by omega,by omega⟩)) ?_;refine Zw ef (Za ef ef) ?_;refine ZY 2 ?_;refine Zw ef (q_rem rfl rfl (⟨by omega,by omega⟩)) ?_;refine Zw ef (q_conv Tryz.it3.h (by rw[Tryz.underlying5];rfl) rfl (inI64 (by omega) (by omega))) ?_;refine Zw ef (Za ef ef) ?_;refine Zw ef (q_build (pvs:=[(_,_),(_,_),(_,_),(_,_)]) [_,_,_,_,_,_] Tryz.z35.h Tryz.p35.h ⟨⟨rfl,rfl⟩,⟨rfl,rfl⟩,⟨rfl,rfl⟩,⟨rfl,rfl⟩,trivial⟩ rfl) ?_;refine Z1 (i:=23) ef ef ?_;refine(S.alloc Tryz.z35.h rfl ?_);intro b5;refine Zk [] ?_;refine Z1 (i:=24) ef ef ?_;refine  (Zs ef ef (cs':=[_,_,_,_,_,_]) ef ?_);refine Zk [] ?_;refine ZD ?_;refine ZY 2 ?_
     rcases Nat.lt_or_ge s.jobs.length 20 with hj20 | hj20
     ·refine S.blkAs b5 (joC j).toArray (by rw[hj];rfl) ?_;rw[sact_add hdo hj20,←hj]at hT;have hok1:=hok;rw[hT,sAddR,takeR_ok]at hok1;simp only[Bool.and_eq_true]at hok1;obtain⟨⟨k1,k2⟩,k3⟩:=hok1;simp only[addB,Bool.and_eq_true,decide_eq_true_eq,List.all_eq_true]at k2;obtain⟨⟨⟨⟨⟨e1,e2⟩,e3⟩,e4⟩,e5⟩,e6⟩:=k2;obtain⟨s3,hs3⟩:∃s3:Sm,s3={add1 s j with ok:=s.ok&&addB s j&&tkB (add1 s j)}:=⟨_,rfl⟩;have hk3:TkOk s3:=by rw[hs3];exact(tkB_ok k3).withOk _
      replace hT:T=takeR s3:=by rw[hT,sAddR,hs3]
      refine Zd ([blk p 55 (smC s b nv rb jb gb db wb iv dv wv).toArray,blk b5 35 (joC j).toArray,mapL jb .u32 (s.jobs.map joE)]) [] (Zra 0 7) ?_;refine ZY 7 ?_;refine Zu 61 true ef ((decide_eq_true (by rw[List.length_map];omega))) ?_;refine Zr (Zra 7 5) ?_;refine ZY 5 ?_;refine Z1g (i:=12) ef ef ef ef ef (rfl) ?_;refine  (Zc1 Ze (Add_S b s.b ps j.id j.tier j.k j.w 0 0 0 (by rw[hj];show s.next≤_;omega) e1 e2 e3 e4) ?_);rintro v Θ ⟨ps2,rfl,rfl⟩;refine Zk [13,14] ?_;refine ZY 2 ?_;refine ZD ?_
      refine Zj ef (fun h4=>?_) (fun h4=>?_)
      ·refine Zy ?_;refine Zd ([blk p 55 (smC s b nv rb jb gb db wb iv dv wv).toArray,blk b5 35 (joC j).toArray]) [] (Zra 0 7) ?_;refine ZY 7 ?_;refine Z1 (i:=7) ef ef ?_;refine(S.mapUpdate Tryz.underlying49 Tryz.underlying31 rfl rfl rfl rfl ?_);rw[jo_put (fun x hx=>e5 x hx)];refine Zk [] ?_;refine ZD ?_;refine ZY 5 ?_;refine Zv (Za ef ef) ?_;refine ZY 4 ?_;have hs4:s3={s with b:=(addR s.b (newJ j.id j.tier j.k j.w 0 0)).2,jobs:=s.jobs++[j],next:=s.next+1,ok:=s.ok&&addB s j&&tkB (add1 s j)}:=by rw[hs3];simp only[add1,if_pos h4]
       refine S.blkAs p (smC s3 b nv rb jb gb db wb iv dv wv).toArray (by rw[hs4];rfl) ?_;refine S.sub (smX p s3 b ps2 nv ns rb jb gb db wb iv dv wv (old W::Γ)) (e:=by rw[hs4];infer_instance) ?_;refine S.spClose p s3 b ps2 nv ns rb jb gb db wb iv dv wv ⟨by rw[hs4];exact hF.nd,by rw[hs4];exact hF.nn,by rw[hs4];exact hF.im⟩ ?_;refine ZY 2 ?_;refine Zp (Zc1 Ze (take_S p s3 hk3) ?_);rintro v Θ rfl;refine Zy ?_;exact Zfn ef Zq (by rw[hT])
      ·refine Zy ?_;have hs4:s3={s with b:=(addR s.b (newJ j.id j.tier j.k j.w 0 0)).2,ok:=s.ok&&addB s j&&tkB (add1 s j)}:=by rw[hs3];simp only[add1,if_neg h4]
       refine S.sub (smX p s3 b ps2 nv ns rb jb gb db wb iv dv wv (old W::Γ)) (e:=by rw[hs4];infer_instance) ?_;refine S.spClose p s3 b ps2 nv ns rb jb gb db wb iv dv wv ⟨by rw[hs4];exact hF.nd,by rw[hs4];exact hF.nn,by rw[hs4];exact hF.im⟩ ?_;refine ZY 2 ?_;refine Zp (Zc1 Ze (take_S p s3 hk3) ?_);rintro v Θ rfl;refine Zy ?_;exact Zfn ef Zq (by rw[hT])
     ·refine S.blkAs b5 (joC j).toArray (by rw[hj];rfl) ?_;rw[sact_add0 hdo (by omega)]at hT;have hok1:=hok;rw[hT,takeR_ok]at hok1;simp only[Bool.and_eq_true]at hok1;obtain⟨k1,k3⟩:=hok1;obtain⟨s3,hs3⟩:∃s3:Sm,s3={s with ok:=s.ok&&tkB s}:=⟨_,rfl⟩;have hk3:TkOk s3:=by rw[hs3];exact(tkB_ok k3).withOk _
      replace hT:T=takeR s3:=by rw[hT,hs3]
      refine Zd ([blk p 55 (smC s b nv rb jb gb db wb iv dv wv).toArray,blk b5 35 (joC j).toArray,mapL jb .u32 (s.jobs.map joE)]) [] (Zra 0 7) ?_;refine ZY 7 ?_;refine Zu 61 false ef ((decide_eq_false (by rw[List.length_map];omega))) ?_;refine Zr (Zra 7 8) ?_;refine ZY 8 ?_;refine ZD ?_;refine ZY 4 ?_;refine S.sub (smX p s3 b ps nv ns rb jb gb db wb iv dv wv (old W::Γ)) (e:=by rw[hs3];infer_instance) ?_;refine S.spClose p s3 b ps nv ns rb jb gb db wb iv dv wv ⟨by rw[hs3];exact hF.nd,by rw[hs3];exact hF.nn,by rw[hs3];exact hF.im⟩ ?_;refine Zp (Zc1 Ze (take_S p s3 hk3) ?_);rintro v Θ rfl;refine Zy ?_;exact Zfn ef Zq (by rw[hT])
    ·refine ZY 5 ?_
     refine Zj ef (fun h5=>?_) (fun h5=>?_)
     ·have hdo:a.do_=3:=by omega
      refine S.spOpen p s fun b ps nv ns rb jb gb db wb iv dv wv hF=>?_;obtain⟨id,hid⟩:∃id,id=1+a.n % max s.next 1:=⟨_,rfl⟩;have hm3:(a.n:Int) % ((max s.next 1:Nat):Int)=((a.n % max s.next 1:Nat):Int):=rfl;have hm4:=Nat.mod_le a.n (max s.next 1);rw[sact_can hdo,←hid]at hT;have hok1:=hok;rw[hT,sCanR,takeR_ok]at hok1;simp only[Bool.and_eq_true,decide_eq_true_eq]at hok1;obtain⟨⟨k1,k2⟩,k3⟩:=hok1;obtain⟨s3,hs3⟩:∃s3:Sm,s3={can1 s id with ok:=s.ok&&decide (s.b.orders.length≤900000)&&tkB (can1 s id)}:=⟨_,rfl⟩;have hk3:TkOk s3:=by rw[hs3];exact(tkB_ok k3).withOk _
      replace hT:T=takeR s3:=by rw[hT,sCanR,hs3]
      refine Zy ?_
      refine Zc (fun ρ' Γ'=>ρ'=[(0,pt p),(6,.int .u32 (id:Int))]∧Γ'=smX p s b ps nv ns rb jb gb db wb iv dv wv (old W::Γ)) ?_ ?_
      ·refine Zd0 (Zra 0 11) ?_;refine ZY 2 ?_;refine Zw ef (q_conv Tryz.it31.h (by rw[Tryz.underlying5];rfl) rfl (inU32 (by omega) (by omega))) ?_;refine ZY 4 ?_;refine Zw ef (q_max (((max s.next 1:Nat):Int)) rfl rfl (by omega)) ?_;refine Zw ef (q_rem rfl rfl (⟨by omega,by omega⟩)) ?_;refine Zw ef (Za ef ef) ?_;refine Zy ?_;refine ZD ?_;rw[hid];exact ZM ⟨rfl,rfl⟩
      ·rintro ρ' Γ' ⟨rfl,rfl⟩;refine ZY 8 ?_;refine Zp (Zcp Ze (Cancel_S b s.b ps id k2) ?_);refine ZY 2 ?_
       refine Zj ef (fun h6=>?_) (fun h6=>?_)
       ·refine ZY 6 ?_;refine Zp (S.mapUpdate Tryz.underlying50 Tryz.underlying31 rfl rfl rfl rfl ?_);rw[setT_put];refine Zy ?_;have hs4:s3={s with b:=(cancelR s.b id).2,gone:=sAdd s.gone id,ok:=s.ok&&decide (s.b.orders.length≤900000)&&tkB (can1 s id)}:=by rw[hs3];simp only[can1,if_pos h6]
        refine S.sub (smX p s3 b ps nv ns rb jb gb db wb iv dv wv (old W::Γ)) (e:=by rw[hs4];infer_instance) ?_;refine S.spClose p s3 b ps nv ns rb jb gb db wb iv dv wv ⟨by rw[hs4];exact hF.nd,by rw[hs4];exact hF.nn,by rw[hs4];exact hF.im⟩ ?_;refine ZY 2 ?_;refine Zp (Zc1 Ze (take_S p s3 hk3) ?_);rintro v Θ rfl;refine Zy ?_;exact Zfn ef Zq (by rw[hT])
       ·refine Zy ?_;have hs4:s3={s with b:=(cancelR s.b id).2,ok:=s.ok&&decide (s.b.orders.length≤900000)&&tkB (can1 s id)}:=by rw[hs3];simp only[can1,if_neg h6]
        refine S.sub (smX p s3 b ps nv ns rb jb gb db wb iv dv wv (old W::Γ)) (e:=by rw[hs4];infer_instance) ?_;refine S.spClose p s3 b ps nv ns rb jb gb db wb iv dv wv ⟨by rw[hs4];exact hF.nd,by rw[hs4];exact hF.nn,by rw[hs4];exact hF.im⟩ ?_;refine ZY 2 ?_;refine Zp (Zc1 Ze (take_S p s3 hk3) ?_);rintro v Θ rfl;refine Zy ?_;exact Zfn ef Zq (by rw[hT])
     ·refine ZY 5 ?_
      refine Zj ef (fun h7=>?_) (fun h7=>?_)
      ·have hdo:a.do_=4:=by omega
       rw[sact_lost hdo,←hi]at hT;refine S.spOpen p s fun b ps nv ns rb jb gb db wb iv dv wv hF=>?_;have hnn:=hF.nn;obtain⟨n,hn⟩:=getE hil;obtain⟨q,hq⟩:=ns_at hF.nd hn;refine S.ownSome nv (by omega) fun nb nof hna _ _ _=>?_;refine ZY 7 ?_;refine Zv (Zx (i) ef (hna) ef (by omega)) ?_;refine Zv (Zo (nv) (i) ef (hna) (by rw[List.getElem?_map,hq];rfl)) ?_;refine ZY 4 ?_;refine S.conv (alls ns noB) (Ent.allsAt noB hq _) ?_;refine S.niOpen q n fun nrb niv nov rs os hN=>?_;refine ZY 5 ?_
       refine Zi ef (fun h8=>?_) (fun h8=>?_)
       ·have hup:n.up=true:=h8;rw[sLostR,hn]at hT;dsimp only at hT;rw[if_pos hup]at hT;have hok1:=hok;rw[hT,takeR_ok]at hok1;simp only[Bool.and_eq_true,decide_eq_true_eq]at hok1;obtain⟨⟨k1,k2⟩,k3⟩:=hok1;obtain⟨s3,hs3⟩:∃s3:Sm,s3={lost1 s i n with ok:=s.ok&&decide (s.b.orders.length≤800000)&&tkB (lost1 s i n)}:=⟨_,rfl⟩;have hk3:TkOk s3:=by rw[hs3];exact(tkB_ok (s:=lost1 s i n) k3).withOk _
        rw[←hs3]at hT;obtain⟨m1,m2⟩:=ns_set hq ⟨false,[],[],[],n.wrong⟩;rw[hF.nd]at m2;refine ZY 3 ?_;refine Zp (S.makeMap .u32 rfl ?_);intro b126;refine ZY 4 ?_;refine Zv (q_build (pvs:=[(_,_),(_,_)]) [_,_,_,_,_] Tryz.z107.h Tryz.p107.h ⟨⟨rfl,rfl⟩,⟨rfl,rfl⟩,trivial⟩ rfl) ?_;refine Zy ?_;refine Zp (Zs ef ef (cs':=[_,_,_,_,_]) ef ?_);refine ZY 8 ?_;refine Zp (Zcp Ze (Lost_S b s.b ps i k2) ?_);refine S.conv2 (blk q 107 #[.bool false,.map (some b126),SV.nil.v,SV.nil.v,.bool n.wrong]) (mapL b126 .u32 []) (niE q b126 false n.wrong _) ?_;refine S.conv3 (noB ((q,⟨false,[],[],[],n.wrong⟩):No)) (alls (ns.take i) noB) (alls (ns.drop (i+1)) noB) (Ent.allsBack noB (x':=((q,⟨false,[],[],[],n.wrong⟩):No)) hq _) ?_;rw[←m1];refine S.sub (smX p s3 b ps nv (ns.set i (q,⟨false,[],[],[],n.wrong⟩)) rb jb gb db wb iv dv wv (old W::Γ)) (e:=by rw[hs3];infer_instance) ?_;refine S.spClose p s3 b ps nv (ns.set i (q,⟨false,[],[],[],n.wrong⟩)) rb jb gb db wb iv dv wv ⟨by rw[hs3];exact m2,by rw[hs3];show nv.n=(s.nd.set i _).length;rw[List.length_set];exact hnn,by rw[hs3];exact hF.im⟩ ?_;refine ZY 3 ?_;refine Zp (Zc1 Ze (take_S p s3 hk3) ?_);rintro v Θ rfl;refine Zy ?_;exact Zfn ef Zq (by rw[hT])
       ·have hup:n.up=false:=by simpa using h8
        rw[sLostR,hn]at hT;dsimp only at hT;rw[if_neg (by rw[hup];decide)]at hT;refine S.niClose q n nrb niv nov rs os hN ?_;refine S.conv3 (noB ((q,n):No)) (alls (ns.take i) noB) (alls (ns.drop (i+1)) noB) (Ent.allsBack' noB hq _) ?_;refine S.spClose p s b ps nv ns rb jb gb db wb iv dv wv hF ?_;refine Zy ?_;exact Zfn ef Zq (by rw[hT])
      ·refine ZY 5 ?_
       refine Zj ef (fun h9=>?_) (fun h9=>?_)
       ·have hdo:a.do_=5:=by omega
        rw[sact_up hdo,←hi]at hT;refine S.spOpen p s fun b ps nv ns rb jb gb db wb iv dv wv hF=>?_;have hnn:=hF.nn;obtain⟨n,hn⟩:=getE hil;obtain⟨q,hq⟩:=ns_at hF.nd hn;refine S.ownSome nv (by omega) fun nb nof hna _ _ _=>?_;refine ZY 7 ?_;refine Zv (Zx (i) ef (hna) ef (by omega)) ?_;refine Zv (Zo (nv) (i) ef (hna) (by rw[List.getElem?_map,hq];rfl)) ?_;refine S.conv (alls ns noB) (Ent.allsAt noB hq _) ?_;refine S.niOpen q n fun nrb niv nov rs os hN=>?_;refine ZY 5 ?_
        refine Zi ef (fun h10=>?_) (fun h10=>?_)
        ·have hup:n.up=false:=by simpa using h10
         rw[sUpR,hn]at hT;dsimp only at hT;rw[if_neg (by rw[hup];decide)]at hT;have hok1:=hok;rw[hT,takeR_ok]at hok1;simp only[Bool.and_eq_true]at hok1;obtain⟨k1,k3⟩:=hok1;obtain⟨s3,hs3⟩:∃s3:Sm,s3={up1 s i n with ok:=s.ok&&tkB (up1 s i n)}:=⟨_,rfl⟩;have hk3:TkOk s3:=by rw[hs3];exact(tkB_ok (s:=up1 s i n) k3).withOk _
         rw[←hs3]at hT;obtain⟨m1,m2⟩:=ns_set hq {n with up:=true};rw[hF.nd]at m2;refine ZY 7 ?_;refine Zv (Zx (i) ef (hna) ef (by omega)) ?_;refine Zv (Zo (nv) (i) ef (hna) (by rw[List.getElem?_map,hq];rfl)) ?_;refine ZY 8 ?_;refine ZY 3 ?_;refine Zp (Zcp Ze (Up_S b s.b ps i) ?_);refine S.niClose q {n with up:=true} nrb niv nov rs os ⟨hN.rk,hN.os,hN.i,hN.o⟩ ?_;refine S.conv3 (noB ((q,{n with up:=true}):No)) (alls (ns.take i) noB) (alls (ns.drop (i+1)) noB) (Ent.allsBack noB (x':=((q,{n with up:=true}):No)) hq _) ?_;rw[←m1];refine S.sub (smX p s3 b ps nv (ns.set i (q,{n with up:=true})) rb jb gb db wb iv dv wv (old W::Γ)) (e:=by rw[hs3];infer_instance) ?_;refine S.spClose p s3 b ps nv (ns.set i (q,{n with up:=true})) rb jb gb db wb iv dv wv ⟨by rw[hs3];exact m2,by rw[hs3];show nv.n=(s.nd.set i _).length;rw[List.length_set];exact hnn,by rw[hs3];exact hF.im⟩ ?_;refine ZY 3 ?_;refine Zp (Zc1 Ze (take_S p s3 hk3) ?_);rintro v Θ rfl;refine Zy ?_;exact Zfn ef Zq (by rw[hT])
        ·have hup:n.up=true:=by simpa using h10
         rw[sUpR,hn]at hT;dsimp only at hT;rw[if_pos hup]at hT;refine S.niClose q n nrb niv nov rs os hN ?_;refine S.conv3 (noB ((q,n):No)) (alls (ns.take i) noB) (alls (ns.drop (i+1)) noB) (Ent.allsBack' noB hq _) ?_;refine S.spClose p s b ps nv ns rb jb gb db wb iv dv wv hF ?_;refine Zy ?_;exact Zfn ef Zq (by rw[hT])
       ·refine ZY 6 ?_
        refine Zc (fun ρ' Γ'=>ρ'=[(0,pt p),(3,pt b3),(4,.int .i64 (i:Int)),(24,.int .u8 (a.do_:Int)),(171,.bool (decide (a.do_=6∨a.do_=7∨a.do_=8∨a.do_=9)))]∧Γ'=SP p s::blk b3 46 (acC a).toArray::old W::Γ) ?_ ?_
        ·refine Zj ef (fun h11=>?_) (fun h11=>?_)
         ·refine Zy ?_;first | (rw[show decide (a.do_=6∨a.do_=7∨a.do_=8∨a.do_=9)=decide ((a.do_:Int)=6) from decide_eq_decide.2 (by omega)];exact S.meet ⟨rfl,rfl⟩ ⟨rfl,rfl,rfl,rfl,rfl,trivial⟩ Sub.ent) | (rw[show decide (a.do_=6∨a.do_=7∨a.do_=8∨a.do_=9)=decide ((a.do_:Int)=7) from decide_eq_decide.2 (by omega)];exact S.meet ⟨rfl,rfl⟩ ⟨rfl,rfl,rfl,rfl,rfl,trivial⟩ Sub.ent) | (rw[show decide (a.do_=6∨a.do_=7∨a.do_=8∨a.do_=9)=decide ((a.do_:Int)=8) from decide_eq_decide.2 (by omega)];exact S.meet ⟨rfl,rfl⟩ ⟨rfl,rfl,rfl,rfl,rfl,trivial⟩ Sub.ent) | (rw[show decide (a.do_=6∨a.do_=7∨a.do_=8∨a.do_=9)=decide ((a.do_:Int)=9) from decide_eq_decide.2 (by omega)];exact S.meet ⟨rfl,rfl⟩ ⟨rfl,rfl,rfl,rfl,rfl,trivial⟩ Sub.ent)
         ·refine ZY 5 ?_
          refine Zj ef (fun h12=>?_) (fun h12=>?_)
          ·refine Zy ?_;first | (rw[show decide (a.do_=6∨a.do_=7∨a.do_=8∨a.do_=9)=decide ((a.do_:Int)=6) from decide_eq_decide.2 (by omega)];exact S.meet ⟨rfl,rfl⟩ ⟨rfl,rfl,rfl,rfl,rfl,trivial⟩ Sub.ent) | (rw[show decide (a.do_=6∨a.do_=7∨a.do_=8∨a.do_=9)=decide ((a.do_:Int)=7) from decide_eq_decide.2 (by omega)];exact S.meet ⟨rfl,rfl⟩ ⟨rfl,rfl,rfl,rfl,rfl,trivial⟩ Sub.ent) | (rw[show decide (a.do_=6∨a.do_=7∨a.do_=8∨a.do_=9)=decide ((a.do_:Int)=8) from decide_eq_decide.2 (by omega)];exact S.meet ⟨rfl,rfl⟩ ⟨rfl,rfl,rfl,rfl,rfl,trivial⟩ Sub.ent) | (rw[show decide (a.do_=6∨a.do_=7∨a.do_=8∨a.do_=9)=decide ((a.do_:Int)=9) from decide_eq_decide.2 (by omega)];exact S.meet ⟨rfl,rfl⟩ ⟨rfl,rfl,rfl,rfl,rfl,trivial⟩ Sub.ent)
          ·refine ZY 5 ?_
           refine Zj ef (fun h13=>?_) (fun h13=>?_)
           ·refine Zy ?_;first | (rw[show decide (a.do_=6∨a.do_=7∨a.do_=8∨a.do_=9)=decide ((a.do_:Int)=6) from decide_eq_decide.2 (by omega)];exact S.meet ⟨rfl,rfl⟩ ⟨rfl,rfl,rfl,rfl,rfl,trivial⟩ Sub.ent) | (rw[show decide (a.do_=6∨a.do_=7∨a.do_=8∨a.do_=9)=decide ((a.do_:Int)=7) from decide_eq_decide.2 (by omega)];exact S.meet ⟨rfl,rfl⟩ ⟨rfl,rfl,rfl,rfl,rfl,trivial⟩ Sub.ent) | (rw[show decide (a.do_=6∨a.do_=7∨a.do_=8∨a.do_=9)=decide ((a.do_:Int)=8) from decide_eq_decide.2 (by omega)];exact S.meet ⟨rfl,rfl⟩ ⟨rfl,rfl,rfl,rfl,rfl,trivial⟩ Sub.ent) | (rw[show decide (a.do_=6∨a.do_=7∨a.do_=8∨a.do_=9)=decide ((a.do_:Int)=9) from decide_eq_decide.2 (by omega)];exact S.meet ⟨rfl,rfl⟩ ⟨rfl,rfl,rfl,rfl,rfl,trivial⟩ Sub.ent)
           ·refine ZY 4 ?_;first | (rw[show decide (a.do_=6∨a.do_=7∨a.do_=8∨a.do_=9)=decide ((a.do_:Int)=6) from decide_eq_decide.2 (by omega)];exact S.meet ⟨rfl,rfl⟩ ⟨rfl,rfl,rfl,rfl,rfl,trivial⟩ Sub.ent) | (rw[show decide (a.do_=6∨a.do_=7∨a.do_=8∨a.do_=9)=decide ((a.do_:Int)=7) from decide_eq_decide.2 (by omega)];exact S.meet ⟨rfl,rfl⟩ ⟨rfl,rfl,rfl,rfl,rfl,trivial⟩ Sub.ent) | (rw[show decide (a.do_=6∨a.do_=7∨a.do_=8∨a.do_=9)=decide ((a.do_:Int)=8) from decide_eq_decide.2 (by omega)];exact S.meet ⟨rfl,rfl⟩ ⟨rfl,rfl,rfl,rfl,rfl,trivial⟩ Sub.ent) | (rw[show decide (a.do_=6∨a.do_=7∨a.do_=8∨a.do_=9)=decide ((a.do_:Int)=9) from decide_eq_decide.2 (by omega)];exact S.meet ⟨rfl,rfl⟩ ⟨rfl,rfl,rfl,rfl,rfl,trivial⟩ Sub.ent)
        ·rintro ρ' Γ' ⟨rfl,rfl⟩
         refine Zj ef (fun h14=>?_) (fun h14=>?_)
         ·rw[sact_del h14,←hi]at hT;refine ZY 5 ?_;refine Zp (Zcp Ze (deliver_S p s i a.back hil (by rw[←hT];exact hok)) ?_);refine Zy ?_;exact Zfn ef Zq (by rw[hT])
         ·refine ZY 5 ?_
          refine Zj ef (fun h15=>?_) (fun h15=>?_)
          ·rw[sact_pub (by omega)]at hT;refine ZY 5 ?_;refine Zp (Zcp Ze (publish_S p s (!a.fail) (by rw[←hT];exact hok)) ?_);refine Zy ?_;exact Zfn ef Zq (by rw[hT])
          ·refine ZY 5 ?_
           refine Zj ef (fun h16=>?_) (fun h16=>?_)
           ·rw[sact_calm (by omega)]at hT;refine ZY 2 ?_;refine Zp (Zc1 Ze (calm_S p s (by rw[←hT];exact hok) hW) ?_);rintro v Θ rfl;refine Zy ?_;exact Zfn ef Zq (by rw[hT])
           ·rw[sact_no (by omega)]at hT;refine Zy ?_;exact Zfn ef Zq (by rw[hT])
structure NB (now:Nat) (n:Nd):Prop where
 i:∀x∈n.inn,x.rank≤255
 r:∀y∈n.rk,y.2.place≤255∧y.2.frm≤now∧y.2.til≤now
 o:∀x∈n.out,x.1.rank≤255∧x.1.frm≤now∧x.1.til≤now∧x.2.length≤1000000
theorem NB.mono {a b:Nat} {n:Nd} (h:NB a n) (hab:a≤b):NB b n:=⟨h.i,fun y hy=>by have:=h.r y hy;omega,fun x hx=>by have:=h.o x hx;omega⟩
theorem NB.act {now:Nat} {n:Nd} {x:Nt} (h:NB now n) (hx:x.rank≤255):NB now (actR n x):=by
 have hr:∀ {k:Nat} {r:Rk},nGet k n.rk=some r→r.place≤255∧r.frm≤now∧r.til≤now:=fun hg=>h.r _ (nGet_mem hg)
 have ho:∀ {y:Nt×List Int},(y.1.rank≤255∧y.1.frm≤now∧y.1.til≤now∧y.2.length≤1000000)→∀z∈n.out++[y],z.1.rank≤255∧z.1.frm≤now∧z.1.til≤now∧z.2.length≤1000000:=fun {y} hy z hz=>by
  rcases List.mem_append.1 hz with hz | hz
  ·exact h.o z hz
  ·rw[List.mem_singleton.1 hz];exact hy
 have hp:∀ {k:Nat} {r:Rk},(r.place≤255∧r.frm≤now∧r.til≤now)→∀y∈nPut k r n.rk,y.2.place≤255∧y.2.frm≤now∧y.2.til≤now:=fun {k r} hy y hz=>by
  rcases mem_nPut hz with rfl | hz
  ·exact hy
  ·exact h.r y hz
 unfold actR
 split
 ·exact⟨h.i,hp ⟨hx,Nat.zero_le _,Nat.zero_le _⟩,ho ⟨Nat.zero_le _,Nat.zero_le _,Nat.zero_le _,Nat.zero_le _⟩⟩
 split
 ·split
  ·exact⟨h.i,h.r,h.o⟩
  ·rename_i r hg;exact⟨h.i,hp ⟨(hr hg).1,Nat.zero_le _,Nat.zero_le _⟩,h.o⟩
 split
 ·split
  ·split
   ·exact h
   ·rename_i r hg;exact⟨h.i,hp ⟨(hr hg).1,(hr hg).2.1,(hr hg).2.2⟩,ho ⟨Nat.zero_le _,(hr hg).2.1,(hr hg).2.2,Nat.zero_le _⟩⟩
  ·exact⟨h.i,h.r,ho ⟨Nat.zero_le _,Nat.zero_le _,Nat.zero_le _,Nat.zero_le _⟩⟩
 split
 ·split
  ·exact⟨h.i,h.r,h.o⟩
  ·rename_i r hg;exact⟨h.i,h.r,ho ⟨(hr hg).1,Nat.zero_le _,Nat.zero_le _,by show 2≤1000000;omega⟩⟩
 split
 ·exact⟨h.i,fun y hy=>h.r y (mem_nDel hy),ho ⟨Nat.zero_le _,Nat.zero_le _,Nat.zero_le _,Nat.zero_le _⟩⟩
 ·exact h
theorem NB.tick {now:Nat} {n:Nd} (h:NB now n):NB (now+1) (ndTick (now+1) n):=by
 have h1:=h.mono (Nat.le_succ now);unfold ndTick
 split
 ·split
  ·exact h1
  ·rename_i r hg;refine⟨h1.i,fun y hy=>?_,h1.o⟩;have hr:=h1.r _ (nGet_mem hg)
   rcases mem_nPut hy with rfl | hy
   ·refine⟨hr.1,?_,Nat.le_refl _⟩;show (if r.frm=0 then now+1 else r.frm)≤now+1
    split
    ·exact Nat.le_refl _
    ·exact hr.2.1
   ·exact h1.r y hy
 ·exact h1
structure SB (s:Sm) (F T:Nat):Prop where
 gj:GJ s.b s.nd
 di:DI s.b s.done s.next
 now:s.b.now=s.now
 len:s.nd.length=s.cn
 c1:1≤s.cn
 c16:s.cn≤16
 jb:s.next=s.jobs.length+1
 jl:s.jobs.length≤20
 jid:∀j∈s.jobs,j.id<s.next
 jn:(s.jobs.map (·.id)).Nodup
 ran:∀x∈s.ran,x.2≤s.now
 nb:∀n∈s.nd,NB s.now n
 fl:∀n∈s.nd,n.inn.length≤s.fu∧n.out.length≤s.fu
 im:s.images.length≤s.fu
 fu:s.fu≤F
 tm:s.now≤T
structure SI (s:Sm) (F T:Nat):Prop where
 sb:SB s F T
 ok:s.ok=true
 e1:s.b.orders=[]
 e2:s.b.images=[]
 e3:s.b.done=[]
theorem SB.few {s:Sm} {F T:Nat} (h:SB s F T):s.b.js.length≤21:=by
 have h1:(s.b.js.map (·.id)).Pairwise (· < ·):=List.pairwise_map.2 h.gj.gi.bi.ok.srt
 have h2:=riseN_len h1 (N:=21) fun i hi=>by
  obtain⟨x,hx,rfl⟩:=List.mem_map.1 hi;have:=h.di.lt x hx;have:=h.jb;have:=h.jl;omega
 rwa [List.length_map]at h2
theorem tk_of {s:Sm} {F T:Nat} (h:SB s F T) (hF:F≤100000000000) (h1:s.b.orders.length≤900000) (h2:s.b.images.length≤900000) (h3:s.b.done.length≤900000):tkB s=true:=by
 have hfu:=h.fu;simp only[tkB,Bool.and_eq_true,decide_eq_true_eq,List.all_eq_true];exact⟨⟨⟨⟨⟨⟨⟨h.len,h.c1⟩,fun n hn=>h.fl n hn⟩,h.im⟩,by omega⟩,h1⟩,h2⟩,h3⟩
theorem SB.ok_ {s:Sm} {F T:Nat} (h:SB s F T) (o:Bool):SB {s with ok:=o} F T:=⟨h.gj,h.di,h.now,h.len,h.c1,h.c16,h.jb,h.jl,h.jid,h.jn,h.ran,h.nb,h.fl,h.im,h.fu,h.tm⟩
theorem take_SI {s:Sm} {F T d:Nat} (h:SB s F T) (hok:s.ok=true) (hd:s.b.orders.length+s.b.images.length+s.b.done.length≤d):SI (takeR s) (F+d) T:=by
 have hdt:=done_take s.b.done (ordsR s.nd s.b.orders) s.done h.di.nd;have hg:=take_gi h.gj
 have hup:∀o∈s.b.orders,∃n,s.nd[o.1]?=some n∧n.up=true:=fun o ho=>by
  have hi:=h.gj.gi.dst o ho;have hlt:=up_lt h.gj.gi.bi hi;obtain⟨n,hn⟩:=getE (show o.1<s.nd.length by rw[h.gj.gi.len];exact hlt);exact⟨n,hn,(h.gj.gi.ofUp hn).2 hi⟩
 obtain⟨k1,k2⟩:=ords_at s.b.orders s.nd hup
 have key:∀m∈ordsR s.nd s.b.orders,∃n∈s.nd,∃i,m={n with inn:=n.inn++qOf s.b.orders i}:=fun m hm=>by
  obtain⟨i,hi⟩:=List.getElem?_of_mem hm;obtain⟨n,hn⟩:=getE (show i<s.nd.length by rw[←k1];exact(List.getElem?_eq_some_iff.1 hi).1);rw[k2 i n hn]at hi;exact⟨n,List.mem_of_getElem? hn,i,(Option.some.inj hi).symm⟩
 have hql:∀i,(qOf s.b.orders i).length≤s.b.orders.length:=fun i=>by rw[qOf,List.length_map];exact List.length_filter_le _ _
 have hfu:=h.fu
 have e:takeR s={s with b:={s.b with orders:=[],images:=[],done:=[]},nd:=ordsR s.nd s.b.orders,done:=s.done++s.b.done,images:=s.images++(imagesR s.b).1,fu:=s.fu+s.b.orders.length+s.b.images.length+s.b.done.length}:=by
  unfold takeR;simp only[hdt]
 rw[e]
 refine⟨⟨hg,⟨h.di.srt,by rw[List.append_nil];exact h.di.nd,fun id hid=>h.di.old id (by rw[List.append_nil]at hid;exact hid),h.di.lt,fun id hid=>h.di.ltd id (by rw[List.append_nil]at hid;exact hid),h.di.ag⟩,h.now,k1.trans h.len,h.c1,h.c16,h.jb,h.jl,h.jid,h.jn,h.ran,fun m hm=>?_,fun m hm=>?_,?_,?_,h.tm⟩,hok,rfl,rfl,rfl⟩
 ·obtain⟨n,hn,i,rfl⟩:=key m hm;have hN:=h.nb n hn;refine⟨fun x hx=>?_,hN.r,hN.o⟩
  rcases List.mem_append.1 hx with hx | hx
  ·exact hN.i x hx
  ·exact h.gj.ork _ (mem_qOf.1 hx)
 ·obtain⟨n,hn,i,rfl⟩:=key m hm;obtain⟨f1,f2⟩:=h.fl n hn;have:=hql i
  refine⟨?_,?_⟩
  ·show (n.inn++qOf s.b.orders i).length≤s.fu+s.b.orders.length+s.b.images.length+s.b.done.length;rw[List.length_append];omega
  ·show n.out.length≤s.fu+s.b.orders.length+s.b.images.length+s.b.done.length;omega
 ·show (s.images++(imagesR s.b).1).length≤s.fu+s.b.orders.length+s.b.images.length+s.b.done.length;have h1:(imagesR s.b).1.length≤s.b.images.length:=List.length_filter_le _ _;have:=h.im;rw[List.length_append];omega
 ·show s.fu+s.b.orders.length+s.b.images.length+s.b.done.length≤F+d;omega
theorem SI.mono {s:Sm} {F T F' T':Nat} (h:SI s F T) (h1:F≤F') (h2:T≤T'):SI s F' T':=
 ⟨⟨h.sb.gj,h.sb.di,h.sb.now,h.sb.len,h.sb.c1,h.sb.c16,h.sb.jb,h.sb.jl,h.sb.jid,h.sb.jn,h.sb.ran,h.sb.nb,h.sb.fl,h.sb.im,Nat.le_trans h.sb.fu h1,Nat.le_trans h.sb.tm h2⟩,h.ok,h.e1,h.e2,h.e3⟩
theorem am_of {b:Br} {nd:List Nd} (h:GJ b nd):amAll nd=true:=List.all_eq_true.2 fun n hn=>by
 obtain⟨i,hi⟩:=List.getElem?_of_mem hn;cases hu:n.up with
 | true=>exact amB_of (h.gi.node i n hi hu).kn (h.gi.node i n hi hu).one
 | false=>rw[(h.gi.off i n hi hu).1];rfl
theorem ws_of {b:Br} (h:BrI b never):WSav b:=fun x hx e=>((h.j x hx).q e).2.2.1
theorem wsB_of {b:Br} (h:WSav b):wsB b=true:=List.all_eq_true.2 fun x hx=>by
 rw[Bool.or_eq_true,decide_eq_true_eq]
 by_cases e:x.state=0
 ·exact .inr (by rw[h x hx e];rfl)
 ·exact .inl e
theorem ran_le {s:Sm} (l:List Nd) {k:Nat} (hn:(s.jobs.map (·.id)).Nodup) (h:∀x∈s.ran,x.2≤k):∀x∈ranR s l,x.2≤k+1:=by
 have key:∀(js:List Jo) (r:List (Nat×Nat)),(js.map (·.id)).Nodup→(∀x∈r,x.2≤k+1)→(∀j∈js,nLook j.id r≤k)→∀x∈js.foldl (fun r j=>if ranB l j then nPut j.id (nLook j.id r+1) r else r) r,x.2≤k+1:=by
  intro js;induction js with
  | nil=>exact fun _ _ h _=>h
  | cons j js ih=>
   intro r hn h1 h2;rw[List.map_cons,List.nodup_cons]at hn;have hj:=h2 j (List.mem_cons_self ..);rw[List.foldl_cons]
   refine ih _ hn.2 ?_ fun i hi=>?_
   ·split
    ·intro x hx
     rcases mem_nPut hx with rfl | hx
     ·show nLook j.id r+1≤k+1;omega
     ·exact h1 x hx
    ·exact h1
   ·have hne:i.id≠j.id:=fun e=>hn.1 (List.mem_map.2 ⟨i,hi,e⟩)
    split
    ·rw[nLook_put,if_neg hne];exact h2 i (List.mem_cons_of_mem _ hi)
    ·exact h2 i (List.mem_cons_of_mem _ hi)
 exact key s.jobs s.ran hn (fun x hx=>Nat.le_succ_of_le (h x hx)) fun j _=>nLook_le h j.id
theorem tick_SI {s:Sm} {F T:Nat} (h:SI s F T) (hF:F≤99999000000) (hT:T+1≤4294967295):SI (stickR s) (F+80000) (T+1):=by
 have hB:=h.sb;have hnow:=hB.tm
 have hst:stB s=true:=by
  simp only[stB,Bool.and_eq_true,decide_eq_true_eq,List.all_eq_true];refine⟨⟨⟨⟨⟨⟨⟨tk_of hB (by omega) (by rw[h.e1];exact Nat.zero_le _) (by rw[h.e2];exact Nat.zero_le _) (by rw[h.e3];exact Nat.zero_le _),by omega⟩,am_of hB.gj⟩,am_of (ndTick_gi hB.gj (s.now+1))⟩,wsB_of (ws_of hB.gj.gi.bi)⟩,by rw[h.e1];exact Nat.zero_le _⟩,hB.c16⟩,fun x hx=>hB.ran x hx⟩
 have hg:=tick_gi (ndTick_gi hB.gj (s.now+1)) (now:=s.now+1) (by omega);obtain⟨d1,d2,d3⟩:=tick_DI hB.di (now:=s.now+1) (by rw[hB.now];omega) hg.gi.bi.ok.srt;obtain⟨_,o1⟩:=tick_after hB.gj.gi.bi.ok (ws_of hB.gj.gi.bi) (now:=s.now+1) (by omega);have hs3:=Sm3.tick s.b (s.now+1);have q1:=hs3.im;have q2:=hs3.dn;rw[h.e1]at o1;rw[h.e2]at q1;rw[h.e3]at q2;simp only[List.length_nil]at o1 q1 q2
 have e:stickR s=takeR {s with now:=s.now+1,ran:=ranR s (s.nd.map (ndTick (s.now+1))),b:=(tickR s.b (s.now+1)).2,nd:=s.nd.map (ndTick (s.now+1)),ok:=s.ok&&stB s}:=by
  unfold stickR;dsimp only;rw[if_neg (by rw[d3];exact fun e=>e rfl)]
 rw[e]
 have hS:SB {s with now:=s.now+1,ran:=ranR s (s.nd.map (ndTick (s.now+1))),b:=(tickR s.b (s.now+1)).2,nd:=s.nd.map (ndTick (s.now+1)),ok:=s.ok&&stB s} F (T+1):=by
  refine⟨hg,d1,d2,by show (s.nd.map _).length=_;rw[List.length_map];exact hB.len,hB.c1,hB.c16,hB.jb,hB.jl,hB.jid,hB.jn,ran_le (s:=s) (s.nd.map (ndTick (s.now+1))) hB.jn hB.ran,fun n hn=>?_,fun n hn=>?_,hB.im,hB.fu,by show s.now+1≤_;omega⟩
  ·obtain⟨m,hm,rfl⟩:=List.mem_map.1 hn;exact(hB.nb m hm).tick
  ·obtain⟨m,hm,rfl⟩:=List.mem_map.1 hn;obtain⟨_,e2,e3,_⟩:=ndTick_up (s.now+1) m;rw[e2,e3];exact hB.fl m hm
 refine(take_SI (d:=70000) hS (by show (s.ok&&stB s)=true;rw[h.ok,hst];rfl) ?_).mono (by omega) (Nat.le_refl _);show (tickR s.b (s.now+1)).2.orders.length+(tickR s.b (s.now+1)).2.images.length+(tickR s.b (s.now+1)).2.done.length≤_;omega
theorem hear_ord {b:Br} (h:BrOk b) (n:Int) {t:Nt} (ht:t.frm≤4294967295∧t.til≤4294967295) (bl:List Int):(hearR b n t bl).2.orders.length≤b.orders.length+16*b.js.length:=by
 unfold hearR
 split
 ·exact Nat.le_add_right _ _
 split
 ·show (heardR b n.toNat t).orders.length≤_
  by_cases hc:n.toNat∈b.stops.getD []∧b.stopped=true∧t.gen=b.gen
  ·rw[heardR_yes hc.1 hc.2.1 hc.2.2];have h1:=stopHeardR_ord (noteR_ok h n.toNat ht) n.toNat
   have h2:(noteR b n.toNat t).js.length=b.js.length:=by
    unfold noteR
    split
    ·rfl
    ·split
     ·rfl
     ·split
      ·exact setJ_len _ _
      ·rfl
   rw[noteR_ord,h2]at h1;exact h1
  ·rw[heardR_no hc];exact Nat.le_add_right _ _
 ·cases hg:getJ b.js t.job with
  | none=>exact Nat.le_add_right _ _
  | some x=>
   simp only
   split
   ·have:(hearJ b x n.toNat t bl).orders=b.orders:=by
     unfold hearJ
     split
     ·split <;> rfl
     split
     ·unfold savedR;cases hs:x.sav with
      | none=>rfl
      | some s=>
       cases hr:rankOf x.at_ n.toNat with
       | none=>rfl
       | some r=>
        simp only
        split
        ·rfl
        ·split <;> rfl
     split
     ·split
      ·rfl
      ·exact(goneR_same _ _).1
     ·rfl
    rw[this];exact Nat.le_add_right _ _
   ·exact Nat.le_add_right _ _
theorem set_mem {nd:List Nd} {i:Nat} {n' m:Nd} (h:m∈nd.set i n'):m=n'∨m∈nd:=(List.mem_or_eq_of_mem_set h).symm
theorem act_len (n:Nd) (x:Nt):(actR n x).out.length≤n.out.length+1:=by
 have h1:∀y:Nt×List Int,(n.out++[y]).length≤n.out.length+1:=fun y=>by rw[List.length_append,List.length_singleton];exact Nat.le_refl _
 have h0:=Nat.le_succ n.out.length;unfold actR
 split
 ·exact h1 _
 split
 ·split <;> exact h0
 split
 ·split
  ·split
   ·exact h0
   ·exact h1 _
  ·exact h1 _
 split
 ·split
  ·exact h0
  ·exact h1 _
 split
 ·exact h1 _
 ·exact h0
theorem deliver_SI {s:Sm} {F T:Nat} (h:SI s F T) (hF:F≤99999000000) (hT:T≤4294967295) (i:Nat) (back:Bool):SI (deliverR s i back).2 (F+1000) T:=by
 have hm:=h.mono (Nat.le_add_right F 1000) (Nat.le_refl T);have hB:=h.sb;have htm:=hB.tm;have htk:=tk_of hB (by omega) (by rw[h.e1];exact Nat.zero_le _) (by rw[h.e2];exact Nat.zero_le _) (by rw[h.e3];exact Nat.zero_le _);unfold deliverR;cases hn:s.nd[i]? with
 | none=>exact hm
 | some n=>
  simp only;have hmem:=List.mem_of_getElem? hn;have hNB:=hB.nb n hmem;obtain⟨f1,f2⟩:=hB.fl n hmem
  by_cases hu0:n.up=false
  ·rw[if_pos hu0];exact hm
  ·have hu:n.up=true:=by simpa using hu0
   rw[if_neg hu0];cases back with
   | true=>
    rw[if_pos rfl]
    split
    ·exact hm
    ·rename_i x l ho;have hx:=hNB.o x (by rw[ho];exact List.mem_cons_self ..);have h32:x.1.frm≤4294967295∧x.1.til≤4294967295:=⟨by omega,by omega⟩;have hg:=hear_gi hB.gj hn hu ho h32;have hj:=jr_hear s.b i x.1 x.2
     have hS:SB (hear1 s i n x l) F T:=by
      refine⟨hg,hB.di.jr hj hg.gi.bi.ok.srt,(hj hB.di.ag).1.2.trans hB.now,by show (s.nd.set i _).length=_;rw[List.length_set];exact hB.len,hB.c1,hB.c16,hB.jb,hB.jl,hB.jid,hB.jn,hB.ran,fun m hm'=>?_,fun m hm'=>?_,hB.im,hB.fu,hB.tm⟩
      ·rcases set_mem hm' with rfl | hm'
       ·exact⟨hNB.i,hNB.r,fun y hy=>hNB.o y (by rw[ho];exact List.mem_cons_of_mem _ hy)⟩
       ·exact hB.nb m hm'
      ·rcases set_mem hm' with rfl | hm'
       ·rw[ho,List.length_cons]at f2;exact⟨f1,by show l.length≤s.fu;omega⟩
       ·exact hB.fl m hm'
     have o1:=hear_ord hB.gj.gi.bi.ok i h32 x.2;have o2:=Sm3.hear s.b i x.1 x.2;have o3:=o2.im;have o4:=o2.dn;have hfew:=hB.few;rw[h.e1]at o1;rw[h.e2]at o3;rw[h.e3]at o4;simp only[List.length_nil]at o1 o3 o4
     have hnt:ntB x=true:=by
      simp only[ntB,Bool.and_eq_true,decide_eq_true_eq];exact⟨⟨⟨hx.1,h32.1⟩,h32.2⟩,hx.2.2.2⟩
     have htk2:=tk_of hS (by omega) (by show (hearR s.b i x.1 x.2).2.orders.length≤_;omega) (by show (hearR s.b i x.1 x.2).2.images.length≤_;omega) (by show (hearR s.b i x.1 x.2).2.done.length≤_;omega)
     refine(take_SI (d:=1000) (hS.ok_ _) ?_ ?_)
     ·show (s.ok&&ntB x&&tkB s&&decide (s.b.orders.length≤800000)&&decide (s.b.images.length≤800000)&&tkB (hear1 s i n x l))=true;rw[h.ok,hnt,htk,htk2,h.e1,h.e2];rfl
     ·show (hearR s.b i x.1 x.2).2.orders.length+(hearR s.b i x.1 x.2).2.images.length+(hearR s.b i x.1 x.2).2.done.length≤_;omega
   | false=>
    rw[if_neg (by decide)]
    split
    ·exact hm
    ·rename_i x l hi;have hN:=hB.gj.gi.node i n hn hu;have hNl:NB s.now {n with inn:=l}:=⟨fun y hy=>hNB.i y (by rw[hi];exact List.mem_cons_of_mem _ hy),hNB.r,hNB.o⟩;have hal:=act_len {n with inn:=l} x
     refine⟨⟨act_gi hB.gj hn hu hi,hB.di,hB.now,by show (s.nd.set i _).length=_;rw[List.length_set];exact hB.len,hB.c1,hB.c16,hB.jb,hB.jl,hB.jid,hB.jn,hB.ran,fun m hm'=>?_,fun m hm'=>?_,Nat.le_succ_of_le hB.im,by show s.fu+1≤_;have:=hB.fu;omega,hB.tm⟩,?_,h.e1,h.e2,h.e3⟩
     ·rcases set_mem hm' with rfl | hm'
      ·exact hNl.act (hNB.i x (by rw[hi];exact List.mem_cons_self ..))
      ·exact hB.nb m hm'
     ·rcases set_mem hm' with rfl | hm'
      ·rw[hi,List.length_cons]at f1;rw[(act_in _ _).2];refine⟨by show l.length≤s.fu+1;omega,?_⟩;show _≤s.fu+1;exact Nat.le_trans hal (by show n.out.length+1≤_;omega)
      ·obtain⟨q1,q2⟩:=hB.fl m hm';exact⟨by show _≤s.fu+1;omega,by show _≤s.fu+1;omega⟩
     ·show (s.ok&&amB n.rk&&tkB s)=true;rw[h.ok,amB_of hN.kn hN.one,htk];rfl
theorem publish_SI {s:Sm} {F T:Nat} (h:SI s F T) (hF:F≤99999000000) (o:Bool):SI (publishR s o).2 (F+1000) T:=by
 have hB:=h.sb;have htk:=tk_of hB (by omega) (by rw[h.e1];exact Nat.zero_le _) (by rw[h.e2];exact Nat.zero_le _) (by rw[h.e3];exact Nat.zero_le _);unfold publishR
 split
 ·exact h.mono (Nat.le_add_right F 1000) (Nat.le_refl T)
 ·rename_i x l hi;have hg:=published_gi hB.gj x.job x.ver o;have hS:SB (pub1 s x l o) F T:=⟨hg,published_DI hB.di _ _ _ hg.gi.bi.ok.srt,(published_now hB.di.ag _ _ _).trans hB.now,hB.len,hB.c1,hB.c16,hB.jb,hB.jl,hB.jid,hB.jn,hB.ran,hB.nb,hB.fl,by have:=hB.im;rw[hi,List.length_cons]at this;show l.length≤s.fu;omega,hB.fu,hB.tm⟩;have o2:=Sm3.published s.b x.job x.ver o;have o3:=o2.im;have o4:=o2.dn
  have o1:(publishedR s.b x.job x.ver o).2.orders.length≤16:=by
   unfold publishedR;cases hg2:getJ s.b.js x.job with
   | none=>rw[h.e1];exact Nat.zero_le _
   | some y=>
    simp only
    split
    ·rw[h.e1];exact Nat.zero_le _
    ·split
     ·rw[h.e1];exact Nat.zero_le _
     ·rename_i z _ _;have k1:=(finishR_same s.b {y with credit:=if o then z.credit else y.credit,sav:=none}).1;have k2:=Nat.le_trans (hB.gj.gi.bi.ok.job y (getJ_some hg2).1).len hB.gj.gi.bi.ok.N16;rw[h.e1]at k1;simp only[List.length_nil]at k1;exact Nat.le_trans k1 (by show 0+y.at_.length≤16;omega)
  rw[h.e2]at o3;rw[h.e3]at o4;simp only[List.length_nil]at o3 o4;have htk2:=tk_of hS (by omega) (by show (publishedR s.b x.job x.ver o).2.orders.length≤_;omega) (by show (publishedR s.b x.job x.ver o).2.images.length≤_;omega) (by show (publishedR s.b x.job x.ver o).2.done.length≤_;omega)
  refine take_SI (d:=1000) (hS.ok_ _) ?_ ?_
  ·show (s.ok&&tkB s&&decide (s.b.orders.length≤800000)&&decide (s.b.done.length≤800000)&&tkB (pub1 s x l o))=true;rw[h.ok,htk,htk2,h.e1,h.e3];rfl
  ·show (publishedR s.b x.job x.ver o).2.orders.length+(publishedR s.b x.job x.ver o).2.images.length+(publishedR s.b x.job x.ver o).2.done.length≤_;omega
theorem round_SI {F T:Nat} {s:Sm} (h:SI s F T) (o:Bool) (hT:T≤4294967295):∀i,F+2000*i≤99999000000→SI (roundUp s o i).2 (F+2000*i) T
 | 0,_=>h
 | i+1,hF=>by
  have h1:=round_SI h o hT i (by omega);have h2:=deliver_SI h1 (by omega) hT i false;have h3:=deliver_SI h2 (by omega) hT i true;exact h3.mono (by omega) (Nat.le_refl _)
theorem calmUp_SI {T:Nat} (hT:T≤4294967295):∀(k:Nat) {F:Nat} {s:Sm},SI s F T→F+33000*k≤99999000000→SI (calmUp s k) (F+33000*k) T
 | 0,_,_,h,_=>h
 | k+1,F,s,h,hF=>by
  have h1:=publish_SI h (by omega) true;have hl:(publishR s true).2.nd.length≤16:=by rw[h1.sb.len];exact h1.sb.c16
  have h2:=round_SI h1 (publishR s true).1 hT (publishR s true).2.nd.length (by omega);rw[calmUp]
  split
  ·exact(calmUp_SI hT k (h2.mono (F':=F+33000) (by omega) (Nat.le_refl _)) (by omega)).mono (by omega) (Nat.le_refl _)
  ·exact h2.mono (by omega) (Nat.le_refl _)
theorem calm_SI {s:Sm} {F T:Nat} (h:SI s F T) (hF:F≤99000000000) (hT:T+1≤4294967295):SI (calmR s) (F+100000000) (T+1):=by
 have h1:=tick_SI h (by omega) hT;exact(calmUp_SI hT 3000 h1 (by omega)).mono (by omega) (Nat.le_refl _)
theorem hide_SI {s t:Sm} {F T d:Nat} (h:SI s F T) (hF:F≤99999000000) (hd:d≤1000) (hS:SB t F T) (_:t.ok=s.ok) (hdl:t.b.orders.length+t.b.images.length+t.b.done.length≤d):tkB s=true∧tkB t=true∧∀o:Bool,o=true→SI (takeR {t with ok:=o}) (F+d) T:=by
 have hB:=h.sb;have htk:=tk_of hB (by omega) (by rw[h.e1];exact Nat.zero_le _) (by rw[h.e2];exact Nat.zero_le _) (by rw[h.e3];exact Nat.zero_le _);have htk2:=tk_of hS (by omega) (by omega) (by omega) (by omega);exact⟨htk,htk2,fun o ho=>take_SI (hS.ok_ o) ho hdl⟩
theorem add_SI {s:Sm} {F T:Nat} (h:SI s F T) (hF:F≤99000000000) (hj20:s.jobs.length<20) (tier k w:Nat):SI (sAddR s ⟨s.next,tier % 4,1+k % s.cn,1+w % 20⟩) (F+1000) T:=by
 have hB:=h.sb;have hjb:=hB.jb;have hc1:=hB.c1;have hkm:=Nat.mod_lt k (show 0<s.cn by omega);have hnn:s.b.nodes=s.cn:=hB.gj.gi.len.symm.trans hB.len;obtain⟨j,hj⟩:∃j:Jo,j=⟨s.next,tier % 4,1+k % s.cn,1+w % 20⟩:=⟨_,rfl⟩;rw[←hj];have j1:j.id=s.next:=by rw[hj]
 have j2:j.tier≤3:=by rw[hj];show tier % 4≤3;omega
 have j3:1≤j.k∧j.k≤s.cn:=by rw[hj];exact⟨Nat.le_add_right _ _,by show 1+k % s.cn≤_;omega⟩
 have j4:1≤j.w∧j.w≤20:=by rw[hj];exact⟨Nat.le_add_right _ _,by show 1+w % 20≤_;omega⟩
 obtain⟨x,hx⟩:∃x,x=newJ j.id j.tier j.k j.w 0 0:=⟨_,rfl⟩;have x1:x.id=s.next:=by rw[hx];exact j1
 have xw:x.credit<x.w:=by rw[hx];show 0<j.w;omega
 have xd:x.done=false:=by rw[hx]
 have hok:addOk s.b x=true:=by
  rw[hx];simp only[addOk,Bool.and_eq_true,decide_eq_true_eq];exact⟨⟨⟨⟨⟨⟨by omega,by omega⟩,by omega⟩,by omega⟩,by omega⟩,by omega⟩,by omega⟩
 have hno:getJ s.b.js x.id=none:=by
  cases hg:getJ s.b.js x.id with
  | none=>rfl
  | some y=>
   obtain⟨g1,g2⟩:=getJ_some hg;have:=hB.di.lt y g1;omega
 have hfew:=hB.few;have hjl:=hB.jl;have hs2:=insJ_ok hB.gj.gi.bi.ok.srt (getJ_none hno);have hgi:=getJ_insA (x:=x) hB.gj.gi.bi.ok.srt hno;have hg:getJ (insB s.b x).js x.id=some x:=by rw[show (insB s.b x).js=insJ x s.b.js from rfl,hgi,if_pos rfl]
 have hf:finishR (insB s.b x) x=insB s.b x:=by
  rw[finishR,if_pos (.inl xw)];show ({insB s.b x with js:=setJ (insJ x s.b.js) x}:Br)=insB s.b x;rw[show setJ (insJ x s.b.js) x=insJ x s.b.js from ?_];refine(List.map_congr_left fun y hy=>?_).trans (List.map_id' _)
  split
  ·rename_i e;have:=getJ_mem hs2 hy;rw[e,show getJ (insJ x s.b.js) x.id=some x from hg]at this;exact Option.some.inj this
  ·rfl
 have hadd:addR s.b (newJ j.id j.tier j.k j.w 0 0)=(0,insB s.b x):=by
  rw[←hx,addR,if_neg (by rw[hok];decide),hno];show (if (none:Option Bj).isSome=true then _ else _)=_;rw[if_neg (by decide)];show ((0:Int),finishR (insB s.b x) x)=_;rw[hf]
 have hgj:=add_gi hB.gj (id:=j.id) (tier:=j.tier) (k:=j.k) (w:=j.w) (by omega) (by omega);rw[hadd]at hgj
 have e1:add1 s j={s with b:=insB s.b x,jobs:=s.jobs++[j],next:=s.next+1}:=by
  unfold add1;rw[hadd];rfl
 have hDI:DI (insB s.b x) s.done (s.next+1):=by
  refine⟨hs2,hB.di.nd,fun id hid z hz=>?_,fun z hz=>?_,fun id hid=>Nat.lt_succ_of_lt (hB.di.ltd id hid),fun z hz e=>?_⟩
  ·rw[show (insB s.b x).js=insJ x s.b.js from rfl,hgi]at hz
   split at hz
   ·rename_i e;have:=hB.di.ltd id hid;omega
   ·exact hB.di.old id hid z hz
  ·rcases mem_insJ.1 (show z∈insJ x s.b.js from hz) with rfl | hz
   ·omega
   ·exact Nat.lt_succ_of_lt (hB.di.lt z hz)
  ·rcases mem_insJ.1 (show z∈insJ x s.b.js from hz) with rfl | hz
   ·rw[xd]at e;cases e
   ·exact hB.di.ag z hz e
 have hne:∀y∈s.jobs,y.id≠j.id:=fun y hy e=>by have:=hB.jid y hy;omega
 have hS:SB (add1 s j) F T:=by
  rw[e1]
  refine⟨hgj,hDI,hB.now,hB.len,hB.c1,hB.c16,?_,?_,fun y hy=>?_,?_,hB.ran,hB.nb,hB.fl,hB.im,hB.fu,hB.tm⟩
  ·show s.next+1=(s.jobs++[j]).length+1;rw[List.length_append,List.length_singleton];omega
  ·show (s.jobs++[j]).length≤20;rw[List.length_append,List.length_singleton];omega
  ·show y.id<s.next+1
   rcases List.mem_append.1 hy with hy | hy
   ·exact Nat.lt_succ_of_lt (hB.jid y hy)
   ·rw[List.mem_singleton.1 hy];omega
  ·show ((s.jobs++[j]).map (·.id)).Nodup;rw[List.map_append];refine List.nodup_append.2 ⟨hB.jn,List.nodup_cons.2 ⟨by simp,List.nodup_nil⟩,fun a h1 c h2 e=>?_⟩;obtain⟨y,hy,rfl⟩:=List.mem_map.1 h1;rw[List.map_singleton,List.mem_singleton]at h2;exact hne y hy (e.trans h2)
 have hz:(add1 s j).b.orders.length+(add1 s j).b.images.length+(add1 s j).b.done.length≤1000:=by
  rw[e1];show s.b.orders.length+s.b.images.length+s.b.done.length≤1000;rw[h.e1,h.e2,h.e3];decide
 obtain⟨q1,q2,q3⟩:=hide_SI h (by omega) (Nat.le_refl _) hS (by rw[e1]) hz;refine q3 _ ?_
 have hB2:addB s j=true:=by
  simp only[addB,Bool.and_eq_true,decide_eq_true_eq,List.all_eq_true];exact⟨⟨⟨⟨⟨by rw[←hx];exact hok,by omega⟩,by rw[h.e1];exact Nat.zero_le _⟩,by rw[h.e3];exact Nat.zero_le _⟩,fun y hy=>hne y hy⟩,by omega⟩
 rw[h.ok,hB2,q2];rfl
theorem can_SI {s:Sm} {F T:Nat} (h:SI s F T) (hF:F≤99000000000) (id:Nat):SI (sCanR s id) (F+1000) T:=by
 have hB:=h.sb;have hg:=cancel_gi hB.gj id;have hjr:=jr_cancel s.b id;have hS:SB (can1 s id) F T:=⟨hg,hB.di.jr hjr hg.gi.bi.ok.srt,(hjr hB.di.ag).1.2.trans hB.now,hB.len,hB.c1,hB.c16,hB.jb,hB.jl,hB.jid,hB.jn,hB.ran,hB.nb,hB.fl,hB.im,hB.fu,hB.tm⟩;have o2:=Sm3.cancel s.b id;have o3:=o2.im;have o4:=o2.dn;rw[h.e2]at o3;rw[h.e3]at o4;simp only[List.length_nil]at o3 o4
 have o1:(cancelR s.b id).2.orders.length≤16:=by
  unfold cancelR;cases hg:getJ s.b.js id with
  | none=>rw[h.e1];exact Nat.zero_le _
  | some x=>
   simp only;have k1:=(dropR_same s.b x false).1;have k2:=Nat.le_trans (hB.gj.gi.bi.ok.job x (getJ_some hg).1).len hB.gj.gi.bi.ok.N16;rw[h.e1]at k1;simp only[List.length_nil]at k1
   split
   ·show (dropR s.b x false).orders.length≤16;omega
   ·split
    ·show s.b.orders.length≤16;rw[h.e1];exact Nat.zero_le _
    ·show s.b.orders.length≤16;rw[h.e1];exact Nat.zero_le _
 obtain⟨q1,q2,q3⟩:=hide_SI h (by omega) (Nat.le_refl _) hS rfl (by show (cancelR s.b id).2.orders.length+(cancelR s.b id).2.images.length+(cancelR s.b id).2.done.length≤1000;omega);exact q3 _ (by rw[h.ok,q2,h.e1];rfl)
theorem lost_ord {b:Br} (h:BrOk b) (n:Int):(lostR b n).2.orders.length≤b.orders.length+32*b.js.length:=by
 by_cases hn:nodeR b n true≠0
 ·rw[lostR_bad hn];exact Nat.le_add_right _ _
 ·have hr:=node_in (Classical.byContradiction hn);obtain⟨k,rfl⟩:∃k:Nat,n=k:=⟨n.toNat,by omega⟩;rw[lostR_good hn];have h0:=lost0_ok h k;have h1:=each_ord (lostE k) h0;have h2:(stopHeardR (each (lostJ k) (lost0 b k) b.ids) k).orders.length≤(each (lostJ k) (lost0 b k) b.ids).orders.length+16*(each (lostJ k) (lost0 b k) b.ids).js.length:=stopHeardR_ord (each_ok (lostE k) h0) k
  have h3:(each (lostJ k) (lost0 b k) b.ids).js.length≤b.js.length:=by
   have:=(Sm3.each (f:=lostJ k) (fun c x=>by
    unfold lostJ
    split
    ·split
     ·exact .drop c x true
     ·exact .gone c _
    ·exact .refl c) b.ids (lost0 b k)).js
   exact this
  have h4:(lost0 b k).orders.length≤b.orders.length:=List.length_filter_le _ _;have h5:(each (lostJ k) (lost0 b k) b.ids).orders.length≤(lost0 b k).orders.length+16*b.js.length:=h1;show (stopHeardR (each (lostJ k) (lost0 b k) b.ids) k).orders.length≤_;omega
theorem lost_SI {s:Sm} {F T:Nat} (h:SI s F T) (hF:F≤99000000000) (i:Nat):SI (sLostR s i) (F+1000) T:=by
 have hm:=h.mono (Nat.le_add_right F 1000) (Nat.le_refl T);have hB:=h.sb;unfold sLostR;cases hn:s.nd[i]? with
 | none=>exact hm
 | some n=>
  simp only
  by_cases hu:n.up=true
  ·rw[if_pos hu];have hg:=lost_gi hB.gj hn hu;have hjr:=jr_lost s.b i
   have hS:SB (lost1 s i n) F T:=by
    refine⟨hg,hB.di.jr hjr hg.gi.bi.ok.srt,(hjr hB.di.ag).1.2.trans hB.now,by show (s.nd.set i _).length=_;rw[List.length_set];exact hB.len,hB.c1,hB.c16,hB.jb,hB.jl,hB.jid,hB.jn,hB.ran,fun m hm'=>?_,fun m hm'=>?_,hB.im,hB.fu,hB.tm⟩
    ·rcases set_mem hm' with rfl | hm'
     ·exact⟨fun _ k=>(by cases k),fun _ k=>(by cases k),fun _ k=>(by cases k)⟩
     ·exact hB.nb m hm'
    ·rcases set_mem hm' with rfl | hm'
     ·exact⟨Nat.zero_le _,Nat.zero_le _⟩
     ·exact hB.fl m hm'
   have o1:=lost_ord hB.gj.gi.bi.ok i;have o2:=Sm3.lost s.b i;have o3:=o2.im;have o4:=o2.dn;have hfew:=hB.few;rw[h.e1]at o1;rw[h.e2]at o3;rw[h.e3]at o4;simp only[List.length_nil]at o1 o3 o4;obtain⟨q1,q2,q3⟩:=hide_SI h (by omega) (Nat.le_refl _) hS rfl (by show (lostR s.b i).2.orders.length+(lostR s.b i).2.images.length+(lostR s.b i).2.done.length≤1000;omega);exact q3 _ (by rw[h.ok,q2,h.e1];rfl)
  ·rw[if_neg hu];exact hm
theorem up_fix (b:Br) (n:Int):(upR' b n).2.js=b.js∧(upR' b n).2.done=b.done∧(upR' b n).2.now=b.now∧(upR' b n).2.orders=b.orders∧(upR' b n).2.images=b.images:=by
 unfold upR'
 split
 ·exact⟨rfl,rfl,rfl,rfl,rfl⟩
 ·exact⟨rfl,rfl,rfl,rfl,rfl⟩
theorem up_SI {s:Sm} {F T:Nat} (h:SI s F T) (hF:F≤99000000000) (i:Nat):SI (sUpR s i) (F+1000) T:=by
 have hm:=h.mono (Nat.le_add_right F 1000) (Nat.le_refl T);have hB:=h.sb;unfold sUpR;cases hn:s.nd[i]? with
 | none=>exact hm
 | some n=>
  simp only
  by_cases hu:n.up=true
  ·rw[if_pos hu];exact hm
  ·rw[if_neg hu];have hg:=up_gi hB.gj hn (by simpa using hu);obtain⟨u1,u2,u3,u4,u5⟩:=up_fix s.b i;have hmem:=List.mem_of_getElem? hn
   have hS:SB (up1 s i n) F T:=by
    refine⟨hg,hB.di.jr (.same u1 u2 u3) hg.gi.bi.ok.srt,u3.trans hB.now,by show (s.nd.set i _).length=_;rw[List.length_set];exact hB.len,hB.c1,hB.c16,hB.jb,hB.jl,hB.jid,hB.jn,hB.ran,fun m hm'=>?_,fun m hm'=>?_,hB.im,hB.fu,hB.tm⟩
    ·rcases set_mem hm' with rfl | hm'
     ·exact⟨(hB.nb n hmem).i,(hB.nb n hmem).r,(hB.nb n hmem).o⟩
     ·exact hB.nb m hm'
    ·rcases set_mem hm' with rfl | hm'
     ·exact hB.fl n hmem
     ·exact hB.fl m hm'
   obtain⟨q1,q2,q3⟩:=hide_SI h (by omega) (Nat.le_refl _) hS rfl (by show (upR' s.b i).2.orders.length+(upR' s.b i).2.images.length+(upR' s.b i).2.done.length≤1000;rw[u4,u5,u2,h.e1,h.e2,h.e3];decide);exact q3 _ (by rw[h.ok,q2];rfl)
theorem sact_SI {s:Sm} {F T:Nat} (h:SI s F T) (hF:F≤99000000000) (hT:T+1≤4294967295) (a:Ac):SI (sactR s a) (F+100000000) (T+1):=by
 have up1000:∀ {t:Sm},SI t (F+1000) T→SI t (F+100000000) (T+1):=fun k=>k.mono (by omega) (Nat.le_succ T)
 by_cases d0:a.do_=0∨a.do_=1
 ·rw[sact_tick d0];exact(tick_SI h (by omega) hT).mono (by omega) (Nat.le_refl _)
 by_cases d2:a.do_=2
 ·by_cases hj:s.jobs.length<20
  ·rw[sact_add d2 hj];exact up1000 (add_SI h hF hj _ _ _)
  ·rw[sact_add0 d2 hj];obtain⟨q1,_,q3⟩:=hide_SI h (by omega) (Nat.le_refl 1000) h.sb rfl (by rw[h.e1,h.e2,h.e3];decide);exact up1000 (q3 _ (by rw[h.ok,q1];rfl))
 by_cases d3:a.do_=3
 ·rw[sact_can d3];exact up1000 (can_SI h hF _)
 by_cases d4:a.do_=4
 ·rw[sact_lost d4];exact up1000 (lost_SI h hF _)
 by_cases d5:a.do_=5
 ·rw[sact_up d5];exact up1000 (up_SI h hF _)
 by_cases d6:a.do_=6∨a.do_=7∨a.do_=8∨a.do_=9
 ·rw[sact_del d6];exact up1000 (deliver_SI h (by omega) (by omega) _ _)
 by_cases d10:a.do_=10
 ·rw[sact_pub d10];exact up1000 (publish_SI h (by omega) _)
 by_cases d11:a.do_=11
 ·rw[sact_calm d11];exact calm_SI h hF hT
 ·rw[sact_no (by omega)];exact h.mono (by omega) (Nat.le_succ T)
abbrev ndOff:Nd:=⟨false,[],[],[],false⟩
abbrev ndOn:Nd:=⟨true,[],[],[],false⟩
theorem new_gj {N R Q G:Nat} (hR1:1≤R) (hR8:R≤8) (hN1:1≤N) (hN16:N≤16) (hQ1:1≤Q) (hQ2:Q≤1000) (hG1:1≤G) (hG2:G≤1000):GJ (newR N R Q G 0) (List.replicate N ndOff):=by
 refine⟨⟨⟨newR_ok (mx0_ok hR1 hR8 hN1 hN16) hQ1 hQ2 hG1 hG2,fun x hx=>(by cases hx),fun y hy=>(by cases hy),fun n=>?_⟩,List.length_replicate,fun o ho=>(by cases ho),fun i n hn=>?_,fun i n hn _=>?_,fun i n hn hu=>?_,fun i hi=>(by cases hi)⟩,fun _=>rfl,fun o ho=>(by cases ho)⟩
 ·refine⟨fun e=>(by cases e),fun e=>?_⟩;unfold isUpB at e;rw[Bool.and_eq_true]at e;have:=e.2;rw[show (newR N R Q G 0).m.up=0#16 from rfl]at this;simp at this
 ·rw[List.getElem?_replicate]at hn
  split at hn
  ·cases hn;exact(decide_eq_false fun e=>(by cases e)).symm
  ·cases hn
 ·rw[List.getElem?_replicate]at hn
  split at hn
  ·cases hn;exact⟨rfl,rfl,rfl,rfl⟩
  ·cases hn
 ·rw[List.getElem?_replicate]at hn
  split at hn
  ·cases hn;cases hu
  ·cases hn
theorem ups_gj {b:Br} {N:Nat} (h:GJ b (List.replicate N ndOff)):∀i,i≤N→GJ (upTo b i) (List.replicate i ndOn++List.replicate (N-i) ndOff)∧(upTo b i).js=b.js∧(upTo b i).done=b.done∧(upTo b i).now=b.now∧(upTo b i).orders=b.orders∧(upTo b i).images=b.images
 | 0,_=>⟨by rw[List.replicate_zero,List.nil_append,Nat.sub_zero];exact h,rfl,rfl,rfl,rfl,rfl⟩
 | i+1,hi=>by
  obtain⟨k0,k1,k2,k3,k4,k5⟩:=ups_gj h i (by omega);obtain⟨u1,u2,u3,u4,u5⟩:=up_fix (upTo b i) i;rw[upTo_succ];refine⟨?_,u1.trans k1,u2.trans k2,u3.trans k3,u4.trans k4,u5.trans k5⟩;have e0:N-i=(N-(i+1))+1:=by omega
  rw[e0,List.replicate_succ]at k0
  have hn:(List.replicate i ndOn++ndOff::List.replicate (N-(i+1)) ndOff)[i]?=some ndOff:=by
   rw[List.getElem?_append_right (by rw[List.length_replicate];exact Nat.le_refl _),List.length_replicate,Nat.sub_self];rfl
  have k:=up_gi k0 hn rfl;rw[List.set_append_right _ _ (by rw[List.length_replicate];exact Nat.le_refl _),List.length_replicate,Nat.sub_self]at k;rw[List.replicate_succ',List.append_assoc];exact k
theorem begin_SI {N R Q G:Nat} (hR1:1≤R) (hR8:R≤8) (hN1:1≤N) (hN16:N≤16) (hQ1:1≤Q) (hQ2:Q≤1000) (hG1:1≤G) (hG2:G≤1000):SI (beginR N R Q G) 0 0:=by
 obtain⟨k0,k1,k2,k3,k4,k5⟩:=ups_gj (new_gj (G:=G) hR1 hR8 hN1 hN16 hQ1 hQ2 hG1 hG2) N (Nat.le_refl N);rw[Nat.sub_self,List.replicate_zero,List.append_nil]at k0;obtain⟨b,hb⟩:∃b,b=upTo (newR N R Q G 0) N:=⟨_,rfl⟩;have e:beginR N R Q G={b:=b,cn:=N,cr:=R,cq:=Q,cg:=G,nd:=List.replicate N ndOn,now:=0,next:=1,ran:=[],jobs:=[],gone:=[],done:=[],images:=[],fu:=0,ok:=true}:=by rw[hb];rfl
 rw[←hb]at k0 k1 k2 k3 k4 k5;rw[e];have hnb:∀n∈List.replicate N ndOn,n=ndOn:=fun n hn=>List.eq_of_mem_replicate hn
 refine⟨⟨k0,⟨by rw[k1];exact List.Pairwise.nil,by rw[k2];exact List.nodup_nil,fun id hid=>?_,fun x hx=>?_,fun id hid=>?_,fun x hx=>?_⟩,k3,List.length_replicate,hN1,hN16,rfl,Nat.zero_le _,fun _ k=>(by cases k),List.nodup_nil,fun _ k=>(by cases k),fun n hn=>?_,fun n hn=>?_,Nat.le_refl _,Nat.le_refl _,Nat.le_refl _⟩,rfl,k4,k5,k2⟩
 ·rw[k2]at hid;cases hid
 ·rw[k1]at hx;cases hx
 ·rw[k2]at hid;cases hid
 ·rw[k1]at hx;cases hx
 ·rw[hnb n hn];exact⟨fun _ k=>(by cases k),fun _ k=>(by cases k),fun _ k=>(by cases k)⟩
 ·rw[hnb n hn];exact⟨Nat.le_refl _,Nat.le_refl _⟩
theorem right_SI {s:Sm} {F T:Nat} (h:SI s F T):rightB s=true:=by
 have hB:=h.sb;refine List.all_eq_true.2 fun n hn=>?_;obtain⟨i,hi⟩:=List.getElem?_of_mem hn;unfold nodeRight;cases hu:n.up with
 | false=>
  obtain⟨o1,_,_,o4⟩:=hB.gj.gi.off i n hi hu;rw[o4,o1];rfl
 | true=>
  have hN:=hB.gj.gi.node i n hi hu;rw[hN.wr]
  by_cases h0:runOf n.rk=0
  ·rw[decide_eq_true h0];rfl
  ·rw[decide_eq_false h0];obtain⟨hru,hon⟩:=hN.ph.ru
   obtain⟨y,hy⟩:∃y,n.rk.find? (·.2.run)=some y:=by
    cases hf:n.rk.find? (·.2.run) with
    | none=>exact absurd (by unfold runOf;rw[hf]) h0
    | some y=>exact⟨y,rfl⟩
   have hrun:runOf n.rk=y.1:=by unfold runOf;rw[hy]
   have ym:=List.mem_of_find?_eq_some hy;have yr:y.2.run=true:=by simpa using List.find?_some hy
   obtain⟨g1,g2⟩:=hru y ym yr;have hst:=hon y ym yr;have hgy:nGet (runOf n.rk) n.rk=some y.2:=by rw[hrun];exact nGet_of_mem hN.kn ym
   rw[hgy,hrun]
   have hsome:s.b.stops.isSome=true:=by
    cases hs:s.b.stops with
    | some d=>rfl
    | none=>rw[hs]at hst;exact absurd hst (by simp)
   simp only[g1,g2,hsome,decide_true];rfl
instance:Inhabited Ac:=⟨⟨0,0,0,0,0,false,false⟩⟩
abbrev tsAct:TS:=.cat 1 (.int .u8) (.cat 1 (.int .u8) (.cat 1 (.int .u8) (.cat 1 (.int .u8) (.cat 1 (.int .u8) (.cat 1 .bool (.cat 1 .bool .nil))))))
theorem rd_act {W:World} {cs:List Value} (h:Rd W tsAct cs):∃a:Ac,cs=acC a∧AcOk a:=by
 obtain⟨_,_,rfl,_,⟨d,rfl,hd⟩,_,_,rfl,_,⟨n,rfl,hn⟩,_,_,rfl,_,⟨t,rfl,ht⟩,_,_,rfl,_,⟨k,rfl,hk⟩,_,_,rfl,_,⟨w,rfl,hw⟩,_,_,rfl,_,⟨bk,rfl⟩,_,_,rfl,_,⟨fl,rfl⟩,rfl⟩:=h;have hd:=u8_rng hd;have hn:=u8_rng hn;have ht:=u8_rng ht;have hk:=u8_rng hk;have hw:=u8_rng hw;obtain⟨d,rfl⟩:∃m:Nat,d=m:=⟨d.toNat,by omega⟩;obtain⟨n,rfl⟩:∃m:Nat,n=m:=⟨n.toNat,by omega⟩;obtain⟨t,rfl⟩:∃m:Nat,t=m:=⟨t.toNat,by omega⟩;obtain⟨k,rfl⟩:∃m:Nat,k=m:=⟨k.toNat,by omega⟩;obtain⟨w,rfl⟩:∃m:Nat,w=m:=⟨w.toNat,by omega⟩;exact⟨⟨d,n,t,k,w,bk,fl⟩,rfl,⟨by show d≤255;omega,by show n≤255;omega,by show t≤255;omega,by show k≤255;omega,by show w≤255;omega⟩⟩
structure AcW (W:World) (s:SV) (l:List Ac):Prop where
 at_:SlAt W s.v l.length 7 (l.flatMap acC)
 len:s.n=l.length
 each:∀x∈l,AcOk x
theorem rd_acts {W:World} {cs:List Value} (h:Rd W (.slice 7 tsAct) cs):∃(s:SV) (l:List Ac),cs=[s.v]∧AcW W s l:=by
 obtain⟨s,l,h1,h2,h3,h4,_⟩:=rd_slice (α:=Ac) (encA:=acC) (p:=AcOk) (fun cs hr _=>rd_act hr) h (by omega);exact⟨s,l,h1,h3,h2,h4⟩
set_option maxHeartbeats 4000000 in
theorem BrainGang_S (n r q g:Nat) (l:List Ac) (s:SV) (hn:n≤255) (hr:r≤255) (hq:q≤255) (hg:g≤255) {W:World} (hW:TabW W) (hs:AcW W s l):LawS 5 [.int .u8 (n:Int),.int .u8 (r:Int),.int .u8 (q:Int),.int .u8 (g:Int),s.v] W:=by
 refine Zbd Tryz.func5 rfl Tryz.ntmps5 fun w0 Γ=>Zsh ?_;have hRs:RdS (old W) s s.n 7 (l.flatMap acC):=by rw[hs.len];exact RdS.old hs.at_
 have hsl:=hs.len;refine S.rCap hRs fun _ hc1 hc2=>?_;have hmx:maxLen≤9223372036854775807:=by unfold maxLen;omega
 obtain⟨N,hN⟩:∃N,N=1+n % 6:=⟨_,rfl⟩;obtain⟨R,hR⟩:∃R,R=1+r % 4:=⟨_,rfl⟩;obtain⟨Q,hQ⟩:∃Q,Q=1+q % 6:=⟨_,rfl⟩;obtain⟨G,hG⟩:∃G,G=1+g % 9:=⟨_,rfl⟩;refine ZY 7 ?_;refine Zp (Zcp Ze (awake_S hW) ?_);refine ZY 2 ?_;refine ZF ef ?_;refine ZY 7 ?_;refine Zp (Zcp Ze (config_S n r q g hn hr hq hg) ?_);rw[←hN,←hR,←hQ,←hG];refine Zp (Zc1 Ze (begin_S N R Q G (by omega) (by omega) (by omega) (by omega) (by omega) (by omega) (by omega) (by omega)) ?_);rintro v Θ ⟨p,rfl,rfl⟩;have hI0:SI (beginR N R Q G) 0 0:=begin_SI (by omega) (by omega) (by omega) (by omega) (by omega) (by omega) (by omega) (by omega);obtain⟨s0,hs0⟩:∃s0,s0=beginR N R Q G:=⟨_,rfl⟩;rw[←hs0]at hI0 ⊢;refine ZY 8 ?_;refine ZF ef ?_;refine ZY 8 ?_;refine Zy ?_;refine Zl (fun fz ρ' Γ'=>∃(i:Nat) (m:Sm),fz=l.length-i∧i≤l.length∧i≤150∧SI m (i*100000000) i∧ρ'=[(11,pt p),(24,s.v),(25,.int .i64 (s.n:Int)),(26,.int .i64 (i:Int))]∧Γ'=SP p m::old W::Γ) (m:=_) (⟨0,s0,rfl,by omega,by omega,hI0.mono (by omega) (by omega),rfl,rfl⟩) ?_;rintro fz ρ' Γ' ⟨i,m,hfz,hi,hi2,hI,rfl,rfl⟩;refine ZY 5 ?_
 refine Zj ef (fun h3=>?_) (fun h3=>?_)
 ·refine S.rSome hRs (by omega) fun sb so hsa=>?_;obtain⟨a,ha⟩:=getE (show i<l.length by omega);have hak:=hs.each a (List.mem_of_getElem? ha);refine ZY 6 ?_;refine Zv (Zx (i) ef (hsa) ef (by omega)) ?_;refine Zv (q_loadRS hRs (i*7) (acC a) Eo.h rfl hsa (by omega) rfl rfl (flat_seg (enc:=acC) (sz:=7) (fun _=>rfl) ha)) ?_;refine Zp (S.alloc Tryz.z46.h rfl ?_);intro b13;refine Zy ?_;refine Zp (Zs ef ef (cs':=[_,_,_,_,_,_,_]) ef ?_);refine ZY 7 ?_
  refine Zj ef (fun h4=>?_) (fun h4=>?_)
  ·refine ZY 6 ?_;exact Zf ef Zq (⟨rfl,rfl⟩)
  ·have hI2:=sact_SI hI (by omega) (by omega) a;have hlen:=hI.sb.len;have hc1:=hI.sb.c1;have hlen2:=hI2.sb.len;have hc2:=hI2.sb.c16;obtain⟨m2,hm2⟩:∃m2,m2=sactR m a:=⟨_,rfl⟩;refine ZY 5 ?_;refine Zp (Zc1 Ze (sact_S p m a hak (by omega) hc1 hI.sb.c16 hI2.ok hW) ?_);rintro v Θ rfl;rw[←hm2]at hI2 hlen2 hc2 ⊢;refine ZY 4 ?_;refine Zp (Zcp Ze (right_S p m2 (am_of hI2.sb.gj) (by omega)) ?_);rw[right_SI hI2];refine ZY 2 ?_;refine ZF ef ?_;refine ZY 2 ?_;refine Zv (Za ef ef) ?_;refine ZY 2 ?_;exact ZX (fz-1) (⟨i+1,m2,by omega,by omega,by omega,hI2.mono (by omega) (by omega),rfl,rfl⟩) (by omega)
 ·refine ZY 6 ?_;exact Zf ef Zq (⟨rfl,rfl⟩)
end BN
open Go.ChangeShapes Go.WideShapes Go.ChangeAt
theorem BrainGang_law {H:Type} (enc:TypeId×Value→H):LawWalkT enc Rows.brainGangRow.laid 5 Tryz.f5:=by
 intro W base args ds before hval hA _ _ hL;rw[Tryz.params5]at hA hval;obtain⟨v0,vs0,d0,ds0,p0,q0,hargs,rfl,rfl,h0,r0⟩:=trodAll_cons hA;obtain⟨v1,vs1,d1,ds1,p1,q1,rfl,rfl,rfl,h1,r1⟩:=trodAll_cons r0;obtain⟨v2,vs2,d2,ds2,p2,q2,rfl,rfl,rfl,h2,r2⟩:=trodAll_cons r1;obtain⟨v3,vs3,d3,ds3,p3,q3,rfl,rfl,rfl,h3,r3⟩:=trodAll_cons r2;obtain⟨v4,vs4,d4,ds4,p4,q4,rfl,rfl,rfl,h4,r4⟩:=trodAll_cons r3;obtain⟨rfl,rfl,rfl⟩:=trodAll_nil r4;obtain rfl:args=#[v0,v1,v2,v3,v4]:=by cases args;simp_all
 obtain⟨n,rfl,hn⟩:=arg_int Tryz.underlying5 (hval 0 5 v0 rfl rfl) h0;obtain⟨r,rfl,hr⟩:=arg_int Tryz.underlying5 (hval 1 5 v1 rfl rfl) h1;obtain⟨q,rfl,hq⟩:=arg_int Tryz.underlying5 (hval 2 5 v2 rfl rfl) h2;obtain⟨g,rfl,hg⟩:=arg_int Tryz.underlying5 (hval 3 5 v3 rfl rfl) h3;obtain⟨s,l,e2,hs⟩:=BN.rd_acts (arg_slice 12 Tryz.underlying41 (by kernel_rfl) (hval 4 41 v4 rfl rfl) h4);simp only[List.cons.injEq,and_true]at e2;subst e2;have hn:=u8_rng hn;have hr:=u8_rng hr;have hq:=u8_rng hq;have hg:=u8_rng hg;obtain⟨n,rfl⟩:∃m:Nat,n=m:=⟨n.toNat,by omega⟩;obtain⟨r,rfl⟩:∃m:Nat,r=m:=⟨r.toNat,by omega⟩;obtain⟨q,rfl⟩:∃m:Nat,q=m:=⟨q.toNat,by omega⟩;obtain⟨g,rfl⟩:∃m:Nat,g=m:=⟨g.toNat,by omega⟩;exact law_run (BN.BrainGang_S n r q g l s (by omega) (by omega) (by omega) (by omega) (tabW_of rfl hL) hs)
set_option maxRecDepth 100000 in
theorem BrainGang_met (os:Os) (args:Array Value):laidMetH Tryz.prog Rows.brainGangRow.laid ((World.doorLaid Tryz.prog 14 os).forCall (fun _ _=>0) ⟨#[],args,[]⟩).memory:=
 laidMetH_of_parts3 (fuel:=8) (laidMet_of_run' 8 (by kernel_rfl) (by kernel_rfl)) (by kernel_rfl) (by kernel_rfl)
set_option maxRecDepth 100000 in
theorem BrainGang_lifted (os:Os) (started:os.Started) (H:Type) (enc:TypeId×Value→H) :
  ReturnsInHanded {} Tryz.checked os 5 .any (fun w args=>(Rows.brainGangSpec.pre enc Tryz.prog Tryz.f5 [] false w args∧laidMetH Tryz.prog Rows.brainGangRow.laid w)∧sizedMet enc Tryz.prog Tryz.f5 (OpenSpec.ofChange Rows.brainGangSpec) false w args) (Rows.brainGangSpec.post enc Tryz.prog Tryz.f5 false true false false):=
 lift_trueT started Tryz.func5 (by kernel_rfl)
  (ChangeSpec.witness_shaped (enc:=enc) (C:=Tryz.checked) (os:=os) (X:=fun w _=>laidMetH Tryz.prog Rows.brainGangRow.laid w) false (World.doorLaid Tryz.prog 14 os) #[.int .u8 0,.int .u8 0,.int .u8 0,.int .u8 0,.slice none 0 0] 8 rfl (World.shaped_of_RefB (by kernel_rfl) (by kernel_rfl)) (by kernel_rfl) (by kernel_rfl) (by kernel_rfl) (BrainGang_met os _))
  rfl rfl (by kernel_rfl) (fun ds h=>by match ds,h with | [a0,a1,a2,a3,a4],_=>rfl) (BrainGang_law enc)
theorem BrainGang_over:Rows.brainGangRow.holds Tryz.pinned (OpenSpec.ofChange Rows.brainGangSpec):=
 OpenClaim.holds_of_wide 5 Tryz.f5 rfl rfl rfl rfl rfl rfl rfl ⟨rfl,rfl,rfl,rfl,rfl⟩ rfl rfl rfl rfl rfl (by kernel_rfl) Tryz.func5 (by kernel_rfl)
  (of_decide_eq_true (by kernel_rfl)) (by unfold Func.isWrapper;first | (rw[if_pos (by decide +kernel)];kernel_rfl) | (rw[if_neg (by decide +kernel)];exact⟨rfl,rfl⟩))
  (fun os started H enc _=>BrainGang_lifted os started H enc)
theorem BrainGang_holds:Rows.BrainGangCardSaid:=
 Claim7.holds_tied_plain_at .later [] [.data] true (true,"4872c1f8a3b510e83d0b533b5dde514eb1aba5b287cb337591b3ec3084a339dd") true
  BrainGang_over (fun _ h=>by cases h) (by kernel_rfl) (fun _ h=>by cases h) brainGang_row_tie rfl ⟨rfl,rfl⟩ (by kernel_rfl) rfl
  (fun f fn hf hfn=>by
   obtain rfl:f=5:=Option.some.inj ((show Tryz.prog.funcNamed "quadrille/quadrillelaw19.BrainGang" = some 5 by kernel_rfl).symm.trans hf) |>.symm
   obtain rfl:fn=Tryz.f5:=(Option.some.inj (Tryz.func5.symm.trans hfn)).symm
   exact⟨by kernel_rfl,fun j t ht=>by
    rw[Tryz.params5]at ht;have hm:t∈[5,5,5,5,41]:=by simpa using Array.mem_of_getElem? ht
    have hall:([5,5,5,5,41].all fun u=>!Tryz.prog.wantsStandIn u)=true:=by kernel_rfl
    exact(show Tryz.prog.wantsStandIn t=false by simpa using List.all_eq_true.1 hall t hm)⟩)
  (by kernel_rfl)
#print axioms BrainGang_holds
end Go.Proofs.YtdackcibfkkniaaGreatDoor
