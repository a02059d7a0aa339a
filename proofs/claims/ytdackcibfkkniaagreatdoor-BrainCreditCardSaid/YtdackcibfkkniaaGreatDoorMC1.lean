/- Texts put together. -/
import Derived.Test.YtdackcibfkkniaaGreatDoorRows
import Derived.WalkKit
import Derived.ProofKit
import Derived.OpenShut
import Derived.SizedLaws
import Derived.Lib.Hide
import Derived.Handy
import Derived.WalkSmall
import Derived.Maps.AppendAt
import Derived.Deep.RegionHeld3
import Derived.Deep.RegionWith
import Derived.Deep.QuietTactic
import Derived.BigQuiet
import Derived.Deep.LoopGhost
import Derived.Deep.DeepCutAuto
import Derived.Deep.DeepMust
import Derived.Deep.RegionLaw
import Derived.WalkSpells
import Derived.Laws.Tables
import Derived.Great.BuildSlice
import Derived.OrdersHeld
import Derived.Deep.Slices
import Derived.Laws.BytesArg
import Derived.MapKept
import Derived.Test.YtdackcibfkkniaaGreatDoorTie
import Derived.Test.YtdackcibfkkniaaGreatDoorCards
import Derived.SevenTiedAt
import Derived.Lib.LaidTab
import Derived.LaidMore
import Derived.Maps.RangeRun
import Derived.Laws.Externs
import Derived.Test.YtdackcibfkkniaaGreatDoorProg
set_option maxRecDepth 20000
set_option synthInstance.maxSize 9999
set_option synthInstance.maxHeartbeats 400000
namespace Go.Proofs.YtdackcibfkkniaaGreatDoor
open Go.ChangeShapes Go.WideShapes Go.ChangeAt Go.RowKit
theorem Qu5:ownKnob Tryz.prog.godebug=none:=by kernel_rfl
theorem laidOut:laidOutB Tryz.prog=true:=by kernel_rfl
section
variable {H:Type}{enc:TypeId×Value→H}
theorem Qc4{W W':World}(hb:Below W.heap.size W W'):∀(ts:List TypeId) (vs:List Value) (ds:List (DataW H)) (ps:List MemPlace),
  (∀t,t∈ts→Tryz.prog.readableRec t=true∧t<Tryz.prog.types.size)→DataW.TrodAll enc Tryz.prog W 0 (fun _=>true) true ts vs ds ps→(∀p∈ps,p.block<W.heap.size) →
  DataW.TrodAll enc Tryz.prog W' 0 (fun b=>decide (b<W.heap.size)) true ts vs ds ps:=by
 intro ts;induction ts with
 | nil=>
  intro vs ds ps _ h _;obtain⟨rfl,rfl,rfl⟩:=trodAll_nil h;exact trodAll_mk0
 | cons t ts ih=>
  intro vs ds ps hr h hp;obtain⟨v,vs',d,ds',p,q,rfl,rfl,rfl,h1,h2⟩:=trodAll_cons h;obtain⟨r1,r2⟩:=hr t (by simp);exact trodAll_cons_mk (Below.trod laidOut r1 r2 h1 hb (fun x hx=>hp x (by simp[hx]))) (ih _ _ _ (fun t ht=>hr t (by simp[ht])) h2 (fun x hx=>hp x (by simp[hx])))
theorem Gb{W:World}:∀(ts:List TypeId) (vs:List Value) (ds:List (DataW H)) (ps:List MemPlace),DataW.TrodAll enc Tryz.prog W 0 (fun _=>true) true ts vs ds ps→ds.length=ts.length:=by
 intro ts;induction ts with
 | nil=>intro vs ds ps h;obtain⟨rfl,rfl,rfl⟩:=trodAll_nil h;rfl
 | cons t ts ih=>intro vs ds ps h;obtain⟨v,vs',d,ds',p,q,rfl,rfl,rfl,h1,h2⟩:=trodAll_cons h;simp[ih _ _ _ h2]
end
theorem Q1q{b n k:Nat}(h:b<n):b<n+k:=by omega
theorem Qvu{b n:Nat}(h:b<n):b<n+1+1:=by omega
theorem Qvt{b n:Nat}(h:b<n):b<n+1+1+1:=by omega
theorem Qvs{b n:Nat}(h:b<n):b<n+1+1+1+1:=by omega
theorem Qvr{b n:Nat}(h:b<n):b<n+1+1+1+1+1:=by omega
theorem Qvq{b n:Nat}(h:b<n):b<n+1+1+1+1+1+1:=by omega
theorem Qvp{b n:Nat}(h:b<n):b<n+1+1+1+1+1+1+1:=by omega
theorem Qvo{b n:Nat}(h:b<n):b<n+1+1+1+1+1+1+1+1:=by omega
theorem Qvn{b n:Nat}(h:b<n):b<n+1+1+1+1+1+1+1+1+1:=by omega
theorem Qrb{b n:Nat}(h:b<n):b<n+1+1+1+1+1+1+1+1+1+1:=by omega
theorem Qra{b n:Nat}(h:b<n):b<n+1+1+1+1+1+1+1+1+1+1+1:=by omega
theorem Qq9{b n:Nat}(h:b<n):b<n+1+1+1+1+1+1+1+1+1+1+1+1:=by omega
attribute [go_sem] Q1q Qvu Qvt Qvs Qvr Qvq Qvp Qvo Qvn Qrb Qra Qq9
def Hp(w:World)(v:Value)(n sz:Nat)(xs:List Value):Prop:=
 xs.length=n*sz∧∃ao c,v=.slice ao n c∧n≤c∧c≤maxLen∧(ao=none→n=0∧c=0) ∧
  ∀a,ao=some a→0<n→a.spot=none∧a.block<w.heap.size∧∀j u,xs[j]?=some u→w.cell? ⟨a.block,a.off+j,none⟩=some u
theorem Hp.mk(w:World)(b off n c sz:Nat)(xs:List Value)(hx:xs.length=n*sz)(hn:n≤c)(hc:c≤maxLen)(hb:b<w.heap.size)(h:∀j u,xs[j]?=some u→w.cell? ⟨b,off+j,none⟩=some u) :
  Hp w (.slice (some ⟨b,off,none⟩) n c) n sz xs:=
 ⟨hx,some ⟨b,off,none⟩,c,rfl,hn,hc,fun h=>(by cases h),fun a ha _=>by cases ha;exact⟨rfl,hb,h⟩⟩
theorem Pt{w:World}{o:Obj}{g:Nat}(h:g=w.heap.size):(w.alloc o).heap[g]?=some o:=by subst h;exact heap_alloc_new w o
theorem Hp.block{W:World}{g n sz:Nat}{e:TypeId}{fr:Nat×Nat}(cs:Array Value)(xs:List Value)(hx:cs.toList=xs)(hg:W.heap[g]?=some (.cells cs e fr))(hn:xs.length=n*sz)(hc:n≤maxLen):Hp W (.slice (some ⟨g,0,none⟩) n n) n sz xs:=by
 refine Hp.mk W g 0 n n sz xs hn (Nat.le_refl _) hc (Array.getElem?_eq_some_iff.1 hg).1 (fun j u hu=>?_);rw[Nat.zero_add,cell_of_row W g j cs e fr hg];rw[←hx]at hu
 simpa using hu
structure Keeps(F:Nat→Prop)(w w':World):Prop where
 os:w'.os=w.os
 tape:w'.tape=w.tape
 output:w'.output=w.output
 size:w.heap.size≤w'.heap.size
 block:∀k,k<w.heap.size→¬F k→w'.heap[k]?=w.heap[k]?
 drawn:w.drawn≤w'.drawn
theorem Keeps.refl(F:Nat→Prop)(w:World):Keeps F w w:=⟨rfl,rfl,rfl,Nat.le_refl _,fun _ _ _=>rfl,Nat.le_refl _⟩
theorem Keeps.trans{F:Nat→Prop}{a b c:World}(h:Keeps F a b)(k:Keeps F b c):Keeps F a c:=
 ⟨k.os.trans h.os,k.tape.trans h.tape,k.output.trans h.output,Nat.le_trans h.size k.size,fun i hi hF=>(k.block i (Nat.lt_of_lt_of_le hi h.size) hF).trans (h.block i hi hF),Nat.le_trans h.drawn k.drawn⟩
theorem Keeps.drew{F:Nat→Prop}{a w:World}(h:Keeps F a w):Keeps F a w.drew:=⟨h.os,h.tape,h.output,h.size,h.block,Nat.le_succ_of_le h.drawn⟩
theorem Keeps.alloc{F:Nat→Prop}{a w:World}(h:Keeps F a w)(o:Obj):Keeps F a (w.alloc o):=
 h.trans ⟨rfl,rfl,rfl,by simp,fun k hk _=>Below.heap_alloc _ _ _ hk,Nat.le_refl _⟩
def Blk(w:World)(b:Nat)(e:TypeId)(cs:Array Value):Prop:=w.heap[b]?=some (.cells cs e (0,0))
theorem Blk.lt{w:World}{b:Nat}{e:TypeId}{cs:Array Value}(h:Blk w b e cs):b<w.heap.size:=(Array.getElem?_eq_some_iff.1 h).1
theorem Blk.cell{w:World}{b:Nat}{e:TypeId}{cs:Array Value}(h:Blk w b e cs):∀o,w.cell? ⟨b,o,none⟩=cs[o]?:=fun o=>cell_of_row w b o cs e (0,0) h
theorem Blk.frozen{w:World}{b:Nat}{e:TypeId}{cs:Array Value}(h:Blk w b e cs):∀o,w.frozen? ⟨b,o,none⟩=false:=fun o=>frozen_of_row w b o cs e h
theorem Blk.new{w:World}{e:TypeId}{cs:Array Value}{b:Nat}(h:b=w.heap.size):Blk (w.alloc (.cells cs e)) b e cs:=Pt h
theorem Blk.set{w:World}{b:Nat}{e:TypeId}{cs:Array Value}(h:Blk w b e cs)(o:Nat)(u:Value):Blk (w.setCell ⟨b,o,none⟩ u) b e (cs.setIfInBounds o u):=heap_setCell_same w b o cs e u h
def Own(w:World)(e:TypeId)(sz:Nat)(v:Value)(n:Nat)(xs:List Value)(g:Option Nat):Prop:=
 xs.length=n*sz∧((v=.slice none 0 0∧n=0∧g=none) ∨
  ∃b off c cur,v=.slice (some ⟨b,off,none⟩) n c∧g=some b∧Blk w b e cur∧n≤c∧c≤maxLen∧off+c*sz≤cur.size∧(cur.toList.drop off).take (n*sz)=xs)
theorem Own.sl{w:World}{e:TypeId}{sz:Nat}{v:Value}{n:Nat}{xs:List Value}{g:Option Nat}(h:Own w e sz v n xs g):Hp w v n sz xs:=by
 refine⟨h.1,?_⟩
 rcases h.2 with ⟨rfl,rfl,_⟩|⟨b,off,c,cur,rfl,_,hb,hn,hc,hs,Hd⟩
 ·exact⟨none,0,rfl,Nat.le_refl _,Nat.zero_le _,fun _=>⟨rfl,rfl⟩,fun a h=>by cases h⟩
 ·refine⟨some ⟨b,off,none⟩,c,rfl,hn,hc,fun h=>(by cases h),fun a ha _=>?_⟩;cases ha;refine⟨rfl,hb.lt,fun j u hu=>?_⟩;rw[hb.cell];rw[←Hd,List.getElem?_take]at hu
  split at hu
  ·rw[List.getElem?_drop]at hu;simpa using hu
  ·cases hu
theorem Own.cases{w:World}{e:TypeId}{sz:Nat}{v:Value}{n:Nat}{xs:List Value}{g:Option Nat}(h:Own w e sz v n xs g) :
  (v=.slice none 0 0∧n=0∧xs=[]∧g=none)∨∃b off c,v=.slice (some ⟨b,off,none⟩) n c∧g=some b∧n≤c∧c≤maxLen∧b<w.heap.size∧(∀j,j<n*sz→w.cell? ⟨b,off+j,none⟩=xs[j]?)∧(∀j,w.frozen? ⟨b,j,none⟩=false):=by
 rcases h.2 with ⟨rfl,rfl,h3⟩|⟨b,off,c,cur,h1,h2,h3,h4,h5,h6,h7⟩
 ·exact .inl ⟨rfl,rfl,List.eq_nil_of_length_eq_zero (by simpa using h.1),h3⟩
 ·refine .inr ⟨b,off,c,h1,h2,h4,h5,h3.lt,fun j hj=>?_,h3.frozen⟩;rw[h3.cell,←h7,List.getElem?_take,if_pos hj,List.getElem?_drop];simp
theorem Own.stored{w:World}{e:TypeId}{sz:Nat}{b off n c:Nat}{xs:List Value}{g:Option Nat}(h:Own w e sz (.slice (some ⟨b,off,none⟩) n c) n xs g)(j:Nat)(u:Value) :
  Own (w.setCell ⟨b,off+j,none⟩ u) e sz (.slice (some ⟨b,off,none⟩) n c) n (xs.set j u) g:=by
 refine⟨by simpa using h.1,?_⟩
 rcases h.2 with ⟨h1,_⟩|⟨b',off',c',cur,h1,h2,h3,h4,h5,h6,h7⟩
 ·cases h1
 ·simp only[Value.slice.injEq,Option.some.injEq,Addr.mk.injEq,and_true,true_and]at h1;obtain⟨⟨rfl,rfl⟩,rfl⟩:=h1;refine .inr ⟨b,off,c,_,rfl,h2,h3.set _ u,h4,h5,by simpa using h6,?_⟩;rw[Array.toList_setIfInBounds,←h7,List.drop_set,if_neg (by omega),Nat.add_sub_cancel_left,List.take_set]
section
variable {P:Program}{w:World}
theorem B1(t ty e:TypeId)(i:TypeInfo)(ht:P.underlying t=some (.slice e))(hi:P.info? e=some i)
  (g off sLen sCap:Nat) (cur:Array Value) (hg:Blk w g e cur)
  (a:Addr) (m c:Nat) (news:List Value) (hl:news.length=m*i.size) (Qw2:∀j u,news[j]?=some u→w.cell? (a.add j)=some u) (h1:∀u∈news,u.oneCell'=true)
  (Qec:sLen+m≤sCap) (Qgk:off+sLen*i.size+news.length≤cur.size) :
  (Builtin.append_ #[t,t] ty #[.slice (some ⟨g,off,none⟩) sLen sCap,.slice (some a) m c]).run P w =
   .ok (.slice (some ⟨g,off,none⟩) (sLen+m) sCap) (w.setRow g (cur.toList.take (off+sLen*i.size)++news++cur.toList.drop (off+sLen*i.size+news.length)).toArray):=by
 have hf:=run_firstCells_some (P:=P) w i.size m a m c news hl Qw2;have Xf:=run_storeCells_at P g (off+sLen*i.size) e news 0 cur w hg (by simpa using Qgk) h1;simp only[Nat.add_zero]at Xf;simp[Builtin.append_,run_underlying ht,sizeOf,typeInfo,hi,Builtin.lenOf,Qec,hf,Addr.add_lit,Xf]
theorem B2(t ty e:TypeId)(i:TypeInfo)(ht:P.underlying t=some (.slice e))(hi:P.info? e=some i)(base:Option Addr)(n c:Nat)(hn:n≤c)(ao:Option Addr)(c':Nat) :
  (Builtin.append_ #[t,t] ty #[.slice base n c,.slice ao 0 c']).run P w=.ok (.slice base n c) w:=by
 cases ao with
 | none=>
  cases base <;> simp[Builtin.append_,run_underlying ht,sizeOf,typeInfo,hi,Builtin.lenOf,hn,Builtin.firstCells,storeCells]
 | some a=>
  have hf:=run_firstCells_some (P:=P) w i.size 0 a 0 c' [] (by simp) (fun j u h=>by simp at h);cases base <;> simp[Builtin.append_,run_underlying ht,sizeOf,typeInfo,hi,Builtin.lenOf,hn,hf,storeCells]
theorem Qai(t ty e:TypeId)(i:TypeInfo)(z:Value)(size bytes:Nat)(ht:P.underlying t=some (.slice e))(hi:P.info? e=some i)(hz:i.zero=some z)
  (Qww:i.size=size) (hby:i.bytes=bytes) (hzs:z.cells.size=size)
  (v:Value) (n:Nat) (xs:List Value) (g:Option Nat) (hown:Own w e size v n xs g)
  (xv:Value) (m:Nat) (news:List Value) (Ql2:Hp w xv m size news) (h1:∀u∈news,u.oneCell'=true)
  (h63:n+m≤maxLen) (Qgm:(n+m)*bytes≤140737488355328) :
  ∃v' w' g',(Builtin.append_ #[t,t] ty #[v,xv]).run P w=.ok v' w'∧Own w' e size v' (n+m) (xs++news) g'∧Keeps (fun b=>g=some b) w w'∧(g'=g∨g'=some w.heap.size):=by
 subst Qww;subst hby
 obtain⟨hl,ao,c,rfl,hmc,hcm,Qjg,Qwv⟩:=Ql2;have hlen:(xs++news).length=(n+m)*i.size:=by rw[List.length_append,hown.1,hl,Nat.add_mul]
 rcases Nat.eq_zero_or_pos m with rfl|hm
 ·have Qw2:news=[]:=List.eq_nil_of_length_eq_zero (by simpa using hl);subst Qw2
  have hnc:∃base c0,v=.slice base n c0∧n≤c0:=by
   rcases hown.2 with ⟨rfl,rfl,_⟩|⟨b,off,c0,cur,rfl,_,_,h4,_⟩
   ·exact⟨none,0,rfl,Nat.le_refl _⟩
   ·exact⟨_,c0,rfl,h4⟩
  obtain⟨base,c0,rfl,hnc⟩:=hnc;exact⟨_,w,g,B2 t ty e i ht hi base n c0 hnc ao c,by simpa using hown,Keeps.refl _ _,.inl rfl⟩
 ·cases ao with
  | none=>have:=(Qjg rfl).1;omega
  | some a=>
   obtain⟨g1,g2,g3⟩:=Qwv a rfl hm
   have Uw:∀j u,news[j]?=some u→w.cell? (a.add j)=some u:=by
    intro j u hu;have:=g3 j u hu;have e:a=⟨a.block,a.off,none⟩:=by rw[←g1]
    rw[e,Addr.add_lit];exact this
   have h63':((n+m:Nat):Int)≤9223372036854775807:=by simp only[maxLen]at h63;omega
   have grown:∀(Xa:Nat),Xa<n+m →
     Own (w.drew.alloc (.cells (xs.toArray++news.toArray++Builtin.zeroCells z.cells (grownCap w (n+m) Xa e-(n+m))) e)) e i.size
      (.slice (some ⟨w.heap.size,0,none⟩) (n+m) (grownCap w (n+m) Xa e)) (n+m) (xs++news) (some w.heap.size):=by
    intro Xa ho;have hge:=grownCap_ge w (n+m) Xa e;have hcm:grownCap w (n+m) Xa e≤maxLen:=grownCap_le_maxLen w (n+m) Xa e h63
    refine⟨hlen,.inr ⟨w.heap.size,0,_,_,rfl,rfl,Blk.new (w:=w.drew) rfl,hge,hcm,?_,?_⟩⟩
    ·simp only[Array.size_append,List.size_toArray,size_zeroCells,hzs,hown.1,hl,←Nat.add_mul,Nat.zero_add];refine Nat.mul_le_mul_right _ (by omega)
    ·simp only[List.drop_zero,Array.toList_append,List.append_assoc];rw[←List.append_assoc,←hlen];exact List.take_left
   rcases hown.2 with ⟨rfl,rfl,rfl⟩|⟨b,off,c0,cur,rfl,rfl,hb,hnc,Zgo,hcs,Hd⟩
   ·have hx:xs=[]:=List.eq_nil_of_length_eq_zero (by simpa using hown.1);subst hx;have hr:=run_append_nil (P:=P) w t ty e i z ht hi hz a m c news hl Uw hm (by omega) (by have hb:=Qgm;simp only[Nat.zero_add]at hb;omega);have hgr:=grown 0 (by omega);simp only[Nat.zero_add,List.nil_append,Array.empty_append]at hgr ⊢;exact⟨_,_,_,hr,hgr,(Keeps.refl _ _).drew.alloc _,.inr rfl⟩
   ·by_cases Qec:n+m≤c0
    ·have Qgk:off+n*i.size+news.length≤cur.size:=by
      have h2:n*i.size+m*i.size≤c0*i.size:=by rw[←Nat.add_mul];exact Nat.mul_le_mul_right _ Qec
      rw[hl];omega
     have hr:=B1 (P:=P) (w:=w) t ty e i ht hi b off n c0 cur hb a m c news hl Uw h1 Qec Qgk
     refine⟨_,_,some b,hr,⟨hlen,.inr ⟨b,off,c0,_,rfl,rfl,setRow_heap w b cur _ e _ hb,Qec,Zgo,?_,?_⟩⟩,?_,.inl rfl⟩
     ·simp only[List.size_toArray,List.length_append,List.length_take,List.length_drop,Array.length_toList];omega
     ·have Wq:(cur.toList.take (off+n*i.size)).length=off+n*i.size:=by simp;omega
      have e1:((cur.toList.take (off+n*i.size)++news++cur.toList.drop (off+n*i.size+news.length)).drop off).take ((n+m)*i.size)=(cur.toList.take (off+n*i.size)).drop off++news:=by
       rw[List.append_assoc,List.drop_append_of_le_length (by omega),Nat.add_mul,←hl,←List.append_assoc];have hll:((cur.toList.take (off+n*i.size)).drop off++news).length=n*i.size+news.length:=by rw[List.length_append,List.length_drop,Wq];omega
       rw[←hll];exact List.take_left
      rw[e1,←Hd,List.drop_take]
      congr 2
      omega
     ·exact⟨rfl,rfl,rfl,by simp[World.setRow],fun k _ hk=>setRow_other w b k _ (fun e=>hk (by rw[e])),Nat.le_refl _⟩
    ·have holds:∀j u,xs[j]?=some u→w.cell? ((⟨b,off,none⟩:Addr).add j)=some u:=by
      intro j u hu;rw[Addr.add_lit];obtain⟨_,ao',c',h1',_,_,_,h5⟩:=hown.sl;simp only[Value.slice.injEq]at h1';obtain⟨rfl,_,rfl⟩:=h1'
      have hn0:0<n:=by
       rcases Nat.eq_zero_or_pos n with h0|h0
       ·subst h0;have hx:xs=[]:=List.eq_nil_of_length_eq_zero (by simpa using hown.1);rw[hx]at hu;simp at hu
       ·exact h0
      exact(h5 _ rfl hn0).2.2 j u hu
     have hr:=run_append_grow (P:=P) w t ty e i z ht hi hz ⟨b,off,none⟩ n c0 xs hown.1 holds a m c news hl Uw (by omega) h63' (growslice_fits (by omega) Qgm);exact⟨_,_,_,hr,grown c0 (by omega),(Keeps.refl _ _).drew.alloc _,.inr rfl⟩
end
theorem Qcq{P:Program}{w:World}{o:Oper}{a:Act}{K:Act→World→Prop}{Q:Exit→Act→World→Prop}(s x:Operand)(t:TypeId)
  (ho:o.op=.call {callee:=.builtin .append,args:=#[s,x],argTypes:=#[t,t]})
  (e:TypeId) (i:TypeInfo) (z:Value) (size bytes:Nat) (ht:P.underlying t=some (.slice e)) (hi:P.info? e=some i) (hz:i.zero=some z)
  (Qww:i.size=size) (hby:i.bytes=bytes) (hzs:z.cells.size=size)
  (v:Value) (n:Nat) (xs:List Value) (g:Option Nat) (hown:Own w e size v n xs g) (hs:a.eval s=v)
  (xv:Value) (m:Nat) (news:List Value) (hx:a.eval x=xv) (Ql2:Hp w xv m size news) (h1:∀u∈news,u.oneCell'=true)
  (h63:n+m≤maxLen) (Qgm:(n+m)*bytes≤140737488355328)
  (h:∀v' w' g',Own w' e size v' (n+m) (xs++news) g'→Keeps (fun b=>g=some b) w w'→(g'=g∨g'=some w.heap.size)→K (a.put o.dst v') w'):o.wp P a w K Q:=by
 obtain⟨v',w',g',hr,h2,h3,h4⟩:=Qai (P:=P) (w:=w) t o.type e i z size bytes ht hi hz Qww hby hzs v n xs g hown xv m news Ql2 h1 h63 Qgm;unfold Oper.wp execOp;simp only[ho,resolve,invoke,builtin,Sem.run_bind,Sem.run_pure,Result.andThen_ok,List.map_toArray,List.map_cons,List.map_nil,hs,hx,hr];exact h v' w' g' h2 h3 h4
def HL:Type:=Nat→Option Obj
namespace HL
def le(h k:HL):Prop:=∀b o,h b=some o→k b=some o
def disj(h k:HL):Prop:=∀b,h b=none∨k b=none
def of(w:World):HL:=fun b=>w.heap[b]?
def join(h k:HL):HL:=fun b=>match h b with|some o=>some o|none=>k b
def one(b:Nat)(o:Obj):HL:=fun x=>if x=b then some o else none
def emp:HL:=fun _=>none
theorem le.refl(h:HL):le h h:=fun _ _ e=>e
theorem le.trans{a b c:HL}(h:le a b)(k:le b c):le a c:=fun x o e=>k x o (h x o e)
theorem disj.symm{a b:HL}(h:disj a b):disj b a:=fun x=>(h x).symm
theorem disj.mono{a b a' b':HL}(h:disj a b)(ha:le a' a)(hb:le b' b):disj a' b':=by
 intro x;cases ea:a' x with
 | none=>exact .inl rfl
 | some o=>
  refine .inr ?_;cases eb:b' x with
  | none=>rfl
  | some p=>rcases h x with h|h <;> simp[ha x _ ea,hb x _ eb]at h
theorem H4(a b:HL):le a (join a b):=fun x o e=>by simp[join,e]
theorem Hh{a b:HL}(h:disj a b):le b (join a b):=fun x o e=>by
 rcases h x with h|h
 ·simp[join,h,e]
 ·rw[h]at e;cases e
theorem join_le{a b c:HL}(ha:le a c)(hb:le b c):le (join a b) c:=fun x o e=>by
 unfold join at e;cases h:a x with
 | none=>rw[h]at e;exact hb x o e
 | some p=>rw[h]at e;cases e;exact ha x _ h
theorem join_none{a b:HL}{x:Nat}(ha:a x=none)(hb:b x=none):join a b x=none:=by simp[join,ha,hb]
theorem P5{a b c:HL}(hb:disj a b)(hc:disj a c):disj a (join b c):=by
 intro x
 rcases hb x with h|h
 ·exact .inl h
 ·rcases hc x with h'|h'
  ·exact .inl h'
  ·exact .inr (join_none h h')
theorem U6(a:HL):le emp a:=fun _ _ e=>by cases e
theorem Ul(a:HL):disj emp a:=fun _=>.inl rfl
theorem one_le{b:Nat}{o:Obj}{h:HL}(e:h b=some o):le (one b o) h:=fun x p hx=>by
 unfold one at hx
 split at hx
 ·rename_i hb;cases hx;rw[hb];exact e
 ·cases hx
theorem Xt(b:Nat)(o:Obj):one b o b=some o:=by simp[one]
theorem Vj{b x:Nat}{o:Obj}(h:x≠b):one b o x=none:=by simp[one,h]
end HL
abbrev Assn:=HL→Prop
def stars:List Assn→HL→Prop
 | [],_=>True
 | P::Γ,h=>∃h1 h2,HL.disj h1 h2∧HL.le h1 h∧HL.le h2 h∧P h1∧stars Γ h2
theorem T1{Γ:List Assn}{h k:HL}(hs:stars Γ h)(hk:HL.le h k):stars Γ k:=by
 cases Γ with
 | nil=>trivial
 | cons P Γ=>
  obtain⟨h1,h2,d,l1,l2,p,s⟩:=hs;exact⟨h1,h2,d,l1.trans hk,l2.trans hk,p,s⟩
theorem Qk8{P Q:Assn}{Γ:List Assn}{h:HL}(hs:stars (P::Q::Γ) h):stars (Q::P::Γ) h:=by
 obtain⟨h1,h2,d,l1,l2,p,h3,h4,d',l3,l4,q,s⟩:=hs;have d14:HL.disj h1 h4:=d.mono (HL.le.refl _) l4;exact⟨h3,HL.join h1 h4,HL.P5 (d.mono (HL.le.refl _) l3).symm d',l3.trans l2,HL.join_le l1 (l4.trans l2),q,h1,h4,d14,HL.H4 _ _,HL.Hh d14,p,s⟩
def Ent(Γ Δ:List Assn):Prop:=∀h,stars Γ h→stars Δ h
theorem Ent.refl(Γ:List Assn):Ent Γ Γ:=fun _ h=>h
theorem Ent.trans{Γ Δ Θ:List Assn}(h:Ent Γ Δ)(k:Ent Δ Θ):Ent Γ Θ:=fun x hx=>k x (h x hx)
theorem Ent.cons{Γ Δ:List Assn}(P:Assn)(h:Ent Γ Δ):Ent (P::Γ) (P::Δ):=fun _ ⟨h1,h2,d,l1,l2,p,s⟩=>⟨h1,h2,d,l1,l2,p,h _ s⟩
theorem Ent.swap(P Q:Assn)(Γ:List Assn):Ent (P::Q::Γ) (Q::P::Γ):=fun _ h=>Qk8 h
theorem Ent.drop(P:Assn)(Γ:List Assn):Ent (P::Γ) Γ:=fun _ ⟨_,_,_,_,l2,_,s⟩=>T1 s l2
theorem Ent.W9{P Q:Assn}(Γ:List Assn)(h:∀x,P x→Q x):Ent (P::Γ) (Q::Γ):=fun _ ⟨h1,h2,d,l1,l2,p,s⟩=>⟨h1,h2,d,l1,l2,h _ p,s⟩
theorem Ent.append{Γ Δ:List Assn}(Θ:List Assn)(h:Ent Γ Δ):Ent (Θ++Γ) (Θ++Δ):=by
 induction Θ with
 | nil=>exact h
 | cons P Θ ih=>exact ih.cons P
theorem Y6{Γ Δ:List Assn}{h:HL}:stars (Γ++Δ) h↔stars (stars Γ::Δ) h:=by
 induction Γ generalizing h with
 | nil=>exact⟨fun hs=>⟨HL.emp,h,HL.Ul _,HL.U6 _,HL.le.refl _,trivial,hs⟩,fun⟨_,_,_,_,l2,_,s⟩=>T1 s l2⟩
 | cons P Γ ih=>
  constructor
  ·rintro ⟨h1,h2,d,l1,l2,p,s⟩;obtain⟨h3,h4,d',l3,l4,q,s'⟩:=ih.1 s;have d13:HL.disj h1 h3:=d.mono (HL.le.refl _) l3;refine⟨HL.join h1 h3,h4,(HL.P5 (d.mono (HL.le.refl _) l4).symm d'.symm).symm,HL.join_le l1 (l3.trans l2),l4.trans l2,⟨h1,h3,d13,HL.H4 _ _,HL.Hh d13,p,q⟩,s'⟩
  ·rintro ⟨h1,h2,d,l1,l2,⟨h3,h4,d',l3,l4,p,q⟩,s⟩;have d42:HL.disj h4 h2:=d.mono l4 (HL.le.refl _);exact⟨h3,HL.join h4 h2,HL.P5 d' (d.mono l3 (HL.le.refl _)),l3.trans l1,HL.join_le (l4.trans l1) l2,p,ih.2 ⟨h4,h2,d42,HL.H4 _ _,HL.Hh d42,q,s⟩⟩
class Pick(P:Assn)(Γ:List Assn)(Δ:outParam (List Assn)):Prop where
 Qh:Ent Γ (P::Δ)
instance (priority:=high) Pick.head{P:Assn}{Γ:List Assn}:Pick P (P::Γ) Γ:=⟨Ent.refl _⟩
instance Pick.tail{P Q:Assn}{Γ Δ:List Assn}[h:Pick P Γ Δ]:Pick P (Q::Γ) (Q::Δ):=⟨(h.Qh.cons Q).trans (Ent.swap _ _ _)⟩
class Tail(Δ Γ:List Assn):Prop where
 Qh:Ent Γ Δ
instance (priority:=high) Tail.refl{Γ:List Assn}:Tail Γ Γ:=⟨Ent.refl _⟩
instance Tail.drop{P:Assn}{Δ Γ:List Assn}[h:Tail Δ Γ]:Tail Δ (P::Γ):=⟨(Ent.drop P Γ).trans h.Qh⟩
class Sub(Δ Γ:List Assn):Prop where
 Qh:Ent Γ Δ
instance (priority:=high) Sub.nil{Γ:List Assn}:Sub [] Γ:=⟨fun _ _=>trivial⟩
instance Sub.cons{P:Assn}{Δ Γ Θ:List Assn}[p:Pick P Γ Θ][s:Sub Δ Θ]:Sub (P::Δ) Γ:=⟨p.Qh.trans (s.Qh.cons P)⟩
instance (priority:=low) Sub.tail{Δ Γ:List Assn}[h:Tail Δ Γ]:Sub Δ Γ:=⟨h.Qh⟩
class Picks(Δ Γ:List Assn)(Θ:outParam (List Assn)):Prop where
 Qh:Ent Γ (Δ++Θ)
instance (priority:=high) Picks.nil{Γ:List Assn}:Picks [] Γ Γ:=⟨Ent.refl _⟩
instance Picks.cons{P:Assn}{Δ Γ Θ Ξ:List Assn}[p:Pick P Γ Θ][s:Picks Δ Θ Ξ]:Picks (P::Δ) Γ Ξ:=⟨p.Qh.trans (s.Qh.cons P)⟩
def Sat(w:World)(Γ:List Assn):Prop:=∃h,HL.le h (HL.of w)∧stars Γ h
theorem Sat.Qh{w:World}{Γ Δ:List Assn}(h:Sat w Γ)(e:Ent Γ Δ):Sat w Δ:=h.imp fun _ ⟨l,s⟩=>⟨l,e _ s⟩
theorem Sat.of_heap{w w':World}{Γ:List Assn}(h:Sat w Γ)(e:w'.heap=w.heap):Sat w' Γ:=by
 obtain⟨h,l,s⟩:=h;exact⟨h,fun b o hb=>by have:=l b o hb;unfold HL.of at *;rw[e];exact this,s⟩
theorem Sat.head{w:World}{P:Assn}{Γ:List Assn}(h:Sat w (P::Γ)):∃x,HL.le x (HL.of w)∧P x:=by
 obtain⟨h,l,h1,h2,d,l1,l2,p,s⟩:=h;exact⟨h1,l1.trans l,p⟩
theorem Sat.upd{w w':World}{P P':Assn}{Γ:List Assn}(hs:Sat w (P::Γ))
  (h:∀x,HL.le x (HL.of w)→P x→∃x',HL.le x' (HL.of w')∧P' x'∧(∀b,x b=none→w.heap[b]?≠none→x' b=none∧w'.heap[b]?=w.heap[b]?)):Sat w' (P'::Γ):=by
 obtain⟨h0,l,h1,h2,d,l1,l2,p,s⟩:=hs;obtain⟨x',lx,px,fx⟩:=h h1 (l1.trans l) p
 have l2':HL.le h2 (HL.of w'):=fun b o e=>by
  have hb:=l2.trans l b o e;have hn:h1 b=none:=(d b).resolve_right (by rw[e];simp);have:=(fx b hn (by unfold HL.of at hb;rw[hb];simp)).2;unfold HL.of at *;rw[this];exact hb
 have dd:HL.disj x' h2:=fun b=>by
  cases e:h2 b with
  | none=>exact .inr rfl
  | some o=>
   have hb:=l2.trans l b o e;have hn:h1 b=none:=(d b).resolve_right (by rw[e];simp);exact .inl (fx b hn (by unfold HL.of at hb;rw[hb];simp)).1
 exact⟨HL.join x' h2,HL.join_le lx l2',x',h2,dd,HL.H4 _ _,HL.Hh dd,px,s⟩
def blk(b:Nat)(e:TypeId)(cs:Array Value):Assn:=fun h=>h b=some (.cells cs e (0,0))
theorem Sat.Qwb{w:World}{b:Nat}{e:TypeId}{cs:Array Value}{Γ:List Assn}(h:Sat w (blk b e cs::Γ)):Blk w b e cs:=by
 obtain⟨x,l,p⟩:=h.head;exact l b _ p
theorem Sat.alloc{w:World}{Γ:List Assn}(h:Sat w Γ)(e:TypeId)(cs:Array Value):Sat (w.alloc (.cells cs e)) (blk w.heap.size e cs::Γ):=by
 have h':Sat w ((fun _=>True:Assn)::Γ):=by
  obtain⟨x,l,s⟩:=h;exact⟨x,l,HL.emp,x,HL.Ul _,HL.U6 _,HL.le.refl _,trivial,s⟩
 refine h'.upd fun x _ _=>⟨HL.one w.heap.size (.cells cs e),HL.one_le (Pt rfl),HL.Xt _ _,fun b _ hb=>?_⟩
 have Wq:b<w.heap.size:=by
  rcases Nat.lt_or_ge b w.heap.size with h|h
  ·exact h
  ·simp[Array.getElem?_eq_none h]at hb
 exact⟨HL.Vj (by omega),Below.heap_alloc _ _ _ Wq⟩
theorem Sat.setCell{w:World}{Γ:List Assn}{b:Nat}{e:TypeId}{cs:Array Value}(h:Sat w (blk b e cs::Γ))(o:Nat)(v:Value) :
  Sat (w.setCell ⟨b,o,none⟩ v) (blk b e (cs.setIfInBounds o v)::Γ):=by
 refine h.upd fun x l p=>⟨HL.one b (.cells (cs.setIfInBounds o v) e),HL.one_le ((show Blk w b e cs from l b _ p).set o v),HL.Xt _ _,fun c hc _=>?_⟩;have Uk:c≠b:=fun e=>by subst e;rw[p]at hc;cases hc
 exact⟨HL.Vj Uk,Below.heap_setCell _ _ _ _ Uk⟩
structure Zhe(w w':World):Prop where
 os:w'.os=w.os
 tape:w'.tape=w.tape
 output:w'.output=w.output
 size:w.heap.size≤w'.heap.size
 drawn:w.drawn≤w'.drawn
structure WM(md:Bool) where
 w:World
structure Ext{md:Bool}(a:WM md)(w':World):Prop where
 os:w'.os=a.w.os
 tape:w'.tape=a.w.tape
 output:w'.output=a.w.output
 size:a.w.heap.size≤w'.heap.size
 drawn:md=true→a.w.drawn≤w'.drawn
theorem Ext.refl{md:Bool}(w:World):Ext (⟨w⟩:WM md) w:=⟨rfl,rfl,rfl,Nat.le_refl _,fun _=>Nat.le_refl _⟩
theorem Ext.trans{md:Bool}{a:WM md}{b c:World}(h:Ext a b)(k:Zhe b c):Ext a c:=⟨k.os.trans h.os,k.tape.trans h.tape,k.output.trans h.output,Nat.le_trans h.size k.size,fun e=>Nat.le_trans (h.drawn e) k.drawn⟩
theorem Ext.Qk5{md:Bool}{a:WM md}{b c:World}(h:Ext a b)(k:Ext (⟨b⟩:WM md) c):Ext a c:=⟨k.os.trans h.os,k.tape.trans h.tape,k.output.trans h.output,Nat.le_trans h.size k.size,fun e=>Nat.le_trans (h.drawn e) (k.drawn e)⟩
theorem Ext.alloc{md:Bool}{a:WM md}{w:World}(h:Ext a w)(o:Obj):Ext a (w.alloc o):=h.trans ⟨rfl,rfl,rfl,by simp,Nat.le_refl _⟩
theorem Ext.setCell{md:Bool}{a:WM md}{w:World}(h:Ext a w)(p:Addr)(v:Value):Ext a (w.setCell p v):=h.trans ⟨rfl,rfl,rfl,by simp[World.setCell],Nat.le_refl _⟩
theorem Ext.drew{md:Bool}{a:WM md}{w:World}(h:Ext a w):Ext a w.drew:=⟨h.os,h.tape,h.output,h.size,fun e=>Nat.le_succ_of_le (h.drawn e)⟩
abbrev Env:=List (Nat×Value)
abbrev Env.get:Env→Nat→Option Value
 | [],_=>none
 | (t,v)::ρ,x=>match Nat.beq t x with
  | true=>some v
  | false=>Env.get ρ x
abbrev ev(ρ:Env):Operand→Option Value
 | .tmp t=>Env.get ρ t
 | .const v=>some v
 | .global g=>some (.pointer (some ⟨g,0,none⟩))
 | .func f=>some (.func (.func f) #[] #[])
structure Uc(n:Nat)(ρ:Env)(a:Act):Prop where
 size:a.tmps.size=n
 defers:a.defers=[]
 get:∀t v,Env.get ρ t=some v→a.tmps.getD t undef=v
theorem Uc.ev{n:Nat}{ρ:Env}{a:Act}(h:Uc n ρ a){x:Operand}{v:Value}(hx:ev ρ x=some v):a.eval x=v:=by
 cases x with
 | tmp t=>exact h.get t v hx
 | const u=>simpa [Act.eval,Go.Proofs.YtdackcibfkkniaaGreatDoor.ev] using hx
 | global g=>simpa [Act.eval,Go.Proofs.YtdackcibfkkniaaGreatDoor.ev] using hx
 | func f=>simpa [Act.eval,Go.Proofs.YtdackcibfkkniaaGreatDoor.ev] using hx
theorem Uc.put{n:Nat}{ρ:Env}{a:Act}(h:Uc n ρ a){d:Nat}(hd:Nat.blt d n=true)(v:Value):Uc n ((d,v)::ρ) (a.put (some d) v):=by
 have hd':d<a.tmps.size:=by rw[h.size];have:=hd;simp[Nat.blt]at this;omega
 refine⟨by simp[Act.put,h.size],h.defers,fun t u hu=>?_⟩;unfold Env.get at hu;cases hb:Nat.beq d t with
 | true=>
  rw[hb]at hu;have:=Nat.eq_of_beq_eq_true hb;subst this;cases hu;simp[Act.put,hd']
 | false=>
  rw[hb]at hu;have Uk:d≠t:=fun e=>by subst e;simp[Nat.beq_refl]at hb
  have:=h.get t u hu
  simpa [Act.put,Array.getElem?_setIfInBounds_ne Uk] using this
def Fy:Env→Env→Prop
 | [],_=>True
 | (t,v)::σ,ρ=>Env.get ρ t=some v∧Fy σ ρ
theorem Fy.get{σ ρ:Env}(h:Fy σ ρ):∀t v,Env.get σ t=some v→Env.get ρ t=some v:=by
 induction σ with
 | nil=>intro t v hv;cases hv
 | cons p σ ih=>
  intro t v hv;obtain⟨t',v'⟩:=p;unfold Env.get at hv;cases hb:Nat.beq t' t with
  | true=>
   rw[hb]at hv;have:=Nat.eq_of_beq_eq_true hb;subst this;cases hv;exact h.1
  | false=>rw[hb]at hv;exact ih h.2 t v hv
theorem Uc.sub{n:Nat}{σ ρ:Env}{a:Act}(h:Uc n ρ a)(hs:Fy σ ρ):Uc n σ a:=⟨h.size,h.defers,fun t v hv=>h.get t v (hs.get t v hv)⟩
def S{md:Bool}(n:Nat)(w0:WM md)(ρ:Env)(Γ:List Assn)(φ:Act→World→Prop):Prop:=∀a w,Uc n ρ a→Sat w Γ→Ext w0 w→φ a w
def Spec(P:Program)(f:FuncId)(args:List Value)(pre:List Assn)(post:List Assn→Value→List Assn→Prop)(md:Bool:=false):Prop:=
 ∀(Γ:List Assn) (w:World),Sat w (pre++Γ)→Calls P f args.toArray w fun e w'=>∃v Θ,e=.returned v∧post Γ v Θ∧Sat w' Θ∧Ext (⟨w⟩:WM md) w'
def Fin{md:Bool}(P:Program)(fn:Func)(post:List Assn→Value→List Assn→Prop)(Γ:List Assn)(w0:WM md):Exit→Act→World→Prop:=
 bodyPost P fn fun e w'=>∃v Θ,e=.returned v∧post Γ v Θ∧Sat w' Θ∧Ext w0 w'
def Dt:Nat→List Value→Env
 | _,[]=>[]
 | k,v::l=>(k,v)::Dt (k+1) l
theorem Mo(l:List Value):∀k t v,Env.get (Dt k l) t=some v→k≤t∧l[t-k]?=some v:=by
 induction l with
 | nil=>intro k t v h;cases h
 | cons u l ih=>
  intro k t v h;unfold Dt Env.get at h;cases hb:Nat.beq k t with
  | true=>
   rw[hb]at h;have:=Nat.eq_of_beq_eq_true hb;subst this;cases h;simp
  | false=>
   rw[hb]at h;obtain⟨h1,h2⟩:=ih (k+1) t v h;refine⟨by omega,?_⟩;rw[show t-k=(t-(k+1))+1 by omega]
   simpa using h2
section
variable {P:Program}{n:Nat}{md:Bool}{w0:WM md}{ρ:Env}{Γ:List Assn}{Q:Exit→Act→World→Prop}
theorem Spec.U8{f:FuncId}{fn:Func}{c:Code}{l:List Value}{pre:List Assn}{post:List Assn→Value→List Assn→Prop}(hf:P.funcs[f]?=some fn)(hb:fn.body=some c)(hn:fn.ntmps=n)(hl:Nat.ble l.length n=true)
  (h:∀(w0:WM md) Γ,S n w0 (Dt 0 l) (pre++Γ) (c.wp P (Fin P fn post Γ w0))):Spec P f l pre post md:=by
 intro Γ w hs
 refine calls_of_wp hf hb (h ⟨w⟩ Γ _ w ⟨?_,rfl,fun t v hv=>?_⟩ hs (Ext.refl _))
 ·have:=Nat.le_of_ble_eq_true hl;simp[hn];omega
 ·obtain⟨_,h2⟩:=Mo l 0 t v hv;simp only[Nat.sub_zero]at h2;have Wq:t<l.length:=(List.getElem?_eq_some_iff.1 h2).1;have:=(List.getElem?_eq_some_iff.1 h2).2;simp[Array.getElem?_append_left,Wq,this]
theorem S.mono{φ ψ:Act→World→Prop}(h:S n w0 ρ Γ φ)(k:∀a w,φ a w→ψ a w):S n w0 ρ Γ ψ:=fun a w ha hs hx=>k _ _ (h a w ha hs hx)
theorem S.Qh{φ:Act→World→Prop}{Δ:List Assn}(e:Ent Γ Δ)(h:S n w0 ρ Δ φ):S n w0 ρ Γ φ:=fun a w ha hs hx=>h a w ha (hs.Qh e) hx
theorem S.sub{φ:Act→World→Prop}(Δ:List Assn)[e:Sub Δ Γ](h:S n w0 ρ Δ φ):S n w0 ρ Γ φ:=S.Qh e.Qh h
theorem S.seq{x y:Code}(h:∀K:Act→World→Prop,(∀ρ Γ,S n w0 ρ Γ (y.wp P Q)→S n w0 ρ Γ K)→S n w0 ρ Γ (x.wp P (Exit.then K Q))):S n w0 ρ Γ ((Code.seq x y).wp P Q):=
 fun a w ha hs hx=>wp_seq (h _ (fun _ _ h=>h) a w ha hs hx)
theorem S.skip(h:S n w0 ρ Γ (Q .normal)):S n w0 ρ Γ (Code.skip.wp P Q):=fun a w ha hs hx=>wp_skip (h a w ha hs hx)
theorem S.block{id:Nat}{c:Code}(h:S n w0 ρ Γ (c.wp P (Exit.inBlock id Q))):S n w0 ρ Γ ((Code.block id c).wp P Q):=fun a w ha hs hx=>wp_block (h a w ha hs hx)
theorem S.exit{id:Nat}(h:S n w0 ρ Γ (Q (.exit id))):S n w0 ρ Γ ((Code.exit id).wp P Q):=fun a w ha hs hx=>wp_exit (h a w ha hs hx)
theorem S.ret(h:S n w0 ρ Γ (Q .ret)):S n w0 ρ Γ (Code.ret.wp P Q):=fun a w ha hs hx=>wp_ret (h a w ha hs hx)
theorem S.cond{c:Operand}{x y:Code}{t:Bool}(hc:ev ρ c=some (.bool t))(h1:t=true→S n w0 ρ Γ (x.wp P Q))(h2:t=false→S n w0 ρ Γ (y.wp P Q)):S n w0 ρ Γ ((Code.cond c x y).wp P Q):=
 fun a w ha hs hx=>wp_cond_split (ha.ev hc) (fun e=>h1 e a w ha hs hx) (fun e=>h2 e a w ha hs hx)
theorem S.Q5s{c:Operand}{x y:Code}{p:Prop}[d:Decidable p](hc:ev ρ c=some (.bool (decide p)))(h1:p→S n w0 ρ Γ (x.wp P Q))(h2:¬p→S n w0 ρ Γ (y.wp P Q)):S n w0 ρ Γ ((Code.cond c x y).wp P Q):=
 S.cond hc (fun e=>h1 (of_decide_eq_true e)) (fun e=>h2 (of_decide_eq_false e))
theorem S.Qjz{c:Operand}{x y:Code}(hc:ev ρ c=some (.bool true))(h:S n w0 ρ Γ (x.wp P Q)):S n w0 ρ Γ ((Code.cond c x y).wp P Q):=fun a w ha hs hx=>wp_cond_true (ha.ev hc) (h a w ha hs hx)
theorem S.R2{c:Operand}{x y:Code}(hc:ev ρ c=some (.bool false))(h:S n w0 ρ Γ (y.wp P Q)):S n w0 ρ Γ ((Code.cond c x y).wp P Q):=fun a w ha hs hx=>wp_cond_false (ha.ev hc) (h a w ha hs hx)
theorem S.Vq{K:Act→World→Prop}(h:S n w0 ρ Γ K):S n w0 ρ Γ (Exit.then K Q .normal):=h
theorem S.Vp{K:Act→World→Prop}{i:Nat}(h:S n w0 ρ Γ (Q (.exit i))):S n w0 ρ Γ (Exit.then K Q (.exit i)):=h
theorem S.Y2{i:Nat}(h:S n w0 ρ Γ (Q .normal)):S n w0 ρ Γ (Exit.inBlock i Q .normal):=h
theorem S.Ps{i:Nat}(h:S n w0 ρ Γ (Q .normal)):S n w0 ρ Γ (Exit.inBlock i Q (.exit i)):=fun a w ha hs hx=>by simpa [Exit.inBlock] using h a w ha hs hx
def Next{md:Bool}(n:Nat)(w0:WM md)(I:Nat→Env→List Assn→Prop)(m:Nat):Act→World→Prop:=fun a w=>∃m',m' < m∧∃ρ Γ,I m' ρ Γ∧Uc n ρ a∧Sat w Γ∧Ext w0 w
theorem S.loop{c:Code}(I:Nat→Env→List Assn→Prop){m:Nat}{ρ0:Env}{Γ0:List Assn}(h0:I m ρ0 Γ0)(hρ:Fy ρ0 ρ)(hΓ:Ent Γ Γ0)
  (round:∀m ρ Γ,I m ρ Γ→S n w0 ρ Γ (c.wp P (Exit.then (Next n w0 I m) Q))):S n w0 ρ Γ ((Code.loop c).wp P Q):=by
 intro a w ha hs hx;refine wp_loop_ghost (fun k a w=>∃ρ Γ,I k ρ Γ∧Uc n ρ a∧Sat w Γ∧Ext w0 w) m ⟨ρ0,Γ0,h0,ha.sub hρ,hs.Qh hΓ,hx⟩ ?_;rintro k a w ⟨ρ,Γ,hI,ha,hs,hx⟩;exact round k ρ Γ hI a w ha hs hx
theorem S.next{I:Nat→Env→List Assn→Prop}{m:Nat}(m':Nat){ρ':Env}{Γ':List Assn}(hI:I m' ρ' Γ')(hm:m' < m)(hρ:Fy ρ' ρ)(hΓ:Ent Γ Γ'):S n w0 ρ Γ (Next n w0 I m):=
 fun _ _ ha hs hx=>⟨m',hm,ρ',Γ',hI,ha.sub hρ,hs.Qh hΓ,hx⟩
end
def J3(P:Program)(t:TypeId):Bool:=match P.underlying t with
 | some (.struct _)|some (.array _ _)|none=>false
 | some _=>(P.info? t).map (·.size)==some 1
def Mp(P:Program)(t:TypeId):Option Nat:=match P.underlying t with
 | some (.struct _)|some (.array _ _)=>(P.info? t).map (·.size)
 | _=>none
def Mh(P:Program)(t:TypeId)(f:Nat):Option Nat:=match P.underlying t with
 | some (.struct fs)=>match fs[f]? with
  | some x=>match P.info? x.type with
   | some i=>if i.size=0 then none else some x.offset
   | none=>none
  | none=>none
 | _=>none
def Wr(P:Program)(t:TypeId):Option (List Value):=((P.info? t).bind (·.zero)).map (·.cells.toList)
def Dz(P:Program)(t:TypeId):Option (TypeId×Nat):=match P.underlying t with
 | some (.slice e)=>(P.info? e).map fun i=>(e,i.size)
 | _=>none
def Qsi(P:Program)(t:TypeId):Option (Nat×Nat):=match P.underlying t with
 | some (.array n e)=>(P.info? e).map fun i=>(n,i.size)
 | _=>none
def Qcw(P:Program)(t:TypeId):Option IntKind:=match P.underlying t with
 | some (.int k)=>some k
 | _=>none
def V5(P:Program)(f:FuncId):Bool:=match P.funcs[f]? with
 | some fn=>fn.name != "runtime.NumGoroutine" && fn.body.isSome
 | none=>false
def Wu(P:Program)(t:TypeId):Option (List (Nat×Nat)):=match P.underlying t with
 | some (.struct fs)=>fs.toList.mapM fun f=>(P.info? f.type).map fun i=>(f.offset,i.size)
 | _=>none
abbrev lg:List Value→Nat→Option Value
 | [],_=>none
 | v::_,0=>some v
 | _::vs,n+1=>lg vs n
theorem Q4q:∀(l:List Value) (n:Nat),lg l n=l[n]?
 | [],_=>by simp[lg]
 | _::_,0=>by simp[lg]
 | _::vs,n+1=>by simp[lg,Q4q vs n]
theorem Qf9{cs:Array Value}{o:Nat}{v:Value}(h:lg cs.toList o=some v):cs[o]?=some v:=by rw[Q4q]at h;simpa using h
def Seg(cs:Array Value)(o:Nat):List Value→Prop
 | []=>True
 | v::vs=>lg cs.toList o=some v∧Seg cs (o+1) vs
theorem Seg.get{cs:Array Value}{o:Nat}{vs:List Value}(h:Seg cs o vs):∀j v,vs[j]?=some v→cs[o+j]?=some v:=by
 induction vs generalizing o with
 | nil=>intro j v h;simp at h
 | cons u vs ih=>
  intro j v hv;cases j with
  | zero=>simp only[List.getElem?_cons_zero,Option.some.injEq]at hv;subst hv;exact Qf9 h.1
  | succ j=>have:=ih h.2 j v (by simpa using hv);rwa [show o+1+j=o+(j+1) by omega]at this
def EvL(ρ:Env):List Operand→List Value→Prop
 | [],[]=>True
 | x::xs,v::vs=>ev ρ x=some v∧EvL ρ xs vs
 | _,_=>False
theorem EvL.map{n:Nat}{ρ:Env}{a:Act}(ha:Uc n ρ a):∀ {xs:List Operand} {vs:List Value},EvL ρ xs vs→xs.map a.eval=vs
 | [],[],_=>rfl
 | _::_,_::_,h=>by rw[List.map_cons,ha.ev h.1,EvL.map ha h.2]
 | [],_::_,h=>h.elim
 | _::_,[],h=>h.elim
class Et(Γ:List Assn)(b:Nat)(e:outParam TypeId)(cs:outParam (Array Value))(Δ:outParam (List Assn)):Prop where
 Qh:Ent Γ (blk b e cs::Δ)
instance (priority:=high) Et.head{Γ:List Assn}{b:Nat}{e:TypeId}{cs:Array Value}:Et (blk b e cs::Γ) b e cs Γ:=⟨Ent.refl _⟩
instance Et.tail{P:Assn}{Γ Δ:List Assn}{b:Nat}{e:TypeId}{cs:Array Value}[h:Et Γ b e cs Δ]:Et (P::Γ) b e cs (P::Δ):=⟨(h.Qh.cons P).trans (Ent.swap _ _ _)⟩
theorem Et.blk{Γ Δ:List Assn}{b:Nat}{e:TypeId}{cs:Array Value}(h:Et Γ b e cs Δ){w:World}(hs:Sat w Γ):Blk w b e cs:=(hs.Qh h.Qh).Qwb
def Qv(P:Program)(n:Nat)(ρ:Env)(Γ:List Assn)(o:Oper)(v:Value):Prop:=∀a w,Uc n ρ a→Sat w Γ→(execOp a.eval o).run P w=.ok (.value v) w
def Ow(P:Program)(Q:Exit→Act→World→Prop)(o:Oper)(K:Act→World→Prop):Act→World→Prop:=fun a w=>o.wp P a w K Q
def wpL(P:Program)(Q:Exit→Act→World→Prop):List Oper→Act→World→Prop
 | [],a,w=>Q .normal a w
 | o::rest,a,w=>o.wp P a w (wpL P Q rest) Q
theorem Qc9{P:Program}{Q:Exit→Act→World→Prop}{ops:Array Oper}:∀(l:List Oper),(l.all fun o=>o.guard.isNone)=true→∀a w,wpL P Q l a w→wpList P ops Q l a w:=by
 intro l;induction l with
 | nil=>intro _ a w h;exact h
 | cons o l ih=>
  intro hg a w h;simp only[List.all_cons,Bool.and_eq_true,Option.isNone_iff_eq_none]at hg;unfold wpList;rw[if_pos (by simp[Region.wanted,hg.1])];exact .inl (Oper.wp_mono (ih hg.2) h)
section
variable {P:Program}{n:Nat}{md:Bool}{w0:WM md}{ρ:Env}{Γ:List Assn}{Q:Exit→Act→World→Prop}{K:Act→World→Prop}{rest:List Oper}{ty:TypeId}{pos:String}{af:Array Edge}{gd:Option (Nat×Bool)}{d:Nat}{ds:Option Tmp}
theorem S.region{id:Nat}{l:List Oper}(hg:(l.all fun o=>o.guard.isNone)=true)(h:S n w0 ρ Γ (wpL P Q l)):S n w0 ρ Γ ((Code.region id l.toArray false).wp P Q):=
 fun a w ha hs hx=>wp_region_lit (Qc9 l hg a w (h a w ha hs hx))
theorem S.Cs(h:S n w0 ρ Γ K):S n w0 ρ Γ (wpL P (Exit.then K Q) []):=h
theorem S.op{o:Oper}(h:S n w0 ρ Γ (Ow P Q o (wpL P Q rest))):S n w0 ρ Γ (wpL P Q (o::rest)):=h
theorem S.q{o:Oper}{v:Value}(h:Qv P n ρ Γ o v)(hd:o.dst=some d)(hn:Nat.blt d n=true)(k:S n w0 ((d,v)::ρ) Γ K):S n w0 ρ Γ (Ow P Q o K):=by
 intro a w ha hs hx;unfold Ow Oper.wp;rw[h a w ha hs,Oper.upon_value,hd];exact k _ _ (ha.put hn v) hs hx
theorem Z8{x:Operand}{v:Value}(hx:ev ρ x=some v):Qv P n ρ Γ ⟨ds,.move x,ty,pos,af,gd⟩ v:=fun a w ha _=>by simp[execOp,ha.ev hx]
theorem Jl{x:Operand}{v:Value}(hx:ev ρ x=some v):Qv P n ρ Γ ⟨ds,.assign x,ty,pos,af,gd⟩ v:=fun a w ha _=>by simp[execOp,ha.ev hx]
theorem Qlj{x:Operand}{p:Addr}(hx:ev ρ x=some (.pointer (some p))):Qv P n ρ Γ ⟨ds,.nilCheck x,ty,pos,af,gd⟩ (.pointer (some p)):=fun a w ha _=>by simp[execOp,ha.ev hx]
theorem Qod{t f:Nat}{x:Operand}{b o c:Nat}(hf:Mh P t f=some c)(hx:ev ρ x=some (.pointer (some ⟨b,o,none⟩))):Qv P n ρ Γ ⟨ds,.fieldAddr t x f,ty,pos,af,gd⟩ (.pointer (some ⟨b,o+c,none⟩)):=by
 intro a w ha _;unfold Mh at hf
 split at hf
 ·rename_i fs Sj
  split at hf
  ·rename_i y hy
   split at hf
   ·rename_i i hi
    split at hf
    ·cases hf
    ·rename_i Uk;cases hf;simp[execOp,ha.ev hx,Instr.fieldAt,run_underlying Sj,hy,Instr.sureAddr,fieldPlace,sizeOf,typeInfo,hi,Uk,Addr.add_lit]
   ·cases hf
  ·cases hf
 ·cases hf
theorem W8{t:TypeId}(h:J3 P t=true)(w:World):(isAgg t).run P w=.ok false w∧(sizeOf t).run P w=.ok 1 w:=by
 unfold J3 at h
 split at h
 ·cases h
 ·cases h
 ·cases h
 ·rename_i dd h1 h2 h3;cases hi:P.info? t with
  | none=>simp[hi]at h
  | some i=>
   simp only[hi,Option.map_some,beq_iff_eq,Option.some.injEq]at h;refine⟨?_,by simp[sizeOf,typeInfo,hi,h]⟩;unfold isAgg;rw[Sem.run_bind,run_underlying h3];cases dd <;> simp_all
theorem X0{t:TypeId}{k:Nat}(h:Mp P t=some k)(w:World):(isAgg t).run P w=.ok true w∧(sizeOf t).run P w=.ok k w:=by
 unfold Mp at h
 split at h
 ·rename_i dd h1;cases hi:P.info? t with
  | none=>simp[hi]at h
  | some i=>simp[hi]at h;exact⟨by simp[isAgg,run_underlying h1],by simp[sizeOf,typeInfo,hi,h]⟩
 ·rename_i dd h1;cases hi:P.info? t with
  | none=>simp[hi]at h
  | some i=>simp[hi]at h;exact⟨by simp[isAgg,run_underlying h1],by simp[sizeOf,typeInfo,hi,h]⟩
 ·cases h
theorem G8{w:World}{a:Addr}{v:Value}(h:w.cell? a=some v):(load a).run P w=.ok v w:=by simp[load,Sem.run,h]
theorem Kx{t b o:Nat}{x:Operand}{e:TypeId}{cs:Array Value}{v:Value}{Δ:List Assn}(ht:J3 P t=true)(hx:ev ρ x=some (.pointer (some ⟨b,o,none⟩)))[hb:Et Γ b e cs Δ](hv:lg cs.toList o=some v) :
  Qv P n ρ Γ ⟨ds,.load t x,ty,pos,af,gd⟩ v:=by
 intro a w ha hs;have hc:w.cell? ⟨b,o,none⟩=some v:=by rw[(hb.blk hs).cell];exact Qf9 hv
 have hl:(loadVar t ⟨b,o,none⟩).run P w=.ok v w:=by
  unfold loadVar;rw[Sem.run_bind,(W8 ht w).1];exact G8 hc
 simp only[execOp,ha.ev hx,Instr.loadAt,Instr.sureAddr,Sem.run_bind,Sem.run_pure,Result.andThen_ok,hl]
theorem Qfq{t b o k:Nat}{x:Operand}{e:TypeId}{cs:Array Value}{Δ:List Assn}(vs:List Value)(ht:Mp P t=some k)(hx:ev ρ x=some (.pointer (some ⟨b,o,none⟩)))[hb:Et Γ b e cs Δ](hk:vs.length=k)(hv:Seg cs o vs) :
  Qv P n ρ Γ ⟨ds,.load t x,ty,pos,af,gd⟩ (.agg vs.toArray):=by
 intro a w ha hs;have hc:∀j u,vs[j]?=some u→w.cell? ((⟨b,o,none⟩:Addr).add j)=some u:=fun j u hu=>by rw[Addr.add_lit,(hb.blk hs).cell];exact hv.get j u hu
 have:=run_loadCells_list (P:=P) (w:=w) ⟨b,o,none⟩ vs hc;rw[hk]at this;simp[execOp,ha.ev hx,Instr.loadAt,Instr.sureAddr,loadVar,(X0 ht w).1,(X0 ht w).2,this]
theorem J8{x:Operand}{vs:Array Value}{i:Nat}{v:Value}(hx:ev ρ x=some (.tuple vs))(hv:lg vs.toList i=some v):Qv P n ρ Γ ⟨ds,.extract x i,ty,pos,af,gd⟩ v:=fun a w ha _=>by simp[execOp,ha.ev hx,Instr.extract,Qf9 hv]
theorem Qaq{fn:Fn}{fs cs:List Operand}{vs us:List Value}(h1:EvL ρ fs vs)(h2:EvL ρ cs us):Qv P n ρ Γ ⟨ds,.makeFunc fn fs.toArray cs.toArray,ty,pos,af,gd⟩ (.func fn vs.toArray us.toArray):=fun a w ha _=>by
 simp[execOp,Instr.makeFunc,h1.map ha,h2.map ha]
theorem J2{op:BinOp}{t yt:TypeId}{x y:Operand}{k:IntKind}{p q:Int}{v:Value}(hx:ev ρ x=some (.int k p))(hy:ev ρ y=some (.int k q))(h:∀w,(binOp op t (.int k p) (.int k q)).run P w=.ok v w):Qv P n ρ Γ ⟨ds,.binOp op t x y yt,ty,pos,af,gd⟩ v:=fun a w ha _=>by
 simp[execOp,ha.ev hx,ha.ev hy,eqGuard,h]
theorem Ji{k:IntKind}{n:Int}(h:k.min≤n∧n≤k.max):k.wrap n=n:=by
 obtain⟨h1,h2⟩:=h;unfold IntKind.wrap;cases k <;> simp[IntKind.min,IntKind.max,IntKind.signed,IntKind.bits]at h1 h2 ⊢ <;> omega
theorem Fc{t yt:TypeId}{x y:Operand}{k:IntKind}{p q:Int}(hx:ev ρ x=some (.int k p))(hy:ev ρ y=some (.int k q))(h:k.min≤p+q∧p+q≤k.max):Qv P n ρ Γ ⟨ds,.binOp .add t x y yt,ty,pos,af,gd⟩ (.int k (p+q)):=
 J2 hx hy fun w=>by simp[binOp,Op.intArith,Ji h]
theorem Qdq{t yt:TypeId}{x y:Operand}{k:IntKind}{p q:Int}(hx:ev ρ x=some (.int k p))(hy:ev ρ y=some (.int k q))(h:k.min≤p-q∧p-q≤k.max):Qv P n ρ Γ ⟨ds,.binOp .sub t x y yt,ty,pos,af,gd⟩ (.int k (p-q)):=
 J2 hx hy fun w=>by simp[binOp,Op.intArith,Ji h]
theorem Qdr{t yt:TypeId}{x y:Operand}{k:IntKind}{p q:Int}(hx:ev ρ x=some (.int k p))(hy:ev ρ y=some (.int k q))(h:k.min≤p*q∧p*q≤k.max):Qv P n ρ Γ ⟨ds,.binOp .mul t x y yt,ty,pos,af,gd⟩ (.int k (p*q)):=
 J2 hx hy fun w=>by simp[binOp,Op.intArith,Ji h]
theorem Quy{t yt:TypeId}{x y:Operand}{k:IntKind}{p q:Int}(hx:ev ρ x=some (.int k p))(hy:ev ρ y=some (.int k q)):Qv P n ρ Γ ⟨ds,.binOp .add t x y yt,ty,pos,af,gd⟩ (.int k (k.wrap (p+q))):=
 J2 hx hy fun w=>by simp[binOp,Op.intArith]
theorem Zek{t yt:TypeId}{x y:Operand}{k:IntKind}{p q:Int}(hx:ev ρ x=some (.int k p))(hy:ev ρ y=some (.int k q)):Qv P n ρ Γ ⟨ds,.binOp .eql t x y yt,ty,pos,af,gd⟩ (.bool (decide (p=q))):=
 J2 hx hy fun w=>by rw[show decide (p=q)=(p==q) from rfl];simp[binOp,Op.intCmp]
theorem Zah{t yt:TypeId}{x y:Operand}{k:IntKind}{p q:Int}(hx:ev ρ x=some (.int k p))(hy:ev ρ y=some (.int k q)):Qv P n ρ Γ ⟨ds,.binOp .neq t x y yt,ty,pos,af,gd⟩ (.bool (decide (p≠q))):=
 J2 hx hy fun w=>by rw[show decide (p≠q)=(p != q) from by simp[bne];rfl];simp[binOp,Op.intCmp]
theorem Zeg{t yt:TypeId}{x y:Operand}{k:IntKind}{p q:Int}(hx:ev ρ x=some (.int k p))(hy:ev ρ y=some (.int k q)):Qv P n ρ Γ ⟨ds,.binOp .lss t x y yt,ty,pos,af,gd⟩ (.bool (decide (p<q))):=
 J2 hx hy fun w=>by simp[binOp,Op.intCmp]
theorem Zeh{t yt:TypeId}{x y:Operand}{k:IntKind}{p q:Int}(hx:ev ρ x=some (.int k p))(hy:ev ρ y=some (.int k q)):Qv P n ρ Γ ⟨ds,.binOp .leq t x y yt,ty,pos,af,gd⟩ (.bool (decide (p≤q))):=
 J2 hx hy fun w=>by simp[binOp,Op.intCmp]
theorem Zei{t yt:TypeId}{x y:Operand}{k:IntKind}{p q:Int}(hx:ev ρ x=some (.int k p))(hy:ev ρ y=some (.int k q)):Qv P n ρ Γ ⟨ds,.binOp .gtr t x y yt,ty,pos,af,gd⟩ (.bool (decide (q<p))):=
 J2 hx hy fun w=>by simp[binOp,Op.intCmp]
theorem Zej{t yt:TypeId}{x y:Operand}{k:IntKind}{p q:Int}(hx:ev ρ x=some (.int k p))(hy:ev ρ y=some (.int k q)):Qv P n ρ Γ ⟨ds,.binOp .geq t x y yt,ty,pos,af,gd⟩ (.bool (decide (q≤p))):=
 J2 hx hy fun w=>by simp[binOp,Op.intCmp]
theorem Ae{t yt:TypeId}{x y:Operand}{k:IntKind}{p q:Int}(hx:ev ρ x=some (.int k p))(hy:ev ρ y=some (.int k q))(h:0≤p∧0<q):Qv P n ρ Γ ⟨ds,.binOp .rem t x y yt,ty,pos,af,gd⟩ (.int k (p % q)):=
 J2 hx hy fun w=>by
  have h0:q≠0:=by omega
  simp[binOp,Op.intDiv,h0,Int.tmod_eq_emod_of_nonneg h.1]
theorem Qap{t yt:TypeId}{x y:Operand}{k:IntKind}{p q:Int}(hx:ev ρ x=some (.int k p))(hy:ev ρ y=some (.int k q))(h:0≤p∧0<q)(hr:k.min≤p / q∧p / q≤k.max):Qv P n ρ Γ ⟨ds,.binOp .quo t x y yt,ty,pos,af,gd⟩ (.int k (p / q)):=
 J2 hx hy fun w=>by
  have h0:q≠0:=by omega
  simp[binOp,Op.intDiv,h0,Int.tdiv_eq_ediv_of_nonneg h.1,Ji hr]
theorem Qob{t:TypeId}{x:Operand}{b:Bool}(hx:ev ρ x=some (.bool b)):Qv P n ρ Γ ⟨ds,.unOp .not t x,ty,pos,af,gd⟩ (.bool (!b)):=fun a w ha _=>by simp[execOp,ha.ev hx,Op.unary]
theorem Xw{s t:TypeId}{x:Operand}{k j:IntKind}{p:Int}(ht:Qcw P t=some k)(Xf:(P.underlying s).isSome=true)(hx:ev ρ x=some (.int j p))(h:k.min≤p∧p≤k.max):Qv P n ρ Γ ⟨ds,.convert s t x,ty,pos,af,gd⟩ (.int k p):=fun a w ha _=>by
 unfold Qcw at ht
 split at ht
 ·rename_i k' hk;cases ht;obtain⟨ds',hds⟩:=Option.isSome_iff_exists.1 Xf;simp[execOp,ha.ev hx,convert,run_underlying hds,run_underlying hk,Conv.intToInt,Ji h]
 ·cases ht
theorem S4{s t:TypeId}{x:Operand}{k j:IntKind}{p:Int}(ht:Qcw P t=some k)(Xf:(P.underlying s).isSome=true)(hx:ev ρ x=some (.int j p)):Qv P n ρ Γ ⟨ds,.convert s t x,ty,pos,af,gd⟩ (.int k (k.wrap p)):=fun a w ha _=>by
 unfold Qcw at ht
 split at ht
 ·rename_i k' hk;cases ht;obtain⟨ds',hds⟩:=Option.isSome_iff_exists.1 Xf;simp[execOp,ha.ev hx,convert,run_underlying hds,run_underlying hk,Conv.intToInt]
 ·cases ht
theorem Pb{op:BinOp}{t yt:TypeId}{x y:Operand}{p q v:Value}(hx:ev ρ x=some p)(hy:ev ρ y=some q)(hg:∀w,(eqGuard op t x y p q).run P w=.ok () w)(h:∀w,(binOp op t p q).run P w=.ok v w):Qv P n ρ Γ ⟨ds,.binOp op t x y yt,ty,pos,af,gd⟩ v:=fun a w ha _=>by
 simp only[execOp,ha.ev hx,ha.ev hy,Sem.run_bind,hg,h,Result.andThen_ok,Sem.run_pure]
theorem Zag{t yt:TypeId}{x y:Operand}{p q:Bool}(ht:P.underlying t=some .bool)(hx:ev ρ x=some (.bool p))(hy:ev ρ y=some (.bool q)):Qv P n ρ Γ ⟨ds,.binOp .neq t x y yt,ty,pos,af,gd⟩ (.bool (p != q)):=
 Pb hx hy (fun w=>by simp[eqGuard]) (fun w=>run_neq_bool (w:=w) t p q ht)
theorem Qay{t e:TypeId}(ht:P.underlying t=some (.pointer e)):P.underlying t=some (.pointer (P.pointee t)):=by rw[ht];simp[Program.pointee,ht]
theorem Zaj{t yt e:TypeId}{x:Operand}{p:Option Addr}(ht:P.underlying t=some (.pointer e))(hx:ev ρ x=some (.pointer p)){y:Operand}(hy:ev ρ y=some (.pointer none)):Qv P n ρ Γ ⟨ds,.binOp .eql t x y yt,ty,pos,af,gd⟩ (.bool p.isNone):=
 Pb hx hy (fun w=>by simp[eqGuard]) (fun w=>run_eql_pointer_nil (w:=w) t p (Qay ht))
theorem Zaf{t yt e:TypeId}{x:Operand}{p:Option Addr}(ht:P.underlying t=some (.pointer e))(hx:ev ρ x=some (.pointer p)){y:Operand}(hy:ev ρ y=some (.pointer none)):Qv P n ρ Γ ⟨ds,.binOp .neq t x y yt,ty,pos,af,gd⟩ (.bool (!p.isNone)):=
 Pb hx hy (fun w=>by simp[eqGuard]) (fun w=>run_neq_pointer_nil (w:=w) t p (Qay ht))
theorem Q6r{t yt e:TypeId}{x:Operand}{p:Option Addr}{l c l' c':Nat}(ht:P.underlying t=some (.slice e))(hx:ev ρ x=some (.slice p l c)){y:Operand}(hy:ev ρ y=some (.slice none l' c')):Qv P n ρ Γ ⟨ds,.binOp .eql t x y yt,ty,pos,af,gd⟩ (.bool p.isNone):=
 Pb hx hy (fun w=>by simp[eqGuard]) (fun w=>Lib.run_eql_slice_nil w _ _ p l c l' c' ht)
theorem Zai{x:Operand}{t e:TypeId}{p:Option Addr}{l c:Nat}(ht:P.underlying t=some (.slice e))(hx:ev ρ x=some (.slice p l c)):Qv P n ρ Γ ⟨ds,.call {callee:=.builtin .len,args:=#[x],argTypes:=#[t]},ty,pos,af,gd⟩ (.int .i64 l):=fun a w ha _=>by
 simp[execOp,ha.ev hx,resolve,invoke,builtin,Builtin.len_,run_underlying ht,goInt]
theorem Q03{t:TypeId}{x y:Operand}{e sz b o l c:Nat}{k:IntKind}{i:Int}(ht:Dz P t=some (e,sz))(hx:ev ρ x=some (.slice (some ⟨b,o,none⟩) l c))(hy:ev ρ y=some (.int k i))(h:0≤i∧i<l):Qv P n ρ Γ ⟨ds,.indexAddr t x y,ty,pos,af,gd⟩ (.pointer (some ⟨b,o+i.toNat*sz,none⟩)):=fun a w ha _=>by
 unfold Dz at ht
 split at ht
 ·rename_i e' he;cases hi:P.info? e' with
  | none=>simp[hi]at ht
  | some inf=>
   simp only[hi,Option.map_some,Option.some.injEq,Prod.mk.injEq]at ht;obtain⟨rfl,rfl⟩:=ht;simp[execOp,ha.ev hx,ha.ev hy,Instr.indexAt,asIntOf,run_underlying he,h.1,h.2,sizeOf,typeInfo,hi,Addr.add_lit]
 ·cases ht
theorem Cp{t:TypeId}{x y:Operand}{m sz b o:Nat}{k:IntKind}{i:Int}(ht:Qsi P t=some (m,sz))(hx:ev ρ x=some (.pointer (some ⟨b,o,none⟩)))(hy:ev ρ y=some (.int k i))(h:0≤i∧i<m):Qv P n ρ Γ ⟨ds,.indexAddr t x y,ty,pos,af,gd⟩ (.pointer (some ⟨b,o+i.toNat*sz,none⟩)):=fun a w ha _=>by
 unfold Qsi at ht
 split at ht
 ·rename_i m' e' he;cases hi:P.info? e' with
  | none=>simp[hi]at ht
  | some inf=>
   simp only[hi,Option.map_some,Option.some.injEq,Prod.mk.injEq]at ht;obtain⟨rfl,rfl⟩:=ht;simp[execOp,ha.ev hx,ha.ev hy,Instr.indexAt,asIntOf,run_underlying he,h.1,h.2,sizeOf,typeInfo,hi,Addr.add_lit,Instr.sureAddr]
 ·cases ht
theorem S.alloc{t:TypeId}{zs:List Value}(hz:Wr P t=some zs)(hn:Nat.blt d n=true)(k:∀b,S n w0 ((d,.pointer (some ⟨b,0,none⟩))::ρ) (blk b t zs.toArray::Γ) K):S n w0 ρ Γ (Ow P Q ⟨some d,.alloc t,ty,pos,af,gd⟩ K):=by
 intro a w ha hs hx;unfold Wr at hz;cases hi:P.info? t with
 | none=>simp[hi]at hz
 | some i=>
  cases hz':i.zero with
  | none=>simp[hi,hz']at hz
  | some z=>
   simp only[hi,hz',Option.bind_some,Option.map_some,Option.some.injEq]at hz
   have hr:(execOp a.eval ⟨some d,.alloc t,ty,pos,af,gd⟩).run P w=.ok (.value (.pointer (some ⟨w.heap.size,0,none⟩))) (w.alloc (.cells zs.toArray t)):=by
    have:zs.toArray=z.cells:=by rw[←hz]
    simp[execOp,Instr.alloc,zeroValue,typeInfo,hi,hz',newVar,newRow,this]
   unfold Ow Oper.wp;rw[hr,Oper.upon_value];exact k w.heap.size _ _ (ha.put hn _) (hs.alloc _ _) (hx.alloc _)
theorem S.box{t:TypeId}{x:Operand}{v:Value}{cs:List Value}(hx:ev ρ x=some v)(hc:v.cells.toList=cs)(hn:Nat.blt d n=true)(k:∀b,S n w0 ((d,.pointer (some ⟨b,0,none⟩))::ρ) (blk b t cs.toArray::Γ) K):S n w0 ρ Γ (Ow P Q ⟨some d,.box t x,ty,pos,af,gd⟩ K):=by
 intro a w ha hs Dx
 have hr:(execOp a.eval ⟨some d,.box t x,ty,pos,af,gd⟩).run P w=.ok (.value (.pointer (some ⟨w.heap.size,0,none⟩))) (w.alloc (.cells cs.toArray t)):=by
  have:cs.toArray=v.cells:=by rw[←hc]
  simp[execOp,ha.ev hx,Instr.box,newVar,newRow,this]
 unfold Ow Oper.wp;rw[hr,Oper.upon_value];exact k w.heap.size _ _ (ha.put hn _) (hs.alloc _ _) (Dx.alloc _)
theorem Uc.Jm{ρ:Env}{a:Act}(h:Uc n ρ a)(v:Value):Uc n ρ (a.put none v):=h
theorem S.store{t b o:Nat}{x y:Operand}{e:TypeId}{cs:Array Value}{v:Value}{Δ:List Assn}{cs':List Value}(ht:J3 P t=true)(hx:ev ρ x=some (.pointer (some ⟨b,o,none⟩)))(hy:ev ρ y=some v)(hv:v.oneCell'=true)[hb:Et Γ b e cs Δ](ho:Nat.blt o cs.size=true)(hc:cs.toList.set o v=cs')
  (k:S n w0 ρ (blk b e cs'.toArray::Δ) K):S n w0 ρ Γ (Ow P Q ⟨none,.store t x y,ty,pos,af,gd⟩ K):=by
 intro a w ha hs Dx;have hB:=hb.blk hs;have ho':o<cs.size:=by have:=ho;simp[Nat.blt]at this;omega
 have Uw:w.cell? ⟨b,o,none⟩=some cs[o]:=by rw[hB.cell];simp[ho']
 have Mc:v.cells=#[v]:=by cases v <;> first|rfl|simp[Value.oneCell']at hv
 have Xf:(Go.store (⟨b,o,none⟩:Addr) v).run P w=.ok () (w.setCell ⟨b,o,none⟩ v):=by rw[run_store P w _ v _ hv,Uw];simp[hB.frozen]
 have hr:(execOp a.eval ⟨none,.store t x y,ty,pos,af,gd⟩).run P w=.ok .skip (w.setCell ⟨b,o,none⟩ v):=by
  have h0:(⟨b,o,none⟩:Addr).add 0=⟨b,o,none⟩:=by simp[Addr.add]
  simp[execOp,ha.ev hx,ha.ev hy,Instr.storeAt,Instr.sureAddr,storeVar,(W8 ht w).2,Mc,storeCells];rw[h0,Xf];rfl
 unfold Ow Oper.wp;rw[hr,Oper.upon_skip];refine k _ _ (ha.Jm _) ?_ (Dx.setCell _ _);have:=(hs.Qh hb.Qh).setCell o v;rw[←hc];have e1:(cs.toList.set o v).toArray=cs.setIfInBounds o v:=by rw[←Array.toList_setIfInBounds]
 rw[e1];exact this
def Hf(l:List Value):Bool:=l.all (·.oneCell')
theorem Sat.setRow{w:World}{Γ:List Assn}{b:Nat}{e:TypeId}{cs:Array Value}(h:Sat w (blk b e cs::Γ))(cs':Array Value):Sat (w.setRow b cs') (blk b e cs'::Γ):=by
 refine h.upd fun x l p=>⟨HL.one b (.cells cs' e),HL.one_le (setRow_heap w b cs _ e _ (l b _ p)),HL.Xt _ _,fun c hc _=>?_⟩;have Uk:c≠b:=fun e=>by subst e;rw[p]at hc;cases hc
 exact⟨HL.Vj Uk,setRow_other w b c _ Uk⟩
theorem S.Qk7{t b o k:Nat}{x y:Operand}{e:TypeId}{cs:Array Value}{vs:Array Value}{Δ:List Assn}{cs':List Value}(ht:Mp P t=some k)(hx:ev ρ x=some (.pointer (some ⟨b,o,none⟩)))(hy:ev ρ y=some (.agg vs))(hk:vs.size=k)(h1:Hf vs.toList=true)[hb:Et Γ b e cs Δ](ho:Nat.ble (o+vs.size) cs.size=true)
  (hc:cs.toList.take o++vs.toList++cs.toList.drop (o+vs.size)=cs') (kk:S n w0 ρ (blk b e cs'.toArray::Δ) K):S n w0 ρ Γ (Ow P Q ⟨none,.store t x y,ty,pos,af,gd⟩ K):=by
 intro a w ha hs Dx;have hB:=hb.blk hs;have ho':o+vs.size≤cs.size:=Nat.le_of_ble_eq_true ho;have Xf:=run_storeCells_at P b o e vs.toList 0 cs w hB (by simpa using ho') (fun v hv=>List.all_eq_true.1 h1 v hv)
 have hr:(execOp a.eval ⟨none,.store t x y,ty,pos,af,gd⟩).run P w=.ok .skip (w.setRow b cs'.toArray):=by
  rw[←hc];simp only[Nat.add_zero,Array.length_toList]at Xf;simp[execOp,ha.ev hx,ha.ev hy,Instr.storeAt,Instr.sureAddr,storeVar,(X0 ht w).2,Value.cells,hk]at Xf ⊢;rw[Xf];simp
 unfold Ow Oper.wp;rw[hr,Oper.upon_skip];exact kk _ _ (ha.Jm _) ((hs.Qh hb.Qh).setRow _) (Dx.trans ⟨rfl,rfl,rfl,by simp[World.setRow],Nat.le_refl _⟩)
theorem Qdk{f:FuncId}{vs:List Value}{c:Call}{a:Act}{ds:Option Tmp}(he:V5 P f=true)(hc:a.eval (match c.callee with|.value x=>x|_=>.const undef)=.func (.func f) #[] #[])(hv:∃x,c.callee=.value x)(hargs:c.args.map a.eval=vs.toArray)(w:World) :
  (execOp a.eval ⟨ds,.call c,ty,pos,af,gd⟩).run P w=.ok (.enter f vs.toArray) w:=by
 obtain⟨x,hx⟩:=hv;simp only[hx]at hc;unfold V5 at he
 split at he
 ·rename_i fn hfn;simp only[Bool.and_eq_true,bne_iff_ne,ne_eq]at he;obtain⟨h1,h2⟩:=he;have h2':¬fn.body=none:=by cases hb:fn.body <;> simp[hb]at h2 ⊢
  simp[execOp,resolve,hx,hc,Deferred.ofValue,invoke,hargs,callFunc,hfn,h1,h2']
 ·cases he
theorem S.call{f:FuncId}{xs:List Operand}{ats:Array TypeId}{vs:List Value}{pre Δ:List Assn}{post:List Assn→Value→List Assn→Prop}(he:V5 P f=true)(hargs:EvL ρ xs vs)
  (hs:Spec P f vs pre post md) [hp:Picks pre Γ Δ] (hn:Nat.blt d n=true)
  (k:∀v Θ,post Δ v Θ→S n w0 ((d,v)::ρ) Θ K):S n w0 ρ Γ (Ow P Q ⟨some d,.call {callee:=.value (.func f),args:=xs.toArray,argTypes:=ats},ty,pos,af,gd⟩ K):=by
 intro a w ha Lc hx;have hr:=Qdk (ty:=ty) (pos:=pos) (af:=af) (gd:=gd) (c:={callee:=.value (.func f),args:=xs.toArray,argTypes:=ats}) (a:=a) (ds:=some d) (vs:=vs) he rfl ⟨_,rfl⟩ (by simp[hargs.map ha]) w;unfold Ow Oper.wp;rw[hr,Oper.upon_enter];refine(hs Δ w (Lc.Qh hp.Qh)).mono ?_;rintro e w' ⟨v,Θ,rfl,Qje,hsat',hx'⟩;exact k v Θ Qje _ _ (ha.put hn v) hsat' (hx.Qk5 hx')
end
def Lod(P:Program)(Γ:List Assn)(t:TypeId)(b o:Nat)(v:Value):Prop:=∀w,Sat w Γ→(loadVar t ⟨b,o,none⟩).run P w=.ok v w
theorem Q1v{P:Program}{Γ Δ:List Assn}{t b o k:Nat}{e:TypeId}{cs:Array Value}(vs:List Value)(ht:Mp P t=some k)[hb:Et Γ b e cs Δ](hk:vs.length=k)(hv:Seg cs o vs):Lod P Γ t b o (.agg vs.toArray):=by
 intro w hs;have hc:∀j u,vs[j]?=some u→w.cell? ((⟨b,o,none⟩:Addr).add j)=some u:=fun j u hu=>by rw[Addr.add_lit,(hb.blk hs).cell];exact hv.get j u hu
 have:=run_loadCells_list (P:=P) (w:=w) ⟨b,o,none⟩ vs hc;rw[hk]at this;simp[loadVar,(X0 ht w).1,(X0 ht w).2,this]
def Lw(P:Program)(ρ:Env)(Γ:List Assn):List ResultVar→List Value→Prop
 | [],[]=>True
 | .tmp t::rs,v::vs=>Env.get ρ t=some v∧Lw P ρ Γ rs vs
 | .cell t ty::rs,v::vs=>(∃b o,Env.get ρ t=some (.pointer (some ⟨b,o,none⟩))∧Lod P Γ ty b o v)∧Lw P ρ Γ rs vs
 | _,_=>False
def L8(a:Act):ResultVar→Sem Value
 | .tmp t=>pure (a.tmps.getD t undef)
 | .cell x t=>do loadVar t (←asAddr (a.tmps.getD x undef))
theorem Lw.run{P:Program}{n:Nat}{ρ:Env}{Γ:List Assn}{a:Act}{w:World}(ha:Uc n ρ a)(hs:Sat w Γ):∀ {rs:List ResultVar} {vs:List Value},Lw P ρ Γ rs vs →
  (rs.mapM (L8 a)).run P w=Result.ok vs w
 | [],[],_=>by simp
 | .tmp t::rs,v::vs,h=>by
  have:=Lw.run ha hs h.2;have hg:=ha.get _ _ h.1;have h1:(L8 a (.tmp t)).run P w=.ok v w:=by simp only[L8,Sem.run_pure,hg]
  simp only[List.mapM_cons,Sem.run_bind,Sem.run_pure,Result.andThen_ok,this,h1]
 | .cell t ty::rs,v::vs,h=>by
  obtain⟨⟨b,o,h1,h2⟩,h3⟩:=h;have:=Lw.run ha hs h3;have hg:=ha.get _ _ h1;have h1:(L8 a (.cell t ty)).run P w=.ok v w:=by simp only[L8,hg,asAddr,Sem.run_bind,Sem.run_pure,Result.andThen_ok,h2 w hs]
  simp only[List.mapM_cons,Sem.run_bind,Sem.run_pure,Result.andThen_ok,this,h1]
 | [],_::_,h=>h.elim
 | .tmp _::_,[],h=>h.elim
 | .cell _ _::_,[],h=>h.elim
def X2:List Value→Value
 | [v]=>v
 | vs=>.tuple vs.toArray
section
variable {P:Program}{n:Nat}{md:Bool}{w0:WM md}{ρ:Env}{Γ:List Assn}{Q:Exit→Act→World→Prop}{K:Act→World→Prop}{rest:List Oper}{ty:TypeId}{pos:String}{af:Array Edge}{gd:Option (Nat×Bool)}{d:Nat}{ds:Option Tmp}
theorem Cl{fn:Func}{rs:List ResultVar}{vs:List Value}{a:Act}{w:World}(hr:fn.results=rs.toArray)(hl:Lw P ρ Γ rs vs)(ha:Uc n ρ a)(hs:Sat w Γ):(results fn a.tmps).run P w=.ok (X2 vs) w:=by
 have h:=hl.run ha hs
 have e:results fn a.tmps=(do
   let us ←fn.results.mapM (L8 a)
   pure (if h:us.size=1 then us[0] else .tuple us)):=by
  unfold results
  congr 1
 rw[e,hr];simp only[List.mapM_toArray,Sem.run_bind];rw[←bind_pure_comp,Sem.run_bind];rw[h];simp only[Result.andThen_ok,Sem.run_pure,Result.ok.injEq,and_true];unfold X2
 match vs with
 | []=>simp
 | [v]=>simp
 | _::_::_=>simp
theorem S.fin{fn:Func}{post:List Assn→Value→List Assn→Prop}{Γf Θ:List Assn}{rs:List ResultVar}{vs:List Value}(hr:fn.results=rs.toArray)(hl:Lw P ρ Γ rs vs)(hp:post Γf (X2 vs) Θ)(he:Ent Γ Θ):S n w0 ρ Γ (Fin P fn post Γf w0 .ret):=by
 intro a w ha hs hx;exact⟨ha.defers,_,Cl hr hl ha hs,_,Θ,rfl,hp,hs.Qh he,hx⟩
theorem S.Zg9{fn:Func}{post:List Assn→Value→List Assn→Prop}{Γf Θ:List Assn}{rs:List ResultVar}{vs:List Value}(hr:fn.results=rs.toArray)(hl:Lw P ρ Γ rs vs)(hp:post Γf (X2 vs) Θ)(he:Ent Γ Θ):S n w0 ρ Γ (Fin P fn post Γf w0 .normal):=by
 intro a w ha hs hx;exact⟨ha.defers,_,Cl hr hl ha hs,_,Θ,rfl,hp,hs.Qh he,hx⟩
def Qb7(place:Nat→Option (Nat×Nat))(cells:List Value):List (Nat×Value)→Option (List Value)
 | []=>some cells
 | (i,v)::rest=>match place i with
  | none=>none
  | some (off,size)=>bif Nat.beq v.cells.toList.length size&&Nat.ble (off+v.cells.toList.length) cells.length then Qb7 place (cells.take off++(v.cells.toList++cells.drop (off+v.cells.toList.length))) rest else none
theorem Qmm(off:Nat):∀(vs:List Value) (k:Nat) (cs:List Value),off+k+vs.length≤cs.length →
  ((vs.zipIdx k).foldl (fun (a:Array Value) (x:Value×Nat)=>a.setIfInBounds (off+x.2) x.1) cs.toArray).toList=cs.take (off+k)++(vs++cs.drop (off+k+vs.length)):=by
 intro vs;induction vs with
 | nil=>intro k cs _;simp
 | cons v vs ih=>
  intro k cs h;simp only[List.length_cons]at h;simp only[List.zipIdx_cons,List.foldl_cons,List.setIfInBounds_toArray];rw[ih (k+1) (cs.set (off+k) v) (by simp;omega)];have e1:off+(k+1)=off+k+1:=by omega
  rw[e1,List.take_set,List.take_succ_eq_append_getElem (show off+k<cs.length by omega),List.set_append_right _ _ (by rw[List.length_take];omega),List.drop_set_of_lt (by omega)];simp only[List.length_take,List.length_cons,List.append_assoc];have e2:off+k-min (off+k) cs.length=0:=by rw[Nat.min_eq_left (by omega)];omega
  rw[e2];simp only[List.set_cons_zero,List.cons_append,List.nil_append,List.append_cancel_left_eq,List.cons.injEq,true_and];rw[show off+k+1+vs.length=off+k+(vs.length+1) by omega]
theorem Mg(place:Nat→Option (Nat×Nat)):∀(parts:List (Nat×Value)) (cells:List Value) (r:List Value),Qb7 place cells parts=some r→Instr.fill place cells.toArray parts=some r.toArray:=by
 intro parts;induction parts with
 | nil=>intro cells r h;unfold Qb7 at h;cases h;rfl
 | cons p parts ih=>
  intro cells r h;obtain⟨i,v⟩:=p;unfold Qb7 at h;unfold Instr.fill;cases hp:place i with
  | none=>rw[hp]at h;cases h
  | some q=>
   obtain⟨off,size⟩:=q;rw[hp]at h;simp only at h ⊢;cases hb:(Nat.beq v.cells.toList.length size&&Nat.ble (off+v.cells.toList.length) cells.length) with
   | false=>rw[hb]at h;cases h
   | true=>
    rw[hb]at h;simp only[cond_true]at h;simp only[Bool.and_eq_true]at hb;have e1:=Nat.eq_of_beq_eq_true hb.1;have e2:=Nat.le_of_ble_eq_true hb.2;simp only[Array.length_toList]at e1 e2;rw[if_neg (by simp[e1];omega)];have hf:=Qmm off v.cells.toList 0 cells (by simpa using e2)
    have:(v.cells.zipIdx.foldl (fun cs (x:Value×Nat)=>cs.setIfInBounds (off+x.2) x.1) cells.toArray)=(cells.take off++(v.cells.toList++cells.drop (off+v.cells.toList.length))).toArray:=by
     apply Array.toList_inj.1;rw[←Array.foldl_toList,Array.toList_zipIdx,hf];simp
    have h2:=ih _ _ h;rw[←this]at h2;exact h2
def EvP(ρ:Env):List (Nat×Operand)→List (Nat×Value)→Prop
 | [],[]=>True
 | (i,x)::xs,(j,v)::vs=>(i=j∧ev ρ x=some v)∧EvP ρ xs vs
 | _,_=>False
theorem EvP.map{ρ:Env}{a:Act}(ha:Uc n ρ a):∀ {xs:List (Nat×Operand)} {vs:List (Nat×Value)},EvP ρ xs vs→xs.map (fun (i,x)=>(i,a.eval x))=vs
 | [],[],_=>rfl
 | (i,x)::_,(j,v)::_,h=>by
  obtain⟨⟨rfl,h1⟩,h2⟩:=h;simp only[List.map_cons,ha.ev h1,EvP.map ha h2]
 | [],_::_,h=>h.elim
 | _::_,[],h=>h.elim
theorem Q3{t:TypeId}{xs:List (Nat×Operand)}{pvs:List (Nat×Value)}{zs:List Value}{places:List (Nat×Nat)}(vs:List Value)(hz:Wr P t=some zs)(hp:Wu P t=some places)(he:EvP ρ xs pvs)(hf:Qb7 (fun i=>places[i]?) zs pvs=some vs) :
  Qv P n ρ Γ ⟨ds,.build t xs.toArray,ty,pos,af,gd⟩ (.agg vs.toArray):=by
 intro a w ha _
 have hb:P.built t pvs=some vs.toArray:=by
  unfold Wr at hz;unfold Wu at hp;unfold Program.built;cases hi:P.info? t with
  | none=>simp[hi]at hz
  | some i=>
   cases hz':i.zero with
   | none=>simp[hi,hz']at hz
   | some z=>
    simp only[hi,hz',Option.bind_some,Option.map_some,Option.some.injEq]at hz;cases hu:P.underlying t with
    | none=>simp[hu]at hp
    | some dd=>
     cases dd <;> simp[hu]at hp
     case struct fs=>
      simp only[hz'];have hp':List.mapM (fun f=>(P.info? f.type).map fun i=>(f.offset,i.size)) fs.toList=some places:=by simpa using hp
      rw[hp'];have:=Mg _ pvs zs vs hf;rw[←hz]at this
      simpa using this
 have hr:=run_build (P:=P) w t pvs.toArray vs.toArray hb
 have hm:(xs.toArray.map fun x:Nat×Operand=>(x.1,a.eval x.2))=pvs.toArray:=by
  have:=he.map ha
  simpa using congrArg List.toArray this
 simp only[execOp,hm,Sem.run_bind,hr,Result.andThen_ok,Sem.run_pure]
theorem Quv{t f:Nat}{x:Operand}{vs:Array Value}{v:Value}{fs:Array Field}{fd:Field}(hu:P.underlying t=some (.struct fs))(hf:fs[f]?=some fd)(ht:J3 P fd.type=true)(hx:ev ρ x=some (.agg vs))(hv:vs[fd.offset]?=some v):Qv P n ρ Γ ⟨ds,.field t x f,ty,pos,af,gd⟩ v:=by
 intro a w ha _;simp[execOp,ha.ev hx,Instr.field,run_underlying hu,hf,asAgg,part,(W8 ht w).1,hv]
structure SV where
 a:Option Addr
 n:Nat
 c:Nat
abbrev SV.v(s:SV):Value:=.slice s.a s.n s.c
abbrev SV.nil:SV:=⟨none,0,0⟩
def own(s:SV)(e:TypeId)(sz:Nat)(xs:List Value):Assn:=fun h=>xs.length=s.n*sz∧((s.a=none∧s.n=0∧s.c=0) ∨
 ∃b off cur,s.a=some ⟨b,off,none⟩∧h b=some (.cells cur e (0,0))∧s.n≤s.c∧s.c≤maxLen∧off+s.c*sz≤cur.size∧(cur.toList.drop off).take (s.n*sz)=xs)
theorem own.mono{s:SV}{e:TypeId}{sz:Nat}{xs:List Value}{h k:HL}(p:own s e sz xs h)(l:HL.le h k):own s e sz xs k:=
 ⟨p.1,p.2.imp id fun⟨b,off,cur,h1,h2,r⟩=>⟨b,off,cur,h1,l b _ h2,r⟩⟩
theorem own.Qde{s:SV}{e:TypeId}{sz:Nat}{xs:List Value}{w:World}(p:own s e sz xs (HL.of w)):Own w e sz s.v s.n xs (s.a.map (·.block)):=by
 refine⟨p.1,?_⟩
 rcases p.2 with ⟨h1,h2,h3⟩|⟨b,off,cur,h1,h2,h3,h4,h5,h6⟩
 ·exact .inl ⟨by simp[SV.v,h1,h2,h3],h2,by simp[h1]⟩
 ·exact .inr ⟨b,off,s.c,cur,by simp[SV.v,h1],by simp[h1],h2,h3,h4,h5,h6⟩
theorem own.Qvb{s:SV}{e:TypeId}{sz:Nat}{xs:List Value}{w:World}{g:Option Nat}(p:Own w e sz s.v s.n xs g):g=s.a.map (·.block)∧own s e sz xs (HL.of w):=by
 obtain⟨sa,sn,sc⟩:=s
 rcases p.2 with ⟨h1,h2,h3⟩|⟨b,off,c,cur,h1,h2,h3,h4,h5,h6,h7⟩
 ·simp only[SV.v,Value.slice.injEq]at h1;obtain⟨rfl,rfl,rfl⟩:=h1;exact⟨by simp[h3],p.1,.inl ⟨rfl,rfl,rfl⟩⟩
 ·simp only[SV.v,Value.slice.injEq]at h1;obtain⟨rfl,_,rfl⟩:=h1;exact⟨by simp[h2],p.1,.inr ⟨b,off,cur,rfl,h3,h4,h5,h6,h7⟩⟩
theorem own.Zev(e:TypeId)(sz:Nat)(h:HL):own SV.nil e sz [] h:=⟨by simp,.inl ⟨rfl,rfl,rfl⟩⟩
theorem Ent.Ye(e:TypeId)(sz:Nat):Ent Γ (own SV.nil e sz []::Γ):=fun h hs=>⟨HL.emp,h,HL.Ul _,HL.U6 _,HL.le.refl _,own.Zev _ _ _,hs⟩
class Qkl(Γ:List Assn)(b:Nat)(off m c:outParam Nat)(e:outParam TypeId)(sz:outParam Nat)(xs:outParam (List Value))(Δ:outParam (List Assn)):Prop where
 Qh:Ent Γ (own ⟨some ⟨b,off,none⟩,m,c⟩ e sz xs::Δ)
theorem Qkl.L3{Δ:List Assn}{b off m c:Nat}{e:TypeId}{sz:Nat}{xs:List Value}(h:Qkl Γ b off m c e sz xs Δ){w:World}(hs:Sat w Γ):Own w e sz (.slice (some ⟨b,off,none⟩) m c) m xs (some b):=by
 obtain⟨x,l,p⟩:=(hs.Qh h.Qh).head;exact(p.mono l).Qde
theorem Qkl.cell{Δ:List Assn}{b off m c:Nat}{e:TypeId}{sz:Nat}{xs:List Value}(h:Qkl Γ b off m c e sz xs Δ){w:World}(hs:Sat w Γ){j:Nat}{v:Value}(hj:xs[j]?=some v):w.cell? ⟨b,off+j,none⟩=some v:=by
 have:=h.L3 hs
 rcases this.cases with ⟨h1,_⟩|⟨b',off',c',h1,_,_,_,_,h2,_⟩
 ·cases h1
 ·simp only[Value.slice.injEq,Option.some.injEq,Addr.mk.injEq,and_true,true_and]at h1;obtain⟨⟨rfl,rfl⟩,rfl⟩:=h1;rw[h2 j (by rw[←this.1];exact(List.getElem?_eq_some_iff.1 hj).1)];exact hj
theorem Q02{t b o off m c:Nat}{x:Operand}{e:TypeId}{sz:Nat}{xs:List Value}{v:Value}{Δ:List Assn}(j:Nat)(ht:J3 P t=true)(hx:ev ρ x=some (.pointer (some ⟨b,o,none⟩)))[hb:Qkl Γ b off m c e sz xs Δ](ho:o=off+j)(hv:xs[j]?=some v) :
  Qv P n ρ Γ ⟨ds,.load t x,ty,pos,af,gd⟩ v:=by
 intro a w ha hs;subst ho;have hc:=hb.cell hs hv
 have hl:(loadVar t ⟨b,off+j,none⟩).run P w=.ok v w:=by
  unfold loadVar;rw[Sem.run_bind,(W8 ht w).1];exact G8 hc
 simp only[execOp,ha.ev hx,Instr.loadAt,Instr.sureAddr,Sem.run_bind,Sem.run_pure,Result.andThen_ok,hl]
theorem Qus{t b o off m c k:Nat}{x:Operand}{e:TypeId}{sz:Nat}{xs:List Value}{Δ:List Assn}(j:Nat)(vs:List Value)(ht:Mp P t=some k)(hx:ev ρ x=some (.pointer (some ⟨b,o,none⟩)))[hb:Qkl Γ b off m c e sz xs Δ](ho:o=off+j)(hk:vs.length=k)(hv:∀i u,vs[i]?=some u→xs[j+i]?=some u) :
  Qv P n ρ Γ ⟨ds,.load t x,ty,pos,af,gd⟩ (.agg vs.toArray):=by
 intro a w ha hs;subst ho;have hc:∀i u,vs[i]?=some u→w.cell? ((⟨b,off+j,none⟩:Addr).add i)=some u:=fun i u hu=>by rw[Addr.add_lit,Nat.add_assoc];exact hb.cell hs (hv i u hu)
 have:=run_loadCells_list (P:=P) (w:=w) ⟨b,off+j,none⟩ vs hc;rw[hk]at this;simp[execOp,ha.ev hx,Instr.loadAt,Instr.sureAddr,loadVar,(X0 ht w).1,(X0 ht w).2,this]
theorem S.Q57{t b o off m c:Nat}{x y:Operand}{e:TypeId}{sz:Nat}{xs:List Value}{v:Value}{Δ:List Assn}(j:Nat)(ht:J3 P t=true)(hx:ev ρ x=some (.pointer (some ⟨b,o,none⟩)))(hy:ev ρ y=some v)(hv:v.oneCell'=true)[hb:Qkl Γ b off m c e sz xs Δ](ho:o=off+j)(hj:j<xs.length)
  (k:S n w0 ρ (own ⟨some ⟨b,off,none⟩,m,c⟩ e sz (xs.set j v)::Δ) K):S n w0 ρ Γ (Ow P Q ⟨none,.store t x y,ty,pos,af,gd⟩ K):=by
 intro a w ha hs Dx;subst ho;have hO:=hb.L3 hs;have Uw:=hb.cell hs (List.getElem?_eq_getElem hj);have Mc:v.cells=#[v]:=by cases v <;> first|rfl|simp[Value.oneCell']at hv
 have hfr:w.frozen? ⟨b,off+j,none⟩=false:=by
  rcases hO.cases with ⟨h1,_⟩|⟨b',off',c',h1,_,_,_,_,_,h2⟩
  ·cases h1
  ·simp only[Value.slice.injEq,Option.some.injEq,Addr.mk.injEq,and_true,true_and]at h1;obtain⟨⟨rfl,rfl⟩,rfl⟩:=h1;exact h2 _
 have Xf:(Go.store (⟨b,off+j,none⟩:Addr) v).run P w=.ok () (w.setCell ⟨b,off+j,none⟩ v):=by rw[run_store P w _ v _ hv,Uw];simp[hfr]
 have hr:(execOp a.eval ⟨none,.store t x y,ty,pos,af,gd⟩).run P w=.ok .skip (w.setCell ⟨b,off+j,none⟩ v):=by
  have h0:(⟨b,off+j,none⟩:Addr).add 0=⟨b,off+j,none⟩:=by simp[Addr.add]
  simp[execOp,ha.ev hx,ha.ev hy,Instr.storeAt,Instr.sureAddr,storeVar,(W8 ht w).2,Mc,storeCells];rw[h0,Xf];rfl
 unfold Ow Oper.wp;rw[hr,Oper.upon_skip];refine k _ _ (ha.Jm _) ?_ (Dx.setCell _ _);refine(hs.Qh hb.Qh).upd fun y l p=>?_;have hO':=hO.stored j v;obtain⟨_,hown⟩:=own.Qvb (s:=⟨some ⟨b,off,none⟩,m,c⟩) hO'
 rcases p.2 with ⟨h1,_⟩|⟨b',off',cur,h1,h2,h3,h4,h5,h6⟩
 ·cases h1
 ·simp only[Option.some.injEq,Addr.mk.injEq,and_true]at h1;obtain⟨rfl,rfl⟩:=h1;have hB:Blk w b e cur:=l b _ h2
  refine⟨HL.one b (.cells (cur.setIfInBounds (off+j) v) e),HL.one_le (hB.set _ _),⟨hown.1,.inr ⟨b,off,_,rfl,HL.Xt _ _,h3,h4,by simpa using h5,?_⟩⟩,fun z hz _=>?_⟩
  ·rcases hown.2 with ⟨h,_⟩|⟨b',off',cur',h,hc,_,_,_,h7⟩
   ·cases h
   ·simp only[Option.some.injEq,Addr.mk.injEq,and_true]at h;obtain⟨rfl,rfl⟩:=h
    have:cur'=cur.setIfInBounds (off+j) v:=by
     have e1:(w.setCell ⟨b,off+j,none⟩ v).heap[b]?=some (.cells (cur.setIfInBounds (off+j) v) e (0,0)):=hB.set _ _;unfold HL.of at hc;rw[e1]at hc;cases hc;rfl
    rw[←this];exact h7
  ·have Uk:z≠b:=fun e=>by subst e;rw[h2]at hz;cases hz
   exact⟨HL.Vj Uk,Below.heap_setCell _ _ _ _ Uk⟩
theorem Mi{t e sz:Nat}(h:Dz P t=some (e,sz)):P.underlying t=some (.slice e)∧∃i,P.info? e=some i∧i.size=sz:=by
 unfold Dz at h
 split at h
 ·rename_i e' he;cases hi:P.info? e' with
  | none=>simp[hi]at h
  | some i=>
   simp only[hi,Option.map_some,Option.some.injEq,Prod.mk.injEq]at h;obtain⟨rfl,rfl⟩:=h;exact⟨he,i,hi,rfl⟩
 ·cases h
def Vl(P:Program)(e:TypeId):Option (List Value×Nat×Nat):=match P.info? e with
 | some i=>match i.zero with
  | some z=>some (z.cells.toList,i.size,i.bytes)
  | none=>none
 | none=>none
theorem S.append{t e sz by_:Nat}{x y:Operand}{s:SV}{xs news zs:List Value}{yv:Value}{m:Nat}{Δ:List Assn}(hu:P.underlying t=some (.slice e))(hi:Vl P e=some (zs,sz,by_))(hzl:Nat.beq zs.length sz=true)(hx:ev ρ x=some s.v)[hp:Pick (own s e sz xs) Γ Δ]
  (hy:ev ρ y=some yv) (Ql2:∀w,Sat w Γ→Hp w yv m sz news) (h1:Hf news=true) (h63:s.n+m≤maxLen) (hby:(s.n+m)*by_≤140737488355328) (hn:Nat.blt d n=true)
  (k:∀s':SV,s'.n=s.n+m→S n w0 ((d,s'.v)::ρ) (own s' e sz (xs++news)::Δ) K) :
  S n w0 ρ Γ (Ow P Q ⟨some d,.call {callee:=.builtin .append,args:=#[x,y],argTypes:=#[t,t]},ty,pos,af,gd⟩ K):=by
 intro a w ha hs Dx;unfold Vl at hi;split at hi
 case h_2=>cases hi
 rename_i i hi';split at hi
 case h_2=>cases hi
 rename_i z hz;simp only[Option.some.injEq,Prod.mk.injEq]at hi;obtain⟨rfl,rfl,rfl⟩:=hi;have hzs:z.cells.size=i.size:=by simpa using Nat.eq_of_beq_eq_true hzl
 obtain⟨y0,l0,p0⟩:=(hs.Qh hp.Qh).head;have hO:=(p0.mono l0).Qde;unfold Ow;refine Qcq x y t rfl e i z i.size i.bytes hu hi' hz rfl rfl hzs s.v s.n xs _ hO (ha.ev hx) yv m news (ha.ev hy) (Ql2 w hs) (fun v hv=>List.all_eq_true.1 h1 v hv) h63 hby ?_;intro v' w' g' own' keep hg;obtain⟨ao,c,rfl⟩:∃ao c,v'=.slice ao (s.n+m) c:=by obtain⟨_,ao,c,h1,_⟩:=own'.sl;exact⟨ao,c,h1⟩
 obtain⟨hg',ow⟩:=own.Qvb (s:=⟨ao,s.n+m,c⟩) own';refine k ⟨ao,s.n+m,c⟩ rfl _ _ (ha.put hn _) ?_ (Dx.trans ⟨keep.os,keep.tape,keep.output,keep.size,keep.drawn⟩);refine(hs.Qh hp.Qh).upd fun q l p=>?_
 have hq:∀b,q b=none→w.heap[b]?≠none→s.a.map (·.block)≠some b:=by
  intro b hb _ e1
  rcases p.2 with ⟨h,_⟩|⟨b',off,cur,h,h2,_⟩
  ·rw[h]at e1;cases e1
  ·rw[h]at e1;simp only[Option.map_some,Option.some.injEq]at e1;subst e1;rw[h2]at hb;cases hb
 have Wq:∀b,w.heap[b]?≠none→b<w.heap.size:=fun b hb=>by
  rcases Nat.lt_or_ge b w.heap.size with h|h
  ·exact h
  ·simp[Array.getElem?_eq_none h]at hb
 rcases ow.2 with ⟨h1,h2,h3⟩|⟨b,off,cur,h1,h2,r⟩
 ·exact⟨HL.emp,HL.U6 _,⟨ow.1,.inl ⟨h1,h2,h3⟩⟩,fun b hb hw=>⟨rfl,keep.block b (Wq b hw) (hq b hb hw)⟩⟩
 ·refine⟨HL.one b (.cells cur e),HL.one_le h2,⟨ow.1,.inr ⟨b,off,cur,h1,HL.Xt _ _,r⟩⟩,fun c' hc hw=>⟨HL.Vj fun e1=>?_,keep.block c' (Wq c' hw) (hq c' hc hw)⟩⟩;subst e1;simp only at h1;rw[h1]at hg';simp only[Option.map_some]at hg'
  rcases hg with h|h
  ·exact hq c' hc hw (by rw[←h,hg'])
  ·rw[h]at hg';cases hg';exact absurd (Wq _ hw) (Nat.lt_irrefl _)
end
def wpT(P:Program)(ops:Array Oper)(Q:Exit→Act→World→Prop)(H:World→Prop)(late:Nat→Bool):Nat→Array Bool→Act→World→Prop
 | 0,listed,a,w=>Region.ready .any ops listed=[]∧Q .normal a w
 | fuel+1,listed,a,w=>
  (Region.ready .any ops listed=[]→Q .normal a w) ∧
  ∀i∈Region.ready .any ops listed,wpOp P ops Q i (fun a' w'=>if late i=true then wpAny P .any ops Q fuel (listed.setIfInBounds i true) a' w' else H w'∧wpT P ops Q H late fuel (listed.setIfInBounds i true) a' w') a w
section
variable {P:Program}{ops:Array Oper}{Q:Exit→Act→World→Prop}{H:World→Prop}{late:Nat→Bool}
theorem Ew:∀(fuel:Nat) (listed:Array Bool) (a:Act) (w:World),wpT P ops Q H late fuel listed a w→wpAny P .any ops Q fuel listed a w
 | 0,_,_,_,h=>h
 | fuel+1,_,_,_,h=>⟨h.1,fun i hi=>wpOp_mono (fun a' w' h'=>by
   split at h'
   ·exact h'
   ·exact Ew fuel _ a' w' h'.2) (h.2 i hi)⟩
theorem Bc{i:Nat}{oi:Oper}{v:Value}(D:List Nat)(hi:ops[i]?=some oi)(Qro:∀(j:Nat) (o:Oper) cs b,ops[j]?=some o→o.op≠.select cs b)
  (hQ:∀c a w,Q (.panic c) (a.put oi.dst v) w→Q (.panic c) a w) (Q49:∀j,late j=true→j∈D)
  (hD:∀j∈D,∀o,ops[j]?=some o→∃e∈o.after,Region.binds .any e=true∧(e.on=i∨e.on∈D)) :
  ∀(fuel:Nat) (listed:Array Bool) (a:Act) (w:World),
   (∀j oj,ops[j]?=some oj→j≠i→listed.getD j true=false→(∀e∈oj.after,Region.binds .any e=true→e.on≠i)→oi.apart ops oj=true) →
   (∀j∈D,j≠i∧listed.getD j false=false) →
   i∈Region.ready .any ops listed→YieldsIf P ops H oi v a→H w →
   wpT P ops Q H late fuel (listed.setIfInBounds i true) (a.put oi.dst v) w→wpT P ops Q H late (fuel+1) listed a w:=by
 have yes:∀(fuel:Nat) (listed:Array Bool) (a:Act) (w:World),(∀j∈D,j≠i∧listed.getD j false=false)→YieldsIf P ops H oi v a→H w→wpT P ops Q H late fuel (listed.setIfInBounds i true) (a.put oi.dst v) w →
   wpOp P ops Q i (fun a' w'=>if late i=true then wpAny P .any ops Q fuel (listed.setIfInBounds i true) a' w' else H w'∧wpT P ops Q H late fuel (listed.setIfInBounds i true) a' w') a w:=by
  intro fuel listed a w hDl hy hS hh;have hni:late i≠true:=fun e=>(hDl i (Q49 i e)).1 rfl;refine hy.wpOp hi hS ?_;simp only[hni];exact⟨hS,hh⟩
 intro fuel;induction fuel with
 | zero=>
  intro listed a w _ hDl hr hy hS hh;refine⟨fun h=>(by rw[h]at hr;cases hr),fun j hj=>?_⟩
  by_cases Tc:j=i
  ·subst Tc;exact yes 0 listed a w hDl hy hS hh
  ·have:=ready_mono hj Tc;rw[hh.1]at this;cases this
 | succ fuel ih=>
  intro listed a w Qji hDl hr hy hS hh;refine⟨fun h=>(by rw[h]at hr;cases hr),fun j hj=>?_⟩
  by_cases Tc:j=i
  ·subst Tc;exact yes (fuel+1) listed a w hDl hy hS hh
  ·have h1:=hh.2 j (ready_mono hj Tc);obtain⟨Qw4,oj,hoj,hall⟩:=mem_ready.1 hj;have iun:listed.getD i true=false:=(mem_ready.1 hr).1
   have Qrt:∀e∈oj.after,Region.binds .any e=true→e.on≠i:=fun e he hb heq=>by
    have h1:=hall e he hb;rw[heq]at h1
    rcases Nat.lt_or_ge i listed.size with h'|h'
    ·simp[h']at iun h1;rw[iun]at h1;cases h1
    ·simp[Array.getElem?_eq_none h']at h1
   have hjD:j∉D:=fun hjd=>by
    obtain⟨e,he,hb,h2⟩:=hD j hjd oj hoj
    rcases h2 with h2|h2
    ·exact Qrt e he hb h2
    ·have:=hall e he hb;rw[(hDl _ h2).2]at this;cases this
   have hlj:late j≠true:=fun e=>hjD (Q49 j e)
   have h1':wpOp P ops Q j (fun a' w'=>H w'∧wpT P ops Q H late fuel ((listed.setIfInBounds i true).setIfInBounds j true) a' w') (a.put oi.dst v) w:=by
    refine wpOp_mono (fun a' w' h=>?_) h1;simp only[hlj]at h;exact h
   have h2:=wpOp_putIf hoj (Qji j oj hoj Tc Qw4 Qrt) (fun cs b=>Qro i oi cs b hi) (fun cs b=>Qro j oj cs b hoj) hQ hy h1'
   have hfree':∀k ok,ops[k]?=some ok→k≠i→(listed.setIfInBounds j true).getD k true=false →
     (∀e∈ok.after,Region.binds .any e=true→e.on≠i)→oi.apart ops ok=true:=fun k ok hk hki hun Vb=>by
    refine Qji k ok hk hki ?_ Vb
    by_cases hjk:j=k
    ·subst hjk;exact Qw4
    ·rw[getD_set_ne true hjk]at hun;exact hun
   have hDl':∀k∈D,k≠i∧(listed.setIfInBounds j true).getD k false=false:=fun k hk=>by
    refine⟨(hDl k hk).1,?_⟩;rw[getD_set_ne false (fun e:j=k=>hjD (by rw[e];exact hk))];exact(hDl k hk).2
   refine wpOp_mono (fun a' w' h3=>?_) h2;simp only[hlj];refine⟨h3.2.1,ih (listed.setIfInBounds j true) a' w' hfree' hDl' (ready_mono hr (Ne.symm Tc)) h3.1 h3.2.1 ?_⟩;rw[Array.setIfInBounds_comm _ _ Tc];exact h3.2.2
def Fp(ops:Array Oper)(listed:Array Bool)(i:Nat)(late D:List Nat):Bool:=
 Region.noSelect ops&&Region.free .any ops listed i&&(Region.ready .any ops listed).contains i&&late.all (fun j=>D.contains j) &&
 D.all fun j=>j != i&&!listed.getD j false&&match ops[j]? with
  | some o=>o.after.any fun e=>Region.binds .any e&&(e.on==i || D.contains e.on)
  | none=>true
end
section
variable {P:Program}{n:Nat}{md:Bool}{w0:WM md}{ρ:Env}{Γ:List Assn}{Q:Exit→Act→World→Prop}{K:Act→World→Prop}{ops:Array Oper}{d:Nat}{Hs:List Assn}{late:List Nat}{fuel:Nat}{listed:Array Bool}
def Dr(P:Program)(ops:Array Oper)(Q:Exit→Act→World→Prop)(Hs:List Assn)(late:List Nat)(fuel:Nat)(listed:Array Bool):Act→World→Prop:=
 wpT P ops (NoPanic Q) (fun w=>Sat w Hs) (fun j=>late.contains j) fuel listed
def DrK(P:Program)(ops:Array Oper)(Q:Exit→Act→World→Prop)(Hs:List Assn)(late:List Nat)(fuel:Nat)(listed:Array Bool)(i:Nat):Act→World→Prop:=fun a w=>
 if late.contains i=true then wpAny P .any ops (NoPanic Q) fuel (listed.setIfInBounds i true) a w else Sat w Hs∧Dr P ops Q Hs late fuel (listed.setIfInBounds i true) a w
theorem S.draw{id:Nat}(Hs:List Assn)(late:List Nat)(hm:P.follows .mixedOrders=true)(h:S n w0 ρ Γ (Dr P ops Q Hs late ops.size (Array.replicate ops.size false))):S n w0 ρ Γ ((Code.region id ops true).wp P Q):=
 fun a w ha hs hx=>wp_region_noPanic (wp_region_any hm (Ew _ _ _ _ (h a {w with drawn:=w.drawn+1} ha (hs.of_heap rfl) ⟨hx.os,hx.tape,hx.output,hx.size,fun e=>Nat.le_succ_of_le (hx.drawn e)⟩)))
theorem S.Q3g{o:Oper}{v:Value}(i:Nat)(D:List Nat)(hi:ops[i]?=some o)(hok:Fp ops listed i late D=true)(hg:o.guard=none)(hd:o.dst=some d)(hn:Nat.blt d n=true)(hy:Qv P n ρ Hs o v)(hH:Ent Γ Hs)
  (k:S n w0 ((d,v)::ρ) Γ (Dr P ops Q Hs late fuel (listed.setIfInBounds i true))):S n w0 ρ Γ (Dr P ops Q Hs late (fuel+1) listed):=by
 intro a w ha hs hx;unfold Fp at hok;simp only[Bool.and_eq_true,List.all_eq_true]at hok;obtain⟨⟨⟨⟨h1,h2⟩,h3⟩,h4⟩,h5⟩:=hok;have hY:YieldsIf P ops (fun w=>Sat w Hs) o v a:=.inl ⟨by simp[Region.wanted,hg],fun w hw=>hy a w ha hw⟩;unfold Dr
 refine Bc (D:=D) hi (Region.noSelect_spec h1) (fun _ _ _ h=>h) (fun j hj=>by simpa using h4 j (by simpa using hj)) (fun j hj o ho=>?_) fuel listed a w (Region.free_spec hi h2) (fun j hj=>?_) (by simpa using h3) hY (hs.Qh hH) ?_
 ·have:=h5 j hj;simp only[ho]at this;obtain⟨e,he,hb⟩:=Array.any_eq_true'.1 this.2;simp only[Bool.and_eq_true,Bool.or_eq_true,beq_iff_eq,List.contains_iff_mem]at hb;exact⟨e,he,hb.1,hb.2⟩
 ·have:=h5 j hj;simp only[bne_iff_ne,ne_eq,Bool.not_eq_true']at this;exact⟨this.1.1,this.1.2⟩
 ·rw[hd];exact k _ _ (ha.put hn v) hs hx
theorem S.Qmt{o:Oper}{i:Nat}(hi:ops[i]?=some o)(hg:o.guard=none)(h:S n w0 ρ Γ (Ow P (NoPanic Q) o (DrK P ops Q Hs late fuel listed i))) :
  ∀a w,Uc n ρ a→Sat w Γ→Ext w0 w→wpOp P ops (NoPanic Q) i (DrK P ops Q Hs late fuel listed i) a w:=by
 intro a w ha hs hx;unfold wpOp;simp only[hi,Region.wanted,hg,if_true];exact .inl (h a w ha hs hx)
theorem S.Zhc{i:Nat}{o:Oper}(hr:Region.ready .any ops listed=[i])(hi:ops[i]?=some o)(hg:o.guard=none)(h:S n w0 ρ Γ (Ow P (NoPanic Q) o (DrK P ops Q Hs late fuel listed i))):S n w0 ρ Γ (Dr P ops Q Hs late (fuel+1) listed):=by
 intro a w ha hs hx;refine⟨fun e=>(by rw[hr]at e;cases e),fun j hj=>?_⟩;rw[hr]at hj;obtain rfl:=List.mem_singleton.1 hj;exact S.Qmt hi hg h a w ha hs hx
theorem S.Zhb{i j:Nat}{o p:Oper}(hr:Region.ready .any ops listed=[i,j])(hi:ops[i]?=some o)(hg:o.guard=none)(hj:ops[j]?=some p)(hg':p.guard=none)
  (h1:S n w0 ρ Γ (Ow P (NoPanic Q) o (DrK P ops Q Hs late fuel listed i))) (h2:S n w0 ρ Γ (Ow P (NoPanic Q) p (DrK P ops Q Hs late fuel listed j))):S n w0 ρ Γ (Dr P ops Q Hs late (fuel+1) listed):=by
 intro a w ha hs hx;refine⟨fun e=>(by rw[hr]at e;cases e),fun k hk=>?_⟩;rw[hr]at hk;simp only[List.mem_cons,List.not_mem_nil,or_false]at hk
 rcases hk with rfl|rfl
 ·exact S.Qmt hi hg h1 a w ha hs hx
 ·exact S.Qmt hj hg' h2 a w ha hs hx
theorem S.Zha{i:Nat}(hl:late.contains i=false)(hH:Ent Γ Hs)(h:S n w0 ρ Γ (Dr P ops Q Hs late fuel (listed.setIfInBounds i true))):S n w0 ρ Γ (DrK P ops Q Hs late fuel listed i):=by
 intro a w ha hs hx;unfold DrK;rw[hl,if_neg (by simp)];exact⟨hs.Qh hH,h a w ha hs hx⟩
theorem S.Q3h{i:Nat}(Hs':List Assn)(late':List Nat)(hl:late.contains i=true)(h:S n w0 ρ Γ (Dr P ops Q Hs' late' fuel (listed.setIfInBounds i true))):S n w0 ρ Γ (DrK P ops Q Hs late fuel listed i):=by
 intro a w ha hs hx;unfold DrK;rw[hl,if_pos rfl];exact Ew _ _ _ _ (h a w ha hs hx)
theorem S.Q3i(hr:Region.ready .any ops listed=[])(h:S n w0 ρ Γ (Q .normal)):S n w0 ρ Γ (Dr P ops Q Hs late fuel listed):=by
 intro a w ha hs hx;cases fuel with
 | zero=>exact⟨hr,h a w ha hs hx⟩
 | succ fuel=>exact⟨fun _=>h a w ha hs hx,by rw[hr];simp⟩
def wpG(P:Program)(ops:Array Oper)(Q:Exit→Act→World→Prop):List Oper→Act→World→Prop
 | [],a,w=>Q .normal a w
 | o::rest,a,w=>if Region.wanted o (yielded ops a.tmps) then o.wp P a w (wpG P ops Q rest) Q else wpG P ops Q rest (a.put o.dst undef) w
theorem Qp6:∀(l:List Oper),∀a w,wpG P ops Q l a w→wpList P ops Q l a w:=by
 intro l;induction l with
 | nil=>intro a w h;exact h
 | cons o l ih=>
  intro a w h;unfold wpList;unfold wpG at h
  split
  ·rename_i hw;rw[if_pos hw]at h;exact .inl (Oper.wp_mono ih h)
  ·rename_i hw;rw[if_neg hw]at h;exact ih _ _ h
theorem S.Q0r{id:Nat}{l:List Oper}(h:S n w0 ρ Γ (wpG P l.toArray Q l)):S n w0 ρ Γ ((Code.region id l.toArray false).wp P Q):=
 fun a w ha hs hx=>wp_region_lit (Qp6 l a w (h a w ha hs hx))
theorem S.Zg7{o:Oper}{rest:List Oper}(hg:o.guard=none)(h:S n w0 ρ Γ (Ow P Q o (wpG P ops Q rest))):S n w0 ρ Γ (wpG P ops Q (o::rest)):=by
 intro a w ha hs hx;unfold wpG;rw[if_pos (by simp[Region.wanted,hg])];exact h a w ha hs hx
theorem Hk{a:Act}(ha:Uc n ρ a){g t:Nat}{b:Bool}(hd:(ops[g]?).bind (·.dst)=some t)(hb:Env.get ρ t=some (.bool b)):yielded ops a.tmps g=some b:=by
 have h:=ha.get t _ hb;unfold yielded;rw[hd];cases ht:a.tmps[t]? with
 | none=>simp[Array.getD,undef]at h;rw[Array.getElem?_eq_none_iff]at ht;rw[dif_neg (by omega)]at h;cases h
 | some v=>
  have:a.tmps.getD t undef=v:=by simp[Array.getD_eq_getD_getElem?,ht]
  rw[this]at h;subst h;simp[ht]
theorem S.Zcs{o:Oper}{rest:List Oper}{g t:Nat}{b want:Bool}(hg:o.guard=some (g,want))(hd:(ops[g]?).bind (·.dst)=some t)(hb:Env.get ρ t=some (.bool b))(hw:b=want)(h:S n w0 ρ Γ (Ow P Q o (wpG P ops Q rest))):S n w0 ρ Γ (wpG P ops Q (o::rest)):=by
 intro a w ha hs hx;unfold wpG;rw[if_pos (by simp[Region.wanted,hg,Hk ha hd hb,hw])];exact h a w ha hs hx
theorem S.Zg8{o:Oper}{rest:List Oper}{g t:Nat}{b want:Bool}(hg:o.guard=some (g,want))(hd:(ops[g]?).bind (·.dst)=some t)(hb:Env.get ρ t=some (.bool b))(hw:b=!want)(hds:o.dst=some d)(hn:Nat.blt d n=true)
  (h:S n w0 ((d,undef)::ρ) Γ (wpG P ops Q rest)):S n w0 ρ Γ (wpG P ops Q (o::rest)):=by
 intro a w ha hs hx;unfold wpG;rw[if_neg (by simp[Region.wanted,hg,Hk ha hd hb,hw])];rw[hds];exact h _ _ (ha.put hn _) hs hx
theorem Q00{ds:Option Tmp}{ty:TypeId}{pos:String}{af:Array Edge}{gd:Option (Nat×Bool)}{c x y:Operand}{v:Value}{b:Bool}(hc:ev ρ c=some (.bool b))(hb:b=true)(hx:ev ρ x=some v):Qv P n ρ Γ ⟨ds,.pick c x y,ty,pos,af,gd⟩ v:=fun a w ha _=>by
 subst hb;simp[execOp,ha.ev hc,ha.ev hx,asBool]
theorem Q01{ds:Option Tmp}{ty:TypeId}{pos:String}{af:Array Edge}{gd:Option (Nat×Bool)}{c x y:Operand}{v:Value}{b:Bool}(hc:ev ρ c=some (.bool b))(hb:b=false)(hy:ev ρ y=some v):Qv P n ρ Γ ⟨ds,.pick c x y,ty,pos,af,gd⟩ v:=fun a w ha _=>by
 subst hb;simp[execOp,ha.ev hc,ha.ev hy,asBool]
theorem S.Qxy{o:Oper}{v:Value}{g t:Nat}{b want:Bool}(i:Nat)(D:List Nat)(hi:ops[i]?=some o)(hok:Fp ops listed i late D=true)(hg:o.guard=some (g,want))(hgd:(ops[g]?).bind (·.dst)=some t)(hb:Env.get ρ t=some (.bool b))(hw:b=want)(hd:o.dst=some d)(hn:Nat.blt d n=true)(hy:Qv P n ρ Hs o v)(hH:Ent Γ Hs)
  (k:S n w0 ((d,v)::ρ) Γ (Dr P ops Q Hs late fuel (listed.setIfInBounds i true))):S n w0 ρ Γ (Dr P ops Q Hs late (fuel+1) listed):=by
 intro a w ha hs hx;unfold Fp at hok;simp only[Bool.and_eq_true,List.all_eq_true]at hok;obtain⟨⟨⟨⟨h1,h2⟩,h3⟩,h4⟩,h5⟩:=hok;have hY:YieldsIf P ops (fun w=>Sat w Hs) o v a:=.inl ⟨by simp[Region.wanted,hg,Hk ha hgd hb,hw],fun w hw=>hy a w ha hw⟩;unfold Dr
 refine Bc (D:=D) hi (Region.noSelect_spec h1) (fun _ _ _ h=>h) (fun j hj=>by simpa using h4 j (by simpa using hj)) (fun j hj o ho=>?_) fuel listed a w (Region.free_spec hi h2) (fun j hj=>?_) (by simpa using h3) hY (hs.Qh hH) ?_
 ·have:=h5 j hj;simp only[ho]at this;obtain⟨e,he,hb⟩:=Array.any_eq_true'.1 this.2;simp only[Bool.and_eq_true,Bool.or_eq_true,beq_iff_eq,List.contains_iff_mem]at hb;exact⟨e,he,hb.1,hb.2⟩
 ·have:=h5 j hj;simp only[bne_iff_ne,ne_eq,Bool.not_eq_true']at this;exact⟨this.1.1,this.1.2⟩
 ·rw[hd];exact k _ _ (ha.put hn v) hs hx
theorem S.Qx0{o:Oper}{g t:Nat}{b want:Bool}(i:Nat)(D:List Nat)(hi:ops[i]?=some o)(hok:Fp ops listed i late D=true)(hg:o.guard=some (g,want))(hgd:(ops[g]?).bind (·.dst)=some t)(hb:Env.get ρ t=some (.bool b))(hw:b=!want)(hd:o.dst=some d)(hn:Nat.blt d n=true)(hH:Ent Γ Hs)
  (k:S n w0 ((d,undef)::ρ) Γ (Dr P ops Q Hs late fuel (listed.setIfInBounds i true))):S n w0 ρ Γ (Dr P ops Q Hs late (fuel+1) listed):=by
 intro a w ha hs hx;unfold Fp at hok;simp only[Bool.and_eq_true,List.all_eq_true]at hok;obtain⟨⟨⟨⟨h1,h2⟩,h3⟩,h4⟩,h5⟩:=hok;have hY:YieldsIf P ops (fun w=>Sat w Hs) o undef a:=.inr ⟨by simp[Region.wanted,hg,Hk ha hgd hb,hw],rfl⟩;unfold Dr
 refine Bc (D:=D) hi (Region.noSelect_spec h1) (fun _ _ _ h=>h) (fun j hj=>by simpa using h4 j (by simpa using hj)) (fun j hj o ho=>?_) fuel listed a w (Region.free_spec hi h2) (fun j hj=>?_) (by simpa using h3) hY (hs.Qh hH) ?_
 ·have:=h5 j hj;simp only[ho]at this;obtain⟨e,he,hb⟩:=Array.any_eq_true'.1 this.2;simp only[Bool.and_eq_true,Bool.or_eq_true,beq_iff_eq,List.contains_iff_mem]at hb;exact⟨e,he,hb.1,hb.2⟩
 ·have:=h5 j hj;simp only[bne_iff_ne,ne_eq,Bool.not_eq_true']at this;exact⟨this.1.1,this.1.2⟩
 ·rw[hd];exact k _ _ (ha.put hn _) hs hx
theorem S.Zcv{i g t:Nat}{b want:Bool}{o:Oper}(hr:Region.ready .any ops listed=[i])(hi:ops[i]?=some o)(hg:o.guard=some (g,want))(hgd:(ops[g]?).bind (·.dst)=some t)(hb:Env.get ρ t=some (.bool b))(hw:b=want)(h:S n w0 ρ Γ (Ow P (NoPanic Q) o (DrK P ops Q Hs late fuel listed i))):S n w0 ρ Γ (Dr P ops Q Hs late (fuel+1) listed):=by
 intro a w ha hs hx;refine⟨fun e=>(by rw[hr]at e;cases e),fun j hj=>?_⟩;rw[hr]at hj;obtain rfl:=List.mem_singleton.1 hj;unfold wpOp;simp only[hi];rw[if_pos (by simp[Region.wanted,hg,Hk ha hgd hb,hw])];exact .inl (h a w ha hs hx)
def Cut{md:Bool}(n:Nat)(w0:WM md)(I:Env→List Assn→Prop):Act→World→Prop:=fun a w=>∃ρ Γ,I ρ Γ∧Uc n ρ a∧Sat w Γ∧Ext w0 w
theorem S.meet{I:Env→List Assn→Prop}{ρ':Env}{Γ':List Assn}(hI:I ρ' Γ')(hρ:Fy ρ' ρ)(hΓ:Ent Γ Γ'):S n w0 ρ Γ (Cut n w0 I):=fun _ _ ha hs hx=>⟨ρ',Γ',hI,ha.sub hρ,hs.Qh hΓ,hx⟩
end
section
variable {P:Program}{ops:Array Oper}{Q:Exit→Act→World→Prop}{H:World→Prop}{late:Nat→Bool}
theorem Qk0{i:Nat}{oi:Oper}{v:Value}(hi:ops[i]?=some oi)(Qro:∀(j:Nat) (o:Oper) cs b,ops[j]?=some o→o.op≠.select cs b)
  (hQ:∀c a w,Q (.panic c) (a.put oi.dst v) w→Q (.panic c) a w) (hni:late i≠true) :
  ∀(fuel:Nat) (listed:Array Bool) (a:Act) (w:World),
   (∀j oj,ops[j]?=some oj→j≠i→listed.getD j true=false→(∀e∈oj.after,Region.binds .any e=true→e.on≠i)→oi.apart ops oj=true) →
   i∈Region.ready .any ops listed→Yields P ops oi v a→H w →
   wpT P ops Q H late fuel (listed.setIfInBounds i true) (a.put oi.dst v) w→wpT P ops Q H late (fuel+1) listed a w:=by
 have yes:∀(fuel:Nat) (listed:Array Bool) (a:Act) (w:World),Yields P ops oi v a→H w→wpT P ops Q H late fuel (listed.setIfInBounds i true) (a.put oi.dst v) w →
   wpOp P ops Q i (fun a' w'=>if late i=true then wpAny P .any ops Q fuel (listed.setIfInBounds i true) a' w' else H w'∧wpT P ops Q H late fuel (listed.setIfInBounds i true) a' w') a w:=by
  intro fuel listed a w hy hS hh;refine hy.wpOp hi ?_;simp only[hni];exact⟨hS,hh⟩
 intro fuel;induction fuel with
 | zero=>
  intro listed a w _ hr hy hS hh;refine⟨fun h=>(by rw[h]at hr;cases hr),fun j hj=>?_⟩
  by_cases Tc:j=i
  ·subst Tc;exact yes 0 listed a w hy hS hh
  ·have:=ready_mono hj Tc;rw[hh.1]at this;cases this
 | succ fuel ih=>
  intro listed a w Qji hr hy hS hh;refine⟨fun h=>(by rw[h]at hr;cases hr),fun j hj=>?_⟩
  by_cases Tc:j=i
  ·subst Tc;exact yes (fuel+1) listed a w hy hS hh
  ·have h1:=hh.2 j (ready_mono hj Tc);obtain⟨Qw4,oj,hoj,hall⟩:=mem_ready.1 hj
   have Qrt:∀e∈oj.after,Region.binds .any e=true→e.on≠i:=fun e he hb heq=>by
    have h1:=hall e he hb;have h0:=(mem_ready.1 hr).1;rw[heq]at h1
    rcases Nat.lt_or_ge i listed.size with h'|h'
    ·simp[h']at h0 h1;rw[h0]at h1;cases h1
    ·simp[Array.getElem?_eq_none h']at h1
   have h2:=wpOp_put hoj (Qji j oj hoj Tc Qw4 Qrt) (fun cs b=>Qro i oi cs b hi) (fun cs b=>Qro j oj cs b hoj) hQ hy h1
   have hfree':∀k ok,ops[k]?=some ok→k≠i→(listed.setIfInBounds j true).getD k true=false →
     (∀e∈ok.after,Region.binds .any e=true→e.on≠i)→oi.apart ops ok=true:=fun k ok hk hki hun Vb=>by
    refine Qji k ok hk hki ?_ Vb
    by_cases hjk:j=k
    ·subst hjk;exact Qw4
    ·rw[getD_set_ne true hjk]at hun;exact hun
   refine wpOp_mono (fun a' w' h3=>?_) h2;obtain⟨h3,h4⟩:=h3
   by_cases hl:late j=true
   ·rw[if_pos hl]at h4 ⊢;refine wpAny_first hi Qro hQ fuel (listed.setIfInBounds j true) a' w' hfree' (ready_mono hr (Ne.symm Tc)) h3 ?_;rw[Array.setIfInBounds_comm _ _ Tc];exact h4
   ·rw[if_neg hl]at h4 ⊢;refine⟨h4.1,ih (listed.setIfInBounds j true) a' w' hfree' (ready_mono hr (Ne.symm Tc)) h3 h4.1 ?_⟩;rw[Array.setIfInBounds_comm _ _ Tc];exact h4.2
end
def Qe7(ops:Array Oper)(listed:Array Bool)(i:Nat)(late:List Nat):Bool:=
 Region.noSelect ops&&Region.free .any ops listed i&&(Region.ready .any ops listed).contains i&&!late.contains i
section
variable {P:Program}{n:Nat}{md:Bool}{w0:WM md}{ρ:Env}{Γ:List Assn}{Q:Exit→Act→World→Prop}{ops:Array Oper}{d:Nat}{Hs:List Assn}{late:List Nat}{fuel:Nat}{listed:Array Bool}
theorem S.Qxz{o:Oper}{v:Value}(i:Nat)(hi:ops[i]?=some o)(hok:Qe7 ops listed i late=true)(hg:o.guard=none)(hd:o.dst=some d)(hn:Nat.blt d n=true)(hy:Qv P n ρ [] o v)(hH:Ent Γ Hs)
  (k:S n w0 ((d,v)::ρ) Γ (Dr P ops Q Hs late fuel (listed.setIfInBounds i true))):S n w0 ρ Γ (Dr P ops Q Hs late (fuel+1) listed):=by
 intro a w ha hs hx;unfold Qe7 at hok;simp only[Bool.and_eq_true]at hok;obtain⟨⟨⟨h1,h2⟩,h3⟩,h4⟩:=hok;have hY:Yields P ops o v a:=.inl ⟨by simp[Region.wanted,hg],fun w=>hy a w ha ⟨HL.emp,HL.U6 _,trivial⟩⟩;unfold Dr;refine Qk0 hi (Region.noSelect_spec h1) (fun _ _ _ h=>h) (by simpa using h4) fuel listed a w (Region.free_spec hi h2) (by simpa using h3) hY (hs.Qh hH) ?_;rw[hd];exact k _ _ (ha.put hn v) hs hx
end
theorem Y0{x:Int}(h1:-9223372036854775808≤x)(h2:x≤9223372036854775807):IntKind.i64.min≤x∧x≤IntKind.i64.max:=by
 rw[show IntKind.i64.min=-9223372036854775808 by decide,show IntKind.i64.max=9223372036854775807 by decide];exact⟨h1,h2⟩
theorem Rt{x:Int}(h1:0≤x)(h2:x≤18446744073709551615):IntKind.u64.min≤x∧x≤IntKind.u64.max:=by
 rw[show IntKind.u64.min=0 by decide,show IntKind.u64.max=18446744073709551615 by decide];exact⟨h1,h2⟩
theorem Qpc{x:Int}(h1:0≤x)(h2:x≤4294967295):IntKind.u32.min≤x∧x≤IntKind.u32.max:=by
 rw[show IntKind.u32.min=0 by decide,show IntKind.u32.max=4294967295 by decide];exact⟨h1,h2⟩
theorem Za5{x:Int}(h1:0≤x)(h2:x≤65535):IntKind.u16.min≤x∧x≤IntKind.u16.max:=by
 rw[show IntKind.u16.min=0 by decide,show IntKind.u16.max=65535 by decide];exact⟨h1,h2⟩
theorem Q7f{x:Int}(h1:0≤x)(h2:x≤255):IntKind.u8.min≤x∧x≤IntKind.u8.max:=by
 rw[show IntKind.u8.min=0 by decide,show IntKind.u8.max=255 by decide];exact⟨h1,h2⟩
section
variable {P:Program}{n:Nat}{md:Bool}{w0:WM md}{ρ:Env}{Γ:List Assn}{Q:Exit→Act→World→Prop}{K:Act→World→Prop}{ty:TypeId}{pos:String}{af:Array Edge}{gd:Option (Nat×Bool)}{d:Nat}{ds:Option Tmp}
def Yx(zs:List Value):Nat→List Value
 | 0=>[]
 | k+1=>zs++Yx zs k
theorem H9(zs:List Value)(k:Nat):(Yx zs k).length=k*zs.length:=by
 induction k with
 | zero=>simp[Yx]
 | succ k ih=>simp[Yx,ih,Nat.succ_mul];omega
theorem Qhd(zs:List Value)(k:Nat):∀i,i<k*zs.length→(Yx zs k)[i]?=zs[i % zs.length]?:=by
 induction k with
 | zero=>intro i h;omega
 | succ k ih=>
  intro i h;rw[Nat.succ_mul]at h;unfold Yx
  by_cases hi:i<zs.length
  ·rw[List.getElem?_append_left hi,Nat.mod_eq_of_lt hi]
  ·rw[List.getElem?_append_right (by omega),ih (i-zs.length) (by omega)]
   congr 1
   rw[←Nat.mod_eq_sub_mod (by omega)]
theorem Aa(zs:List Value)(hz:0<zs.length)(k:Nat):(Array.range (k*zs.length)).map (fun i=>zs.toArray[i % zs.toArray.size]!)=(Yx zs k).toArray:=by
 apply Array.toList_inj.1;apply List.ext_getElem?;intro i
 by_cases h:i<k*zs.length
 ·rw[Qhd zs k i h];have hm:i % zs.length<zs.length:=Nat.mod_lt _ hz;simp[h,hm]
 ·rw[List.getElem?_eq_none (by simp;omega),List.getElem?_eq_none (by rw[H9];omega)]
theorem S.buildSlice{t e sz by_ len:Nat}{xs:List (Nat×Operand)}{pvs:List (Nat×Value)}{zs:List Value}(vs:List Value)(hu:P.underlying t=some (.slice e))(hi:Vl P e=some (zs,sz,by_))(G3:Nat.beq zs.length sz=true)(Qrq:(Nat.blt 0 (len*sz)&&Nat.ble (len*sz) 16777216)=true)(he:EvP ρ xs pvs)
  (hf:Qb7 (fun i=>some (i*sz,sz)) (Yx zs len) pvs=some vs) (hn:Nat.blt d n=true) (k:∀b,S n w0 ((d,.slice (some ⟨b,0,none⟩) len len)::ρ) (blk b e vs.toArray::Γ) K) :
  S n w0 ρ Γ (Ow P Q ⟨some d,.buildSlice t len xs.toArray,ty,pos,af,gd⟩ K):=by
 intro a w ha hs hx;unfold Vl at hi;split at hi
 case h_2=>cases hi
 rename_i i hi';split at hi
 case h_2=>cases hi
 rename_i z hz;simp only[Option.some.injEq,Prod.mk.injEq]at hi;obtain⟨rfl,rfl,rfl⟩:=hi;have hzs:z.cells.size=i.size:=by simpa using Nat.eq_of_beq_eq_true G3
 simp only[Bool.and_eq_true]at Qrq;have h1:0<len*i.size:=by have:=Qrq.1;simp[Nat.blt]at this;exact Nat.pos_of_ne_zero (by omega)
 have h2:len*i.size≤16777216:=Nat.le_of_ble_eq_true Qrq.2
 have hz0:0<z.cells.toList.length:=by
  rw[Array.length_toList,hzs];exact Nat.pos_of_ne_zero fun e=>by rw[e]at h1;omega
 have hm:(xs.toArray.map fun x:Nat×Operand=>(x.1,a.eval x.2)).toList=pvs:=by
  have:=he.map ha
  simpa using this
 have Q5g:=Mg _ pvs _ vs hf;have Sg:=Aa z.cells.toList hz0 len;rw[Array.length_toList,hzs]at Sg;simp only[Array.toArray_toList]at Sg;rw[←Sg]at Q5g;have hr:=run_buildSlice (P:=P) w t e len (xs.toArray.map fun x:Nat×Operand=>(x.1,a.eval x.2)) vs.toArray i z hu hi' hz (by omega) (by omega) (by rw[hm,hzs];exact Q5g);unfold Ow Oper.wp
 have hr':(execOp a.eval ⟨some d,.buildSlice t len xs.toArray,ty,pos,af,gd⟩).run P w=.ok (.value (.slice (some ⟨w.heap.size,0,none⟩) len len)) (w.alloc (.cells vs.toArray e)):=by
  simp only[execOp,Sem.run_bind,hr,Result.andThen_ok,Sem.run_pure]
 rw[hr',Oper.upon_value];exact k w.heap.size _ _ (ha.put hn _) (hs.alloc _ _) (hx.alloc _)
theorem Qy{b:Nat}{e:TypeId}{cs:List Value}{Δ:List Assn}{m sz:Nat}[h:Et Γ b e cs.toArray Δ](hl:cs.length=m*sz)(hm:m≤maxLen):∀w,Sat w Γ→Hp w (.slice (some ⟨b,0,none⟩) m m) m sz cs:=fun w hs=>
 Hp.block cs.toArray cs (by simp) (h.blk hs) hl hm
def Xa(W:World):Assn:=fun h=>∀(b:Nat) (o:Obj),W.heap[b]?=some o→h b=some o
class Hw(Γ:List Assn)(W:outParam World):Prop where
 sat:∀(w:World),Sat w Γ→∀(b:Nat) (o:Obj),W.heap[b]?=some o→w.heap[b]?=some o
instance (priority:=high) Hw.head{W:World}:Hw (Xa W::Γ) W:=⟨fun w hs b o h=>by obtain⟨x,l,p⟩:=hs.head;exact l b o (p b o h)⟩
theorem Hw.cell{W:World}(h:Hw Γ W){w:World}(hs:Sat w Γ){a:Addr}{v:Value}(hc:W.cell? a=some v):w.cell? a=some v:=by
 unfold World.cell? at hc ⊢;cases hb:W.heap[a.block]? with
 | none=>rw[hb]at hc;cases hc
 | some o=>rw[hb]at hc;rw[h.sat w hs _ _ hb];exact hc
theorem Hw.L3{W:World}(h:Hw Γ W){w:World}(hs:Sat w Γ){v:Value}{m sz:Nat}{xs:List Value}(hv:Hp W v m sz xs):Hp w v m sz xs:=by
 obtain⟨h0,ao,c,h1,h2,h3,h4,h5⟩:=hv;refine⟨h0,ao,c,h1,h2,h3,h4,fun a ha hm=>?_⟩;obtain⟨g1,g2,g3⟩:=h5 a ha hm;obtain⟨o,ho⟩:∃o,W.heap[a.block]?=some o:=⟨_,Array.getElem?_eq_getElem g2⟩;exact⟨g1,(Array.getElem?_eq_some_iff.1 (h.sat w hs _ _ ho)).1,fun j u hu=>h.cell hs (g3 j u hu)⟩
theorem Fa{t:TypeId}{x:Operand}{p:Addr}{W:World}{v:Value}[h:Hw Γ W](ht:J3 P t=true)(hx:ev ρ x=some (.pointer (some p)))(hv:W.cell? p=some v):Qv P n ρ Γ ⟨ds,.load t x,ty,pos,af,gd⟩ v:=by
 intro a w ha hs;have hc:=h.cell hs hv
 have hl:(loadVar t p).run P w=.ok v w:=by
  unfold loadVar;rw[Sem.run_bind,(W8 ht w).1];exact G8 hc
 simp only[execOp,ha.ev hx,Instr.loadAt,Instr.sureAddr,Sem.run_bind,Sem.run_pure,Result.andThen_ok,hl]
end
class Wx(Γ:List Assn)(s:SV)(e:outParam TypeId)(sz:outParam Nat)(xs:outParam (List Value))(Δ:outParam (List Assn)):Prop where
 Qh:Ent Γ (own s e sz xs::Δ)
instance (priority:=high) Wx.head{Γ:List Assn}{s:SV}{e:TypeId}{sz:Nat}{xs:List Value}:Wx (own s e sz xs::Γ) s e sz xs Γ:=⟨Ent.refl _⟩
instance Wx.tail{A:Assn}{Γ Δ:List Assn}{s:SV}{e:TypeId}{sz:Nat}{xs:List Value}[h:Wx Γ s e sz xs Δ]:Wx (A::Γ) s e sz xs (A::Δ):=⟨(h.Qh.cons A).trans (Ent.swap _ _ _)⟩
theorem Wx.own{Γ Δ:List Assn}{s:SV}{e:TypeId}{sz:Nat}{xs:List Value}(h:Wx Γ s e sz xs Δ){w:World}(hs:Sat w Γ):Own w e sz s.v s.n xs (s.a.map (·.block)):=by
 obtain⟨x,l,p⟩:=(hs.Qh h.Qh).head;exact(p.mono l).Qde
theorem Wx.L3{Γ Δ:List Assn}{s:SV}{e:TypeId}{sz:Nat}{xs:List Value}(h:Wx Γ s e sz xs Δ){w:World}(hs:Sat w Γ):Hp w s.v s.n sz xs:=(h.own hs).sl
theorem Wx.Q8b{Γ Δ:List Assn}{s:SV}{e:TypeId}{sz:Nat}{xs:List Value}(h:Wx Γ s e sz xs Δ){b off:Nat}(hp:s.a=some ⟨b,off,none⟩):Qkl Γ b off s.n s.c e sz xs Δ:=
 ⟨by have:=h.Qh;obtain⟨sa,sn,sc⟩:=s;simp only at hp;subst hp;exact this⟩
section
variable {P:Program}{n:Nat}{md:Bool}{w0:WM md}{ρ:Env}{Γ:List Assn}{Q:Exit→Act→World→Prop}{K:Act→World→Prop}{ty:TypeId}{pos:String}{af:Array Edge}{gd:Option (Nat×Bool)}{d:Nat}{ds:Option Tmp}
theorem S.Yf{φ:Act→World→Prop}(s:SV){e:TypeId}{sz:Nat}{xs:List Value}{Δ:List Assn}[h:Wx Γ s e sz xs Δ](k:xs.length=s.n*sz→s.n≤s.c→s.c≤maxLen→S n w0 ρ Γ φ):S n w0 ρ Γ φ:=by
 intro a w ha hs hx;obtain⟨x,_,p1,p2⟩:=(hs.Qh h.Qh).head
 rcases p2 with ⟨_,e2,e3⟩|⟨b,off,cur,e1,_,h3,h4,_⟩
 ·exact k p1 (by omega) (by rw[e3];exact Nat.zero_le _) a w ha hs hx
 ·exact k p1 h3 h4 a w ha hs hx
theorem S.Qp{φ:Act→World→Prop}(s:SV){e:TypeId}{sz:Nat}{xs:List Value}{Δ:List Assn}[h:Wx Γ s e sz xs Δ](hn:0<s.n)(k:∀b off,s.a=some ⟨b,off,none⟩→xs.length=s.n*sz→s.n≤s.c→s.c≤maxLen→S n w0 ρ Γ φ):S n w0 ρ Γ φ:=by
 intro a w ha hs hx;obtain⟨x,_,p1,p2⟩:=(hs.Qh h.Qh).head
 rcases p2 with ⟨_,e2,_⟩|⟨b,off,cur,e1,_,h3,h4,_⟩
 ·omega
 ·exact k b off e1 p1 h3 h4 a w ha hs hx
theorem Quu{t:TypeId}{x y:Operand}{e sz b o l c:Nat}{k:IntKind}{z:Int}{p:Option Addr}(i:Nat)(ht:Dz P t=some (e,sz))(hx:ev ρ x=some (.slice p l c))(hp:p=some ⟨b,o,none⟩)(hy:ev ρ y=some (.int k z))(hz:z=((i:Nat):Int))(h:i<l):Qv P n ρ Γ ⟨ds,.indexAddr t x y,ty,pos,af,gd⟩ (.pointer (some ⟨b,o+i*sz,none⟩)):=by
 subst hp hz;exact Q03 (i:=(i:Int)) ht hx hy ⟨by omega,by omega⟩
theorem Qur{t b o:Nat}{x:Operand}{e:TypeId}{sz:Nat}{xs:List Value}{v:Value}{Δ:List Assn}(s:SV){off:Nat}(j:Nat)(ht:J3 P t=true)(hx:ev ρ x=some (.pointer (some ⟨b,o,none⟩)))[h:Wx Γ s e sz xs Δ](hp:s.a=some ⟨b,off,none⟩)(ho:o=off+j)(hv:xs[j]?=some v) :
  Qv P n ρ Γ ⟨ds,.load t x,ty,pos,af,gd⟩ v:=by
 have:=h.Q8b hp;exact Q02 j ht hx ho hv
theorem X4{t b o k:Nat}{x:Operand}{e:TypeId}{sz:Nat}{xs:List Value}{Δ:List Assn}(s:SV){off:Nat}(j:Nat)(vs:List Value)(ht:Mp P t=some k)(hx:ev ρ x=some (.pointer (some ⟨b,o,none⟩)))[h:Wx Γ s e sz xs Δ](hp:s.a=some ⟨b,off,none⟩)(ho:o=off+j)(hk:vs.length=k)(hv:∀i u,vs[i]?=some u→xs[j+i]?=some u) :
  Qv P n ρ Γ ⟨ds,.load t x,ty,pos,af,gd⟩ (.agg vs.toArray):=by
 have:=h.Q8b hp;exact Qus j vs ht hx ho hk hv
theorem S.Yb{t b o:Nat}{x y:Operand}{e:TypeId}{sz:Nat}{xs xs':List Value}{v:Value}{Δ:List Assn}(s:SV){off:Nat}(j:Nat)(ht:J3 P t=true)(hx:ev ρ x=some (.pointer (some ⟨b,o,none⟩)))(hy:ev ρ y=some v)(hv:v.oneCell'=true)[h:Wx Γ s e sz xs Δ](hp:s.a=some ⟨b,off,none⟩)(ho:o=off+j)(hj:j<xs.length)(D3:xs.set j v=xs')
  (k:S n w0 ρ (own s e sz xs'::Δ) K):S n w0 ρ Γ (Ow P Q ⟨none,.store t x y,ty,pos,af,gd⟩ K):=by
 have:=h.Q8b hp;subst D3;refine S.Q57 j ht hx hy hv ho hj ?_;obtain⟨sa,sn,sc⟩:=s;simp only at hp;subst hp;exact k
theorem S.L2{t e sz:Nat}{x y:Operand}{s:SV}{xs:List Value}{kk:IntKind}{z:Int}{Δ:List Assn}(m:Nat)(ht:Dz P t=some (e,sz))(hx:ev ρ x=some s.v)[h:Wx Γ s e sz xs Δ](hy:ev ρ y=some (.int kk z))(hz:z=((m:Nat):Int))(hm:m≤s.n)(hn:Nat.blt d n=true)
  (k:∀s':SV,s'.n=s.n-m→S n w0 ((d,s'.v)::ρ) (own s' e sz (xs.drop (m*sz))::Δ) K):S n w0 ρ Γ (Ow P Q ⟨some d,.slice t x (some y) none none,ty,pos,af,gd⟩ K):=by
 intro a w ha hs Dx;subst hz;obtain⟨hu,i,hi,rfl⟩:=Mi ht;have hO:=h.own hs;obtain⟨x0,l0,p0⟩:=(hs.Qh h.Qh).head
 have hnc:s.n≤s.c:=by
  rcases p0.2 with ⟨_,e2,e3⟩|⟨_,_,_,_,_,h3,_⟩
  ·omega
  ·exact h3
 have hr:(execOp a.eval ⟨some d,.slice t x (some y) none none,ty,pos,af,gd⟩).run P w=.ok (.value (.slice (if s.c=m then s.a else s.a.map (·.add (m*i.size))) (s.n-m) (s.c-m))) w:=by
  have hmi:(m:Int)≤(s.n:Int):=by omega
  simp[execOp,ha.ev hx,ha.ev hy,Instr.sliceAt,Instr.slice,run_underlying hu,Instr.sliceBounds,Instr.sliceBound,asIntOf,hm,sizeOf,typeInfo,hi]
 unfold Ow Oper.wp;rw[hr,Oper.upon_value];have hmul:(s.n-m)*i.size+m*i.size=s.n*i.size:=by rw[←Nat.add_mul];congr 1;omega
 refine k ⟨if s.c=m then s.a else s.a.map (·.add (m*i.size)),s.n-m,s.c-m⟩ rfl _ _ (ha.put hn _) ?_ Dx;refine(hs.Qh h.Qh).upd fun q l p=>⟨q,l,?_,fun b hb _=>⟨hb,rfl⟩⟩;refine⟨by rw[List.length_drop,p.1];simp only;omega,?_⟩
 rcases p.2 with ⟨e1,e2,e3⟩|⟨b,off,cur,e1,e2,e3,e4,e5,e6⟩
 ·exact .inl ⟨by simp[e1],by simp only;omega,by simp only;omega⟩
 ·by_cases hc:s.c=m
  ·refine .inr ⟨b,off,cur,by simp[hc,e1],e2,by simp only;omega,by simp only;omega,?_,?_⟩
   ·simp only[hc,Nat.sub_self,Nat.zero_mul];have:0≤s.c*i.size:=Nat.zero_le _;omega
   ·have h0:s.n-m=0:=by omega
    simp only[h0,Nat.zero_mul,List.take_zero];rw[List.drop_eq_nil_of_le (by rw[p.1];exact Nat.mul_le_mul_right _ (by omega))]
  ·have hcm:(s.c-m)*i.size+m*i.size=s.c*i.size:=by rw[←Nat.add_mul];congr 1;omega
   refine .inr ⟨b,off+m*i.size,cur,by simp[hc,e1,Addr.add_lit],e2,by simp only;omega,by simp only;omega,by simp only;omega,?_⟩;rw[←e6,List.drop_take,List.drop_drop]
   congr 1
   simp only;omega
theorem S.Qu{t e sz by_:Nat}{x y:Operand}{s:SV}{xs zs:List Value}{yv:Value}{Δ:List Assn}(m:Nat)(news:List Value)(hu:P.underlying t=some (.slice e))(hi:Vl P e=some (zs,sz,by_))(hzl:Nat.beq zs.length sz=true)(hx:ev ρ x=some s.v)[h:Wx Γ s e sz xs Δ]
  (hy:ev ρ y=some yv) (Ql2:∀w,Sat w Γ→Hp w yv m sz news) (h1:Hf news=true) (hby:(s.n+m)*by_≤140737488355328∧s.n+m≤140737488355328) (hn:Nat.blt d n=true)
  (k:∀s':SV,s'.n=s.n+m→S n w0 ((d,s'.v)::ρ) (own s' e sz (xs++news)::Δ) K) :
  S n w0 ρ Γ (Ow P Q ⟨some d,.call {callee:=.builtin .append,args:=#[x,y],argTypes:=#[t,t]},ty,pos,af,gd⟩ K):=by
 have hent:=h.Qh;have:Pick (own s e sz xs) Γ Δ:=⟨hent⟩;exact S.append hu hi hzl hx hy Ql2 h1 (by unfold maxLen;omega) hby.1 hn k
end
theorem S.conv{n:Nat}{md:Bool}{w0:WM md}{ρ:Env}{Γ:List Assn}{φ:Act→World→Prop}(A:Assn){Δ Θ:List Assn}[p:Pick A Γ Δ](h:Ent (A::Δ) Θ)(k:S n w0 ρ Θ φ):S n w0 ρ Γ φ:=S.Qh (p.Qh.trans h) k
theorem S.Wj{n:Nat}{md:Bool}{w0:WM md}{ρ:Env}{Γ:List Assn}{φ:Act→World→Prop}(A B:Assn){Δ Δ' Θ:List Assn}[p:Pick A Γ Δ][q:Pick B Δ Δ'](h:Ent (A::B::Δ') Θ)(k:S n w0 ρ Θ φ):S n w0 ρ Γ φ:=S.Qh ((p.Qh.trans (q.Qh.cons A)).trans h) k
theorem S.Xb{n:Nat}{md:Bool}{w0:WM md}{ρ:Env}{Γ:List Assn}{φ:Act→World→Prop}(A B C:Assn){Δ Δ' Δ'' Θ:List Assn}[p:Pick A Γ Δ][q:Pick B Δ Δ'][r:Pick C Δ' Δ''](h:Ent (A::B::C::Δ'') Θ)(k:S n w0 ρ Θ φ):S n w0 ρ Γ φ:=S.Qh ((p.Qh.trans ((q.Qh.trans (r.Qh.cons B)).cons A)).trans h) k
theorem Z3{α:Type}{enc:α→List Value}{sz:Nat}(he:∀x,(enc x).length=sz):∀(os:List α),(os.flatMap enc).length=os.length*sz
 | []=>by simp
 | x::os=>by rw[List.flatMap_cons,List.length_append,he,Z3 he os,List.length_cons,Nat.succ_mul];omega
theorem flat_get{α:Type}{enc:α→List Value}{sz:Nat}(he:∀x,(enc x).length=sz):∀ {os:List α} {i k:Nat} {x:α} {v:Value},os[i]?=some x→(enc x)[k]?=some v→(os.flatMap enc)[i*sz+k]?=some v
 | [],_,_,_,_,h,_=>by simp at h
 | y::os,0,k,x,v,h,hv=>by
  simp only[List.getElem?_cons_zero,Option.some.injEq]at h;subst h;rw[List.flatMap_cons,Nat.zero_mul,Nat.zero_add,List.getElem?_append_left (List.getElem?_eq_some_iff.1 hv).1];exact hv
 | y::os,i+1,k,x,v,h,hv=>by
  rw[List.flatMap_cons,List.getElem?_append_right (by rw[he,Nat.succ_mul];omega),he];have:=flat_get he (os:=os) (i:=i) (k:=k) (by simpa using h) hv
  rwa [show (i+1)*sz+k-sz=i*sz+k by rw[Nat.succ_mul];omega]
theorem Qjr{α:Type}{enc:α→List Value}{sz:Nat}(he:∀x,(enc x).length=sz):∀ {os:List α} {i k:Nat} {x x':α} {v:Value},os[i]?=some x→k<sz→enc x'=(enc x).set k v→(os.flatMap enc).set (i*sz+k) v=(os.set i x').flatMap enc
 | [],_,_,_,_,_,h,_,_=>by simp at h
 | y::os,0,k,x,x',v,h,hk,hv=>by
  simp only[List.getElem?_cons_zero,Option.some.injEq]at h;subst h;rw[List.flatMap_cons,Nat.zero_mul,Nat.zero_add,List.set_append_left _ _ (by rw[he];exact hk),List.set_cons_zero,List.flatMap_cons,hv]
 | y::os,i+1,k,x,x',v,h,hk,hv=>by
  rw[List.flatMap_cons,List.set_append_right _ _ (by rw[he,Nat.succ_mul];omega),he,List.set_cons_succ,List.flatMap_cons];have:=Qjr he (os:=os) (i:=i) (k:=k) (by simpa using h) hk hv;rw[show (i+1)*sz+k-sz=i*sz+k by rw[Nat.succ_mul];omega,this]
theorem Xg{α:Type}(enc:α→List Value)(os:List α)(x:α):os.flatMap enc++enc x=(os++[x]).flatMap enc:=by simp
theorem Qr4{α:Type}{enc:α→List Value}{sz:Nat}(he:∀x,(enc x).length=sz)(os:List α)(k:Nat):(os.flatMap enc).drop (k*sz)=(os.drop k).flatMap enc:=by
 induction k generalizing os with
 | zero=>simp
 | succ k ih=>
  cases os with
  | nil=>simp
  | cons x os=>
   rw[List.flatMap_cons,List.drop_succ_cons,←ih os,Nat.succ_mul,Nat.add_comm,←List.drop_drop,List.drop_append_of_le_length (by rw[he];exact Nat.le_refl _),(List.drop_eq_nil_of_le (by rw[he x];exact Nat.le_refl _):(enc x).drop sz=[]),List.nil_append]
theorem Y8{α:Type}{enc:α→List Value}{sz:Nat}(he:∀x,(enc x).length=sz){os:List α}{i:Nat}{x:α}(h:os[i]?=some x):∀k v,(enc x)[k]?=some v→(os.flatMap enc)[i*sz+k]?=some v:=fun _ _ hv=>flat_get he h hv
def alls{α:Type}(os:List α)(F:α→Assn):Assn:=stars (os.map F)
theorem Ent.Jv{α:Type}(F:α→Assn)(Γ:List Assn):Ent Γ (alls [] F::Γ):=fun h hs=>⟨HL.emp,h,HL.Ul _,HL.U6 _,HL.le.refl _,trivial,hs⟩
theorem Ent.Gy{α:Type}(F:α→Assn)(x:α)(os:List α)(Γ:List Assn):Ent (F x::alls os F::Γ) (alls (x::os) F::Γ):=fun _ hs=>(Y6 (Γ:=(x::os).map F) (Δ:=Γ)).1 (by
 obtain⟨h1,h2,d,l1,l2,p,s⟩:=hs;exact⟨h1,h2,d,l1,l2,p,Y6.2 s⟩)
theorem Ent.Gx{α:Type}(F:α→Assn)(x:α)(os:List α)(Γ:List Assn):Ent (alls (x::os) F::Γ) (F x::alls os F::Γ):=fun _ hs=>by
 obtain⟨h1,h2,d,l1,l2,p,s⟩:=(Y6 (Γ:=(x::os).map F) (Δ:=Γ)).2 hs;exact⟨h1,h2,d,l1,l2,p,Y6.1 s⟩
theorem Ent.Gz{α:Type}(F:α→Assn)(os ps:List α)(Γ:List Assn):Ent (alls os F::alls ps F::Γ) (alls (os++ps) F::Γ):=fun _ hs=>by
 have h1:=(Y6 (Γ:=os.map F)).2 hs;have h2:Ent (os.map F++(alls ps F::Γ)) (os.map F++(ps.map F++Γ)):=Ent.append _ fun _ h=>Y6.2 h;refine(Y6 (Γ:=(os++ps).map F)).1 ?_;rw[List.map_append,List.append_assoc];exact h2 _ h1
theorem Ent.Qsk{α:Type}(F:α→Assn)(os ps:List α)(Γ:List Assn):Ent (alls (os++ps) F::Γ) (alls os F::alls ps F::Γ):=fun _ hs=>by
 have h1:=(Y6 (Γ:=(os++ps).map F)).2 hs;rw[List.map_append,List.append_assoc]at h1;have h2:Ent (os.map F++(ps.map F++Γ)) (os.map F++(alls ps F::Γ)):=Ent.append _ fun _ h=>Y6.1 h;exact(Y6 (Γ:=os.map F)).1 (h2 _ h1)
theorem Ent.Q3y{α:Type}(F:α→Assn)(x:α)(Γ:List Assn):Ent (F x::Γ) (alls [x] F::Γ):=((Ent.Jv F Γ).cons (F x)).trans (Ent.Gy F x [] Γ)
theorem Ent.Hn{α:Type}(F:α→Assn)(os:List α)(x:α)(Γ:List Assn):Ent (F x::alls os F::Γ) (alls (os++[x]) F::Γ):=((Ent.swap _ _ _).trans ((Ent.Q3y F x Γ).cons _)).trans (Ent.Gz F os [x] Γ)
theorem Ent.Qsl{α β:Type}{F:α→Assn}{G:β→Assn}{os:List α}{ps:List β}(h:os.map F=ps.map G)(Γ:List Assn):Ent (alls os F::Γ) (alls ps G::Γ):=by
 unfold alls;rw[h];exact Ent.refl _
theorem Ent.Wp{α:Type}(F:α→Assn){os:List α}{i:Nat}{x:α}(hx:os[i]?=some x)(Γ:List Assn):Ent (alls os F::Γ) (F x::alls (os.take i) F::alls (os.drop (i+1)) F::Γ):=by
 obtain⟨hi,rfl⟩:=List.getElem?_eq_some_iff.1 hx;have h:=Ent.Qsk F (os.take i) (os.drop i) Γ;rw[List.take_append_drop,List.drop_eq_getElem_cons hi]at h;exact(h.trans ((Ent.Gx F _ _ Γ).cons _)).trans (Ent.swap _ _ _)
theorem Ent.Yl{α:Type}(F:α→Assn){os:List α}{i:Nat}{x x':α}(hx:os[i]?=some x)(Γ:List Assn):Ent (F x'::alls (os.take i) F::alls (os.drop (i+1)) F::Γ) (alls (os.set i x') F::Γ):=by
 obtain⟨hi,rfl⟩:=List.getElem?_eq_some_iff.1 hx
 have h:os.set i x'=os.take i++(x'::os.drop (i+1)):=by
  rw[List.set_eq_take_append_cons_drop,if_pos hi]
 rw[h];exact((Ent.swap _ _ _).trans ((Ent.Gy F x' _ Γ).cons _)).trans (Ent.Gz F _ _ Γ)
theorem Ent.Xc{α:Type}(F:α→Assn){os:List α}{i:Nat}{x:α}(hx:os[i]?=some x)(Γ:List Assn):Ent (F x::alls (os.take i) F::alls (os.drop (i+1)) F::Γ) (alls os F::Γ):=by
 have h:=Ent.Yl F (x':=x) hx Γ;obtain⟨hi,rfl⟩:=List.getElem?_eq_some_iff.1 hx
 rwa [List.set_getElem_self]at h
theorem Yv{α:Type}{l:List α}{i:Nat}(h:i<l.length):∃x,l[i]?=some x:=⟨l[i],List.getElem?_eq_getElem h⟩
theorem Qqa{α β:Type}(f:α→β)(l:List α)(i:Nat)(x:α)(h:l[i]?=some x):(l.take (i+1)).map f=(l.take i).map f++[f x]:=by
 obtain⟨hi,rfl⟩:=List.getElem?_eq_some_iff.1 h;rw[List.take_succ_eq_append_getElem hi,List.map_append];rfl
def bcells(l:List Int):List Value:=l.map (Value.int .u8)
theorem Qc5(l:List Int):(bcells l).length=l.length*1:=by simp[bcells]
theorem Qm4(l:List Int):∀u∈bcells l,u.oneCell'=true:=ints_oneCell .u8 l
def Q4c(w:World)(v:Value)(l:List Int):Prop:=Hp w v l.length 1 (bcells l)
end Go.Proofs.YtdackcibfkkniaaGreatDoor
namespace Go.Proofs.YtdackcibfkkniaaGreatDoor
open Go.RowKit Go.ChangeShapes Go.WideShapes Go.ChangeAt Go.Deep
inductive TS where
 | int (k:IntKind)
 | bool
 | string
 | slice (sz:Nat) (e:TS)
 | nil
 | cat (n:Nat) (a b:TS)
def Rd(W:World):TS→List Value→Prop
 | .int k,cs=>∃n,cs=[.int k n]∧(Lit.int k n).wf=true
 | .bool,cs=>∃b,cs=[.bool b]
 | .string,cs=>∃s:ByteArray,cs=[.string s]∧s.size≤maxLen
 | .slice sz e,cs=>∃s:SV,cs=[s.v]∧s.n≤s.c∧s.c≤maxLen∧(s.a=none→s.n=0∧s.c=0) ∧
   ∀i,i<s.n→∃a cs',s.a=some a∧cs'.length=sz∧(∀j,j<sz→W.cell? (a.add (i*sz+j))=cs'[j]?)∧Rd W e cs'
 | .nil,cs=>cs=[]
 | .cat n a b,cs=>∃xs ys,cs=xs++ys∧xs.length=n∧Rd W a xs∧Rd W b ys
def Qq0(P:Program)(rec:TypeId→TS→Bool):List Field→Nat→TS→Option Nat
 | [],off,.nil=>some off
 | f::fs,off,.cat m a b=>if f.offset==off&&P.cellsOf f.type==m&&rec f.type a then Qq0 P rec fs (off+m) b else none
 | _,_,_=>none
def Qhe(P:Program):Nat→TypeId→TS→Bool
 | 0,_,_=>false
 | n+1,t,s=>match P.underlying t,s with
  | some (.int k),.int k'=>k==k'
  | some .bool,.bool=>true
  | some .string,.string=>true
  | some (.slice e),.slice sz e'=>P.cellsOf e==sz&&Qhe P n e e'
  | some (.struct fs),s=>Qq0 P (Qhe P n) fs.toList 0 s==some (P.cellsOf t)
  | _,_=>false
section
variable {H:Type}{enc:TypeId×Value→H}{P:Program}{W:World}
theorem Qqq{n fuel base:Nat}{sp:Nat→Bool}{held:Bool}(ih:∀(t:TypeId) (s:TS) (cs:List Value) (x:DataW H×List MemPlace),Qhe P n t s=true→DataW.trod enc P W base sp held fuel t cs=some x→Rd W s cs)
  (cs:List Value):∀(fs:List Field) (off:Nat) (s:TS) (tot:Nat),Qq0 P (Qhe P n) fs off s=some tot→tot=cs.length→(∀f∈fs,∃x,DataW.trod enc P W base sp held fuel f.type ((cs.drop f.offset).take (P.cellsOf f.type))=some x)→Rd W s (cs.drop off)∧off≤tot:=by
 intro fs;induction fs with
 | nil=>
  intro off s tot h ht _;cases s <;> simp[Qq0]at h
  subst h ht;exact⟨by simp[Rd],Nat.le_refl _⟩
 | cons f fs ihf=>
  intro off s tot h ht hx;cases s <;> simp[Qq0]at h
  case cat m a b=>
   obtain⟨⟨⟨h1,h2⟩,h3⟩,h4⟩:=h;obtain⟨g1,g2⟩:=ihf (off+m) b tot h4 ht (fun f' hf'=>hx f' (by simp[hf']));obtain⟨x,hx'⟩:=hx f (by simp);have:=ih _ _ _ _ h3 hx';rw[h1,h2]at this
   refine⟨⟨(cs.drop off).take m,cs.drop (off+m),?_,?_,this,g1⟩,by omega⟩
   ·rw[←List.drop_drop,List.take_append_drop]
   ·rw[List.length_take,List.length_drop];omega
theorem Qlg{base:Nat}{sp:Nat→Bool}{held:Bool}:∀(n fuel:Nat) (t:TypeId) (s:TS) (cs:List Value) (x:DataW H×List MemPlace),Qhe P n t s=true→DataW.trod enc P W base sp held fuel t cs=some x→Rd W s cs:=by
 intro n;induction n with
 | zero=>intro fuel t s cs x h;cases h
 | succ n ih=>
  intro fuel t s cs x h ht;unfold Qhe at h;cases hu:P.underlying t with
  | none=>rw[hu]at h;simp at h
  | some d=>
   rw[hu]at h;cases d <;> try (simp at h;done)
   case int k=>
    cases s <;> simp at h
    subst h;obtain⟨n,h1,_,h3⟩:=DataW.trod_int hu ht;exact⟨n,h1,h3⟩
   case bool=>
    cases s <;> simp at h
    obtain⟨b,h1,_⟩:=DataW.trod_bool hu ht;exact⟨b,h1⟩
   case string=>
    cases s <;> simp at h
    cases fuel with
    | zero=>simp[DataW.trod]at ht
    | succ f=>
     unfold DataW.trod at ht;rw[hu]at ht;split at ht <;> simp_all [Rd]
   case slice e=>
    cases s <;> simp at h
    case slice sz e'=>
     obtain⟨h1,h2⟩:=h
     rcases open_slice hu ht with ⟨hc,_⟩|⟨a,len,cap,m,k,D,Pl,hc,hb,hl,hm,hmm,_,hx⟩
     ·exact⟨SV.nil,hc,Nat.le_refl _,Nat.zero_le _,fun _=>⟨rfl,rfl⟩,fun i hi=>absurd hi (Nat.not_lt_zero _)⟩
     ·refine⟨⟨some a,len,cap⟩,hc,hl,hm,fun h=>(by cases h),fun i hi=>?_⟩;have him:i<m:=by rw[hmm];simp only at hi;split <;> omega
      obtain⟨cs',g1,g2⟩:=hx i him;rw[h1]at g1;obtain⟨_,gl,gc⟩:=World.cells?_some g1;refine⟨a,cs',rfl,gl,fun j hj=>?_,ih _ _ _ _ _ h2 g2⟩;have:=gc j hj
      rwa [Go.Deep.add_add]at this
   case struct fs=>
    obtain⟨xs,m,rfl,_,hl,hlen,hf⟩:=DataW.trod_struct hu ht;have h':Qq0 P (Qhe P n) fs.toList 0 s=some (P.cellsOf t):=by simpa using h
    have:=(Qqq (W:=W) (enc:=enc) (base:=base) (sp:=sp) (held:=held) (fun t s cs x=>ih m t s cs x) cs fs.toList 0 s _ h' hl.symm ?_).1
    ·simpa using this
    ·intro f hf';obtain⟨i,hi,rfl⟩:=List.getElem_of_mem hf';simp only[Array.length_toList]at hi;have Rz:=hf i fs.toList[i] (by simp[hi]);rw[List.getElem?_eq_getElem (by omega)]at Rz;exact⟨_,Rz⟩
theorem Qm0{w:World}{a:Addr}{v:Value}(h:w.cell? a=some v):a.spot=none∧a.block<w.heap.size:=by
 unfold World.cell? at h
 split at h
 ·rename_i c e f hb;refine⟨?_,(Array.getElem?_eq_some_iff.1 hb).1⟩;cases hs:a.spot with
  | none=>rfl
  | some s=>simp[hs]at h
 ·cases h
theorem Qul{α:Type}[Inhabited α]{encA:α→List Value}{p:α→Prop}{sz:Nat}{e:TS}{cs:List Value}(h:∀cs,Rd W e cs→cs.length=sz→∃x,cs=encA x∧p x)(hr:Rd W (.slice sz e) cs)(G3:0<sz) :
  ∃(s:SV) (xs:List α),cs=[s.v]∧s.n=xs.length∧Hp W s.v xs.length sz (xs.flatMap encA)∧(∀x∈xs,p x)∧(∀x∈xs,(encA x).length=sz):=by
 obtain⟨s,hc,h1,h2,h3,h4⟩:=hr
 have each:∀i,i<s.n→∃x:α,(∀a,s.a=some a→∀j,j<sz→W.cell? (a.add (i*sz+j))=(encA x)[j]?)∧p x∧(encA x).length=sz:=by
  intro i hi;obtain⟨a,cs',ha,hl,Uw,hrd⟩:=h4 i hi;obtain⟨x,rfl,hp⟩:=h cs' hrd hl;exact⟨x,fun a' ha' j hj=>by rw[ha]at ha';cases ha';exact Uw j hj,hp,hl⟩
 obtain⟨f,hf⟩:=choose_lt each
 have hm:∀x∈(List.range s.n).map f,∃i,i<s.n∧f i=x:=fun x hx=>by
  obtain⟨i,hi,rfl⟩:=List.mem_map.1 hx;exact⟨i,by simpa using hi,rfl⟩
 have hen:∀x∈(List.range s.n).map f,(encA x).length=sz:=fun x hx=>by obtain⟨i,hi,rfl⟩:=hm x hx;exact(hf i hi).2.2
 refine⟨s,(List.range s.n).map f,hc,by simp,?_,fun x hx=>by obtain⟨i,hi,rfl⟩:=hm x hx;exact(hf i hi).2.1,hen⟩
 have hlen:∀l:List α,(∀x∈l,(encA x).length=sz)→(l.flatMap encA).length=l.length*sz:=by
  intro l;induction l with
  | nil=>intro _;simp
  | cons x l ih=>
   intro hl;rw[List.flatMap_cons,List.length_append,hl x (by simp),ih (fun y hy=>hl y (by simp[hy])),List.length_cons,Nat.succ_mul];omega
 have Zgh:∀(l:List α),(∀x∈l,(encA x).length=sz)→∀(q:Nat) (u:Value),(l.flatMap encA)[q]?=some u→∃x,l[q / sz]?=some x∧(encA x)[q % sz]?=some u:=by
  intro l;induction l with
  | nil=>intro _ q u h;simp at h
  | cons x l ih=>
   intro hl q u hq;rw[List.flatMap_cons]at hq
   by_cases Wq:q<sz
   ·rw[List.getElem?_append_left (by rw[hl x (by simp)];exact Wq)]at hq;exact⟨x,by rw[Nat.div_eq_of_lt Wq];rfl,by rw[Nat.mod_eq_of_lt Wq];exact hq⟩
   ·rw[List.getElem?_append_right (by rw[hl x (by simp)];omega),hl x (by simp)]at hq;obtain⟨y,Ru,hy2⟩:=ih (fun y hy=>hl y (by simp[hy])) _ _ hq
    refine⟨y,?_,?_⟩
    ·have:q / sz=(q-sz) / sz+1:=by
      rw[←Nat.add_div_right _ G3,Nat.sub_add_cancel (by omega)]
     rw[this];simpa using Ru
    ·rw[Nat.mod_eq_sub_mod (by omega)];exact hy2
 have Mu:((List.range s.n).map f).length=s.n:=by simp
 rw[Mu];refine⟨by rw[hlen _ hen,Mu],s.a,s.c,rfl,h1,h2,h3,fun a ha h0=>?_⟩;have c0:=(hf 0 h0).1 a ha 0 G3;obtain⟨u0,hu0⟩:∃u,(encA (f 0))[0]?=some u:=⟨_,List.getElem?_eq_getElem (by rw[(hf 0 h0).2.2];exact G3)⟩;rw[hu0]at c0;obtain⟨g1,g2⟩:=Qm0 c0;simp only[Nat.zero_mul,Nat.zero_add]at g1 g2;have hz:a.add 0=a:=by simp[Addr.add]
 rw[hz]at g1 g2;refine⟨g1,g2,fun q u hq=>?_⟩;obtain⟨x,Z4,hx2⟩:=Zgh _ hen q u hq;rw[List.getElem?_map]at Z4
 have hqn:q / sz<s.n:=by
  cases hr:(List.range s.n)[q / sz]? with
  | none=>rw[hr]at Z4;cases Z4
  | some i=>have:=List.getElem?_eq_some_iff.1 hr;simpa using this.1
 rw[List.getElem?_range hqn]at Z4;simp only[Option.map_some,Option.some.injEq]at Z4;subst Z4;have:=(hf _ hqn).1 a ha (q % sz) (Nat.mod_lt _ G3);rw[hx2,Nat.div_add_mod' q sz]at this
 rwa [show a=(⟨a.block,a.off,none⟩:Addr) by rw[←g1],Addr.add_lit]at this
structure BW(W:World)(s:SV)(l:List Int):Prop where
 at_:Q4c W s.v l
 len:s.n=l.length
 rng:∀x∈l,0≤x∧x≤255
theorem Ey{n:Int}(h:(Lit.int .u8 n).wf=true):0≤n∧n≤255:=by simpa [Lit.wf,IntKind.min,IntKind.max,IntKind.signed,IntKind.bits] using h
theorem J5{s:SV}{m sz:Nat}{xs:List Value}(h:Hp W s.v m sz xs)(hm:0<m):∃b off,s.a=some ⟨b,off,none⟩∧∀j u,xs[j]?=some u→W.cell? ⟨b,off+j,none⟩=some u:=by
 obtain⟨_,ao,c,h1,_,_,h4,h5⟩:=h;simp only[SV.v,Value.slice.injEq]at h1;obtain⟨rfl,_,rfl⟩:=h1;cases ha:s.a with
 | none=>have:=(h4 ha).1;omega
 | some a=>
  obtain⟨g1,_,g3⟩:=h5 a ha hm;exact⟨a.block,a.off,by rw[←g1],g3⟩
theorem M1{s:SV}{m sz:Nat}{xs:List Value}(h:Hp W s.v m sz xs):s.n=m∧s.n≤s.c∧s.c≤maxLen:=by
 obtain⟨_,ao,c,h1,h2,h3,_⟩:=h;simp only[SV.v,Value.slice.injEq]at h1;obtain⟨_,rfl,rfl⟩:=h1;exact⟨rfl,h2,h3⟩
structure BR where
 v:SV
 l:List Int
instance:Inhabited BR:=⟨⟨SV.nil,[]⟩⟩
end
section
variable {P:Program}{n:Nat}{md:Bool}{w0:WM md}{ρ:Env}{Γ:List Assn}{Q:Exit→Act→World→Prop}{K:Act→World→Prop}{ty:TypeId}{pos:String}{af:Array Edge}{gd:Option (Nat×Bool)}{d:Nat}{ds:Option Tmp}
theorem Qie{x y:Operand}{ts:Array TypeId}{k:IntKind}{p q:Int}(r:Int)(hx:ev ρ x=some (.int k p))(hy:ev ρ y=some (.int k q))(h:r≤p∧r≤q∧(r=p∨r=q)):Qv P n ρ Γ ⟨ds,.call {callee:=.builtin .min,args:=#[x,y],argTypes:=ts},ty,pos,af,gd⟩ (.int k r):=fun a w ha _=>by
 have e:(if q<p then q else p)=r:=by split <;> omega
 simp[execOp,ha.ev hx,ha.ev hy,resolve,invoke,builtin,run_min_int2,e]
theorem Nl{x y:Operand}{ts:Array TypeId}{k:IntKind}{p q:Int}(r:Int)(hx:ev ρ x=some (.int k p))(hy:ev ρ y=some (.int k q))(h:p≤r∧q≤r∧(r=p∨r=q)):Qv P n ρ Γ ⟨ds,.call {callee:=.builtin .max,args:=#[x,y],argTypes:=ts},ty,pos,af,gd⟩ (.int k r):=fun a w ha _=>by
 have e:(if p<q then q else p)=r:=by split <;> omega
 simp[execOp,ha.ev hx,ha.ev hy,resolve,invoke,builtin,run_max_int2,e]
theorem Q30(p:Option Addr):p.map (fun x=>x.add 0)=p:=by cases p <;> simp[Addr.add]
theorem Pa{t e sz:Nat}{x y:Operand}{p:Option Addr}{l c:Nat}{kk:IntKind}{z:Int}(m:Nat)(ht:Dz P t=some (e,sz))(hx:ev ρ x=some (.slice p l c))(hy:ev ρ y=some (.int kk z))(hz:z=((m:Nat):Int))(hm:m≤c):Qv P n ρ Γ ⟨ds,.slice t x none (some y) none,ty,pos,af,gd⟩ (.slice p m c):=by
 intro a w ha _;subst hz;obtain⟨hu,i,hi,rfl⟩:=Mi ht;simp[execOp,ha.ev hx,ha.ev hy,Instr.sliceAt,Instr.slice,run_underlying hu,Instr.sliceBounds,Instr.sliceBound,asIntOf,hm,sizeOf,typeInfo,hi,Q30]
theorem Ql(l:List Int):Hf (bcells l)=true:=List.all_eq_true.2 (Qm4 l)
theorem S.Fk{t e sz by_:Nat}{zs:List Value}(hu:P.underlying t=some (.slice e))(hi:Vl P e=some (zs,sz,by_))(hn:Nat.blt d n=true)(k:∀s:SV,s.n=0→S n w0 ((d,s.v)::ρ) (own s e sz []::Γ) K) :
  S n w0 ρ Γ (Ow P Q ⟨some d,.buildSlice t 0 #[],ty,pos,af,gd⟩ K):=by
 intro a w ha hs hx;unfold Vl at hi;split at hi
 case h_2=>cases hi
 rename_i i hi';split at hi
 case h_2=>cases hi
 simp only[Option.some.injEq,Prod.mk.injEq]at hi;obtain⟨_,rfl,rfl⟩:=hi
 have hr:(execOp a.eval ⟨some d,.buildSlice t 0 #[],ty,pos,af,gd⟩).run P w=.ok (.value (.slice (some ⟨w.heap.size,0,none⟩) 0 0)) (w.alloc (.cells #[] e)):=by
  simp[execOp,Instr.buildSlice,run_underlying hu,sizeOf,typeInfo,hi',Instr.fill,newRow,Array.range_zero']
 unfold Ow Oper.wp;rw[hr,Oper.upon_value];refine k ⟨some ⟨w.heap.size,0,none⟩,0,0⟩ rfl _ _ (ha.put hn _) ?_ (hx.alloc _);refine(hs.alloc e #[]).Qh (Ent.W9 _ fun x hx=>⟨by simp,.inr ⟨w.heap.size,0,#[],rfl,hx,Nat.le_refl _,Nat.zero_le _,by simp,by simp⟩⟩)
theorem Mw(zs:List Value):∀ {l c:Nat},l≤c→(Yx zs c).take (l*zs.length)=Yx zs l
 | 0,_,_=>by simp[Yx]
 | l+1,0,h=>by omega
 | l+1,c+1,h=>by
  have ih:=Mw zs (l:=l) (c:=c) (by omega);unfold Yx;rw[Nat.succ_mul,Nat.add_comm,List.take_append,List.take_of_length_le (by omega),Nat.add_sub_cancel_left,ih]
theorem S.makeSlice{t e sz by_:Nat}{x y:Operand}{zs:List Value}{kx ky:IntKind}{p q:Int}(l c:Nat)(hu:P.underlying t=some (.slice e))(hi:Vl P e=some (zs,sz,by_))(hzl:(Nat.beq zs.length sz&&Nat.blt 0 sz)=true)(hx:ev ρ x=some (.int kx p))(hp:p=((l:Nat):Int))(hy:ev ρ y=some (.int ky q))(hq:q=((c:Nat):Int))(hlc:l≤c)
  (hc:by_*c≤140737488355328∧c≤140737488355328) (hn:Nat.blt d n=true) (k:∀s:SV,s.n=l→S n w0 ((d,s.v)::ρ) (own s e sz (Yx zs l)::Γ) K) :
  S n w0 ρ Γ (Ow P Q ⟨some d,.makeSlice t x y,ty,pos,af,gd⟩ K):=by
 intro a w ha hs Dx;subst hp hq;unfold Vl at hi;split at hi
 case h_2=>cases hi
 rename_i i hi';split at hi
 case h_2=>cases hi
 rename_i z hz;simp only[Option.some.injEq,Prod.mk.injEq]at hi;obtain⟨rfl,rfl,rfl⟩:=hi;simp only[Bool.and_eq_true]at hzl;have hzs:z.cells.toList.length=i.size:=Nat.eq_of_beq_eq_true hzl.1;have Qrq:0<z.cells.toList.length:=by rw[hzs];have:=hzl.2;simp[Nat.blt]at this;omega
 have hw1:IntKind.i64.wrap (l:Int)=l:=Ji (Y0 (by omega) (by omega));have hw2:IntKind.i64.wrap (c:Int)=c:=Ji (Y0 (by omega) (by omega));have Sg:=Aa z.cells.toList Qrq c;rw[hzs]at Sg
 have hb1:¬((i.bytes:Int)*(c:Int) > 2 ^ 48):=by
  have:=hc.1;have h1:((i.bytes*c:Nat):Int)≤140737488355328:=by omega
  rw[Int.natCast_mul]at h1;omega
 have hr:(execOp a.eval ⟨some d,.makeSlice t x y,ty,pos,af,gd⟩).run P w=.ok (.value (.slice (some ⟨w.heap.size,0,none⟩) l c)) (w.alloc (.cells (Yx z.cells.toList c).toArray e)):=by
  have ht:(decide ((c:Int)<0) || decide ((i.bytes:Int)*(c:Int) > 2 ^ 48))=false:=by simp;omega
  have hl0:¬((l:Int)<0):=by omega
  have hlc':¬((l:Int) > (c:Int)):=by omega
  have Qec:¬(c*i.bytes > 140737488355328):=by rw[Nat.mul_comm];omega
  have hz0:(zeroValue e).run P w=.ok z w:=by simp[zeroValue,typeInfo,hi',hz]
  by_cases h0:c*i.size=0
  ·have:c=0:=by
    rcases Nat.mul_eq_zero.1 h0 with h|h
    ·exact h
    ·rw[Array.length_toList]at Qrq hzs;omega
   subst this;have:l=0:=by omega
   subst this;have hw0:IntKind.i64.wrap 0=0:=by decide
   simp[execOp,ha.ev hx,ha.ev hy,Instr.makeSlice,run_underlying hu,asInt,asIntOf,typeInfo,hi',hw0,askRoom,roomBytes,sizeOf,newRow,Yx,Array.range_zero']
  ·have hti:(typeInfo e).run P w=.ok i w:=by simp[typeInfo,hi']
   have G3:(sizeOf e).run P w=.ok i.size w:=by simp[sizeOf,typeInfo,hi']
   have hc0:¬((c:Int)<0):=by omega
   have Sk:¬(281474976710656<(i.bytes:Int)*(c:Int)):=by simpa using hb1
   simp only[Array.toArray_toList]at Sg;simp[execOp,ha.ev hx,ha.ev hy,Instr.makeSlice,run_underlying hu,asInt,asIntOf,hti,G3,hw1,hw2,askRoom,roomBytes,newRow,hc0,Sk,hl0,h0,hz0,Sg];intro h;omega
 unfold Ow Oper.wp;rw[hr,Oper.upon_value];refine k ⟨some ⟨w.heap.size,0,none⟩,l,c⟩ rfl _ _ (ha.put hn _) ?_ (Dx.alloc _);refine(hs.alloc e _).Qh (Ent.W9 _ fun x hx=>⟨by rw[H9,hzs],.inr ⟨w.heap.size,0,_,rfl,hx,hlc,by unfold maxLen;simp only;omega,by simp[H9,hzs],by rw[←hzs];simpa using Mw z.cells.toList hlc⟩⟩)
end
end Go.Proofs.YtdackcibfkkniaaGreatDoor
namespace Go.Proofs.YtdackcibfkkniaaGreatDoor
open Go.RowKit Go.ChangeShapes Go.WideShapes Go.ChangeAt Go.Deep
def Zc6(f:FuncId)(args:List Value)(W:World):Prop:=Spec Tryz.prog f args [Xa W] fun Γ v Θ=>v=.bool true∧Θ=Xa W::Γ
theorem Q11{f:FuncId}{args:List Value}{W:World}(h:Zc6 f args W):Calls Tryz.prog f args.toArray W fun e W'=>e=.returned (.bool true)∧Below W.heap.size W W':=by
 have hs:Sat W ([Xa W]++[]):=⟨HL.of W,HL.le.refl _,HL.of W,HL.emp,fun b=>.inr rfl,HL.le.refl _,HL.U6 _,fun _ _ h=>h,trivial⟩;refine(h [] W hs).mono ?_;rintro e w' ⟨v,Θ,rfl,⟨rfl,rfl⟩,hs',hx⟩;refine⟨rfl,hx.os,hx.tape,hx.output,hx.size,fun k hk=>?_⟩;have ho:Hw [Xa W] W:=inferInstance;have:=ho.sat w' hs' k W.heap[k] (Array.getElem?_eq_getElem hk);rw[this,Array.getElem?_eq_getElem hk]
theorem Spec.weaken{P:Program}{f:FuncId}{args:List Value}{pre pre':List Assn}{post post':List Assn→Value→List Assn→Prop}(h:Spec P f args pre post)(Q7u:∀Γ,∃Δ,Ent (pre'++Γ) (pre++Δ)∧∀v Θ,post Δ v Θ→∃Ξ,post' Γ v Ξ∧Ent Θ Ξ):Spec P f args pre' post':=by
 intro Γ w hs;obtain⟨Δ,h1,h2⟩:=Q7u Γ;refine(h Δ w (hs.Qh h1)).mono ?_;rintro e w' ⟨v,Θ,rfl,hp,hs',hx⟩;obtain⟨Ξ,h3,h4⟩:=h2 v Θ hp;exact⟨v,Ξ,rfl,h3,hs'.Qh h4,hx⟩
section
variable {H:Type}{enc:TypeId×Value→H}{P:Program}{W:World}{b0:Nat}{r:Reach}{sp:Nat→Bool}{held:Bool}{base:Nat}
theorem Tj{t:TypeId}{k:IntKind}{v:Value}{d:DataW H}{ps:List MemPlace}(ht:P.underlying t=some (.int k))(Sf:Value.okWide P W r b0 t v)(hd:DataW.Trod enc P W base sp held t v d ps):∃n,v=.int k n∧(Lit.int k n).wf=true:=by
 obtain⟨n,h1,_,_,h2⟩:=open_int ht Sf hd;exact⟨n,h1,h2⟩
theorem Qsj{t e:TypeId}{s:TS}{v:Value}{d:DataW H}{ps:List MemPlace}(n:Nat)(ht:P.underlying t=some (.slice e))(hok:Qhe P n t s=true)(Sf:Value.okWide P W r b0 t v)(hd:DataW.Trod enc P W base sp held t v d ps):Rd W s [v]:=by
 obtain⟨a,l,c,rfl⟩:=okWide_slice ht Sf;obtain⟨fuel,hf⟩:=hd;exact Qlg n fuel t s _ _ hok hf
end
def Um(P:Program)(f:FuncId)(args:List Value)(W:World)(v:Value):Prop:=Spec P f args [Xa W] (fun Γ r Θ=>r=v∧Θ=Xa W::Γ) true
theorem pure_run{P:Program}{f:FuncId}{args:List Value}{W:World}{v:Value}(h:Um P f args W v):Calls P f args.toArray W fun e W'=>e=.returned v∧Below W.heap.size W W'∧W.drawn≤W'.drawn:=by
 have hs:Sat W ([Xa W]++[]):=⟨HL.of W,HL.le.refl _,HL.of W,HL.emp,fun b=>.inr rfl,HL.le.refl _,HL.U6 _,fun _ _ h=>h,trivial⟩;refine(h [] W hs).mono ?_;rintro e w' ⟨v,Θ,rfl,⟨rfl,rfl⟩,hs',hx⟩;refine⟨rfl,⟨hx.os,hx.tape,hx.output,hx.size,fun k hk=>?_⟩,hx.drawn rfl⟩;have ho:Hw [Xa W] W:=inferInstance;have:=ho.sat w' hs' k W.heap[k] (Array.getElem?_eq_getElem hk);rw[this,Array.getElem?_eq_getElem hk]
theorem Sat.Q8z{w w':World}{Γ:List Assn}(h:Sat w Γ)(hb:Below w.heap.size w w'):Sat w' Γ:=by
 obtain⟨x,l,s⟩:=h;refine⟨x,fun b o e=>?_,s⟩;have h1:=l b o e;unfold HL.of at h1 ⊢;rw[hb.block b (Array.getElem?_eq_some_iff.1 h1).1];exact h1
section
variable {P:Program}{n:Nat}{md:Bool}{w0:WM md}{ρ:Env}{Γ:List Assn}{Q:Exit→Act→World→Prop}{K:Act→World→Prop}{ty:TypeId}{pos:String}{af:Array Edge}{gd:Option (Nat×Bool)}{d:Nat}
theorem S.Vs{f:FuncId}{xs:List Operand}{ats:Array TypeId}{vs:List Value}{v:Value}(he:V5 P f=true)(hargs:EvL ρ xs vs)(h:∀w,Sat w Γ→Um P f vs w v)(hn:Nat.blt d n=true)
  (k:S n w0 ((d,v)::ρ) Γ K):S n w0 ρ Γ (Ow P Q ⟨some d,.call {callee:=.value (.func f),args:=xs.toArray,argTypes:=ats},ty,pos,af,gd⟩ K):=by
 intro a w ha Lc hx;have hr:=Qdk (ty:=ty) (pos:=pos) (af:=af) (gd:=gd) (c:={callee:=.value (.func f),args:=xs.toArray,argTypes:=ats}) (a:=a) (ds:=some d) (vs:=vs) he rfl ⟨_,rfl⟩ (by simp[hargs.map ha]) w;unfold Ow Oper.wp;rw[hr,Oper.upon_enter];refine(pure_run (h w Lc)).mono ?_;rintro e w' ⟨rfl,hb,hdr⟩;exact k _ _ (ha.put hn v) (Lc.Q8z hb) (hx.trans ⟨hb.os,hb.tape,hb.output,hb.size,hdr⟩)
end
def Rng(l:List Int):Prop:=∀x∈l,0≤x∧x≤255
section
variable {P:Program}{n:Nat}{md:Bool}{w0:WM md}{ρ:Env}{Γ:List Assn}{Q:Exit→Act→World→Prop}{K:Act→World→Prop}{ty:TypeId}{pos:String}{af:Array Edge}{gd:Option (Nat×Bool)}{d:Nat}{ds:Option Tmp}
theorem Qlb{f:FuncId}{vs fs cs:List Value}{c:Call}{x:Operand}{a:Act}{ds:Option Tmp}(he:V5 P f=true)(hx:c.callee=.value x)(hc:a.eval x=.func (.func f) fs.toArray cs.toArray)(hargs:c.args.map a.eval=vs.toArray)(w:World) :
  (execOp a.eval ⟨ds,.call c,ty,pos,af,gd⟩).run P w=.ok (.enter f (fs++vs++cs).toArray) w:=by
 unfold V5 at he
 split at he
 ·rename_i fn hfn;simp only[Bool.and_eq_true,bne_iff_ne,ne_eq]at he;obtain⟨h1,h2⟩:=he;have h2':¬fn.body=none:=by cases hb:fn.body <;> simp[hb]at h2 ⊢
  simp[execOp,resolve,hx,hc,Deferred.ofValue,invoke,hargs,callFunc,hfn,h1,h2']
 ·cases he
theorem S.Qpw{f:FuncId}{x:Operand}{xs:List Operand}{ats:Array TypeId}{vs fs cs:List Value}{pre Δ:List Assn}{post:List Assn→Value→List Assn→Prop}(he:V5 P f=true)(hx:ev ρ x=some (.func (.func f) fs.toArray cs.toArray))(hargs:EvL ρ xs vs)
  (hs:Spec P f (fs++vs++cs) pre post md) [hp:Picks pre Γ Δ] (hn:Nat.blt d n=true)
  (k:∀v Θ,post Δ v Θ→S n w0 ((d,v)::ρ) Θ K):S n w0 ρ Γ (Ow P Q ⟨some d,.call {callee:=.value x,args:=xs.toArray,argTypes:=ats},ty,pos,af,gd⟩ K):=by
 intro a w ha Lc Dx;have hr:=Qlb (ty:=ty) (pos:=pos) (af:=af) (gd:=gd) (c:={callee:=.value x,args:=xs.toArray,argTypes:=ats}) (a:=a) (ds:=some d) (vs:=vs) he rfl (ha.ev hx) (by simp[hargs.map ha]) w;unfold Ow Oper.wp;rw[hr,Oper.upon_enter];refine(hs Δ w (Lc.Qh hp.Qh)).mono ?_;rintro e w' ⟨v,Θ,rfl,Qje,hsat',hx'⟩;exact k v Θ Qje _ _ (ha.put hn v) hsat' (Dx.Qk5 hx')
theorem Qn7{t yt:TypeId}{x y:Operand}{k ky:IntKind}{p q:Int}(m:Nat)(hx:ev ρ x=some (.int k p))(hy:ev ρ y=some (.int ky q))(hq:q=((m:Nat):Int))(hm:Nat.ble m k.bits=true):Qv P n ρ Γ ⟨ds,.binOp .shr t x y yt,ty,pos,af,gd⟩ (.int k (p / 2 ^ m)):=fun a w ha _=>by
 subst hq;have h0:¬((m:Int)<0):=by omega
 have h1:min m k.bits=m:=Nat.min_eq_left (Nat.le_of_ble_eq_true hm);have e:Int.fdiv p (2 ^ m)=p / 2 ^ m:=Int.fdiv_eq_ediv_of_nonneg _ (by have:(0:Int)<2 ^ m:=Int.pow_pos (by omega);omega);simp[execOp,ha.ev hx,ha.ev hy,eqGuard,binOp,Op.shift,h0,h1,e]
end
theorem Sat.Qa2{w w':World}{s s':SV}{e:TypeId}{sz:Nat}{xs xs':List Value}{Δ:List Assn}{b:Nat}(hs:Sat w (own s e sz xs::Δ))(hO:Own w' e sz s'.v s'.n xs' (some b))(hb:s.a.map (·.block)=some b)(keep:Keeps (fun k=>k=b) w w'):Sat w' (own s' e sz xs'::Δ):=by
 obtain⟨hg',ow⟩:=own.Qvb (s:=s') hO;refine hs.upd fun q l p=>?_
 have hq:∀k,q k=none→w.heap[k]?≠none→k≠b:=by
  intro k hk _ e1
  rcases p.2 with ⟨h,_⟩|⟨b',off,cur,h,h2,_⟩
  ·rw[h]at hb;cases hb
  ·rw[h]at hb;simp only[Option.map_some,Option.some.injEq]at hb;subst hb;rw[e1,h2]at hk;cases hk
 have Wq:∀b,w.heap[b]?≠none→b<w.heap.size:=fun b hb=>by
  rcases Nat.lt_or_ge b w.heap.size with h|h
  ·exact h
  ·simp[Array.getElem?_eq_none h]at hb
 rcases ow.2 with ⟨h1,h2,h3⟩|⟨b',off,cur,h1,h2,r⟩
 ·rw[h1]at hg';cases hg'
 ·refine⟨HL.one b' (.cells cur e),HL.one_le h2,⟨ow.1,.inr ⟨b',off,cur,h1,HL.Xt _ _,r⟩⟩,fun c' hc hw=>⟨HL.Vj fun e1=>?_,keep.block c' (Wq c' hw) (hq c' hc hw)⟩⟩;subst e1;rw[h1]at hg';simp only[Option.map_some,Option.some.injEq]at hg';exact hq c' hc hw hg'.symm
section
variable {P:Program}{n:Nat}{md:Bool}{w0:WM md}{ρ:Env}{Γ:List Assn}{Q:Exit→Act→World→Prop}{K:Act→World→Prop}{ty:TypeId}{pos:String}{af:Array Edge}{gd:Option (Nat×Bool)}{d:Nat}{ds:Option Tmp}
theorem Q0z{t yt:TypeId}{x y:Operand}{k ky:IntKind}{p q:Int}(m:Nat)(r:Int)(hx:ev ρ x=some (.int k p))(hy:ev ρ y=some (.int ky q))(hq:q=((m:Nat):Int))(hm:Nat.ble m k.bits=true)(hr:p / 2 ^ m=r):Qv P n ρ Γ ⟨ds,.binOp .shr t x y yt,ty,pos,af,gd⟩ (.int k r):=by
 subst hr;exact Qn7 m hx hy hq hm
theorem Qid{t e sz:Nat}{x y:Operand}{p:Option Addr}{l c:Nat}{kk:IntKind}{z:Int}(m:Nat)(ht:Dz P t=some (e,sz))(hx:ev ρ x=some (.slice p l c))(hy:ev ρ y=some (.int kk z))(hz:z=((m:Nat):Int))(hm:m≤l):Qv P n ρ Γ ⟨ds,.slice t x (some y) none none,ty,pos,af,gd⟩ (.slice (if c=m then p else p.map (·.add (m*sz))) (l-m) (c-m)):=by
 intro a w ha _;subst hz;obtain⟨hu,i,hi,rfl⟩:=Mi ht;simp[execOp,ha.ev hx,ha.ev hy,Instr.sliceAt,Instr.slice,run_underlying hu,Instr.sliceBounds,Instr.sliceBound,asIntOf,hm,sizeOf,typeInfo,hi]
end
open Go.MapKept (run_checkKey run_findKey run_keyThatStays heap_set)
theorem X1{α β:Type}(f:α→β)(l:List α)(k:Nat):(l.eraseIdx k).map f=(l.map f).eraseIdx k:=by
 rw[List.eraseIdx_eq_take_drop_succ,List.eraseIdx_eq_take_drop_succ,List.map_append,List.map_take,List.map_drop]
def V6{α:Type}(z:Int):List (Int×α)→Nat→Option (Nat×α)
 | [],_=>none
 | x::l,i=>if z=x.1 then some (i,x.2) else V6 z l (i+1)
def Q1{α:Type}(z:Int):List (Int×α)→Option α
 | []=>none
 | x::l=>if z=x.1 then some x.2 else Q1 z l
def Yd{α:Type}(z:Int)(v:α):List (Int×α)→List (Int×α)
 | []=>[(z,v)]
 | x::l=>if z=x.1 then (z,v)::l else x::Yd z v l
def Ko{α:Type}(z:Int):List (Int×α)→List (Int×α)
 | []=>[]
 | x::l=>if z=x.1 then l else x::Ko z l
section
variable {α:Type}
theorem U7(z:Int):∀(l:List (Int×α)) (i:Nat),(V6 z l i).map (·.2)=Q1 z l
 | [],_=>rfl
 | x::l,i=>by
  unfold V6 Q1
  split
  ·rfl
  ·exact U7 z l (i+1)
theorem Vn{z:Int}:∀ {l:List (Int×α)} {i j:Nat} {v:α},V6 z l i=some (j,v)→∃k,j=i+k∧l[k]?=some (z,v)∧(∀w,Yd z w l=l.set k (z,w))∧Ko z l=l.eraseIdx k
 | [],_,_,_,h=>by cases h
 | x::l,i,j,v,h=>by
  unfold V6 at h
  split at h
  ·rename_i e;cases h;exact⟨0,rfl,by simp[e],fun w=>by simp[Yd,e],by simp[Ko,e]⟩
  ·rename_i e;obtain⟨k,h1,h2,h3,h4⟩:=Vn h;exact⟨k+1,by omega,by simpa using h2,fun w=>by simp[Yd,e,h3],by simp[Ko,e,h4]⟩
theorem Jh{z:Int}:∀ {l:List (Int×α)} {i:Nat},V6 z l i=none→(∀w,Yd z w l=l++[(z,w)])∧Ko z l=l∧z∉l.map (·.1)
 | [],_,_=>⟨fun _=>rfl,rfl,by simp⟩
 | x::l,i,h=>by
  unfold V6 at h
  split at h
  ·cases h
  ·rename_i e;obtain⟨h1,h2,h3⟩:=Jh h;exact⟨fun w=>by simp[Yd,e,h1],by simp[Ko,e,h2],by simp only[List.map_cons,List.mem_cons,not_or];exact⟨e,h3⟩⟩
theorem Kc(z y:Int)(v:α):∀l:List (Int×α),Q1 y (Yd z v l)=if y=z then some v else Q1 y l
 | []=>by simp[Yd,Q1]
 | x::l=>by
  unfold Yd
  split
  ·rename_i e;subst e;simp only[Q1];split <;> rfl
  ·rename_i e;simp only[Q1,Kc z y v l]
   by_cases h:y=x.1
   ·rw[if_pos h,if_neg (fun (e2:y=z)=>e (e2 ▸ h)),if_pos h]
   ·rw[if_neg h,if_neg h]
theorem C8{z:Int}:∀ {l:List (Int×α)},z∉l.map (·.1)→Q1 z l=none
 | [],_=>rfl
 | x::l,h=>by
  simp only[List.map_cons,List.mem_cons,not_or]at h;unfold Q1;rw[if_neg h.1];exact C8 h.2
end
structure Vc(kk:IntKind)(l:List (Int×Value))(es:List MapEntry)(clock:Nat):Prop where
 Qh:es.map (fun e=>(e.key,e.val))=l.map (fun x=>(Value.int kk x.1,x.2))
 nd:(l.map (·.1)).Nodup
 born:es.Pairwise (fun a b=>a.born<b.born)
 lt:∀e∈es,e.born<clock
def Qk(b:Nat)(kk:IntKind)(l:List (Int×Value)):Assn:=fun h=>∃es clock,h b=some (.map es clock)∧Vc kk l es.toList clock
def Q1p(b:Nat)(kk:IntKind)(l:List (Int×Value))(z:Int)(s:Nat):Assn:=fun h=>∃es clock,h b=some (.map es clock)∧Vc kk l es.toList clock∧∃(i:Nat) (e:MapEntry),es.toList[i]?=some e∧e.key=.int kk z∧e.born=s
theorem Vc.find{kk q:IntKind}(z:Int):∀ {es:List MapEntry} {l:List (Int×Value)},es.map (fun e=>(e.key,e.val))=l.map (fun x=>(Value.int kk x.1,x.2))→∀i,Instr.findNow (.int q) (.int kk z) es i=some (V6 z l i)
 | [],[],_,_=>rfl
 | [],_::_,h,_=>by cases h
 | _::_,[],h,_=>by cases h
 | e::es,x::l,h,i=>by
  simp only[List.map_cons,List.cons.injEq,Prod.mk.injEq]at h;obtain⟨⟨h1,h2⟩,h3⟩:=h;unfold Instr.findNow V6;simp only[h1,Instr.sameNow,if_true]
  by_cases e2:z=x.1
  ·simp[e2,h2]
  ·have:(z==x.1)=false:=by simpa using e2
   simp only[this,if_neg e2];exact Vc.find z h3 (i+1)
theorem Vc.at{kk:IntKind}{l:List (Int×Value)}{es:List MapEntry}{clock:Nat}(h:Vc kk l es clock){k:Nat}{z:Int}{v:Value}(hl:l[k]?=some (z,v)):∃e,es[k]?=some e∧e.key=.int kk z∧e.val=v:=by
 have e1:=congrArg (fun l=>l[k]?) h.Qh;simp only[List.getElem?_map,hl,Option.map_some]at e1;cases he:es[k]? with
 | none=>rw[he]at e1;cases e1
 | some e=>
  rw[he]at e1;simp only[Option.map_some,Option.some.injEq,Prod.mk.injEq]at e1;exact⟨e,rfl,e1⟩
theorem Vc.set{kk:IntKind}{l:List (Int×Value)}{es:List MapEntry}{clock:Nat}(h:Vc kk l es clock){k:Nat}{z:Int}{v:Value}(hl:l[k]?=some (z,v))(w:Value)(f:MapEntry→MapEntry)(hf:∀e,e.key=.int kk z→(f e).key=.int kk z∧(f e).val=w∧(f e).born=e.born) :
  Vc kk (l.set k (z,w)) (es.modify k f) clock:=by
 obtain⟨e,he,hk,_⟩:=h.at hl;obtain⟨f1,f2,f3⟩:=hf e hk
 have hb:(es.modify k f).map (·.born)=es.map (·.born):=by
  refine List.ext_getElem? fun j=>?_;simp only[List.getElem?_map,List.getElem?_modify]
  by_cases hj:k=j
  ·subst hj;simp[he,f3]
  ·simp[hj]
 have Sk:∀(a b:List MapEntry),a.map (·.born)=b.map (·.born)→b.Pairwise (fun a b=>a.born<b.born)→a.Pairwise (fun a b=>a.born<b.born):=fun a b e h=>by
  rw[←List.pairwise_map (f:=fun e:MapEntry=>e.born) (R:=(· < ·))]at h ⊢
  rwa [e]
 refine⟨?_,?_,Sk _ _ hb h.born,fun x hx=>?_⟩
 ·refine List.ext_getElem? fun j=>?_;have e1:=congrArg (fun l=>l[j]?) h.Qh;simp only[List.getElem?_map,List.getElem?_modify]at e1 ⊢
  by_cases hj:k=j
  ·subst hj;have Ao:k<l.length:=(List.getElem?_eq_some_iff.1 hl).1;simp[he,f1,f2,Ao]
  ·rw[List.getElem?_set_ne hj]
   simpa [hj] using e1
 ·have:(l.set k (z,w)).map (·.1)=l.map (·.1):=by
   refine List.ext_getElem? fun j=>?_;simp only[List.getElem?_map]
   by_cases hj:k=j
   ·subst hj;have Ao:k<l.length:=(List.getElem?_eq_some_iff.1 hl).1;rw[List.getElem?_set_self Ao,hl];rfl
   ·rw[List.getElem?_set_ne hj]
  rw[this];exact h.nd
 ·have hx2:x.born∈es.map (·.born):=by rw[←hb];exact List.mem_map_of_mem hx
  obtain⟨y,hy,e2⟩:=List.mem_map.1 hx2;rw[←e2];exact h.lt y hy
theorem Vc.push{kk:IntKind}{l:List (Int×Value)}{es:List MapEntry}{clock:Nat}(h:Vc kk l es clock){z:Int}(hz:z∉l.map (·.1))(w:Value):Vc kk (l++[(z,w)]) (es++[⟨.int kk z,w,clock⟩]) (clock+1):=by
 refine⟨by simp[h.Qh],by rw[List.map_append,List.nodup_append];exact⟨h.nd,by simp,fun a ha b hb=>by simp at hb;subst hb;exact fun e=>hz (e ▸ ha)⟩,?_,?_⟩
 ·rw[List.pairwise_append];exact⟨h.born,by simp,fun a ha b hb=>by simp at hb;subst hb;exact h.lt a ha⟩
 ·intro e he
  rcases List.mem_append.1 he with he|he
  ·have:=h.lt e he;omega
  ·simp at he;subst he;simp
theorem Vc.del{kk:IntKind}{l:List (Int×Value)}{es:List MapEntry}{clock:Nat}(h:Vc kk l es clock)(k:Nat):Vc kk (l.eraseIdx k) (es.eraseIdx k) clock:=by
 refine⟨?_,?_,h.born.sublist (List.eraseIdx_sublist ..),fun e he=>h.lt e (List.mem_of_mem_eraseIdx he)⟩
 ·rw[X1,X1,h.Qh]
 ·rw[X1];exact h.nd.sublist (List.eraseIdx_sublist ..)
class C9(Γ:List Assn)(b:Nat)(kk:outParam IntKind)(l:outParam (List (Int×Value)))(Δ:outParam (List Assn)):Prop where
 Qh:Ent Γ (Qk b kk l::Δ)
instance (priority:=high) C9.head{Γ:List Assn}{b:Nat}{kk:IntKind}{l:List (Int×Value)}:C9 (Qk b kk l::Γ) b kk l Γ:=⟨Ent.refl _⟩
instance C9.tail{P:Assn}{Γ Δ:List Assn}{b:Nat}{kk:IntKind}{l:List (Int×Value)}[h:C9 Γ b kk l Δ]:C9 (P::Γ) b kk l (P::Δ):=⟨(h.Qh.cons P).trans (Ent.swap _ _ _)⟩
class Qzg(Γ:List Assn)(b:Nat)(kk:outParam IntKind)(l:outParam (List (Int×Value)))(z:outParam Int)(s:outParam Nat)(Δ:outParam (List Assn)):Prop where
 Qh:Ent Γ (Q1p b kk l z s::Δ)
instance (priority:=high) Qzg.head{Γ:List Assn}{b:Nat}{kk:IntKind}{l:List (Int×Value)}{z:Int}{s:Nat}:Qzg (Q1p b kk l z s::Γ) b kk l z s Γ:=⟨Ent.refl _⟩
theorem Sat.isMap{w:World}{b:Nat}{kk:IntKind}{l:List (Int×Value)}{Γ:List Assn}(h:Sat w (Qk b kk l::Γ)):∃es clock,w.heap[b]?=some (.map es clock)∧Vc kk l es.toList clock:=by
 obtain⟨x,le,es,clock,p,r⟩:=h.head;exact⟨es,clock,le b _ p,r⟩
theorem S.Qbf{n:Nat}{md:Bool}{w0:WM md}{ρ:Env}{Γ Δ:List Assn}{φ:Act→World→Prop}(b:Nat){kk:IntKind}{l:List (Int×Value)}[h:C9 Γ b kk l Δ](k:(l.map (·.1)).Nodup→S n w0 ρ Γ φ):S n w0 ρ Γ φ:=by
 intro a w ha hs hx;obtain⟨_,_,_,r⟩:=(hs.Qh h.Qh).isMap;exact k r.nd a w ha hs hx
theorem Sat.setObj{w:World}{A B:Assn}{b:Nat}{Γ:List Assn}(h:Sat w (A::Γ))(o:Obj)(hA:∀x,A x→∃o',x b=some o')(hB:B (HL.one b o)):Sat ({w with heap:=w.heap.setIfInBounds b o}:World) (B::Γ):=by
 refine h.upd fun x l p=>?_;obtain⟨o',ho⟩:=hA x p;have hw:=l b _ ho;obtain⟨h1,h2⟩:=heap_set (o':=o) hw;refine⟨HL.one b o,HL.one_le h1,hB,fun c hc _=>?_⟩;have Uk:c≠b:=fun e=>by subst e;rw[ho]at hc;cases hc
 exact⟨HL.Vj Uk,h2 c Uk⟩
theorem Ext.setObj{md:Bool}{a:WM md}{w:World}(h:Ext a w)(b:Nat)(o:Obj):Ext a ({w with heap:=w.heap.setIfInBounds b o}:World):=h.trans ⟨rfl,rfl,rfl,by simp,Nat.le_refl _⟩
section
variable {P:Program}{n:Nat}{md:Bool}{w0:WM md}{ρ:Env}{Γ:List Assn}{Q:Exit→Act→World→Prop}{K:Act→World→Prop}{ty:TypeId}{pos:String}{af:Array Edge}{gd:Option (Nat×Bool)}{d:Nat}{ds:Option Tmp}
theorem S.makeMap{t:TypeId}(kk:IntKind)(hn:Nat.blt d n=true)(k:∀b,S n w0 ((d,.map (some b))::ρ) (Qk b kk []::Γ) K):S n w0 ρ Γ (Ow P Q ⟨some d,.makeMap t none,ty,pos,af,gd⟩ K):=by
 intro a w ha hs hx
 have hr:(execOp a.eval ⟨some d,.makeMap t none,ty,pos,af,gd⟩).run P w=.ok (.value (.map (some w.heap.size))) (w.alloc (.map #[] 0)):=by
  simp[execOp,run_makeMap]
 unfold Ow Oper.wp;rw[hr,Oper.upon_value];refine k w.heap.size _ _ (ha.put hn _) ?_ (hx.alloc _)
 have h':Sat w ((fun _=>True:Assn)::Γ):=by
  obtain⟨x,l,s⟩:=hs;exact⟨x,l,HL.emp,x,HL.Ul _,HL.U6 _,HL.le.refl _,trivial,s⟩
 refine h'.upd fun x _ _=>⟨HL.one w.heap.size (.map #[] 0),HL.one_le (Pt rfl),⟨#[],0,HL.Xt _ _,rfl,by simp,by simp,by simp⟩,fun b _ hb=>?_⟩
 have Wq:b<w.heap.size:=by
  rcases Nat.lt_or_ge b w.heap.size with h|h
  ·exact h
  ·simp[Array.getElem?_eq_none h]at hb
 exact⟨HL.Vj (by omega),Below.heap_alloc _ _ _ Wq⟩
theorem Q6p{x:Operand}{t kt et:TypeId}{b:Nat}{kk:IntKind}{l:List (Int×Value)}{Δ:List Assn}(ht:P.underlying t=some (.map kt et))(hx:ev ρ x=some (.map (some b)))[h:C9 Γ b kk l Δ]:Qv P n ρ Γ ⟨ds,.call {callee:=.builtin .len,args:=#[x],argTypes:=#[t]},ty,pos,af,gd⟩ (.int .i64 l.length):=fun a w ha hs=>by
 obtain⟨es,clock,hb,r⟩:=(hs.Qh h.Qh).isMap;have hl:es.size=l.length:=by have:=congrArg List.length r.Qh;simpa using this
 simp[execOp,ha.ev hx,resolve,invoke,builtin,Builtin.len_,run_underlying ht,goInt,MapKept.run_getObj_map (P:=P) hb,hl]
theorem E6{t kt et:TypeId}{q:IntKind}{x y:Operand}{b:Nat}{kk:IntKind}{z:Int}{l:List (Int×Value)}{zv:Value}{Δ:List Assn}(v:Value)(ok:Bool)(ht:P.underlying t=some (.map kt et))(hk:P.underlying kt=some (.int q))(hzv:(P.info? et).bind (·.zero)=some zv)
  (hx:ev ρ x=some (.map (some b))) (hy:ev ρ y=some (.int kk z)) [h:C9 Γ b kk l Δ] (hq:q=kk) (hv:(v,ok)=match Q1 z l with|some v=>(v,true)|none=>(zv,false)):Qv P n ρ Γ ⟨ds,.lookup t x y true,ty,pos,af,gd⟩ (.tuple #[v,.bool ok]):=fun a w ha hs=>by
 subst hq;obtain⟨es,clock,hb,r⟩:=(hs.Qh h.Qh).isMap;have hf:=run_findKey (P:=P) (w:=w) hk (Vc.find (q:=q) (kk:=q) z r.Qh 0);have hg:=U7 z l 0
 have hz:(zeroValue et).run P w=.ok zv w:=by
  cases hi:P.info? et with
  | none=>simp[hi]at hzv
  | some i=>
   cases hz':i.zero with
   | none=>simp[hi,hz']at hzv
   | some z0=>
    simp only[hi,hz',Option.bind_some,Option.some.injEq]at hzv;simp[zeroValue,typeInfo,hi,hz',hzv]
 have hc:∀e,(Instr.checkKey e 10000 kt (.int q z)).run P w=.ok () w:=fun e=>run_checkKey (P:=P) (w:=w) (k:=.int q z) hk rfl e 9999;cases Rz:V6 z l 0 with
 | none=>
  rw[Rz]at hg hf;rw[←hg]at hv;simp only[Option.map_none,Prod.mk.injEq]at hv;simp[execOp,ha.ev hx,ha.ev hy,Instr.lookup,run_underlying ht,MapKept.run_getObj_map (P:=P) hb,hc,hf,hz,hv,Result.andThen]
 | some p=>
  rw[Rz]at hg hf;rw[←hg]at hv;simp only[Option.map_some,Prod.mk.injEq]at hv;simp[execOp,ha.ev hx,ha.ev hy,Instr.lookup,run_underlying ht,MapKept.run_getObj_map (P:=P) hb,hc,hf,hv,Result.andThen]
theorem Qj{t kt et:TypeId}{q:IntKind}{x y:Operand}{b:Nat}{kk:IntKind}{z:Int}{l:List (Int×Value)}{zv:Value}{Δ:List Assn}(v:Value)(ht:P.underlying t=some (.map kt et))(hk:P.underlying kt=some (.int q))(hzv:(P.info? et).bind (·.zero)=some zv)
  (hx:ev ρ x=some (.map (some b))) (hy:ev ρ y=some (.int kk z)) [h:C9 Γ b kk l Δ] (hq:q=kk) (hv:v=(Q1 z l).getD zv):Qv P n ρ Γ ⟨ds,.lookup t x y false,ty,pos,af,gd⟩ v:=fun a w ha hs=>by
 subst hq;obtain⟨es,clock,hb,r⟩:=(hs.Qh h.Qh).isMap;have hf:=run_findKey (P:=P) (w:=w) hk (Vc.find (q:=q) (kk:=q) z r.Qh 0);have hg:=U7 z l 0
 have hz:(zeroValue et).run P w=.ok zv w:=by
  cases hi:P.info? et with
  | none=>simp[hi]at hzv
  | some i=>
   cases hz':i.zero with
   | none=>simp[hi,hz']at hzv
   | some z0=>
    simp only[hi,hz',Option.bind_some,Option.some.injEq]at hzv;simp[zeroValue,typeInfo,hi,hz',hzv]
 have hc:∀e,(Instr.checkKey e 10000 kt (.int q z)).run P w=.ok () w:=fun e=>run_checkKey (P:=P) (w:=w) (k:=.int q z) hk rfl e 9999;cases Rz:V6 z l 0 with
 | none=>
  rw[Rz]at hg hf;rw[←hg]at hv;simp only[Option.map_none,Option.getD_none]at hv;simp[execOp,ha.ev hx,ha.ev hy,Instr.lookup,run_underlying ht,MapKept.run_getObj_map (P:=P) hb,hc,hf,hz,hv,Result.andThen]
 | some p=>
  rw[Rz]at hg hf;rw[←hg]at hv;simp only[Option.map_some,Option.getD_some]at hv;simp[execOp,ha.ev hx,ha.ev hy,Instr.lookup,run_underlying ht,MapKept.run_getObj_map (P:=P) hb,hc,hf,hv,Result.andThen]
theorem S.mapUpdate{t kt et:TypeId}{q:IntKind}{x y v:Operand}{b:Nat}{kk:IntKind}{z:Int}{vv:Value}{l:List (Int×Value)}{Δ:List Assn}(ht:P.underlying t=some (.map kt et))(hk:P.underlying kt=some (.int q))
  (hx:ev ρ x=some (.map (some b))) (hy:ev ρ y=some (.int kk z)) (hv:ev ρ v=some vv) [h:C9 Γ b kk l Δ] (hq:q=kk) (kK:S n w0 ρ (Qk b kk (Yd z vv l)::Δ) K):S n w0 ρ Γ (Ow P Q ⟨none,.mapUpdate t x y v,ty,pos,af,gd⟩ K):=by
 intro a w ha hs Dx;subst hq;have D9:=hs.Qh h.Qh;obtain⟨es,clock,hb,r⟩:=D9.isMap;have hf:=run_findKey (P:=P) (w:=w) hk (Vc.find (q:=q) (kk:=q) z r.Qh 0);have hc:∀e,(Instr.checkKey e 10000 kt (.int q z)).run P w=.ok () w:=fun e=>run_checkKey (P:=P) (w:=w) (k:=.int q z) hk rfl e 9999;have hA:∀x,Qk b q l x→∃o',x b=some o':=fun x ⟨es,c,e,_⟩=>⟨_,e⟩;cases Rz:V6 z l 0 with
 | none=>
  rw[Rz]at hf;obtain⟨p1,_,p3⟩:=Jh Rz
  have hr:(execOp a.eval ⟨none,.mapUpdate t x y v,ty,pos,af,gd⟩).run P w=.ok .skip ({w with heap:=w.heap.setIfInBounds b (.map (es.push ⟨.int q z,vv,clock⟩) (clock+1))}:World):=by
   simp[execOp,ha.ev hx,ha.ev hy,ha.ev hv,Instr.mapUpdate,run_underlying ht,MapKept.run_getObj_map (P:=P) hb,hc,hf,MapKept.run_setObj_map (P:=P) _ hb,Result.andThen]
  unfold Ow Oper.wp;rw[hr,Oper.upon_skip];refine kK _ _ (ha.Jm _) (D9.setObj _ hA ⟨_,_,HL.Xt _ _,?_⟩) (Dx.setObj _ _);rw[p1];have:=r.push p3 vv
  simpa using this
 | some p=>
  obtain⟨j,v0⟩:=p;rw[Rz]at hf;obtain⟨k0,p1,p2,p3,_⟩:=Vn Rz;obtain⟨e0,he0,hk0,_⟩:=r.at p2;have hj:j=k0:=by omega
  subst hj;have he1:es[j]?=some e0:=by simpa using he0
  have Xf:=run_keyThatStays (P:=P) (w:=w) (d:=.int q) (k:=.int q z) rfl
  have hr:(execOp a.eval ⟨none,.mapUpdate t x y v,ty,pos,af,gd⟩).run P w=.ok .skip ({w with heap:=w.heap.setIfInBounds b (.map (es.modify j fun e=>{e with key:=.int q z,val:=vv}) clock)}:World):=by
   simp[execOp,ha.ev hx,ha.ev hy,ha.ev hv,Instr.mapUpdate,run_underlying ht,MapKept.run_getObj_map (P:=P) hb,hc,hf,MapKept.run_setObj_map (P:=P) _ hb,Result.andThen,he1,hk0,Xf]
  unfold Ow Oper.wp;rw[hr,Oper.upon_skip];refine kK _ _ (ha.Jm _) (D9.setObj _ hA ⟨_,_,HL.Xt _ _,?_⟩) (Dx.setObj _ _);rw[p3,Array.toList_modify];exact r.set p2 vv _ fun e _=>⟨rfl,rfl,rfl⟩
theorem S.Jf{t kt et yt:TypeId}{q:IntKind}{x y:Operand}{b:Nat}{kk:IntKind}{z:Int}{l:List (Int×Value)}{Δ:List Assn}(ht:P.underlying t=some (.map kt et))(hk:P.underlying kt=some (.int q))
  (hx:ev ρ x=some (.map (some b))) (hy:ev ρ y=some (.int kk z)) [h:C9 Γ b kk l Δ] (hq:q=kk) (kK:S n w0 ρ (Qk b kk (Ko z l)::Δ) K):S n w0 ρ Γ (Ow P Q ⟨none,.call {callee:=.builtin .delete,args:=#[x,y],argTypes:=#[t,yt]},ty,pos,af,gd⟩ K):=by
 intro a w ha hs Dx;subst hq;have D9:=hs.Qh h.Qh;obtain⟨es,clock,hb,r⟩:=D9.isMap;have hf:=run_findKey (P:=P) (w:=w) hk (Vc.find (q:=q) (kk:=q) z r.Qh 0);have hc:∀e,(Instr.checkKey e 10000 kt (.int q z)).run P w=.ok () w:=fun e=>run_checkKey (P:=P) (w:=w) (k:=.int q z) hk rfl e 9999;have hA:∀x,Qk b q l x→∃o',x b=some o':=fun x ⟨es,c,e,_⟩=>⟨_,e⟩;cases Rz:V6 z l 0 with
 | none=>
  rw[Rz]at hf;obtain⟨_,p2,_⟩:=Jh Rz
  have hr:(execOp a.eval ⟨none,.call {callee:=.builtin .delete,args:=#[x,y],argTypes:=#[t,yt]},ty,pos,af,gd⟩).run P w=.ok (.value (.tuple #[])) ({w with heap:=w.heap.setIfInBounds b (.map es clock)}:World):=by
   simp[execOp,ha.ev hx,ha.ev hy,resolve,invoke,builtin,Builtin.delete_,run_underlying ht,MapKept.run_getObj_map (P:=P) hb,hc,hf,MapKept.run_setObj_map (P:=P) _ hb,Result.andThen]
  unfold Ow Oper.wp;rw[hr,Oper.upon_value];refine kK _ _ (ha.Jm _) (D9.setObj _ hA ⟨_,_,HL.Xt _ _,?_⟩) (Dx.setObj _ _);rw[p2];exact r
 | some p=>
  obtain⟨j,v0⟩:=p;rw[Rz]at hf;obtain⟨k0,p1,p2,_,p4⟩:=Vn Rz;have hj:j=k0:=by omega
  subst hj
  have hr:(execOp a.eval ⟨none,.call {callee:=.builtin .delete,args:=#[x,y],argTypes:=#[t,yt]},ty,pos,af,gd⟩).run P w=.ok (.value (.tuple #[])) ({w with heap:=w.heap.setIfInBounds b (.map (es.eraseIdxIfInBounds j) clock)}:World):=by
   simp[execOp,ha.ev hx,ha.ev hy,resolve,invoke,builtin,Builtin.delete_,run_underlying ht,MapKept.run_getObj_map (P:=P) hb,hc,hf,MapKept.run_setObj_map (P:=P) _ hb,Result.andThen]
  unfold Ow Oper.wp;rw[hr,Oper.upon_value];refine kK _ _ (ha.Jm _) (D9.setObj _ hA ⟨_,_,HL.Xt _ _,?_⟩) (Dx.setObj _ _);rw[p4,Array.toList_eraseIdxIfInBounds];exact r.del j
theorem S.mapEntry{t kt et:TypeId}{q:IntKind}{x y:Operand}{b:Nat}{kk:IntKind}{z:Int}{v:Value}{l:List (Int×Value)}{Δ:List Assn}(ht:P.underlying t=some (.map kt et))(hk:P.underlying kt=some (.int q))
  (hx:ev ρ x=some (.map (some b))) (hy:ev ρ y=some (.int kk z)) [h:C9 Γ b kk l Δ] (hq:q=kk) (hv:Q1 z l=some v) (hn:Nat.blt d n=true)
  (kK:∀s:Nat,S n w0 ((d,.tuple #[v,.int .i64 s])::ρ) (Q1p b kk l z s::Δ) K):S n w0 ρ Γ (Ow P Q ⟨some d,.mapEntry t x y,ty,pos,af,gd⟩ K):=by
 intro a w ha hs Dx;subst hq;have D9:=hs.Qh h.Qh;obtain⟨es,clock,hb,r⟩:=D9.isMap;have hf:=run_findKey (P:=P) (w:=w) hk (Vc.find (q:=q) (kk:=q) z r.Qh 0);have hc:∀e,(Instr.checkKey e 10000 kt (.int q z)).run P w=.ok () w:=fun e=>run_checkKey (P:=P) (w:=w) (k:=.int q z) hk rfl e 9999;have hA:∀x,Qk b q l x→∃o',x b=some o':=fun x ⟨es,c,e,_⟩=>⟨_,e⟩;have hg:=U7 z l 0;cases Rz:V6 z l 0 with
 | none=>rw[Rz,hv]at hg;cases hg
 | some p=>
  obtain⟨j,v0⟩:=p;rw[Rz,hv]at hg;simp only[Option.map_some,Option.some.injEq]at hg;subst hg;rw[Rz]at hf;obtain⟨k0,p1,p2,p3,_⟩:=Vn Rz;obtain⟨e0,he0,hk0,hv0⟩:=r.at p2;have hj:j=k0:=by omega
  subst hj;have he1:es[j]?=some e0:=by simpa using he0
  have Xf:=run_keyThatStays (P:=P) (w:=w) (d:=.int q) (k:=.int q z) rfl
  have hr:(execOp a.eval ⟨some d,.mapEntry t x y,ty,pos,af,gd⟩).run P w=.ok (.value (.tuple #[v0,.int .i64 e0.born])) ({w with heap:=w.heap.setIfInBounds b (.map (es.modify j fun e=>{e with key:=.int q z}) clock)}:World):=by
   simp[execOp,ha.ev hx,ha.ev hy,Instr.mapEntry,run_underlying ht,MapKept.run_getObj_map (P:=P) hb,hc,hf,MapKept.run_setObj_map (P:=P) _ hb,Result.andThen,he1,hk0,Xf,goInt]
  unfold Ow Oper.wp;rw[hr,Oper.upon_value]
  refine kK _ _ _ (ha.put hn _) (D9.setObj _ hA ⟨_,_,HL.Xt _ _,?_,j,{e0 with key:=.int q z},?_,rfl,rfl⟩) (Dx.setObj _ _)
  ·have hl:l.set j (z,v0)=l:=by
    refine List.ext_getElem? fun i=>?_
    by_cases hi:j=i
    ·subst hi;rw[List.getElem?_set_self (List.getElem?_eq_some_iff.1 p2).1,p2]
    ·rw[List.getElem?_set_ne hi]
   rw[Array.toList_modify];have h2:=r.set p2 v0 (fun e=>{e with key:=.int q z});rw[hl]at h2
   refine⟨?_,r.nd,?_,?_⟩
   ·refine List.ext_getElem? fun i=>?_;have e1:=congrArg (fun l=>l[i]?) r.Qh;simp only[List.getElem?_map,List.getElem?_modify]at e1 ⊢
    by_cases hi:j=i
    ·subst hi;rw[he0]at e1 ⊢;simp only[Option.map_some,if_true]at e1 ⊢;rw[←e1,hk0];rfl
    ·simpa [hi] using e1
   ·rw[←List.pairwise_map (f:=fun e:MapEntry=>e.born) (R:=(· < ·))]
    have hb:(es.toList.modify j fun e=>{e with key:=.int q z}).map (·.born)=es.toList.map (·.born):=by
     refine List.ext_getElem? fun i=>?_;simp only[List.getElem?_map,List.getElem?_modify]
     by_cases hi:j=i
     ·subst hi;simp[he0]
     ·simp[hi]
    rw[hb,List.pairwise_map];exact r.born
   ·intro x hx;obtain⟨i,hi⟩:=List.getElem?_of_mem hx;rw[List.getElem?_modify]at hi
    by_cases Tc:j=i
    ·subst Tc;rw[he0]at hi;simp at hi;subst hi;exact r.lt e0 (List.mem_of_getElem? he0)
    ·simp only[if_neg Tc,Option.map_eq_map,Option.map_id']at hi;exact r.lt x (List.mem_of_getElem? (by simpa using hi))
  ·rw[Array.toList_modify,List.getElem?_modify,he0];simp
theorem S.entryStore{t:TypeId}{x y v:Operand}{b:Nat}{kk:IntKind}{z:Int}{s:Nat}{vv:Value}{l:List (Int×Value)}{Δ:List Assn}
  (hx:ev ρ x=some (.map (some b))) [h:Qzg Γ b kk l z s Δ] (hy:ev ρ y=some (.int .i64 s)) (hv:ev ρ v=some vv) (kK:S n w0 ρ (Qk b kk (Yd z vv l)::Δ) K):S n w0 ρ Γ (Ow P Q ⟨none,.entryStore t x y v,ty,pos,af,gd⟩ K):=by
 intro a w ha hs Dx;have D9:=hs.Qh h.Qh;obtain⟨x0,le0,es,clock,p0,r,i,e0,he0,hk0,hb0⟩:=D9.head;have hb:w.heap[b]?=some (.map es clock):=le0 b _ p0;have hA:∀x,Q1p b kk l z s x→∃o',x b=some o':=fun x ⟨es,c,e,_⟩=>⟨_,e⟩;have he1:es[i]?=some e0:=by simpa using he0
 have hil:i<es.toList.length:=(List.getElem?_eq_some_iff.1 he0).1
 have hfx:es.findIdx? (fun e=>(e.born:Int)==(s:Int))=some i:=by
  rw[Array.findIdx?_eq_some_iff_getElem];have hei:es.toList[i]=e0:=by have:=List.getElem?_eq_getElem hil;rw[this]at he0;exact Option.some.inj he0
  have Zgi:es[i]'(by simpa using hil)=e0:=by simpa using hei
  refine⟨by simpa using hil,by rw[Zgi,hb0];simp,fun j hj=>?_⟩;have:=List.pairwise_iff_getElem.1 r.born j i (by omega) hil hj;rw[hei,hb0,Array.getElem_toList]at this;simp only[Bool.not_eq_true,beq_eq_false_iff_ne,ne_eq];omega
 have e1:=congrArg (fun l=>l[i]?) r.Qh;simp only[List.getElem?_map,he0,Option.map_some]at e1;cases hl:l[i]? with
 | none=>rw[hl]at e1;cases e1
 | some p=>
  rw[hl]at e1;simp only[Option.map_some,Option.some.injEq,Prod.mk.injEq]at e1;rw[hk0]at e1;obtain⟨e2,e3⟩:=e1;simp only[Value.int.injEq,true_and]at e2;obtain⟨z',v0⟩:=p;simp only at e2 e3;subst e2
  have Zfq:Yd z vv l=l.set i (z,vv):=by
   cases Rz:V6 z l 0 with
   | none=>exact absurd (List.mem_map.2 ⟨_,List.mem_of_getElem? hl,rfl⟩) (Jh Rz).2.2
   | some p=>
    obtain⟨j,v1⟩:=p;obtain⟨k0,p1,p2,p3,_⟩:=Vn Rz
    have hik:i=k0:=by
     have G2:=r.nd;have a1:(l.map (·.1))[i]?=some z:=by rw[List.getElem?_map,hl];rfl
     have a2:(l.map (·.1))[k0]?=some z:=by rw[List.getElem?_map,p2];rfl
     exact(List.getElem?_inj (by have:=(List.getElem?_eq_some_iff.1 a1).1;exact this) G2).1 (a1.trans a2.symm)
    rw[p3,hik]
  have hr:(execOp a.eval ⟨none,.entryStore t x y v,ty,pos,af,gd⟩).run P w=.ok .skip ({w with heap:=w.heap.setIfInBounds b (.map (es.modify i fun e=>{e with val:=vv}) clock)}:World):=by
   simp[execOp,ha.ev hx,ha.ev hy,ha.ev hv,Instr.entryStore,MapKept.run_getObj_map (P:=P) hb,asInt,asIntOf,hfx,MapKept.run_setObj_map (P:=P) _ hb,Result.andThen]
  unfold Ow Oper.wp;rw[hr,Oper.upon_skip];refine kK _ _ (ha.Jm _) (D9.setObj _ hA ⟨_,_,HL.Xt _ _,?_⟩) (Dx.setObj _ _);rw[Zfq,Array.toList_modify];exact r.set hl vv _ fun e he=>⟨he,rfl,rfl⟩
theorem S.Tx{t b o k:Nat}{x y:Operand}{e:TypeId}{sz:Nat}{xs xs':List Value}{vs:Array Value}{Δ:List Assn}(s:SV){off:Nat}(j:Nat)(ht:Mp P t=some k)(hx:ev ρ x=some (.pointer (some ⟨b,o,none⟩)))(hy:ev ρ y=some (.agg vs))(hk:vs.size=k)(h1:Hf vs.toList=true)[h:Wx Γ s e sz xs Δ](hp:s.a=some ⟨b,off,none⟩)(ho:o=off+j)(hj:j+vs.size≤xs.length)(D3:xs.take j++vs.toList++xs.drop (j+vs.size)=xs')
  (kk:S n w0 ρ (own s e sz xs'::Δ) K):S n w0 ρ Γ (Ow P Q ⟨none,.store t x y,ty,pos,af,gd⟩ K):=by
 intro a w ha hs Dx;subst ho D3;have hO:=h.own hs;obtain⟨sa,sn,sc⟩:=s;simp only at hp hO;subst hp;have hlen:=hO.1
 rcases hO.2 with ⟨h0,_⟩|⟨b',off',c',cur,q1,q2,hB,q4,q5,q6,q7⟩
 ·cases h0
 simp only[SV.v,Value.slice.injEq,Option.some.injEq,Addr.mk.injEq,and_true,true_and]at q1;obtain⟨⟨rfl,rfl⟩,rfl⟩:=q1;have hcm:sn*sz≤sc*sz:=Nat.mul_le_mul_right _ q4;have Xf:=run_storeCells_at P b (off+j) e vs.toList 0 cur w hB (by simp;omega) (fun v hv=>List.all_eq_true.1 h1 v hv)
 have hr:(execOp a.eval ⟨none,.store t x y,ty,pos,af,gd⟩).run P w=.ok .skip (w.setRow b (cur.toList.take (off+j)++vs.toList++cur.toList.drop (off+j+vs.toList.length)).toArray):=by
  simp only[Nat.add_zero]at Xf;simp[execOp,ha.ev hx,ha.ev hy,Instr.storeAt,Instr.sureAddr,storeVar,(X0 ht w).2,Value.cells,hk]at Xf ⊢;rw[Xf];rfl
 unfold Ow Oper.wp;rw[hr,Oper.upon_skip];refine kk _ _ (ha.Jm _) ?_ (Dx.trans ⟨rfl,rfl,rfl,by simp[World.setRow],Nat.le_refl _⟩);have hC:off+sn*sz≤cur.toList.length:=by simp only[Array.length_toList];omega
 refine(hs.Qh h.Qh).Qa2 (b:=b) ⟨?_,.inr ⟨b,off,sc,_,rfl,rfl,setRow_heap w b cur _ e _ hB,q4,q5,?_,?_⟩⟩ rfl ⟨rfl,rfl,rfl,by simp[World.setRow],fun k _ hk=>setRow_other w b k _ hk,Nat.le_refl _⟩
 ·simp only[List.length_append,List.length_take,List.length_drop,Array.length_toList];omega
 ·simp only[List.size_toArray,List.length_append,List.length_take,List.length_drop,Array.length_toList];omega
 ·simp only;have hvl:vs.toList.length=vs.size:=Array.length_toList;generalize vs.toList=V at *
  generalize cur.toList=C at *
  rw[hvl,List.append_assoc,List.drop_append_of_le_length (by rw[List.length_take];omega)];have e1:(C.take (off+j)).drop off=(C.drop off).take j:=by rw[List.drop_take];congr 1;omega
  have e2:xs.take j=(C.drop off).take j:=by rw[←q7,List.take_take,Nat.min_eq_left (by omega)]
  have e3:xs.drop (j+vs.size)=(C.drop (off+j+vs.size)).take (sn*sz-(j+vs.size)):=by rw[←q7,List.drop_take,List.drop_drop];congr 2;omega
  rw[e1,e2,e3];have l1:((C.drop off).take j).length=j:=by rw[List.length_take,List.length_drop];omega
  rw[List.take_append,l1,List.take_of_length_le (l:=(C.drop off).take j) (by omega),List.take_append,hvl,List.take_of_length_le (l:=V) (by omega),List.append_assoc]
  congr 3
  omega
theorem Qb2{α:Type}{enc:α→List Value}{sz:Nat}(he:∀x,(enc x).length=sz){os:List α}{i:Nat}(hi:i<os.length)(y:α):(os.flatMap enc).take (i*sz)++enc y++(os.flatMap enc).drop (i*sz+sz)=(os.set i y).flatMap enc:=by
 rw[show i*sz+sz=(i+1)*sz by rw[Nat.succ_mul],Qr4 he,List.set_eq_take_append_cons_drop,if_pos hi,List.flatMap_append,List.flatMap_cons,List.append_assoc]
 congr 1
 have h1:=Z3 he (os.take i);rw[List.length_take,Nat.min_eq_left (by omega)]at h1
 conv=>lhs;rw[←List.take_append_drop i os,List.flatMap_append]
 rw[←h1,List.take_left]
theorem Ht{t:TypeId}{x:Operand}{v:Value}(ht:(match P.underlying t with|some (.interface _)=>false|some _=>true|none=>false)=true)(hx:ev ρ x=some v):Qv P n ρ Γ ⟨ds,.makeInterface t x,ty,pos,af,gd⟩ (.iface t v):=fun a w ha _=>by
 cases hu:P.underlying t with
 | none=>rw[hu]at ht;cases ht
 | some dd=>
  cases dd <;> first|(rw[hu]at ht;cases ht;done)|simp[execOp,ha.ev hx,Instr.makeInterface,run_underlying hu,Result.andThen]
theorem Qlk{t s:TypeId}{x:Operand}{v:Value}(ht:(match P.underlying t with|some (.interface _)=>false|some _=>true|none=>false)=true)(hx:ev ρ x=some (.iface t v)):Qv P n ρ Γ ⟨ds,.typeAssert x s t true,ty,pos,af,gd⟩ (.tuple #[v,.bool true]):=fun a w ha _=>by
 cases hu:P.underlying t with
 | none=>rw[hu]at ht;cases ht
 | some dd=>
  cases dd <;> first|(rw[hu]at ht;cases ht;done)|simp[execOp,ha.ev hx,Instr.typeAssert,run_underlying hu,Result.andThen]
def Qvi(P:Program)(t:TypeId)(name:String):Option FuncId:=match P.info? t with
 | some i=>match i.methods.find? (·.name==name) with
  | some m=>match m.path.toList,m.func,P.underlying t with
   | [],some (f,true),some (.pointer _)=>some f
   | _,_,_=>none
  | none=>none
 | none=>none
theorem Qla{t:TypeId}{v:Value}{name:String}{f:FuncId}{r:Operand}{xs:List Operand}{ats:Array TypeId}{vs:List Value}{a:Act}(hm:Qvi P t name=some f)(he:V5 P f=true)(hr:a.eval r=.iface t v)(hargs:xs.map a.eval=vs)(w:World) :
  (execOp a.eval ⟨ds,.call {callee:=.invoke r name,args:=xs.toArray,argTypes:=ats},ty,pos,af,gd⟩).run P w=.ok (.enter f (v::vs).toArray) w:=by
 unfold Qvi at hm
 split at hm
 ·rename_i i hi
  split at hm
  ·rename_i m hfm
   split at hm
   ·rename_i f' dd h1 h2 h3;cases hm;unfold V5 at he
    split at he
    ·rename_i fn hfn;simp only[Bool.and_eq_true,bne_iff_ne,ne_eq]at he;obtain⟨g1,g2⟩:=he;have g2':¬fn.body=none:=by cases hb:fn.body <;> simp[hb]at g2 ⊢
     obtain⟨k,hk⟩:∃k,P.types.size+Made.depth=k+1:=⟨P.types.size+99,by unfold Made.depth;omega⟩
     have hme:(method (k+1) t v name).run P w=.ok (f,v) w:=by
      unfold method;simp[typeInfo,hi,hfm,h1,follow,h2,receiverAt,run_underlying h3,Place.get,Result.andThen]
     have D3:(xs.toArray.map a.eval)=vs.toArray:=by rw[←hargs];simp
     have hcm:(callMethod (.iface t v) name vs.toArray).run P w=.ok (.enter f (v::vs).toArray) w:=by
      unfold callMethod;simp[hk,hme,callFunc,hfn,g1,g2',Result.andThen]
     have hex:(#[(Value.iface t v)]++vs.toArray).extract 1 (#[(Value.iface t v)]++vs.toArray).size=vs.toArray:=by simp
     simp only[execOp,resolve,hr,D3,invoke]
     simpa [Result.andThen] using hcm
    ·cases he
   ·cases hm
  ·cases hm
 ·cases hm
theorem S.Qpv{f:FuncId}{t:TypeId}{v:Value}{name:String}{r:Operand}{xs:List Operand}{ats:Array TypeId}{vs:List Value}{pre Δ:List Assn}{post:List Assn→Value→List Assn→Prop}(hm:Qvi P t name=some f)(he:V5 P f=true)(hr:ev ρ r=some (.iface t v))(hargs:EvL ρ xs vs)
  (hs:Spec P f (v::vs) pre post md) [hp:Picks pre Γ Δ] (hn:Nat.blt d n=true)
  (k:∀v Θ,post Δ v Θ→S n w0 ((d,v)::ρ) Θ K):S n w0 ρ Γ (Ow P Q ⟨some d,.call {callee:=.invoke r name,args:=xs.toArray,argTypes:=ats},ty,pos,af,gd⟩ K):=by
 intro a w ha Lc hx;have hr:=Qla (P:=P) (ty:=ty) (pos:=pos) (af:=af) (gd:=gd) (ds:=some d) (ats:=ats) (vs:=vs) hm he (ha.ev hr) (hargs.map ha) w;unfold Ow Oper.wp;rw[hr,Oper.upon_enter];refine(hs Δ w (Lc.Qh hp.Qh)).mono ?_;rintro e w' ⟨v,Θ,rfl,Qje,hsat',hx'⟩;exact k v Θ Qje _ _ (ha.put hn v) hsat' (hx.Qk5 hx')
end
section
variable {n:Nat}{md:Bool}{w0:WM md}{ρ:Env}{Γ:List Assn}{P:Program}{Q:Exit→Act→World→Prop}{ops:Array Oper}{d:Nat}{Hs:List Assn}{late:List Nat}{fuel:Nat}{listed:Array Bool}
theorem Ad{a:Act}(ha:Uc n ρ a){g t:Nat}(hd:(ops[g]?).bind (·.dst)=some t)(hb:Env.get ρ t=some undef):yielded ops a.tmps g=none:=by
 have h:=ha.get t _ hb;unfold yielded;rw[hd];cases ht:a.tmps[t]? with
 | none=>simp[ht]
 | some v=>
  have:a.tmps.getD t undef=v:=by simp[Array.getD_eq_getD_getElem?,ht]
  rw[this]at h;subst h;simp[ht,undef]
theorem S.Zct{o:Oper}{rest:List Oper}{g t:Nat}{want:Bool}(hg:o.guard=some (g,want))(hd:(ops[g]?).bind (·.dst)=some t)(hb:Env.get ρ t=some undef)(hds:o.dst=some d)(hn:Nat.blt d n=true)
  (h:S n w0 ((d,undef)::ρ) Γ (wpG P ops Q rest)):S n w0 ρ Γ (wpG P ops Q (o::rest)):=by
 intro a w ha hs hx;unfold wpG;rw[if_neg (by simp[Region.wanted,hg,Ad ha hd hb])];rw[hds];exact h _ _ (ha.put hn _) hs hx
theorem S.Qr9{o:Oper}{g t:Nat}{want:Bool}(i:Nat)(D:List Nat)(hi:ops[i]?=some o)(hok:Fp ops listed i late D=true)(hg:o.guard=some (g,want))(hgd:(ops[g]?).bind (·.dst)=some t)(hb:Env.get ρ t=some undef)(hd:o.dst=some d)(hn:Nat.blt d n=true)(hH:Ent Γ Hs)
  (k:S n w0 ((d,undef)::ρ) Γ (Dr P ops Q Hs late fuel (listed.setIfInBounds i true))):S n w0 ρ Γ (Dr P ops Q Hs late (fuel+1) listed):=by
 intro a w ha hs hx;unfold Fp at hok;simp only[Bool.and_eq_true,List.all_eq_true]at hok;obtain⟨⟨⟨⟨h1,h2⟩,h3⟩,h4⟩,h5⟩:=hok;have hY:YieldsIf P ops (fun w=>Sat w Hs) o undef a:=.inr ⟨by simp[Region.wanted,hg,Ad ha hgd hb],rfl⟩;unfold Dr
 refine Bc (D:=D) hi (Region.noSelect_spec h1) (fun _ _ _ h=>h) (fun j hj=>by simpa using h4 j (by simpa using hj)) (fun j hj o ho=>?_) fuel listed a w (Region.free_spec hi h2) (fun j hj=>?_) (by simpa using h3) hY (hs.Qh hH) ?_
 ·have:=h5 j hj;simp only[ho]at this;obtain⟨e,he,hb⟩:=Array.any_eq_true'.1 this.2;simp only[Bool.and_eq_true,Bool.or_eq_true,beq_iff_eq,List.contains_iff_mem]at hb;exact⟨e,he,hb.1,hb.2⟩
 ·have:=h5 j hj;simp only[bne_iff_ne,ne_eq,Bool.not_eq_true']at this;exact⟨this.1.1,this.1.2⟩
 ·rw[hd];exact k _ _ (ha.put hn _) hs hx
end
section
variable {P:Program}{n:Nat}{md:Bool}{w0:WM md}{ρ:Env}{Γ:List Assn}{φ:Act→World→Prop}{ty:TypeId}{pos:String}{af:Array Edge}{gd:Option (Nat×Bool)}{ds:Option Tmp}
def RdS(R:Assn)(s:SV)(m sz:Nat)(xs:List Value):Prop:=∀Γ w,Sat w (R::Γ)→Hp w s.v m sz xs
theorem RdS.own{s:SV}{e:TypeId}{sz:Nat}{xs:List Value}:RdS (own s e sz xs) s s.n sz xs:=fun _ _ hs=>(Wx.head).L3 hs
theorem RdS.Xa{W:World}{s:SV}{m sz:Nat}{xs:List Value}(h:Hp W s.v m sz xs):RdS (Xa W) s m sz xs:=fun _ _ hs=>(Hw.head).L3 hs h
theorem RdS.at_{R:Assn}{s:SV}{m sz:Nat}{xs:List Value}(h:RdS R s m sz xs){Δ:List Assn}[p:Pick R Γ Δ]{w:World}(hs:Sat w Γ):Hp w s.v m sz xs:=h _ _ (hs.Qh p.Qh)
theorem RdS.alls{α:Type}{F:α→Assn}{os:List α}{i:Nat}{x:α}(hx:os[i]?=some x){s:SV}{m sz:Nat}{xs:List Value}(h:RdS (F x) s m sz xs):RdS (alls os F) s m sz xs:=fun Γ _ hs=>h _ _ (hs.Qh (Ent.Wp F hx Γ))
theorem S.F6{R:Assn}{s:SV}{m sz:Nat}{xs:List Value}(h:RdS R s m sz xs){Δ:List Assn}[p:Pick R Γ Δ](hm:0<m)(k:∀b off,s.a=some ⟨b,off,none⟩→S n w0 ρ Γ φ):S n w0 ρ Γ φ:=by
 intro a w ha hs hx;obtain⟨b,off,hb,_⟩:=J5 (h.at_ hs) hm;exact k b off hb a w ha hs hx
theorem S.Nk{R:Assn}{s:SV}{m sz:Nat}{xs:List Value}(h:RdS R s m sz xs){Δ:List Assn}[p:Pick R Γ Δ](k:s.n=m→s.n≤s.c→s.c≤9223372036854775807→S n w0 ρ Γ φ):S n w0 ρ Γ φ:=by
 intro a w ha hs hx;obtain⟨h1,h2,h3⟩:=M1 (h.at_ hs);unfold maxLen at h3;exact k h1 h2 (by omega) a w ha hs hx
theorem Fb{t b o:Nat}{x:Operand}{R:Assn}{s:SV}{m sz off:Nat}{xs:List Value}{v:Value}(h:RdS R s m sz xs){Δ:List Assn}[p:Pick R Γ Δ](j:Nat)(ht:J3 P t=true)(hx:ev ρ x=some (.pointer (some ⟨b,o,none⟩)))(hp:s.a=some ⟨b,off,none⟩)(hm:0<m)(ho:o=off+j)(hv:xs[j]?=some v) :
  Qv P n ρ Γ ⟨ds,.load t x,ty,pos,af,gd⟩ v:=by
 intro a w ha hs;obtain⟨b',off',hb,Uw⟩:=J5 (h.at_ hs) hm;rw[hp]at hb;cases hb;have hc:=Uw _ _ hv
 have hl:(loadVar t ⟨b,o,none⟩).run P w=.ok v w:=by
  unfold loadVar;rw[Sem.run_bind,(W8 ht w).1,ho];exact G8 hc
 simp only[execOp,ha.ev hx,Instr.loadAt,Instr.sureAddr,Sem.run_bind,Sem.run_pure,Result.andThen_ok,hl]
theorem Co{t k b o:Nat}{x:Operand}{R:Assn}{s:SV}{m sz off:Nat}{xs:List Value}(h:RdS R s m sz xs){Δ:List Assn}[p:Pick R Γ Δ](j:Nat)(vs:List Value)(ht:Mp P t=some k)(hx:ev ρ x=some (.pointer (some ⟨b,o,none⟩)))(hp:s.a=some ⟨b,off,none⟩)(hm:0<m)(ho:o=off+j)(hk:vs.length=k)(hv:∀i u,vs[i]?=some u→xs[j+i]?=some u) :
  Qv P n ρ Γ ⟨ds,.load t x,ty,pos,af,gd⟩ (.agg vs.toArray):=by
 intro a w ha hs;obtain⟨b',off',hb,Uw⟩:=J5 (h.at_ hs) hm;rw[hp]at hb;cases hb
 have hc:∀j u,vs[j]?=some u→w.cell? ((⟨b,o,none⟩:Addr).add j)=some u:=fun i u hu=>by
  rw[Addr.add_lit,ho,Nat.add_assoc];exact Uw _ _ (hv i u hu)
 have hl0:=run_loadCells_list (P:=P) (w:=w) ⟨b,o,none⟩ vs hc;rw[hk]at hl0;have hl:(loadVar t ⟨b,o,none⟩).run P w=.ok (.agg vs.toArray) w:=by simp[loadVar,(X0 ht w).1,(X0 ht w).2,hl0]
 simp only[execOp,ha.ev hx,Instr.loadAt,Instr.sureAddr,Sem.run_bind,Sem.run_pure,Result.andThen_ok,hl]
end
theorem Ent.Qfw(s:SV)(e sz:Nat)(xs:List Value){k:Nat}(hk:k≤s.n)(Γ:List Assn):Ent (own s e sz xs::Γ) (own ⟨s.a,k,s.c⟩ e sz (xs.take (k*sz))::Γ):=Ent.W9 Γ fun h p=>by
 have hm:k*sz≤s.n*sz:=Nat.mul_le_mul_right _ hk;refine⟨by rw[List.length_take,p.1];exact Nat.min_eq_left hm,?_⟩
 rcases p.2 with ⟨h1,h2,h3⟩|⟨b,off,cur,h1,h2,h3,h4,h5,h6⟩
 ·exact .inl ⟨h1,by simp only;omega,h3⟩
 ·exact .inr ⟨b,off,cur,h1,h2,by simp only;omega,h4,h5,by rw[←h6,List.take_take,Nat.min_eq_left hm]⟩
theorem Ent.pack(Θ Γ:List Assn):Ent (Θ++Γ) (stars Θ::Γ):=fun _ hs=>Y6.1 hs
theorem Ent.unpack(Θ Γ:List Assn):Ent (stars Θ::Γ) (Θ++Γ):=fun _ hs=>Y6.2 hs
abbrev ints(l:List Int):List Value:=l.map (Value.int .i64)
theorem Qwc(l:List Int):Hf (ints l)=true:=List.all_eq_true.2 fun u hu=>by
 obtain⟨x,_,h⟩:=List.mem_map.1 hu;subst h;rfl
theorem Cy{l:List Int}{i:Nat}{x:Int}(h:l[i]?=some x):(ints l)[i]?=some (.int .i64 x):=by rw[List.getElem?_map,h];rfl
abbrev Bs:=BitVec 16
abbrev bsv(s:Bs):Value:=.int .u16 (s.toNat:Int)
theorem Qia{l m:List Nat}(hl:l.Pairwise (· < ·))(hm:m.Pairwise (· < ·))(h:∀x,x∈l↔x∈m):l=m:=by
 refine List.Perm.eq_of_pairwise (le:=(· < ·)) (fun a b _ _ h1 h2=>by omega) hl hm ?_;refine(List.perm_ext_iff_of_nodup (hl.imp fun h=>Nat.ne_of_lt h) (hm.imp fun h=>Nat.ne_of_lt h)).2 h
def lst(s:Bs):List Nat:=(List.range 16).filter fun i=>s.getLsbD i
theorem Ed(s:Bs):(lst s).Pairwise (· < ·):=List.pairwise_lt_range.filter _
theorem X9{s:Bs}{i:Nat}:i∈lst s↔s.getLsbD i=true:=by
 simp only[lst,List.mem_filter,List.mem_range,and_iff_right_iff_imp];exact fun h=>BitVec.lt_of_getLsbD h
theorem Df{s:Bs}{i:Nat}(h:i∈lst s):i<16:=BitVec.lt_of_getLsbD (X9.1 h)
theorem S8{s t:Bs}(h:∀i,s.getLsbD i=true↔t.getLsbD i=true):s=t:=by
 refine BitVec.eq_of_getLsbD_eq fun i _=>?_;have:=h i;cases h1:s.getLsbD i <;> cases h2:t.getLsbD i <;> simp_all
theorem Qoz{s t:Bs}(h:lst s=lst t):s=t:=S8 fun i=>by rw[←X9,←X9,h]
theorem Ec:lst 0#16=[]:=by decide
theorem Qf5{s:Bs}:lst s=[]↔s=0#16:=⟨fun h=>Qoz (h.trans Ec.symm),fun h=>by rw[h,Ec]⟩
theorem Qf6(s:Bs):(lst s).length≤16:=by
 have:=List.length_filter_le (fun i=>s.getLsbD i) (List.range 16);rw[List.length_range]at this;exact this
def tz(s:Bs):Nat:=(lst s).head?.getD 16
theorem Qzy:tz 0#16=16:=by rw[tz,Ec];rfl
theorem M0{s:Bs}{t:Nat}{l:List Nat}(h:lst s=t::l):tz s=t:=by rw[tz,h];rfl
theorem Q4g(s:Bs):tz s≤16:=by
 cases h:lst s with
 | nil=>rw[tz,h];exact Nat.le_refl _
 | cons t l=>rw[M0 h];exact Nat.le_of_lt (Df (h ▸ List.mem_cons_self))
theorem Jj{s:Bs}(h:s≠0#16):tz s∈lst s:=by
 cases e:lst s with
 | nil=>exact absurd (Qf5.1 e) h
 | cons t l=>rw[M0 e];exact List.mem_cons_self
theorem Tq{s:Bs}{i:Nat}(h:i∈lst s):tz s≤i:=by
 cases e:lst s with
 | nil=>rw[e]at h;cases h
 | cons t l=>
  rw[M0 e];rw[e]at h;have hr:=Ed s;rw[e]at hr
  rcases List.mem_cons.1 h with rfl|h
  ·exact Nat.le_refl _
  ·exact Nat.le_of_lt ((List.pairwise_cons.1 hr).1 i h)
theorem Qbj(s:Bs)(i:Nat):(∃j,j<i∧s.getLsbD j=true)↔s≠0#16∧tz s<i:=by
 constructor
 ·rintro ⟨j,hj,h⟩;have:=Tq (X9.2 h);refine⟨fun e=>?_,by omega⟩;rw[e]at h;simp at h
 ·rintro ⟨h,hi⟩;exact⟨tz s,hi,X9.1 (Jj h)⟩
theorem Qo0(s:Bs)(h:s≠0#16):s &&& -s=BitVec.twoPow 16 (tz s):=by
 refine BitVec.eq_of_getLsbD_eq fun i hi=>?_;have ht:tz s<16:=Df (Jj h);rw[BitVec.getLsbD_and,BitVec.getLsbD_neg,BitVec.getLsbD_twoPow];have hl:=Qbj s i
 by_cases hb:s.getLsbD i=true
 ·have h1:=Tq (X9.2 hb)
  by_cases e:tz s=i
  ·have:¬(∃j,j<i∧s.getLsbD j=true):=fun h'=>by have:=(hl.1 h').2;omega
   simp[hb,this,e,hi]
  ·have:∃j,j<i∧s.getLsbD j=true:=hl.2 ⟨h,by omega⟩;simp[this,e,hi]
 ·have e:tz s≠i:=fun e=>hb (e ▸ X9.1 (Jj h));simp[hb,e]
def Lp(s:Bs):Bs:=s &&& ~~~(s &&& -s)
theorem Lo(s:Bs)(h:s≠0#16)(i:Nat):(Lp s).getLsbD i=(s.getLsbD i&&decide (tz s≠i)):=by
 unfold Lp;rw[Qo0 s h,BitVec.getLsbD_and,BitVec.getLsbD_not,BitVec.getLsbD_twoPow];have ht:tz s<16:=Df (Jj h)
 by_cases hi:i<16
 ·simp[hi,ht]
 ·have:s.getLsbD i=false:=BitVec.getLsbD_of_ge _ _ (by omega);simp[this]
theorem N2{s:Bs}{t:Nat}{l:List Nat}(h:lst s=t::l):lst (Lp s)=l:=by
 have h0:s≠0#16:=fun e=>by rw[e,Ec]at h;cases h
 have hr:=Ed s;rw[h]at hr;refine Qia (Ed _) (List.pairwise_cons.1 hr).2 fun i=>?_;rw[X9,Lo s h0,M0 h];have:s.getLsbD i=true↔i=t∨i∈l:=by rw[←X9,h,List.mem_cons]
 have Wq:i∈l→t<i:=fun hm=>(List.pairwise_cons.1 hr).1 i hm;simp only[Bool.and_eq_true,decide_eq_true_eq,this]
 constructor
 ·rintro ⟨h1|h1,h2⟩
  ·omega
  ·exact h1
 ·intro h1;exact⟨.inr h1,by have:=Wq h1;omega⟩
theorem Qj5(s:Bs)(h:s≠0#16):s &&& (s-1#16)=Lp s:=by
 rw[←BitVec.not_neg];refine BitVec.eq_of_getLsbD_eq fun i hi=>?_;rw[Lo s h,BitVec.getLsbD_and,BitVec.getLsbD_not,BitVec.getLsbD_neg];have hl:=Qbj s i
 by_cases hb:s.getLsbD i=true
 ·have h1:=Tq (X9.2 hb)
  by_cases e:tz s=i
  ·have:¬(∃j,j<i∧s.getLsbD j=true):=fun h'=>by have:=(hl.1 h').2;omega
   simp[this,e,hi]
  ·have:∃j,j<i∧s.getLsbD j=true:=hl.2 ⟨h,by omega⟩;simp[this,e,hi]
 ·simp[hb]
def ofL:List Nat→Bs
 | []=>0#16
 | i::l=>BitVec.twoPow 16 i ||| ofL l
theorem Q1k(l:List Nat)(i:Nat):(ofL l).getLsbD i=true↔i<16∧i∈l:=by
 induction l with
 | nil=>simp[ofL]
 | cons j l ih=>
  rw[ofL,BitVec.getLsbD_or,BitVec.getLsbD_twoPow,Bool.or_eq_true,ih,List.mem_cons,Bool.and_eq_true,decide_eq_true_eq,decide_eq_true_eq]
  constructor
  ·rintro (⟨h1,h2⟩|⟨h1,h2⟩)
   ·exact⟨by omega,.inl h2.symm⟩
   ·exact⟨h1,.inr h2⟩
  ·rintro ⟨h1,h2|h2⟩
   ·exact .inl ⟨by omega,h2.symm⟩
   ·exact .inr ⟨h1,h2⟩
theorem Qf4{l:List Nat}(hr:l.Pairwise (· < ·))(h:∀i∈l,i<16):lst (ofL l)=l:=
 Qia (Ed _) hr fun i=>by rw[X9,Q1k];exact⟨fun h=>h.2,fun hm=>⟨h i hm,hm⟩⟩
theorem Q1j(s:Bs):ofL (lst s)=s:=Qoz (Qf4 (Ed s) fun _ h=>Df h)
theorem Qa7(l m:List Nat):ofL (l++m)=ofL l ||| ofL m:=by
 induction l with
 | nil=>simp[ofL]
 | cons i l ih=>simp only[List.cons_append,ofL,ih,BitVec.or_assoc]
def mask(n:Nat):Bs:=ofL (List.range n)
theorem Qvw{n:Nat}(h:n≤16):lst (mask n)=List.range n:=Qf4 List.pairwise_lt_range fun i hi=>by have:=List.mem_range.1 hi;omega
theorem Qvl{n:Nat}(h:n≤16)(i:Nat):(mask n).getLsbD i=true↔i<n:=by rw[←X9,Qvw h,List.mem_range]
theorem Qyp(s:Bs):s.toNat<65536:=s.isLt
theorem Qyo(s:Bs):(0:Int)≤s.toNat∧(s.toNat:Int)≤65535:=by have:=Qyp s;omega
theorem Qa8(s:Bs):BitVec.ofInt 16 (s.toNat:Int)=s:=by rw[BitVec.ofInt_natCast,BitVec.ofNat_toNat,BitVec.setWidth_eq]
theorem Qez(s:Bs):IntKind.u16.wrap (s.toNat:Int)=(s.toNat:Int):=Ji (Za5 (Qyo s).1 (Qyo s).2)
theorem Zcx{s t:Bs}:((s.toNat:Int)=(t.toNat:Int))↔s=t:=by
 rw[Int.ofNat_inj];exact⟨BitVec.eq_of_toNat_eq,fun h=>by rw[h]⟩
theorem Hj{s:Bs}:((s.toNat:Int)=0)↔s=0#16:=by
 rw[←Zcx];simp
structure Jb where
 id:Nat
 row:Nat
 ns:Bs
structure Mx where
 R:Nat
 N:Nat
 up:Bs
 js:List Jb
def tk(js:List Jb)(r:Nat):Bs:=(js.filter fun x=>decide (x.row=r)).foldr (fun x s=>x.ns ||| s) 0#16
theorem Av(js:List Jb)(r i:Nat):(tk js r).getLsbD i=true↔∃x∈js,x.row=r∧x.ns.getLsbD i=true:=by
 unfold tk;induction js with
 | nil=>simp
 | cons x js ih=>
  by_cases h:x.row=r
  ·rw[List.filter_cons_of_pos (by simpa using h),List.foldr_cons,BitVec.getLsbD_or,Bool.or_eq_true,ih]
   constructor
   ·rintro (h1|⟨y,h1,h2,h3⟩)
    ·exact⟨x,List.mem_cons_self,h,h1⟩
    ·exact⟨y,List.mem_cons_of_mem _ h1,h2,h3⟩
   ·rintro ⟨y,h1,h2,h3⟩
    rcases List.mem_cons.1 h1 with rfl|h1
    ·exact .inl h3
    ·exact .inr ⟨y,h1,h2,h3⟩
  ·rw[List.filter_cons_of_neg (by simpa using h),ih]
   constructor
   ·rintro ⟨y,h1,h2,h3⟩;exact⟨y,List.mem_cons_of_mem _ h1,h2,h3⟩
   ·rintro ⟨y,h1,h2,h3⟩
    rcases List.mem_cons.1 h1 with rfl|h1
    ·exact absurd h2 h
    ·exact⟨y,h1,h2,h3⟩
structure Xk(m:Mx):Prop where
 R1:1≤m.R
 R8:m.R≤8
 N1:1≤m.N
 Bz:m.N≤16
 up:∀i,m.up.getLsbD i=true→i<m.N
 Yz:m.js.Pairwise (fun a b=>a.id<b.id)
 B6:∀x∈m.js,1≤x.id
 Al:∀x∈m.js,x.id≤4294967295
 row:∀x∈m.js,x.row<m.R
 some:∀x∈m.js,x.ns≠0#16
 ns:∀x∈m.js,∀i,x.ns.getLsbD i=true→i<m.N
 dis:∀x∈m.js,∀y∈m.js,x.id≠y.id→x.row=y.row→∀i,x.ns.getLsbD i=true→y.ns.getLsbD i=true→False
def look(js:List Jb)(j:Nat):Option Jb:=js.find? fun x=>decide (x.id=j)
theorem Ka{js:List Jb}{j:Nat}{x:Jb}(h:look js j=some x):x∈js∧x.id=j:=⟨List.mem_of_find?_eq_some h,by simpa using List.find?_some h⟩
theorem H8{js:List Jb}{j:Nat}(h:look js j=none):∀x∈js,x.id≠j:=fun x hx=>by simpa using List.find?_eq_none.1 h x hx
theorem Dk{js:List Jb}(hs:js.Pairwise (fun a b=>a.id<b.id)){x y:Jb}(hx:x∈js)(hy:y∈js)(h:x.id=y.id):x=y:=by
 induction js with
 | nil=>cases hx
 | cons z js ih=>
  rw[List.pairwise_cons]at hs
  rcases List.mem_cons.1 hx with e1|h1
  ·rcases List.mem_cons.1 hy with e2|h2
   ·rw[e1,e2]
   ·have:=hs.1 y h2;rw[←e1]at this;omega
  ·rcases List.mem_cons.1 hy with e2|h2
   ·have:=hs.1 x h1;rw[←e2]at this;omega
   ·exact ih hs.2 h1 h2
theorem Ee{js:List Jb}(hs:js.Pairwise (fun a b=>a.id<b.id)){x:Jb}(hx:x∈js):look js x.id=some x:=by
 cases h:look js x.id with
 | none=>exact absurd rfl (H8 h x hx)
 | some y=>
  obtain⟨h1,h2⟩:=Ka h;rw[Dk hs h1 hx h2]
def D8(x:Jb):List Jb→List Jb
 | []=>[x]
 | y::l=>if x.id<y.id then x::y::l else y::D8 x l
theorem P8(x:Jb):∀l,(D8 x l).Perm (x::l)
 | []=>.refl _
 | y::l=>by
  unfold D8
  split
  ·exact .refl _
  ·exact((P8 x l).cons y).trans (.swap _ _ _)
theorem Wm{x y:Jb}{l:List Jb}:y∈D8 x l↔y=x∨y∈l:=by rw[(P8 x l).mem_iff,List.mem_cons]
theorem Ls{x:Jb}:∀ {l:List Jb},l.Pairwise (fun a b=>a.id<b.id)→(∀y∈l,y.id≠x.id)→(D8 x l).Pairwise (fun a b=>a.id<b.id)
 | [],_,_=>List.pairwise_singleton _ _
 | y::l,h,hn=>by
  rw[List.pairwise_cons]at h;unfold D8;have Uk:=hn y List.mem_cons_self
  split
  ·rename_i Wq;refine List.pairwise_cons.2 ⟨fun z hz=>?_,List.pairwise_cons.2 h⟩
   rcases List.mem_cons.1 hz with rfl|hz
   ·exact Wq
   ·have:=h.1 z hz;omega
  ·rename_i Wq;refine List.pairwise_cons.2 ⟨fun z hz=>?_,Ls h.2 fun z hz=>hn z (List.mem_cons_of_mem _ hz)⟩
   rcases Wm.1 hz with rfl|hz
   ·omega
   ·exact h.1 z hz
def Mm(j:Nat)(l:List Jb):List Jb:=l.filter fun x=>decide (x.id≠j)
theorem Ww{j:Nat}{y:Jb}{l:List Jb}:y∈Mm j l↔y∈l∧y.id≠j:=by simp[Mm]
theorem Qjw{j:Nat}{l:List Jb}(h:l.Pairwise (fun a b=>a.id<b.id)):(Mm j l).Pairwise (fun a b=>a.id<b.id):=h.filter _
theorem Qz8{l m:List Jb}(hl:l.Pairwise (fun a b=>a.id<b.id))(hm:m.Pairwise (fun a b=>a.id<b.id))(h:∀x,x∈l↔x∈m):l=m:=by
 refine List.Perm.eq_of_pairwise (le:=fun a b:Jb=>a.id<b.id) (fun a b _ _ h1 h2=>by omega) hl hm ?_;exact(List.perm_ext_iff_of_nodup (hl.imp fun h e=>by rw[e]at h;omega) (hm.imp fun h e=>by rw[e]at h;omega)).2 h
theorem Qz1(x:Jb)(l:List Jb)(r:Nat):tk (D8 x l) r=if x.row=r then tk l r ||| x.ns else tk l r:=S8 fun i=>by
 have e:(tk (D8 x l) r).getLsbD i=true↔(x.row=r∧x.ns.getLsbD i=true)∨(tk l r).getLsbD i=true:=by
  rw[Av,Av]
  constructor
  ·rintro ⟨y,h1,h2,h3⟩
   rcases Wm.1 h1 with rfl|h1
   ·exact .inl ⟨h2,h3⟩
   ·exact .inr ⟨y,h1,h2,h3⟩
  ·rintro (⟨h2,h3⟩|⟨y,h1,h2,h3⟩)
   ·exact⟨x,Wm.2 (.inl rfl),h2,h3⟩
   ·exact⟨y,Wm.2 (.inr h1),h2,h3⟩
 rw[e]
 by_cases h:x.row=r
 ·rw[if_pos h,BitVec.getLsbD_or,Bool.or_eq_true]
  constructor
  ·rintro (⟨_,h3⟩|h3)
   ·exact .inr h3
   ·exact .inl h3
  ·rintro (h3|h3)
   ·exact .inr h3
   ·exact .inl ⟨h,h3⟩
 ·rw[if_neg h]
  constructor
  ·rintro (⟨h3,_⟩|h3)
   ·exact absurd h3 h
   ·exact h3
  ·exact .inr
theorem Qno{m:Mx}(hm:Xk m){x:Jb}(hx:x∈m.js)(r:Nat):tk (Mm x.id m.js) r=if x.row=r then tk m.js r &&& ~~~x.ns else tk m.js r:=S8 fun i=>by
 rw[Av]
 by_cases h:x.row=r
 ·rw[if_pos h,BitVec.getLsbD_and,BitVec.getLsbD_not,Bool.and_eq_true,Av]
  constructor
  ·rintro ⟨y,h1,h2,h3⟩;rw[Ww]at h1;have hi:=BitVec.lt_of_getLsbD h3;refine⟨⟨y,h1.1,h2,h3⟩,?_⟩;cases hb:x.ns.getLsbD i with
   | false=>simp[hi]
   | true=>exact(hm.dis y h1.1 x hx h1.2 (h2.trans h.symm) i h3 hb).elim
  ·rintro ⟨⟨y,h1,h2,h3⟩,h4⟩;refine⟨y,Ww.2 ⟨h1,fun e=>?_⟩,h2,h3⟩;obtain rfl:=Dk hm.Yz h1 hx e;rw[h3]at h4;simp at h4
 ·rw[if_neg h,Av]
  constructor
  ·rintro ⟨y,h1,h2⟩;exact⟨y,(Ww.1 h1).1,h2⟩
  ·rintro ⟨y,h1,h2,h3⟩;refine⟨y,Ww.2 ⟨h1,fun e=>?_⟩,h2,h3⟩;obtain rfl:=Dk hm.Yz h1 hx e;exact h h2
def Mx.free(m:Mx)(r:Nat):Bs:=m.up &&& ~~~(tk m.js r)
def Mx.add(m:Mx)(x:Jb):Mx:={m with js:=D8 x m.js}
def Mx.del(m:Mx)(j:Nat):Mx:={m with js:=Mm j m.js}
theorem Xk.del{m:Mx}(h:Xk m)(j:Nat):Xk (m.del j) where
 R1:=h.R1
 R8:=h.R8
 N1:=h.N1
 Bz:=h.Bz
 up:=h.up
 Yz:=Qjw h.Yz
 B6:=fun x hx=>h.B6 x (Ww.1 hx).1
 Al:=fun x hx=>h.Al x (Ww.1 hx).1
 row:=fun x hx=>h.row x (Ww.1 hx).1
 some:=fun x hx=>h.some x (Ww.1 hx).1
 ns:=fun x hx=>h.ns x (Ww.1 hx).1
 dis:=fun x hx y hy=>h.dis x (Ww.1 hx).1 y (Ww.1 hy).1
theorem Xk.add{m:Mx}(h:Xk m){x:Jb}(hn:∀y∈m.js,y.id≠x.id)(h1:1≤x.id)(h2:x.id≤4294967295)(h3:x.row<m.R)(h4:x.ns≠0#16)(h5:∀i,x.ns.getLsbD i=true→i<m.N)
  (h6:tk m.js x.row &&& x.ns=0#16):Xk (m.add x):=by
 have hd:∀y∈m.js,y.row=x.row→∀i,y.ns.getLsbD i=true→x.ns.getLsbD i=true→False:=fun y hy hr i b1 b2=>by
  have hb:(tk m.js x.row &&& x.ns).getLsbD i=true:=by
   rw[BitVec.getLsbD_and,b2,Bool.and_true,Av];exact⟨y,hy,hr,b1⟩
  rw[h6]at hb;simp at hb
 refine⟨h.R1,h.R8,h.N1,h.Bz,h.up,Ls h.Yz hn,?_,?_,?_,?_,?_,?_⟩
 ·exact fun y hy=>by rcases Wm.1 hy with rfl|hy <;> first|exact h1|exact h.B6 y hy
 ·exact fun y hy=>by rcases Wm.1 hy with rfl|hy <;> first|exact h2|exact h.Al y hy
 ·exact fun y hy=>by rcases Wm.1 hy with rfl|hy <;> first|exact h3|exact h.row y hy
 ·exact fun y hy=>by rcases Wm.1 hy with rfl|hy <;> first|exact h4|exact h.some y hy
 ·exact fun y hy=>by rcases Wm.1 hy with rfl|hy <;> first|exact h5|exact h.ns y hy
 ·intro y hy z hz Uk hr i b1 b2
  rcases Wm.1 hy with e1|h7
  ·rcases Wm.1 hz with e2|h8
   ·exact Uk (by rw[e1,e2])
   ·exact hd z h8 (by rw[←hr,e1]) i b2 (e1 ▸ b1)
  ·rcases Wm.1 hz with e2|h8
   ·exact hd y h7 (by rw[hr,e2]) i b1 (e2 ▸ b2)
   ·exact h.dis y h7 z h8 Uk hr i b1 b2
theorem Qa9:∀ {n:Nat} {l:List Nat},l.Nodup→(∀z∈l,z<n)→l.length≤n
 | 0,[],_,_=>Nat.le_refl _
 | 0,z::l,_,h=>absurd (h z List.mem_cons_self) (by omega)
 | n+1,l,hn,h=>by
  have h1:=Qa9 (n:=n) (l:=l.filter fun z=>decide (z≠n)) (hn.filter _) fun z hz=>by
   obtain⟨h1,h2⟩:=List.mem_filter.1 hz;have:=h z h1;have h2:z≠n:=by simpa using h2
   omega
  have h2:l.length≤(l.filter fun z=>decide (z≠n)).length+1:=by
   have e:=List.length_eq_countP_add_countP (fun z=>decide (z≠n)) (l:=l);rw[←List.countP_eq_length_filter]
   have h3:l.countP (fun a=>decide (¬(decide (a≠n)=true)))≤1:=by
    have e3:l.countP (fun a=>decide (¬(decide (a≠n)=true)))=l.count n:=by
     rw[List.count_eq_countP];refine List.countP_congr fun x _=>?_;simp
    rw[e3];exact List.nodup_iff_count.1 hn n
   omega
  omega
theorem Qtt(m:Mx)(hm:Xk m):m.js.length≤128:=by
 have hinj:((m.js.map fun x=>x.row*16+tz x.ns)).Nodup:=by
  refine List.pairwise_map.2 (hm.Yz.imp_of_mem ?_);intro x y hx hy Wq e;have tx:=Df (Jj (hm.some x hx));have ty:=Df (Jj (hm.some y hy));have e1:x.row=y.row:=by omega
  have e2:tz x.ns=tz y.ns:=by omega
  exact hm.dis x hx y hy (by omega) e1 (tz x.ns) (X9.1 (Jj (hm.some x hx))) (e2 ▸ X9.1 (Jj (hm.some y hy)))
 have Wq:∀z∈(m.js.map fun x=>x.row*16+tz x.ns),z<128:=fun z hz=>by
  obtain⟨x,hx,rfl⟩:=List.mem_map.1 hz;have:=Df (Jj (hm.some x hx));have:=hm.row x hx;have:=hm.R8;omega
 have:=Qa9 hinj Wq
 simpa using this
end Go.Proofs.YtdackcibfkkniaaGreatDoor
namespace Go.Proofs.YtdackcibfkkniaaGreatDoor
open Go.ChangeShapes Go.WideShapes Go.ChangeAt Go.RowKit
section
variable {H:Type}{enc:TypeId×Value→H}
def Qkk(enc:TypeId×Value→H)(L:List (String×DataW Unit))(f:FuncId)(fn:Func):Prop:=
 ∀(W:World) (base:Nat) (args:Array Value) (ds:List (DataW H)) (before:List MemPlace),
  (∀(j:Nat) t v,fn.params[j]?=some t→args[j]?=some v→Value.okWide Tryz.prog W .any base t v) →
  DataW.TrodAll enc Tryz.prog W 0 (fun _=>true) true fn.params.toList args.toList ds before →
  (∀p∈before,p.block<W.heap.size) →
  (DataW.weightsEach Tryz.prog (fn.params.toList++[]) (ds++[])).all (·≤reachBytes)=true →
  laidMetH Tryz.prog L W →
  Calls Tryz.prog f args W fun e W'=>e=.returned (.bool true)∧Below W.heap.size W W'
theorem Qlx{os:Os}(started:os.Started){f:FuncId}{fn:Func}{s:ChangeSpec}{L:List (String×DataW Unit)}(hfn:Tryz.prog.funcs[f]?=some fn)(noInit:Tryz.prog.inits.idxOf? f=none)
  (witness:∃(w:World) (tape:Tape) (i:Input),w.os=os∧(w.forCall tape i).Shaped Tryz.prog∧i.vars=[]∧Input.okWide Tryz.prog (w.forCall tape i) .any w.heap.size f i ∧
   ((s.pre enc Tryz.prog fn [] false (w.forCall tape i).memory i.args∧laidMetH Tryz.prog L (w.forCall tape i).memory)∧sizedMet enc Tryz.prog fn (OpenSpec.ofChange s) false (w.forCall tape i).memory i.args)∧({}:Assume).holds Tryz.prog (lone (Frame.enter Tryz.prog f i.args .normal) [] (w.forCall tape i)))
  (Qws:s.vars=[]) (hrt:fn.resultTypes=#[4]) (Q7r:fn.params.toList.all (fun t=>Tryz.prog.readableRec t&&decide (t<Tryz.prog.types.size))=true)
  (Q7q:∀ds:List (DataW H),ds.length=fn.params.toList.length→s.fn H (ds++[])={results:=[.lit (.bool true)],args:=ds})
  (walk:Qkk enc L f fn) :
  ReturnsInHanded {} Tryz.checked os f .any (fun w args=>(s.pre enc Tryz.prog fn [] false w args∧laidMetH Tryz.prog L w)∧sizedMet enc Tryz.prog fn (OpenSpec.ofChange s) false w args) (s.post enc Tryz.prog fn false true false false):=by
 have Zbm:∀t,t∈fn.params.toList→Tryz.prog.readableRec t=true∧t<Tryz.prog.types.size:=fun t ht=>by
  have:=List.all_eq_true.1 Q7r t ht
  simpa using this
 refine returnsInHanded_of_change_and (C:=Tryz.checked) (X:=fun w _=>laidMetH Tryz.prog L w) (fun _ _ _ hh h=>h.of_heap hh) Qu5 started noInit hfn witness ?_;intro W base args ds gs before Sf hW _ hz hL _;have hW':=hW;have Wq:=hW.lt;obtain⟨p,q,hA,hV,rfl,hfz,G2⟩:=hW;rw[Qws]at hV;obtain⟨rfl,rfl⟩:=trodVars_none hV;simp only[List.append_nil]at Wq hW';have hpv:s.plain.varTypes Tryz.checked.prog=[]:=by simp[ChangeSpec.plain,DataSpec.varTypes,Qws]
 rw[hpv]at hz;refine(walk W base args ds p Sf hA Wq hz hL).mono fun e W' ⟨he,hb⟩=>?_;subst he
 refine⟨_,rfl,ds,[],p,[],p,[],hW',?_,?_,?_,hb.frame _,fun h=>by cases h⟩
 ·have hlen:=Gb _ _ _ _ hA;rw[Q7q ds hlen,hrt];exact trodAll_cons_mk (shut_bool Tryz.underlying4 _) trodAll_mk0
 ·have hlen:=Gb _ _ _ _ hA;rw[Q7q ds hlen];exact Qc4 hb _ _ _ _ Zbm hA Wq
 ·rw[Qws];have hlen:=Gb _ _ _ _ hA;rw[Q7q ds hlen];rfl
end
abbrev Qps:List Int:=[0,1,28,2,29,14,24,3,30,22,20,15,25,17,4,8,31,27,13,23,21,19,16,7,26,12,18,6,11,5,10,9]
def H6(W:World):Prop:=∀i:Nat,i<32→W.cell? ⟨0,i,none⟩=some (.int .u8 (Qps.getD i 0))
set_option maxRecDepth 100000 in
theorem Qz4{L:List (String×DataW Unit)}{W:World}(hL:L=[("math/bits.deBruijn32tab",Rows.laid_math_bits_deBruijn32tab)])(h:laidMetH Tryz.prog L W):H6 W:=by
 have e:laidMetH Tryz.prog L W=laidMet Tryz.prog L W:=MakeChecks.laidMetH_plain Tryz.prog L W (by rw[hL];kernel_rfl);rw[e,hL]at h;have hT:=Lib.tabIs_of_head (g:=0) (k:=.u8) (zs:=Qps) (name := "math/bits.deBruijn32tab") (rest:=[]) (by kernel_rfl) (by kernel_rfl) Tryz.underlying238 Tryz.underlying5 (by kernel_rfl) (by kernel_rfl) h;exact fun i hi=>hT.cell (by kernel_rfl) i hi
def pc8(n:Nat):Nat:=((List.range 8).filter fun i=>n.testBit i).length
def Zam(bs:ByteArray):Bool:=(List.range 256).all fun i=>match bs[i]? with
 | some b=>b.toNat==pc8 i
 | none=>false
section
variable {P:Program}{n:Nat}{md:Bool}{w0:WM md}{ρ:Env}{Γ:List Assn}{Q:Exit→Act→World→Prop}{K:Act→World→Prop}{ty:TypeId}{pos:String}{af:Array Edge}{gd:Option (Nat×Bool)}{d:Nat}{ds:Option Tmp}
theorem Pd{t yt:TypeId}{x y:Operand}{p q:Int}(s u:Bs)(hx:ev ρ x=some (.int .u16 p))(hy:ev ρ y=some (.int .u16 q))(hp:p=s.toNat)(hq:q=u.toNat):Qv P n ρ Γ ⟨ds,.binOp .and t x y yt,ty,pos,af,gd⟩ (bsv (s &&& u)):=by
 subst hp hq
 exact J2 hx hy fun w=>by
  have e:=Qez (s &&& u);simp[binOp,Op.intBits,IntKind.bits,BitVec.ofInt_natCast]at e ⊢;exact e
theorem Qoa{t yt:TypeId}{x y:Operand}{p q:Int}(s u:Bs)(hx:ev ρ x=some (.int .u16 p))(hy:ev ρ y=some (.int .u16 q))(hp:p=s.toNat)(hq:q=u.toNat):Qv P n ρ Γ ⟨ds,.binOp .or t x y yt,ty,pos,af,gd⟩ (bsv (s ||| u)):=by
 subst hp hq
 exact J2 hx hy fun w=>by
  have e:=Qez (s ||| u);simp[binOp,Op.intBits,IntKind.bits,BitVec.ofInt_natCast]at e ⊢;exact e
theorem Pc{t yt:TypeId}{x y:Operand}{p q:Int}(s u:Bs)(hx:ev ρ x=some (.int .u16 p))(hy:ev ρ y=some (.int .u16 q))(hp:p=s.toNat)(hq:q=u.toNat):Qv P n ρ Γ ⟨ds,.binOp .andNot t x y yt,ty,pos,af,gd⟩ (bsv (s &&& ~~~u)):=by
 subst hp hq
 exact J2 hx hy fun w=>by
  have e:=Qez (s &&& ~~~u);simp only[binOp,Op.intBits,IntKind.bits,Qa8,ne_eq,not_true_eq_false,if_false,Sem.run_pure];exact congrArg (fun z=>Result.ok (Value.int IntKind.u16 z) w) e
theorem Qkz(z:Int):IntKind.u16.wrap z=((BitVec.ofInt 16 z).toNat:Int):=by
 simp only[IntKind.wrap,IntKind.bits,IntKind.signed,Bool.false_and,Bool.false_eq_true,if_false];rw[BitVec.toNat_ofInt,Int.toNat_of_nonneg (Int.emod_nonneg _ (by decide))];rfl
theorem Q6n{t:TypeId}{x:Operand}{p:Int}(s:Bs)(hx:ev ρ x=some (.int .u16 p))(hp:p=s.toNat):Qv P n ρ Γ ⟨ds,.unOp .neg t x,ty,pos,af,gd⟩ (bsv (-s)):=fun a w ha _=>by
 subst hp
 have e:IntKind.u16.wrap (0-(s.toNat:Int))=((-s).toNat:Int):=by
  rw[Qkz,Int.zero_sub,BitVec.ofInt_neg,Qa8]
 simp only[execOp,ha.ev hx,Op.unary,Op.intArith,e,Sem.run_bind,Sem.run_pure,Result.andThen_ok]
theorem Qn8{t yt:TypeId}{x y:Operand}{p:Int}(s:Bs)(hx:ev ρ x=some (.int .u16 p))(hy:ev ρ y=some (.int .u16 1))(hp:p=s.toNat):Qv P n ρ Γ ⟨ds,.binOp .sub t x y yt,ty,pos,af,gd⟩ (bsv (s-1#16)):=by
 subst hp
 have e:IntKind.u16.wrap ((s.toNat:Int)-1)=((s-1#16).toNat:Int):=by
  rw[Qkz,Int.sub_eq_add_neg,BitVec.ofInt_add,Qa8,BitVec.ofInt_neg,BitVec.sub_eq_add_neg];rfl
 exact J2 hx hy fun w=>by simp only[binOp,Op.intArith,e,ne_eq,not_true_eq_false,if_false,Sem.run_pure]
theorem Q6o{t yt:TypeId}{x y:Operand}{k:IntKind}{p q:Int}(hx:ev ρ x=some (.int k p))(hy:ev ρ y=some (.int k q)):Qv P n ρ Γ ⟨ds,.binOp .mul t x y yt,ty,pos,af,gd⟩ (.int k (k.wrap (p*q))):=
 J2 hx hy fun w=>by simp[binOp,Op.intArith]
theorem Quq{t yt:TypeId}{x y:Operand}{ky:IntKind}{p q:Int}(s:Bs)(m:Nat)(hx:ev ρ x=some (.int .u16 p))(hy:ev ρ y=some (.int ky q))(hp:p=s.toNat)(hq:q=((m:Nat):Int))(hm:m≤16):Qv P n ρ Γ ⟨ds,.binOp .shr t x y yt,ty,pos,af,gd⟩ (bsv (s >>> m)):=by
 subst hp;have:=Qn7 (P:=P) (n:=n) (Γ:=Γ) (t:=t) (yt:=yt) (ty:=ty) (pos:=pos) (af:=af) (gd:=gd) (ds:=ds) m hx hy hq (by simpa [IntKind.bits] using hm)
 have e:((s.toNat:Int) / 2 ^ m)=((s >>> m).toNat:Int):=by
  rw[BitVec.toNat_ushiftRight,Nat.shiftRight_eq_div_pow]
  norm_cast
 rwa [e]at this
theorem Qfp{t yt:TypeId}{x y:Operand}{ky:IntKind}{q:Int}(m:Nat)(hx:ev ρ x=some (.int .u16 1))(hy:ev ρ y=some (.int ky q))(hq:q=((m:Nat):Int))(hm:m≤16):Qv P n ρ Γ ⟨ds,.binOp .shl t x y yt,ty,pos,af,gd⟩ (bsv (BitVec.twoPow 16 m)):=fun a w ha _=>by
 subst hq;have h0:¬((m:Int)<0):=by omega
 have h1:min m 16=m:=Nat.min_eq_left hm
 have e:IntKind.u16.wrap (1*2 ^ m)=((BitVec.twoPow 16 m).toNat:Int):=by
  rw[Qkz,Int.one_mul,BitVec.toNat_twoPow];have e2:((2:Int) ^ m)=((2 ^ m:Nat):Int):=by norm_cast
  rw[e2,BitVec.ofInt_natCast,BitVec.toNat_ofNat]
 simp only[execOp,ha.ev hx,ha.ev hy,eqGuard,binOp,Op.shift,IntKind.bits,h0,if_false,Int.toNat_natCast,h1,e,Sem.run_bind,Sem.run_pure];simp
theorem Rb:∀m:Nat,m≤16→BitVec.twoPow 16 m-1#16=mask m:=by
 intro m hm;have:∀k:_root_.Fin 17,BitVec.twoPow 16 k.1-1#16=mask k.1:=by decide
 exact this ⟨m,by omega⟩
theorem Qn9{t:TypeId}{x y:Operand}{bs:ByteArray}{ky:IntKind}{z:Int}(i:Nat)(ht:P.underlying t=some .string)(hx:ev ρ x=some (.string bs))(hb:Zam bs=true)(hy:ev ρ y=some (.int ky z))(hz:z=((i:Nat):Int))(hi:i<256):Qv P n ρ Γ ⟨ds,.index t x y,ty,pos,af,gd⟩ (.int .u8 ((pc8 i:Nat):Int)):=fun a w ha _=>by
 subst hz;have h:=List.all_eq_true.1 hb i (List.mem_range.2 hi);cases e:bs[i]? with
 | none=>rw[e]at h;cases h
 | some b=>
  rw[e]at h;have h:b.toNat=pc8 i:=by simpa using h
  simp[execOp,ha.ev hx,ha.ev hy,Instr.index,asIntOf,run_underlying ht,e,h]
end
theorem Qu3(n:Nat):pc8 n≤8:=by
 have:=List.length_filter_le (fun i=>n.testBit i) (List.range 8);rw[List.length_range]at this;exact this
theorem Q68(s:Bs):(lst s).length=pc8 (s.toNat / 256)+pc8 (s.toNat % 256):=by
 have e:(List.range 16)=List.range 8++(List.range 8).map (8+·):=by decide
 unfold lst;rw[e,List.filter_append,List.length_append,List.filter_map,List.length_map]
 have e1:(List.range 8).filter (fun i=>s.getLsbD i)=(List.range 8).filter fun i=>(s.toNat % 256).testBit i:=List.filter_congr fun i hi=>by
  have:=List.mem_range.1 hi;rw[show (256:Nat)=2 ^ 8 from rfl,Nat.testBit_mod_two_pow,BitVec.getLsbD];simp[this]
 have e2:(List.range 8).filter ((fun i=>s.getLsbD i) ∘ (8+·))=(List.range 8).filter fun i=>(s.toNat / 256).testBit i:=List.filter_congr fun i _=>by
  rw[show (256:Nat)=2 ^ 8 from rfl,Nat.testBit_div_two_pow,Function.comp,BitVec.getLsbD,Nat.add_comm]
 rw[e1,e2];unfold pc8;omega
theorem Qar{P:Program}{n:Nat}{ρ:Env}{Γ:List Assn}{ty:TypeId}{pos:String}{af:Array Edge}{gd:Option (Nat×Bool)}{ds:Option Tmp}{t kt et:TypeId}{q:IntKind}{x y:Operand}{b:Nat}{kk:IntKind}{z:Int}{zv:Value}{W:World}{es:Array MapEntry}{clock:Nat}(l:List (Int×Value))(v:Value)(ht:P.underlying t=some (.map kt et))(hk:P.underlying kt=some (.int q))(hzv:(P.info? et).bind (·.zero)=some zv)
  (hx:ev ρ x=some (.map (some b))) (hy:ev ρ y=some (.int kk z)) [h:Hw Γ W] (hq:q=kk) (hb:W.heap[b]?=some (.map es clock)) (hr:Vc kk l es.toList clock) (hv:v=(Q1 z l).getD zv):Qv P n ρ Γ ⟨ds,.lookup t x y false,ty,pos,af,gd⟩ v:=by
 intro a w ha hs
 have Jz:Sat w (Qk b kk l::[]):=by
  refine⟨HL.of w,HL.le.refl _,HL.of w,HL.emp,fun _=>.inr rfl,HL.le.refl _,HL.U6 _,⟨es,clock,?_,hr⟩,trivial⟩;exact h.sat w hs b _ hb
 exact Qj (Γ:=Qk b kk l::[]) v ht hk hzv hx hy hq hv a w ha Jz
open Go.ChangeMaps (setBlock)
def Kj(r b:Nat)(kk:IntKind)(l left:List (Int×Value))(cur:Option (Int×Value)):Assn:=fun h=>∃(es:Array MapEntry) (clock since:Nat) (seen:Array Nat) (c0:Nat),h b=some (.map es clock)∧h r=some (.mapIter (some b) since seen c0)∧r≠b ∧
 Vc kk l es.toList clock∧(∀x∈es.toList,x.born<since)∧since≤c0∧since≤clock∧(leftOf es seen).toList.map (fun e=>(e.key,e.val))=left.map (fun x=>(Value.int kk x.1,x.2)) ∧
 (∀z v,cur=some (z,v)→∃(seen':Array Nat) (e:MapEntry),seen=seen'.push e.born∧c0=clock∧e∈es.toList∧e.key=.int kk z∧e.val=v)
theorem Ent.Kj{r b:Nat}{kk:IntKind}{l left:List (Int×Value)}{cur:Option (Int×Value)}(Γ:List Assn):Ent (Kj r b kk l left cur::Γ) (Qk b kk l::Γ):=
 Ent.W9 Γ fun _ ⟨es,clock,_,_,_,h1,_,_,h4,_⟩=>⟨es,clock,h1,h4⟩
class Qnf(Γ:List Assn)(r:Nat)(b:outParam Nat)(kk:outParam IntKind)(l left:outParam (List (Int×Value)))(cur:outParam (Option (Int×Value)))(Δ:outParam (List Assn)):Prop where
 Qh:Ent Γ (Kj r b kk l left cur::Δ)
instance (priority:=high) Qnf.head{Γ:List Assn}{r b:Nat}{kk:IntKind}{l left:List (Int×Value)}{cur:Option (Int×Value)}:Qnf (Kj r b kk l left cur::Γ) r b kk l left cur Γ:=⟨Ent.refl _⟩
instance Qnf.tail{A:Assn}{Γ Δ:List Assn}{r b:Nat}{kk:IntKind}{l left:List (Int×Value)}{cur:Option (Int×Value)}[h:Qnf Γ r b kk l left cur Δ]:Qnf (A::Γ) r b kk l left cur (A::Δ):=⟨(h.Qh.cons A).trans (Ent.swap _ _ _)⟩
theorem Sp{l:List MapEntry}(h:l.Pairwise (fun a b=>a.born<b.born)){i:Nat}{e:MapEntry}(hi:l[i]?=some e):l.filter (fun x=>decide (x.born≠e.born))=l.eraseIdx i:=by
 induction l generalizing i with
 | nil=>simp at hi
 | cons z l ih=>
  rw[List.pairwise_cons]at h;cases i with
  | zero=>
   simp only[List.getElem?_cons_zero,Option.some.injEq]at hi;subst hi;rw[List.filter_cons_of_neg (by simp),List.eraseIdx_cons_zero];refine List.filter_eq_self.2 fun x hx=>?_;have:=h.1 x hx;simp;omega
  | succ i=>
   have hi':l[i]?=some e:=by simpa using hi
   have:=h.1 e (List.mem_of_getElem? hi');rw[List.filter_cons_of_pos (by simp;omega),List.eraseIdx_cons_succ,ih h.2 hi']
theorem Qi1(es:Array MapEntry)(seen:Array Nat)(c:Nat):(leftOf es (seen.push c)).toList=(leftOf es seen).toList.filter fun x=>decide (x.born≠c):=by
 unfold leftOf;rw[Array.toList_filter,Array.toList_filter,List.filter_filter];refine List.filter_congr fun x _=>?_
 by_cases h:x.born=c
 ·simp[h]
 ·have h':¬c=x.born:=fun e=>h e.symm;simp[h]
section
variable {P:Program}{n:Nat}{md:Bool}{w0:WM md}{ρ:Env}{Γ:List Assn}{Q:Exit→Act→World→Prop}{K:Act→World→Prop}{ty:TypeId}{pos:String}{af:Array Edge}{gd:Option (Nat×Bool)}{d:Nat}{ds:Option Tmp}
theorem S.range{t kt et:TypeId}{x:Operand}{b:Nat}{kk:IntKind}{l:List (Int×Value)}{Δ:List Assn}(ht:P.underlying t=some (.map kt et))(hx:ev ρ x=some (.map (some b)))[h:C9 Γ b kk l Δ](hn:Nat.blt d n=true)
  (k:∀r,S n w0 ((d,.pointer (some ⟨r,0,none⟩))::ρ) (Kj r b kk l l none::Δ) K):S n w0 ρ Γ (Ow P Q ⟨some d,.range t x,ty,pos,af,gd⟩ K):=by
 intro a w ha hs Dx;have D9:=hs.Qh h.Qh;obtain⟨es,clock,hb,hr⟩:=D9.isMap;have Wq:b<w.heap.size:=(Array.getElem?_eq_some_iff.1 hb).1
 have Px:(execOp a.eval ⟨some d,.range t x,ty,pos,af,gd⟩).run P w=.ok (.value (.pointer (some ⟨w.heap.size,0,none⟩))) (w.alloc (.mapIter (some b) clock #[] clock)):=by
  simp only[execOp,ha.ev hx,Sem.run_bind,run_range_map w t kt et b es clock ht hb,Result.andThen_ok,Sem.run_pure]
 unfold Ow Oper.wp;rw[Px,Oper.upon_value];refine k w.heap.size _ _ (ha.put hn _) ?_ (Dx.alloc _);refine D9.upd fun y l1 p1=>?_;obtain⟨es',clock',hb',hr'⟩:=p1;have e1:=l1 b _ hb';unfold HL.of at e1;rw[hb]at e1;cases e1
 refine⟨HL.join (HL.one b (.map es clock)) (HL.one w.heap.size (.mapIter (some b) clock #[] clock)),HL.join_le (HL.one_le ?_) (HL.one_le ?_),⟨es,clock,clock,#[],clock,?_,?_,by omega,hr,hr.lt,Nat.le_refl _,Nat.le_refl _,?_,fun z v e=>by cases e⟩,fun c hc hcl=>⟨?_,?_⟩⟩
 ·exact(Below.heap_alloc w _ b Wq).trans hb
 ·exact Pt rfl
 ·simp[HL.join,HL.one]
 ·have:w.heap.size≠b:=by omega
  simp[HL.join,HL.one,this]
 ·rw[←hr.Qh];unfold leftOf;rw[Array.toList_filter,List.filter_eq_self.2 (fun x _=>by simp)]
 ·have hcl':c<w.heap.size:=by
   rcases Nat.lt_or_ge c w.heap.size with h2|h2
   ·exact h2
   ·simp[Array.getElem?_eq_none h2]at hcl
  refine HL.join_none (HL.Vj fun e=>?_) (HL.Vj (by omega));subst e;rw[hb']at hc;cases hc
 ·have hcl':c<w.heap.size:=by
   rcases Nat.lt_or_ge c w.heap.size with h2|h2
   ·exact h2
   ·simp[Array.getElem?_eq_none h2]at hcl
  exact Below.heap_alloc w _ c hcl'
theorem S.Yh{x:Operand}{r b:Nat}{kk:IntKind}{l left:List (Int×Value)}{cur:Option (Int×Value)}{Δ:List Assn}(hx:ev ρ x=some (.pointer (some ⟨r,0,none⟩)))[h:Qnf Γ r b kk l left cur Δ](hn:Nat.blt d n=true)
  (k0:left=[]→S n w0 ((d,.tuple #[.bool false])::ρ) (Kj r b kk l left cur::Δ) K)
  (k1:∀i z v,left[i]?=some (z,v)→S n w0 ((d,.tuple #[.bool true,.int kk z,v])::ρ) (Kj r b kk l (left.eraseIdx i) (some (z,v))::Δ) K) :
  S n w0 ρ Γ (Ow P Q ⟨some d,.next x false,ty,pos,af,gd⟩ K):=by
 intro a w ha hs Dx;have D9:=hs.Qh h.Qh;obtain⟨y,l1,es,clock,since,seen,c0,h1,h2,h3,h4,h5,h6,h6',h7,h8⟩:=D9.head;have hb:w.heap[b]?=some (.map es clock):=l1 b _ h1;have hr:w.heap[r]?=some (.mapIter (some b) since seen c0):=l1 r _ h2
 rcases run_next_at (P:=P) w ty r b since c0 seen es clock hr hb h5 h6 with ⟨h0,Px⟩|⟨e,he,w1,hw1,Px⟩
 ·have hl:left=[]:=by
   have e0:leftOf es seen=#[]:=Array.eq_empty_of_size_eq_zero h0;rw[e0]at h7;exact List.map_eq_nil_iff.1 h7.symm
  have Ca:(execOp a.eval ⟨some d,.next x false,ty,pos,af,gd⟩).run P w=.ok (.value (.tuple #[.bool false])) w:=by
   simp only[execOp,ha.ev hx,Sem.run_bind,Px,Result.andThen_ok,Sem.run_pure]
  unfold Ow Oper.wp;rw[Ca,Oper.upon_value];exact k0 hl _ _ (ha.put hn _) D9 Dx
 ·obtain⟨i,hi⟩:=List.getElem?_of_mem he
  have hpw:(leftOf es seen).toList.Pairwise (fun a b=>a.born<b.born):=by
   unfold leftOf;rw[Array.toList_filter];exact h4.born.filter _
  have Vt:e∈es.toList:=by
   unfold leftOf at he;rw[Array.toList_filter]at he;exact(List.mem_filter.1 he).1
  have D6:=congrArg (fun q=>q[i]?) h7;simp only[List.getElem?_map,hi,Option.map_some]at D6;cases hli:left[i]? with
  | none=>rw[hli]at D6;cases D6
  | some zv=>
   obtain⟨z,v⟩:=zv;rw[hli]at D6;simp only[Option.map_some,Option.some.injEq,Prod.mk.injEq]at D6
   have Ca:(execOp a.eval ⟨some d,.next x false,ty,pos,af,gd⟩).run P w=.ok (.value (.tuple #[.bool true,.int kk z,v])) (setBlock w1 r (.mapIter (some b) since (seen.push e.born) clock)):=by
    simp only[execOp,ha.ev hx,Sem.run_bind,Px,Result.andThen_ok,Sem.run_pure,D6.1,D6.2]
   have Q2h:w1.heap=w.heap:=by rcases hw1 with rfl|rfl <;> rfl
   unfold Ow Oper.wp;rw[Ca,Oper.upon_value]
   refine k1 i z v hli _ _ (ha.put hn _) ?_ ?_
   ·have Jz:Sat w1 (Kj r b kk l left cur::Δ):=D9.of_heap Q2h;refine Jz.upd fun y l2 p2=>?_;obtain⟨es',clock',_,_,_,g1,g2,_⟩:=p2;have q1:=l2 b _ g1;unfold HL.of at q1;rw[Q2h,hb]at q1;cases q1;have hrl:r<w1.heap.size:=by rw[Q2h];exact(Array.getElem?_eq_some_iff.1 hr).1
    refine⟨HL.join (HL.one b (.map es clock)) (HL.one r (.mapIter (some b) since (seen.push e.born) clock)),HL.join_le (HL.one_le ?_) (HL.one_le ?_),⟨es,clock,since,seen.push e.born,clock,?_,?_,h3,h4,h5,h6',h6',?_,fun z' v' e'=>?_⟩,fun c hc _=>⟨?_,?_⟩⟩
    ·show (w1.heap.setIfInBounds r _)[b]?=_;rw[Array.getElem?_setIfInBounds_ne h3,Q2h,hb]
    ·show (w1.heap.setIfInBounds r _)[r]?=_;rw[Array.getElem?_setIfInBounds_self_of_lt hrl]
    ·simp[HL.join,HL.one]
    ·simp[HL.join,HL.one,h3]
    ·rw[Qi1,Sp hpw hi,X1,h7,←X1]
    ·cases e';exact⟨seen,e,rfl,rfl,Vt,D6.1,D6.2⟩
    ·refine HL.join_none (HL.Vj fun e=>?_) (HL.Vj fun e=>?_)
     ·subst e;rw[g1]at hc;cases hc
     ·subst e;rw[g2]at hc;cases hc
    ·show (w1.heap.setIfInBounds r _)[c]?=_;have:r≠c:=fun e=>by subst e;rw[g2]at hc;cases hc
     rw[Array.getElem?_setIfInBounds_ne this]
   ·have Z4:Ext w0 w1:=by
     rcases hw1 with rfl|rfl
     ·exact Dx
     ·exact Dx.drew
    exact Z4.setObj r _
theorem Gl{x:Operand}{r b:Nat}{kk:IntKind}{l left:List (Int×Value)}{z:Int}{v:Value}{Δ:List Assn}(hx:ev ρ x=some (.pointer (some ⟨r,0,none⟩)))[h:Qnf Γ r b kk l left (some (z,v)) Δ]:Qv P n ρ Γ ⟨ds,.entry x,ty,pos,af,gd⟩ (.tuple #[.int kk z,v]):=by
 intro a w ha hs;obtain⟨y,l1,es,clock,since,seen,c0,h1,h2,h3,h4,h5,h6,h6',h7,h8⟩:=(hs.Qh h.Qh).head;obtain⟨seen',e,rfl,rfl,he,hk,hv⟩:=h8 z v rfl;have G2:(es.toList.map (·.born)).Nodup:=List.pairwise_map.2 (h4.born.imp fun h=>Nat.ne_of_lt h);have:=run_entry_at (P:=P) w r b since seen' es c0 e (l1 r _ h2) (l1 b _ h1) he G2;rw[hk,hv]at this;simp only[execOp,ha.ev hx,Sem.run_bind,this,Result.andThen_ok,Sem.run_pure]
theorem Qqi{r:Nat}{es:Array MapEntry}{clock:Nat}(t:TypeId)(w:World)(hb:w.heap[r]?=some (.map es clock)) :
  (Extern.MapsClone.clone #[.iface t (.map (some r))]).run P w=.ok (.iface t (.map (some w.heap.size))) (w.alloc (.map es clock)):=by
 have e:Extern.MapsClone.clone #[.iface t (.map (some r))]=(getObj r >>= fun o=>match o with
   | .map entries clock=>(newObj (.map entries clock) >>= fun n=>pure (.iface t (.map (some n))))
   | _=>stuck "maps.clone: a map expected"):=rfl
 rw[e];simp[MapKept.run_getObj_map hb,Result.andThen,go_sem]
theorem S.clone{f:FuncId}{fn:Func}{x:Operand}{ats:Array TypeId}{t:TypeId}{b:Nat}{kk:IntKind}{l:List (Int×Value)}{Δ:List Assn}(hf:P.funcs[f]?=some fn)(Zbx:(fn.name == "runtime.NumGoroutine")=false)(hb:fn.body.isNone=true)(hnx:Extern.findNext fn=none)(he:Extern.find fn=some Extern.MapsClone.clone)
  (hx:ev ρ x=some (.iface t (.map (some b)))) [h:C9 Γ b kk l Δ] (hn:Nat.blt d n=true)
  (k:∀c,S n w0 ((d,.iface t (.map (some c)))::ρ) (Qk c kk l::Qk b kk l::Δ) K):S n w0 ρ Γ (Ow P Q ⟨some d,.call {callee:=.value (.func f),args:=#[x],argTypes:=ats},ty,pos,af,gd⟩ K):=by
 intro a w ha hs Dx;have D9:=hs.Qh h.Qh;obtain⟨es,clock,hbm,hr⟩:=D9.isMap
 have Px:(execOp a.eval ⟨some d,.call {callee:=.value (.func f),args:=#[x],argTypes:=ats},ty,pos,af,gd⟩).run P w=.ok (.value (.iface t (.map (some w.heap.size)))) (w.alloc (.map es clock)):=by
  have h1:=run_callFunc_extern hf Zbx hb hnx he #[.iface t (.map (some b))] w;rw[Qqi t w hbm]at h1;simp only[Result.andThen]at h1;have hfv:a.eval (.func f)=.func (.func f) #[] #[]:=rfl;simp[execOp,resolve,hfv,Deferred.ofValue,invoke,ha.ev hx,h1]
 unfold Ow Oper.wp;rw[Px,Oper.upon_value];refine k w.heap.size _ _ (ha.put hn _) ?_ (Dx.alloc _)
 have h0:Sat w ((fun _=>True:Assn)::Qk b kk l::Δ):=by
  obtain⟨y,l,s⟩:=D9;exact⟨y,l,HL.emp,y,HL.Ul _,HL.U6 _,HL.le.refl _,trivial,s⟩
 refine h0.upd fun y _ _=>⟨HL.one w.heap.size (.map es clock),HL.one_le (Pt rfl),⟨es,clock,HL.Xt _ _,hr⟩,fun c _ hc=>?_⟩
 have Wq:c<w.heap.size:=by
  rcases Nat.lt_or_ge c w.heap.size with h|h
  ·exact h
  ·simp[Array.getElem?_eq_none h]at hc
 exact⟨HL.Vj (by omega),Below.heap_alloc _ _ _ Wq⟩
theorem Qux{t s:TypeId}{x:Operand}{v:Value}{kt et:TypeId}(ht:P.underlying t=some (.map kt et))(hx:ev ρ x=some (.iface t v)):Qv P n ρ Γ ⟨ds,.typeAssert x s t false,ty,pos,af,gd⟩ v:=fun a w ha _=>by
 have h1:(Instr.typeAssert (.iface t v) s t false).run P w=.ok v w:=by simp[Instr.typeAssert,run_underlying ht,go_sem,Result.andThen]
 simp only[execOp,ha.ev hx,Sem.run_bind,h1,Result.andThen_ok,Sem.run_pure]
theorem Ky{t yt kt et:TypeId}{x y:Operand}{p:Option Nat}(ht:P.underlying t=some (.map kt et))(hx:ev ρ x=some (.map p))(hy:ev ρ y=some (.map none)):Qv P n ρ Γ ⟨ds,.binOp .eql t x y yt,ty,pos,af,gd⟩ (.bool p.isNone):=
 Pb hx hy (fun w=>by simp[eqGuard]) (fun w=>by
  simp only[binOp];rw[show Op.equal t (.map p) (.map none)=Op.equalIn (9999+1) t (.map p) (.map none) from rfl];unfold Op.equalIn;cases p <;> simp[run_underlying ht])
end
theorem ef{α:Sort _}{a:α}:a=a:=rfl
abbrev ZEk:=Exit→Act→World→Prop
inductive ZFr
 | seq (y:Code)
 | blk (i:Nat)
 | scp
 | top (φ:Act→World→Prop)
def ZQs(P:Program)(B:ZEk):List ZFr→ZEk
 | []=>B
 | .seq y::ks=>Exit.then (y.wp P (ZQs P B ks)) (ZQs P B ks)
 | .blk i::ks=>Exit.inBlock i (ZQs P B ks)
 | .scp::ks=>Exit.noGoto (ZQs P B ks)
 | .top φ::ks=>Exit.then φ (ZQs P B ks)
structure ZCd(P:Program)(B:ZEk)(ks:List ZFr)(c:Code)(a:Act)(w:World):Prop where
 out:c.wp P (ZQs P B ks) a w
structure ZOl(P:Program)(B:ZEk)(ks:List ZFr)(ops l:List Oper)(a:Act)(w:World):Prop where
 out:wpG P ops.toArray (ZQs P B ks) l a w
structure ZEx(P:Program)(B:ZEk)(ks:List ZFr)(e:Exit)(a:Act)(w:World):Prop where
 out:ZQs P B ks e a w
class ZEv(o:Option Value)(v:outParam Value):Prop where
 h:o=some v
instance ZEv.i{v:Value}:ZEv (some v) v:=⟨rfl⟩
class Eo{α:Type}(a:α)(b:outParam α):Prop where
 h:a=b
class ZTt(b:Bool):Prop where
 h:b=true
instance ZTt.i:ZTt true:=⟨rfl⟩
class ZFf(b:Bool):Prop where
 h:b=false
instance ZFf.i:ZFf false:=⟨rfl⟩
abbrev Zltb(d n:Nat):Bool:=match Nat.ble (d+1) n with
 | true=>true
 | false=>false
class ZLb(d n:Nat):Prop where
 h:Nat.blt d n=true
instance ZLb.i{d n:Nat}[h:ZTt (Zltb d n)]:ZLb d n:=⟨by have:=h.h;unfold Zltb at this;unfold Nat.blt;split at this <;> simp_all⟩
abbrev Zeqb(d n:Nat):Bool:=match Nat.beq d n with
 | true=>true
 | false=>false
class ZOc(v:Value):Prop where
 h:v.oneCell'=true
instance ZOc.i{k:IntKind}{n:Int}:ZOc (.int k n):=⟨rfl⟩
instance ZOc.b{b:Bool}:ZOc (.bool b):=⟨rfl⟩
instance ZOc.p{p:Option Addr}:ZOc (.pointer p):=⟨rfl⟩
instance ZOc.s{p:Option Addr}{n c:Nat}:ZOc (.slice p n c):=⟨rfl⟩
instance ZOc.m{p:Option Nat}:ZOc (.map p):=⟨rfl⟩
class ZEl(ρ:Env)(xs:List Operand)(vs:outParam (List Value)):Prop where
 h:EvL ρ xs vs
instance ZEl.n{ρ:Env}:ZEl ρ [] []:=⟨trivial⟩
instance ZEl.c{ρ:Env}{x:Operand}{v:Value}{xs:List Operand}{vs:List Value}[h:ZEv (ev ρ x) v][t:ZEl ρ xs vs]:ZEl ρ (x::xs) (v::vs):=⟨h.h,t.h⟩
class ZSl(l:List Value)(o:Nat)(v:Value)(l':outParam (List Value)):Prop where
 h:l.set o v=l'
 b:o<l.length
instance ZSl.z{a v:Value}{l:List Value}:ZSl (a::l) 0 v (v::l):=⟨rfl,Nat.succ_pos _⟩
instance ZSl.s{a v:Value}{l l':List Value}{o:Nat}[h:ZSl l o v l']:ZSl (a::l) (o+1) v (a::l'):=⟨by rw[List.set_cons_succ,h.h],Nat.succ_lt_succ h.b⟩
class ZSg(l:List Value)(o k:Nat)(vs:outParam (List Value)):Prop where
 h:vs.length=k∧Seg l.toArray o vs
instance ZSg.z{l:List Value}{o:Nat}:ZSg l o 0 []:=⟨rfl,trivial⟩
instance ZSg.s{l vs:List Value}{o k:Nat}{v:Value}[h:ZEv (lg l o) v][t:ZSg l (o+1) k vs]:ZSg l o (k+1) (v::vs):=⟨by simp[t.h.1],h.h,t.h.2⟩
abbrev Znth:List Oper→Nat→Option Oper
 | [],_=>none
 | o::_,0=>some o
 | _::l,n+1=>Znth l n
theorem Jx:∀(l:List Oper) (i:Nat),l.toArray[i]?=Znth l i
 | [],_=>by simp[Znth]
 | _::_,0=>by simp[Znth]
 | _::l,n+1=>by have:=Jx l n;simp only[List.getElem?_toArray]at this;simp[Znth,this]
abbrev Zgds(l:List Oper)(g:Nat):Option Nat:=match Znth l g with
 | some o=>o.dst
 | none=>none
theorem Du{l:List Oper}{g t:Nat}(h:Zgds l g=some t):(l.toArray[g]?).bind (·.dst)=some t:=by
 rw[Jx];unfold Zgds at h;cases hn:Znth l g with
 | none=>rw[hn]at h;cases h
 | some o=>rw[hn]at h;exact h
class ZEd(o:Option Nat)(t:outParam Nat):Prop where
 h:o=some t
instance ZEd.i{t:Nat}:ZEd (some t) t:=⟨rfl⟩
class Qnb(o:Option Oper)(v:outParam Oper):Prop where
 h:o=some v
instance Qnb.i{v:Oper}:Qnb (some v) v:=⟨rfl⟩
class ZBw(v:Option Value)(b:outParam Bool):Prop where
 h:v=some (.bool b)
instance ZBw.t:ZBw (some (.bool true)) true:=⟨rfl⟩
instance ZBw.f:ZBw (some (.bool false)) false:=⟨rfl⟩
instance ZBw.n0{α:Type}:ZBw (some (.bool (none:Option α).isNone)) true:=⟨rfl⟩
instance ZBw.n1{α:Type}{x:α}:ZBw (some (.bool (some x).isNone)) false:=⟨rfl⟩
instance ZBw.s0{α:Type}:ZBw (some (.bool (none:Option α).isSome)) false:=⟨rfl⟩
instance ZBw.s1{α:Type}{x:α}:ZBw (some (.bool (some x).isSome)) true:=⟨rfl⟩
instance ZBw.q2{a:Int}{d:Decidable (a≠a)}:ZBw (some (.bool (@decide (a≠a) d))) false:=⟨by simp⟩
instance ZBw.q3{a:Int}{d:Decidable (a<a)}:ZBw (some (.bool (@decide (a<a) d))) false:=⟨by simp⟩
instance Bw.m0{α β:Type}{f:α→β}:ZBw (some (.bool (Option.map f none).isNone)) true:=⟨rfl⟩
instance Bw.m1{α β:Type}{f:α→β}{x:α}:ZBw (some (.bool (Option.map f (some x)).isNone)) false:=⟨rfl⟩
instance Bw.nt{b:Bool}[h:ZBw (some (.bool b)) false]:ZBw (some (.bool (!b))) true:=⟨by have:=h.h;simp at this;simp[this]⟩
instance ZBw.nf{b:Bool}[h:ZBw (some (.bool b)) true]:ZBw (some (.bool (!b))) false:=⟨by have:=h.h;simp at this;simp[this]⟩
abbrev Zt1:List Nat→Nat→Bool
 | [],_=>false
 | x::l,t=>match Nat.beq x t with
  | true=>true
  | false=>Zt1 l t
abbrev Zt2{α:Type}:List (Nat×α)→Nat→Option α
 | [],_=>none
 | (x,c)::l,t=>match Nat.beq x t with
  | true=>some c
  | false=>Zt2 l t
class ZEn{α:Type}(o:Option α)(v:outParam α):Prop where
 h:o=some v
instance ZEn.i{α:Type}{v:α}:ZEn (some v) v:=⟨rfl⟩
theorem Qp2{p:Nat→Bool}{l:List Nat}(h:l.all p=true){t:Nat}(ht:Zt1 l t=true):p t=true:=by
 induction l with
 | nil=>cases ht
 | cons x l ih=>
  simp only[List.all_cons,Bool.and_eq_true]at h;unfold Zt1 at ht
  split at ht
  ·rename_i e;rw[←Nat.eq_of_beq_eq_true e];exact h.1
  ·exact ih h.2 ht
theorem Tk{α:Type}{p:Nat→α→Bool}{l:List (Nat×α)}(h:(l.all fun x=>p x.1 x.2)=true){t:Nat}{c:α}(ht:Zt2 l t=some c):p t c=true:=by
 induction l with
 | nil=>cases ht
 | cons x l ih=>
  simp only[List.all_cons,Bool.and_eq_true]at h;unfold Zt2 at ht
  split at ht
  ·rename_i e;cases ht;rw[←Nat.eq_of_beq_eq_true e];exact h.1
  ·exact ih h.2 ht
abbrev Ztk:Nat→List Nat→List Nat
 | 0,_=>[]
 | _,[]=>[]
 | n+1,x::l=>x::Ztk n l
abbrev Zdp:Nat→List Nat→List Nat
 | 0,l=>l
 | _,[]=>[]
 | n+1,_::l=>Zdp n l
abbrev Zra(a k:Nat):List Nat:=Ztk k (Zdp a [0,1,2,3,4,5,6,7,8,9,10,11,12,13,14,15,16,17,18,19,20,21,22,23,24,25,26,27,28,29,30,31,32,33,34,35,36,37,38,39,40,41,42,43,44,45,46,47,48,49,50,51,52,53,54,55,56,57,58,59,60,61,62,63,64,65,66,67,68,69,70,71,72,73,74,75,76,77,78,79,80,81,82,83,84,85,86,87,88,89,90,91,92,93,94,95,96,97,98,99])
section
variable {P:Program}{B:ZEk}{ks:List ZFr}{i j:Nat}{y:Code}{φ A:Act→World→Prop}
class ZNx(A:Act→World→Prop)(A':outParam (Act→World→Prop)):Prop where
 out:∀a w,A' a w→A a w
instance ZNx.e{e:Exit}:ZNx (ZEx P B [] e) (B e):=⟨fun _ _ h=>⟨h⟩⟩
instance ZNx.ns:ZNx (ZEx P B (.seq y::ks) .normal) (ZCd P B ks y):=⟨fun _ _ h=>⟨h.out⟩⟩
instance ZNx.nt:ZNx (ZEx P B (.top φ::ks) .normal) φ:=⟨fun _ _ h=>⟨h⟩⟩
instance ZNx.nb[h:ZNx (ZEx P B ks .normal) A]:ZNx (ZEx P B (.blk i::ks) .normal) A:=⟨fun a w k=>⟨(h.out a w k).out⟩⟩
instance ZNx.rs[h:ZNx (ZEx P B ks .ret) A]:ZNx (ZEx P B (.seq y::ks) .ret) A:=⟨fun a w k=>⟨(h.out a w k).out⟩⟩
instance ZNx.rt[h:ZNx (ZEx P B ks .ret) A]:ZNx (ZEx P B (.top φ::ks) .ret) A:=⟨fun a w k=>⟨(h.out a w k).out⟩⟩
instance ZNx.rb[h:ZNx (ZEx P B ks .ret) A]:ZNx (ZEx P B (.blk i::ks) .ret) A:=⟨fun a w k=>⟨(h.out a w k).out⟩⟩
instance ZNx.xs[h:ZNx (ZEx P B ks (.exit j)) A]:ZNx (ZEx P B (.seq y::ks) (.exit j)) A:=⟨fun a w k=>⟨(h.out a w k).out⟩⟩
instance ZNx.xt[h:ZNx (ZEx P B ks (.exit j)) A]:ZNx (ZEx P B (.top φ::ks) (.exit j)) A:=⟨fun a w k=>⟨(h.out a w k).out⟩⟩
instance (priority:=high) ZNx.xb[h:ZNx (ZEx P B ks .normal) A]:ZNx (ZEx P B (.blk i::ks) (.exit i)) A:=⟨fun a w k=>⟨by simpa [ZQs,Exit.inBlock] using (h.out a w k).out⟩⟩
instance ZNx.xo[e:ZFf (Zeqb j i)][h:ZNx (ZEx P B ks (.exit j)) A]:ZNx (ZEx P B (.blk i::ks) (.exit j)) A:=⟨fun a w k=>⟨by
 have Uk:j≠i:=fun e'=>by subst e';have:=e.h;simp[Zeqb,Nat.beq_refl]at this
 simpa [ZQs,Exit.inBlock,Uk] using (h.out a w k).out⟩⟩
end
def Qgq(P:Program)(t f:Nat):Option Nat:=match P.underlying t with
 | some (.struct fs)=>match fs[f]? with
  | some x=>if J3 P x.type then some x.offset else none
  | none=>none
 | _=>none
class ZPs(o:Option Value)(p:outParam Addr):Prop where
 h:o=some (.pointer (some p))
instance ZPs.i{p:Addr}:ZPs (some (.pointer (some p))) p:=⟨rfl⟩
instance ZPs.m{α:Type}{f:α→Addr}{q:α}:ZPs (some (.pointer (Option.map f (some q)))) (f q):=⟨rfl⟩
class Qc(P:Program)(n:Nat)(ρ:Env)(Γ:List Assn)(o:Oper)(v:outParam Value):Prop where
 q:Qv P n ρ Γ o v
section
variable {P:Program}{n:Nat}{ρ:Env}{Γ Δ:List Assn}{ty:TypeId}{pos:String}{af:Array Edge}{gd:Option (Nat×Bool)}{ds:Option Tmp}{t yt e:TypeId}{x y c:Operand}{v:Value}{k:IntKind}{p q:Int}{b o:Nat}{cs:Array Value}
instance Qc.move[h:ZEv (ev ρ x) v]:Qc P n ρ Γ ⟨ds,.move x,ty,pos,af,gd⟩ v:=⟨Z8 h.h⟩
instance Qc.assign[h:ZEv (ev ρ x) v]:Qc P n ρ Γ ⟨ds,.assign x,ty,pos,af,gd⟩ v:=⟨Jl h.h⟩
instance Qc.nil{p:Addr}[h:ZPs (ev ρ x) p]:Qc P n ρ Γ ⟨ds,.nilCheck x,ty,pos,af,gd⟩ (.pointer (some p)):=⟨Qlj h.h⟩
instance Qc.field{f m:Nat}[hf:Eo (Mh P t f) (some m)][h:ZEv (ev ρ x) (.pointer (some ⟨b,o,none⟩))]:Qc P n ρ Γ ⟨ds,.fieldAddr t x f,ty,pos,af,gd⟩ (.pointer (some ⟨b,o+m,none⟩)):=⟨Qod hf.h h.h⟩
instance Qc.Zlq{f m:Nat}{vs:Array Value}[hf:Eo (Qgq P t f) (some m)][h:ZEv (ev ρ x) (.agg vs)][hv:ZEv (lg vs.toList m) v]:Qc P n ρ Γ ⟨ds,.field t x f,ty,pos,af,gd⟩ v:=⟨by
 have h1:=hf.h;unfold Qgq at h1
 split at h1
 ·rename_i fs Sj
  split at h1
  ·rename_i fd hfd
   split at h1
   ·rename_i ha;cases h1;exact Quv Sj hfd ha h.h (Qf9 hv.h)
   ·cases h1
  ·cases h1
 ·cases h1⟩
instance Qc.load[ht:Eo (J3 P t) true][h:ZEv (ev ρ x) (.pointer (some ⟨b,o,none⟩))][hb:Et Γ b e cs Δ][hv:ZEv (lg cs.toList o) v]:Qc P n ρ Γ ⟨ds,.load t x,ty,pos,af,gd⟩ v:=⟨Kx ht.h h.h hv.h⟩
instance Qc.Zhi{m:Nat}{vs:List Value}[ht:Eo (Mp P t) (some m)][h:ZEv (ev ρ x) (.pointer (some ⟨b,o,none⟩))][hb:Et Γ b e cs Δ][hv:ZSg cs.toList o m vs]:Qc P n ρ Γ ⟨ds,.load t x,ty,pos,af,gd⟩ (.agg vs.toArray):=⟨Qfq vs ht.h h.h hv.h.1 hv.h.2⟩
instance Qc.eq[h:ZEv (ev ρ x) (.int k p)][g:ZEv (ev ρ y) (.int k q)]:Qc P n ρ Γ ⟨ds,.binOp .eql t x y yt,ty,pos,af,gd⟩ (.bool (decide (p=q))):=⟨Zek h.h g.h⟩
instance Qc.ne[h:ZEv (ev ρ x) (.int k p)][g:ZEv (ev ρ y) (.int k q)]:Qc P n ρ Γ ⟨ds,.binOp .neq t x y yt,ty,pos,af,gd⟩ (.bool (decide (p≠q))):=⟨Zah h.h g.h⟩
instance Qc.lt[h:ZEv (ev ρ x) (.int k p)][g:ZEv (ev ρ y) (.int k q)]:Qc P n ρ Γ ⟨ds,.binOp .lss t x y yt,ty,pos,af,gd⟩ (.bool (decide (p<q))):=⟨Zeg h.h g.h⟩
instance Qc.le[h:ZEv (ev ρ x) (.int k p)][g:ZEv (ev ρ y) (.int k q)]:Qc P n ρ Γ ⟨ds,.binOp .leq t x y yt,ty,pos,af,gd⟩ (.bool (decide (p≤q))):=⟨Zeh h.h g.h⟩
instance Qc.gt[h:ZEv (ev ρ x) (.int k p)][g:ZEv (ev ρ y) (.int k q)]:Qc P n ρ Γ ⟨ds,.binOp .gtr t x y yt,ty,pos,af,gd⟩ (.bool (decide (q<p))):=⟨Zei h.h g.h⟩
instance Qc.ge[h:ZEv (ev ρ x) (.int k p)][g:ZEv (ev ρ y) (.int k q)]:Qc P n ρ Γ ⟨ds,.binOp .geq t x y yt,ty,pos,af,gd⟩ (.bool (decide (q≤p))):=⟨Zej h.h g.h⟩
instance Qc.neB{p q:Bool}[ht:Eo (P.underlying t) (some .bool)][h:ZEv (ev ρ x) (.bool p)][g:ZEv (ev ρ y) (.bool q)]:Qc P n ρ Γ ⟨ds,.binOp .neq t x y yt,ty,pos,af,gd⟩ (.bool (p != q)):=⟨Zag ht.h h.h g.h⟩
instance Qc.eqN{p:Option Addr}[ht:Eo (P.underlying t) (some (.pointer e))][h:ZEv (ev ρ x) (.pointer p)][g:ZEv (ev ρ y) (.pointer none)]:Qc P n ρ Γ ⟨ds,.binOp .eql t x y yt,ty,pos,af,gd⟩ (.bool p.isNone):=⟨Zaj ht.h h.h g.h⟩
instance Qc.neN{p:Option Addr}[ht:Eo (P.underlying t) (some (.pointer e))][h:ZEv (ev ρ x) (.pointer p)][g:ZEv (ev ρ y) (.pointer none)]:Qc P n ρ Γ ⟨ds,.binOp .neq t x y yt,ty,pos,af,gd⟩ (.bool (!p.isNone)):=⟨Zaf ht.h h.h g.h⟩
instance Qc.eqS{p:Option Addr}{l c l' c':Nat}[ht:Eo (P.underlying t) (some (.slice e))][h:ZEv (ev ρ x) (.slice p l c)][g:ZEv (ev ρ y) (.slice none l' c')]:Qc P n ρ Γ ⟨ds,.binOp .eql t x y yt,ty,pos,af,gd⟩ (.bool p.isNone):=⟨Q6r ht.h h.h g.h⟩
instance Qc.not{q:Bool}[h:ZEv (ev ρ x) (.bool q)]:Qc P n ρ Γ ⟨ds,.unOp .not t x,ty,pos,af,gd⟩ (.bool (!q)):=⟨Qob h.h⟩
instance Qc.ext{vs:Array Value}{i:Nat}[h:ZEv (ev ρ x) (.tuple vs)][g:ZEv (lg vs.toList i) v]:Qc P n ρ Γ ⟨ds,.extract x i,ty,pos,af,gd⟩ v:=⟨J8 h.h g.h⟩
instance Qc.Zhg[h:ZBw (ev ρ c) true][g:ZEv (ev ρ x) v]:Qc P n ρ Γ ⟨ds,.pick c x y,ty,pos,af,gd⟩ v:=⟨Q00 h.h rfl g.h⟩
instance Qc.Zhh[h:ZBw (ev ρ c) false][g:ZEv (ev ρ y) v]:Qc P n ρ Γ ⟨ds,.pick c x y,ty,pos,af,gd⟩ v:=⟨Q01 h.h rfl g.h⟩
instance Qc.len{p:Option Addr}{l c:Nat}[ht:Eo (P.underlying t) (some (.slice e))][h:ZEv (ev ρ x) (.slice p l c)]:Qc P n ρ Γ ⟨ds,.call {callee:=.builtin .len,args:=#[x],argTypes:=#[t]},ty,pos,af,gd⟩ (.int .i64 l):=⟨Zai ht.h h.h⟩
instance Qc.Zi3{kt et:TypeId}{kk:IntKind}{l:List (Int×Value)}[ht:Eo (P.underlying t) (some (.map kt et))][h:ZEv (ev ρ x) (.map (some b))][g:C9 Γ b kk l Δ]:Qc P n ρ Γ ⟨ds,.call {callee:=.builtin .len,args:=#[x],argTypes:=#[t]},ty,pos,af,gd⟩ (.int .i64 l.length):=⟨Q6p ht.h h.h⟩
instance Qc.func{fn:Fn}{fs xs:List Operand}{vs us:List Value}[h:ZEl ρ fs vs][g:ZEl ρ xs us]:Qc P n ρ Γ ⟨ds,.makeFunc fn fs.toArray xs.toArray,ty,pos,af,gd⟩ (.func fn vs.toArray us.toArray):=⟨Qaq h.h g.h⟩
end
class Yc{md:Bool}(n:Nat)(w0:WM md)(ρ:Env)(Γ:List Assn)(φ:Act→World→Prop)(ρ':outParam Env)(Γ':outParam (List Assn))(φ':outParam (Act→World→Prop)):Prop where
 go:S n w0 ρ' Γ' φ'→S n w0 ρ Γ φ
section
variable {P:Program}{n:Nat}{md:Bool}{w0:WM md}{ρ ρ':Env}{Γ Γ' Δ:List Assn}{φ φ' A:Act→World→Prop}{B:ZEk}{ks:List ZFr}{ops rest l:List Oper}{op:Op}{ty:TypeId}{pos:String}{af:Array Edge}{d i g t:Nat}{c x y:Code}{z z':Operand}{v:Value}{b want:Bool}{o:Oper}
theorem Zy[h:Yc n w0 ρ Γ φ ρ' Γ' φ'](k:S n w0 ρ' Γ' φ'):S n w0 ρ Γ φ:=h.go k
theorem ZS(k:S n w0 ρ Γ (ZCd P B [] c)):S n w0 ρ Γ (c.wp P B):=k.mono fun _ _ h=>h.out
theorem S.nx[h:ZNx φ A](k:S n w0 ρ Γ A):S n w0 ρ Γ φ:=k.mono h.out
theorem S.cd(k:S n w0 ρ Γ (c.wp P (ZQs P B ks))):S n w0 ρ Γ (ZCd P B ks c):=k.mono fun _ _ h=>⟨h⟩
theorem S.un(k:S n w0 ρ Γ (ZCd P B ks c)):S n w0 ρ Γ (c.wp P (ZQs P B ks)):=k.mono fun _ _ h=>h.out
theorem S.Zab{Q:ZEk}(h:S n w0 ρ Γ (x.wp P (Exit.then (y.wp P Q) Q))):S n w0 ρ Γ ((Code.seq x y).wp P Q):=fun a w ha hs hx=>wp_seq (h a w ha hs hx)
instance Yc.seq:Yc n w0 ρ Γ (ZCd P B ks (.seq x y)) ρ Γ (ZCd P B (.seq y::ks) x):=⟨fun h=>S.cd (S.Zab (h.mono fun _ _ h=>h.out))⟩
instance Yc.region{id:Nat}:Yc n w0 ρ Γ (ZCd P B ks (.region id l.toArray false)) ρ Γ (ZOl P B ks l l):=⟨fun h=>S.cd (S.Q0r (h.mono fun _ _ h=>h.out))⟩
instance Yc.skip[h:ZNx (ZEx P B ks .normal) A]:Yc n w0 ρ Γ (ZCd P B ks .skip) ρ Γ A:=⟨fun k=>S.cd (S.skip ((S.nx (φ:=ZEx P B ks .normal) k).mono fun _ _ h=>h.out))⟩
instance Yc.ret[h:ZNx (ZEx P B ks .ret) A]:Yc n w0 ρ Γ (ZCd P B ks .ret) ρ Γ A:=⟨fun k=>S.cd (S.ret ((S.nx (φ:=ZEx P B ks .ret) k).mono fun _ _ h=>h.out))⟩
instance Yc.exit[h:ZNx (ZEx P B ks (.exit i)) A]:Yc n w0 ρ Γ (ZCd P B ks (.exit i)) ρ Γ A:=⟨fun k=>S.cd (S.exit ((S.nx (φ:=ZEx P B ks (.exit i)) k).mono fun _ _ h=>h.out))⟩
instance Yc.block:Yc n w0 ρ Γ (ZCd P B ks (.block i c)) ρ Γ (ZCd P B (.blk i::ks) c):=⟨fun h=>S.cd (S.block (h.mono fun _ _ h=>h.out))⟩
instance Yc.Qjz[h:ZBw (ev ρ z) true]:Yc n w0 ρ Γ (ZCd P B ks (.cond z x y)) ρ Γ (ZCd P B ks x):=⟨fun k=>S.cd (S.Qjz h.h k.un)⟩
instance Yc.R2[h:ZBw (ev ρ z) false]:Yc n w0 ρ Γ (ZCd P B ks (.cond z x y)) ρ Γ (ZCd P B ks y):=⟨fun k=>S.cd (S.R2 h.h k.un)⟩
instance Yc.nil[h:ZNx (ZEx P B ks .normal) A]:Yc n w0 ρ Γ (ZOl P B ks ops []) ρ Γ A:=⟨fun k=>(S.nx (φ:=ZEx P B ks .normal) k).mono fun _ _ h=>⟨h.out⟩⟩
theorem Zp(h:S n w0 ρ Γ (Ow P (ZQs P B ks) o (ZOl P B ks ops rest)))(hg:o.guard=none:=by rfl):S n w0 ρ Γ (ZOl P B ks ops (o::rest)):=
 (S.Zg7 (ops:=ops.toArray) hg (h.mono fun _ _ h=>Oper.wp_mono (fun _ _ h=>h.out) h)).mono fun _ _ h=>⟨h⟩
theorem Zg{ds:Option Tmp}(hd:Zgds ops g=some t)(hb:Env.get ρ t=some (.bool b))(hw:b=want)(h:S n w0 ρ Γ (Ow P (ZQs P B ks) ⟨ds,op,ty,pos,af,some (g,want)⟩ (ZOl P B ks ops rest))):S n w0 ρ Γ (ZOl P B ks ops (⟨ds,op,ty,pos,af,some (g,want)⟩::rest)):=
 (S.Zcs (ops:=ops.toArray) rfl (Du hd) hb hw (h.mono fun _ _ h=>Oper.wp_mono (fun _ _ h=>h.out) h)).mono fun _ _ h=>⟨h⟩
theorem Zn(hd:Zgds ops g=some t)(hb:Env.get ρ t=some (.bool b))(hw:b=!want)(h:S n w0 ((d,undef)::ρ) Γ (ZOl P B ks ops rest))(hn:Nat.blt d n=true:=by rfl):S n w0 ρ Γ (ZOl P B ks ops (⟨some d,op,ty,pos,af,some (g,want)⟩::rest)):=
 (S.Zg8 (ops:=ops.toArray) rfl (Du hd) hb hw rfl hn (h.mono fun _ _ h=>h.out)).mono fun _ _ h=>⟨h⟩
theorem Zv(hy:Qv P n ρ Γ ⟨some d,op,ty,pos,af,none⟩ v)(k:S n w0 ((d,v)::ρ) Γ (ZOl P B ks ops rest))(hn:Nat.blt d n=true:=by rfl):S n w0 ρ Γ (ZOl P B ks ops (⟨some d,op,ty,pos,af,none⟩::rest)):=Zp (S.q hy rfl hn k)
theorem Zvg(hd:Zgds ops g=some t)(hb:Env.get ρ t=some (.bool b))(hw:b=want)(hy:Qv P n ρ Γ ⟨some d,op,ty,pos,af,some (g,want)⟩ v)(k:S n w0 ((d,v)::ρ) Γ (ZOl P B ks ops rest))(hn:Nat.blt d n=true:=by rfl):S n w0 ρ Γ (ZOl P B ks ops (⟨some d,op,ty,pos,af,some (g,want)⟩::rest)):=Zg hd hb hw (S.q hy rfl hn k)
instance Yc.q[h:Qc P n ρ Γ ⟨some d,op,ty,pos,af,none⟩ v][hn:ZLb d n]:Yc n w0 ρ Γ (ZOl P B ks ops (⟨some d,op,ty,pos,af,none⟩::rest)) ((d,v)::ρ) Γ (ZOl P B ks ops rest):=⟨fun k=>Zp (S.q h.q rfl hn.h k)⟩
instance Yc.gy[hd:ZEd (Zgds ops g) t][hb:ZBw (Env.get ρ t) want][h:Qc P n ρ Γ ⟨some d,op,ty,pos,af,some (g,want)⟩ v][hn:ZLb d n]:Yc n w0 ρ Γ (ZOl P B ks ops (⟨some d,op,ty,pos,af,some (g,want)⟩::rest)) ((d,v)::ρ) Γ (ZOl P B ks ops rest):=⟨fun k=>Zg hd.h hb.h rfl (S.q h.q rfl hn.h k)⟩
instance Yc.gnT[hd:ZEd (Zgds ops g) t][hb:ZBw (Env.get ρ t) true][hn:ZLb d n]:Yc n w0 ρ Γ (ZOl P B ks ops (⟨some d,op,ty,pos,af,some (g,false)⟩::rest)) ((d,undef)::ρ) Γ (ZOl P B ks ops rest):=⟨fun k=>Zn hd.h hb.h rfl k hn.h⟩
instance Yc.gnF[hd:ZEd (Zgds ops g) t][hb:ZBw (Env.get ρ t) false][hn:ZLb d n]:Yc n w0 ρ Γ (ZOl P B ks ops (⟨some d,op,ty,pos,af,some (g,true)⟩::rest)) ((d,undef)::ρ) Γ (ZOl P B ks ops rest):=⟨fun k=>Zn hd.h hb.h rfl k hn.h⟩
instance Yc.gnU[hd:ZEd (Zgds ops g) t][hb:ZEv (Env.get ρ t) undef][hn:ZLb d n]:Yc n w0 ρ Γ (ZOl P B ks ops (⟨some d,op,ty,pos,af,some (g,want)⟩::rest)) ((d,undef)::ρ) Γ (ZOl P B ks ops rest):=⟨fun k=>(S.Zct (ops:=ops.toArray) rfl (Du hd.h) hb.h rfl hn.h (k.mono fun _ _ h=>h.out)).mono fun _ _ h=>⟨h⟩⟩
instance Yc.store{bl a:Nat}{e ts:TypeId}{cs:List Value}{cs':List Value}[ht:Eo (J3 P ts) true][hx:ZEv (ev ρ z) (.pointer (some ⟨bl,a,none⟩))][hy:ZEv (ev ρ z') v][hv:ZOc v][hb:Et Γ bl e cs.toArray Δ][hs:ZSl cs a v cs']:Yc n w0 ρ Γ (ZOl P B ks ops (⟨none,.store ts z z',ty,pos,af,none⟩::rest)) ρ (blk bl e cs'.toArray::Δ) (ZOl P B ks ops rest):=
 ⟨fun k=>Zp (S.store ht.h hx.h hy.h hv.h (by have:=hs.b;simp[Nat.blt];omega) hs.h k)⟩
theorem Zi(hc:ev ρ z=some (.bool b))(h1:b=true→S n w0 ρ Γ (ZCd P B ks x))(h2:b=false→S n w0 ρ Γ (ZCd P B ks y)):S n w0 ρ Γ (ZCd P B ks (.cond z x y)):=S.cd (S.cond hc (fun e=>(h1 e).un) (fun e=>(h2 e).un))
theorem Zj{p:Prop}[dp:Decidable p](hc:ev ρ z=some (.bool (decide p)))(h1:p→S n w0 ρ Γ (ZCd P B ks x))(h2:¬p→S n w0 ρ Γ (ZCd P B ks y)):S n w0 ρ Γ (ZCd P B ks (.cond z x y)):=S.cd (S.Q5s hc (fun e=>(h1 e).un) (fun e=>(h2 e).un))
theorem ZT(hc:ev ρ z=some (.bool true))(k:S n w0 ρ Γ (ZCd P B ks x)):S n w0 ρ Γ (ZCd P B ks (.cond z x y)):=S.cd (S.Qjz hc k.un)
theorem ZF(hc:ev ρ z=some (.bool false))(k:S n w0 ρ Γ (ZCd P B ks y)):S n w0 ρ Γ (ZCd P B ks (.cond z x y)):=S.cd (S.R2 hc k.un)
theorem Zc(I:Env→List Assn→Prop)[hx:ZNx (ZEx P B ks .normal) A](h:S n w0 ρ Γ (ZCd P B (.top (Cut n w0 I)::ks) c))(k:∀ρ Γ,I ρ Γ→S n w0 ρ Γ A):S n w0 ρ Γ (ZCd P B ks c):=by
 intro a w ha hs he;refine⟨Code.wp_mono (fun e a w hq=>?_) (h a w ha hs he).out⟩;cases e with
 | normal=>obtain⟨ρ,Γ,hI,h1,h2,h3⟩:=hq;exact(hx.out _ _ (k ρ Γ hI a w h1 h2 h3)).out
 | _=>exact hq
theorem Zl(I:Nat→Env→List Assn→Prop){m:Nat}{ρ0:Env}{Γ0:List Assn}(h0:I m ρ0 Γ0)(round:∀m ρ Γ,I m ρ Γ→S n w0 ρ Γ (ZCd P B (.top (Next n w0 I m)::ks) c))[hs:Sub Γ0 Γ](hρ:Fy ρ0 ρ:=by repeat (first|exact trivial|refine⟨rfl,?_⟩)):S n w0 ρ Γ (ZCd P B ks (.loop c)):=
 S.cd (S.loop I h0 hρ hs.Qh fun m ρ Γ h=>(round m ρ Γ h).un)
theorem ZM{I:Env→List Assn→Prop}{ρ':Env}{Γ':List Assn}(hI:I ρ' Γ')[hΓ:Sub Γ' Γ](hρ:Fy ρ' ρ:=by repeat (first|exact trivial|refine⟨rfl,?_⟩)):S n w0 ρ Γ (Cut n w0 I):=S.meet hI hρ hΓ.Qh
theorem ZX{I:Nat→Env→List Assn→Prop}{m:Nat}(m':Nat){ρ':Env}{Γ':List Assn}(hI:I m' ρ' Γ')(hm:m' < m)[hΓ:Sub Γ' Γ](hρ:Fy ρ' ρ:=by repeat (first|exact trivial|refine⟨rfl,?_⟩)):S n w0 ρ Γ (Next n w0 I m):=S.next m' hI hm hρ hΓ.Qh
def Zdsc(ops:Array Oper)(listed:Array Bool)(i:Nat):List Nat:=
 (List.range ops.size).foldl (fun acc j=>if listed.getD j false then acc else match ops[j]? with
  | none=>acc
  | some o=>if o.after.any fun e=>Region.binds .any e&&(e.on==i || acc.contains e.on) then acc++[j] else acc) []
def Lu(ops:Array Oper)(late:List Nat):Nat→Array Bool→List Nat→Bool
 | _,_,[]=>true
 | 0,_,_::_=>false
 | f+1,listed,i::is=>Fp ops listed i late (Zdsc ops listed i)&&Lu ops late f (listed.setIfInBounds i true) is
structure ZDq(P:Program)(B:ZEk)(ks:List ZFr)(ops:List Oper)(Hs:List Assn)(late:List Nat)(f:Nat)(listed:Array Bool)(is:List Nat)(a:Act)(w:World):Prop where
 out:Lu ops.toArray late f listed is=true→Dr P ops.toArray (ZQs P B ks) Hs late f listed a w
section
variable {Hs:List Assn}{late is:List Nat}{f f':Nat}{listed:Array Bool}
theorem Zd{id:Nat}(Hs:List Assn)(late is:List Nat)(k:S n w0 ρ Γ (ZDq P B ks l Hs late l.toArray.size (Array.replicate l.toArray.size false) is))[hm:Eo (P.follows .mixedOrders) true](hok:Lu l.toArray late l.toArray.size (Array.replicate l.toArray.size false) is=true:=by kernel_rfl):S n w0 ρ Γ (ZCd P B ks (.region id l.toArray true)):=
 S.cd (S.draw Hs late hm.h (k.mono fun _ _ h=>h.out hok))
theorem Zr(is:List Nat)(k:S n w0 ρ Γ (ZDq P B ks ops Hs late f listed is))(hok:Lu ops.toArray late f listed is=true:=by kernel_rfl):S n w0 ρ Γ (ZDq P B ks ops Hs late f listed []):=k.mono fun _ _ h=>⟨fun _=>h.out hok⟩
theorem ZDq.take(h:∀f',Fp ops.toArray listed i late (Zdsc ops.toArray listed i)=true→S n w0 ρ' Γ' (Dr P ops.toArray (ZQs P B ks) Hs late f' (listed.setIfInBounds i true))→S n w0 ρ Γ (Dr P ops.toArray (ZQs P B ks) Hs late (f'+1) listed))(k:S n w0 ρ' Γ' (ZDq P B ks ops Hs late (f-1) (listed.setIfInBounds i true) is)):S n w0 ρ Γ (ZDq P B ks ops Hs late f listed (i::is)):=by
 intro a w ha hs hx;refine⟨fun hok=>?_⟩;cases f with
 | zero=>cases hok
 | succ f=>
  simp only[Lu,Bool.and_eq_true]at hok;exact h f hok.1 (k.mono fun _ _ h=>h.out hok.2) a w ha hs hx
theorem Zw(hi:Znth ops i=some ⟨some d,op,ty,pos,af,none⟩)(hy:Qv P n ρ Hs ⟨some d,op,ty,pos,af,none⟩ v)(k:S n w0 ((d,v)::ρ) Γ (ZDq P B ks ops Hs late (f-1) (listed.setIfInBounds i true) is))[hs:Sub Hs Γ](hn:Nat.blt d n=true:=by rfl):S n w0 ρ Γ (ZDq P B ks ops Hs late f listed (i::is)):=
 ZDq.take (fun _ hok k=>S.Q3g i _ ((Jx _ _).trans hi) hok rfl rfl hn hy hs.Qh k) k
theorem Zwg(hi:Znth ops i=some ⟨some d,op,ty,pos,af,some (g,want)⟩)(hd:Zgds ops g=some t)(hb:Env.get ρ t=some (.bool b))(hw:b=want)(hy:Qv P n ρ Hs ⟨some d,op,ty,pos,af,some (g,want)⟩ v)(k:S n w0 ((d,v)::ρ) Γ (ZDq P B ks ops Hs late (f-1) (listed.setIfInBounds i true) is))[hs:Sub Hs Γ](hn:Nat.blt d n=true:=by rfl):S n w0 ρ Γ (ZDq P B ks ops Hs late f listed (i::is)):=
 ZDq.take (fun _ hok k=>S.Qxy i _ ((Jx _ _).trans hi) hok rfl (Du hd) hb hw rfl hn hy hs.Qh k) k
theorem Zwn(hi:Znth ops i=some ⟨some d,op,ty,pos,af,some (g,want)⟩)(hd:Zgds ops g=some t)(hb:Env.get ρ t=some (.bool b))(hw:b=!want)(k:S n w0 ((d,undef)::ρ) Γ (ZDq P B ks ops Hs late (f-1) (listed.setIfInBounds i true) is))[hs:Sub Hs Γ](hn:Nat.blt d n=true:=by rfl):S n w0 ρ Γ (ZDq P B ks ops Hs late f listed (i::is)):=
 ZDq.take (fun _ hok k=>S.Qx0 i _ ((Jx _ _).trans hi) hok rfl (Du hd) hb hw rfl hn hs.Qh k) k
instance Yc.d0[hi:Qnb (Znth ops i) ⟨some d,op,ty,pos,af,none⟩][h:Qc P n ρ Hs ⟨some d,op,ty,pos,af,none⟩ v][hs:Sub Hs Γ][hn:ZLb d n]:Yc n w0 ρ Γ (ZDq P B ks ops Hs late f listed (i::is)) ((d,v)::ρ) Γ (ZDq P B ks ops Hs late (f-1) (listed.setIfInBounds i true) is):=⟨fun k=>Zw hi.h h.q k hn.h⟩
instance Yc.dy[hi:Qnb (Znth ops i) ⟨some d,op,ty,pos,af,some (g,want)⟩][hd:ZEd (Zgds ops g) t][hb:ZBw (Env.get ρ t) want][h:Qc P n ρ Hs ⟨some d,op,ty,pos,af,some (g,want)⟩ v][hs:Sub Hs Γ][hn:ZLb d n]:Yc n w0 ρ Γ (ZDq P B ks ops Hs late f listed (i::is)) ((d,v)::ρ) Γ (ZDq P B ks ops Hs late (f-1) (listed.setIfInBounds i true) is):=⟨fun k=>Zwg hi.h hd.h hb.h rfl h.q k hn.h⟩
instance Yc.dT[hi:Qnb (Znth ops i) ⟨some d,op,ty,pos,af,some (g,false)⟩][hd:ZEd (Zgds ops g) t][hb:ZBw (Env.get ρ t) true][hs:Sub Hs Γ][hn:ZLb d n]:Yc n w0 ρ Γ (ZDq P B ks ops Hs late f listed (i::is)) ((d,undef)::ρ) Γ (ZDq P B ks ops Hs late (f-1) (listed.setIfInBounds i true) is):=⟨fun k=>Zwn hi.h hd.h hb.h rfl k hn.h⟩
instance Yc.dF[hi:Qnb (Znth ops i) ⟨some d,op,ty,pos,af,some (g,true)⟩][hd:ZEd (Zgds ops g) t][hb:ZBw (Env.get ρ t) false][hs:Sub Hs Γ][hn:ZLb d n]:Yc n w0 ρ Γ (ZDq P B ks ops Hs late f listed (i::is)) ((d,undef)::ρ) Γ (ZDq P B ks ops Hs late (f-1) (listed.setIfInBounds i true) is):=⟨fun k=>Zwn hi.h hd.h hb.h rfl k hn.h⟩
instance Yc.dU[hi:Qnb (Znth ops i) ⟨some d,op,ty,pos,af,some (g,want)⟩][hd:ZEd (Zgds ops g) t][hb:ZEv (Env.get ρ t) undef][hs:Sub Hs Γ][hn:ZLb d n]:Yc n w0 ρ Γ (ZDq P B ks ops Hs late f listed (i::is)) ((d,undef)::ρ) Γ (ZDq P B ks ops Hs late (f-1) (listed.setIfInBounds i true) is):=
 ⟨fun k=>ZDq.take (fun _ hok k=>S.Qr9 i _ ((Jx _ _).trans hi.h) hok rfl (Du hd.h) hb.h rfl hn.h hs.Qh k) k⟩
theorem ZD[hx:ZNx (ZEx P B ks .normal) A](k:S n w0 ρ Γ A)(hr:Region.ready .any ops.toArray listed=[]:=by kernel_rfl):S n w0 ρ Γ (ZDq P B ks ops Hs late f listed []):=
 (S.Q3i (Q:=ZQs P B ks) hr ((S.nx (φ:=ZEx P B ks .normal) k).mono fun _ _ h=>h.out)).mono fun _ _ h=>⟨fun _=>h⟩
theorem ZP(i:Nat)(is:List Nat)(hi:Znth ops i=some o)(hy:Qv P n ρ [] o v)(hf:f=f'+1)(k:S n w0 ((d,v)::ρ) Γ (ZDq P B ks ops Hs late f' (listed.setIfInBounds i true) is))[hs:Sub Hs Γ](hd:o.dst=some d:=by rfl)(hok:Qe7 ops.toArray listed i late=true:=by kernel_rfl)(Sh:Lu ops.toArray late f' (listed.setIfInBounds i true) is=true:=by kernel_rfl)(hg:o.guard=none:=by rfl)(hn:Nat.blt d n=true:=by rfl):S n w0 ρ Γ (ZDq P B ks ops Hs late f listed []):=by
 subst hf;exact(S.Qxz i ((Jx _ _).trans hi) hok hg hd hn hy hs.Qh (k.mono fun _ _ h=>h.out Sh)).mono fun _ _ h=>⟨fun _=>h⟩
theorem Z1(hi:Znth ops i=some o)(hf:f=f'+1)(h:S n w0 ρ Γ (Ow P (NoPanic (ZQs P B ks)) o (DrK P ops.toArray (ZQs P B ks) Hs late f' listed i)))(hr:Region.ready .any ops.toArray listed=[i]:=by kernel_rfl)(hg:o.guard=none:=by rfl):S n w0 ρ Γ (ZDq P B ks ops Hs late f listed []):=by
 subst hf;exact(S.Zhc hr ((Jx _ _).trans hi) hg h).mono fun _ _ h=>⟨fun _=>h⟩
theorem Z1g(hi:Znth ops i=some o)(hf:f=f'+1)(hg:o.guard=some (g,want))(hd:Zgds ops g=some t)(hb:Env.get ρ t=some (.bool b))(hw:b=want)(h:S n w0 ρ Γ (Ow P (NoPanic (ZQs P B ks)) o (DrK P ops.toArray (ZQs P B ks) Hs late f' listed i)))(hr:Region.ready .any ops.toArray listed=[i]:=by kernel_rfl):S n w0 ρ Γ (ZDq P B ks ops Hs late f listed []):=by
 subst hf;exact(S.Zcv hr ((Jx _ _).trans hi) hg (Du hd) hb hw h).mono fun _ _ h=>⟨fun _=>h⟩
theorem Z2{i j:Nat}{o p:Oper}(hi:Znth ops i=some o)(hj:Znth ops j=some p)(hf:f=f'+1)(h1:S n w0 ρ Γ (Ow P (NoPanic (ZQs P B ks)) o (DrK P ops.toArray (ZQs P B ks) Hs late f' listed i)))(h2:S n w0 ρ Γ (Ow P (NoPanic (ZQs P B ks)) p (DrK P ops.toArray (ZQs P B ks) Hs late f' listed j)))(hr:Region.ready .any ops.toArray listed=[i,j]:=by kernel_rfl)(hg:o.guard=none:=by rfl)(hg':p.guard=none:=by rfl):S n w0 ρ Γ (ZDq P B ks ops Hs late f listed []):=by
 subst hf;exact(S.Zhb hr ((Jx _ _).trans hi) hg ((Jx _ _).trans hj) hg' h1 h2).mono fun _ _ h=>⟨fun _=>h⟩
theorem Zk(is:List Nat)(k:S n w0 ρ Γ (ZDq P B ks ops Hs late f (listed.setIfInBounds i true) is))[hs:Sub Hs Γ](hl:late.contains i=false:=by rfl)(hok:Lu ops.toArray late f (listed.setIfInBounds i true) is=true:=by kernel_rfl):S n w0 ρ Γ (DrK P ops.toArray (ZQs P B ks) Hs late f listed i):=S.Zha hl hs.Qh (k.mono fun _ _ h=>h.out hok)
theorem ZL(Hs':List Assn)(is:List Nat)(k:S n w0 ρ Γ (ZDq P B ks ops Hs' [] f (listed.setIfInBounds i true) is))(hl:late.contains i=true:=by rfl)(hok:Lu ops.toArray [] f (listed.setIfInBounds i true) is=true:=by kernel_rfl):S n w0 ρ Γ (DrK P ops.toArray (ZQs P B ks) Hs late f listed i):=S.Q3h Hs' [] hl (k.mono fun _ _ h=>h.out hok)
end
class ZYn{md:Bool}(k n:Nat)(w0:WM md)(ρ:Env)(Γ:List Assn)(φ:Act→World→Prop)(ρ':outParam Env)(Γ':outParam (List Assn))(φ':outParam (Act→World→Prop)):Prop where
 go:S n w0 ρ' Γ' φ'→S n w0 ρ Γ φ
instance ZYn.i0:ZYn 0 n w0 ρ Γ φ ρ Γ φ:=⟨fun h=>h⟩
instance ZYn.i1{k:Nat}{ρ2:Env}{Γ2:List Assn}{φ2:Act→World→Prop}[h:Yc n w0 ρ Γ φ ρ' Γ' φ'][g:ZYn k n w0 ρ' Γ' φ' ρ2 Γ2 φ2]:ZYn (k+1) n w0 ρ Γ φ ρ2 Γ2 φ2:=⟨fun k=>h.go (g.go k)⟩
theorem ZY(m:Nat)[h:ZYn m n w0 ρ Γ φ ρ' Γ' φ'](k:S n w0 ρ' Γ' φ'):S n w0 ρ Γ φ:=h.go k
theorem Ze{xs:List Operand}{vs:List Value}[h:ZEl ρ xs vs]:EvL ρ xs vs:=h.h
class ZRl(P:Program)(ρ:Env)(Γ:List Assn)(rs:List ResultVar)(vs:outParam (List Value)):Prop where
 h:Lw P ρ Γ rs vs
instance ZRl.i0:ZRl P ρ Γ [] []:=⟨trivial⟩
instance ZRl.i1{rs:List ResultVar}{vs:List Value}[h:ZEv (Env.get ρ t) v][g:ZRl P ρ Γ rs vs]:ZRl P ρ Γ (.tmp t::rs) (v::vs):=⟨h.h,g.h⟩
instance ZRl.i3{rs:List ResultVar}{us vs:List Value}{bl a e ts m:Nat}{cs:Array Value}[h:ZEv (Env.get ρ t) (.pointer (some ⟨bl,a,none⟩))][ht:Eo (Mp P ts) (some m)][hb:Et Γ bl e cs Δ][hv:ZSg cs.toList a m us][g:ZRl P ρ Γ rs vs]:ZRl P ρ Γ (.cell t ts::rs) (.agg us.toArray::vs):=⟨⟨_,_,h.h,Q1v us ht.h hv.h.1 hv.h.2⟩,g.h⟩
theorem Zq{rs:List ResultVar}{vs:List Value}[h:ZRl P ρ Γ rs vs]:Lw P ρ Γ rs vs:=h.h
theorem Zf{fn:Func}{post:List Assn→Value→List Assn→Prop}{Γf Θ:List Assn}{rs:List ResultVar}{vs:List Value}(hr:fn.results=rs.toArray)(hl:Lw P ρ Γ rs vs)(hp:post Γf (X2 vs) Θ)[he:Sub Θ Γ]:S n w0 ρ Γ (Fin P fn post Γf w0 .ret):=S.fin hr hl hp he.Qh
theorem Zfn{fn:Func}{post:List Assn→Value→List Assn→Prop}{Γf Θ:List Assn}{rs:List ResultVar}{vs:List Value}(hr:fn.results=rs.toArray)(hl:Lw P ρ Γ rs vs)(hp:post Γf (X2 vs) Θ)[he:Sub Θ Γ]:S n w0 ρ Γ (Fin P fn post Γf w0 .normal):=S.Zg9 hr hl hp he.Qh
theorem S.now(hb:Env.get ρ t=some (.bool b))(hw:b=want)(k:S n w0 ((t,.bool want)::ρ) Γ φ):S n w0 ρ Γ φ:=fun a w ha hs hx=>k a w ⟨ha.size,ha.defers,fun s v hv=>by
 unfold Env.get at hv
 split at hv
 ·rename_i e;cases hv;rw[←Nat.eq_of_beq_eq_true e,←hw];exact ha.get _ _ hb
 ·exact ha.get _ _ hv⟩ hs hx
theorem Zu(t:Nat)(want:Bool)(hb:Env.get ρ t=some (.bool b))(hw:b=want)(k:S n w0 ((t,.bool want)::ρ) Γ φ):S n w0 ρ Γ φ:=S.now hb hw k
theorem Zb(t:Nat){p:Prop}[dp:Decidable p](hb:Env.get ρ t=some (.bool (decide p)))(h1:p→S n w0 ((t,.bool true)::ρ) Γ φ)(h2:¬p→S n w0 ((t,.bool false)::ρ) Γ φ):S n w0 ρ Γ φ:=by
 by_cases h:p
 ·exact S.now hb (decide_eq_true h) (h1 h)
 ·exact S.now hb (decide_eq_false h) (h2 h)
theorem Zbb(t:Nat)(hb:Env.get ρ t=some (.bool b))(h1:b=true→S n w0 ((t,.bool true)::ρ) Γ φ)(h2:b=false→S n w0 ((t,.bool false)::ρ) Γ φ):S n w0 ρ Γ φ:=by
 cases h:b
 ·exact S.now hb h (h2 h)
 ·exact S.now hb h (h1 h)
section
variable {ts:TypeId}{Q:ZEk}{K:Act→World→Prop}{xs:List Operand}{ats:Array TypeId}{vs:List Value}{pre:List Assn}{post:List Assn→Value→List Assn→Prop}{f:FuncId}{gd:Option (Nat×Bool)}
theorem Zc1(hargs:EvL ρ xs vs)(hs:Spec P f vs pre post md)(k:∀v Θ,post Δ v Θ→S n w0 ((d,v)::ρ) Θ K)[he:Eo (V5 P f) true][hp:Picks pre Γ Δ](hn:Nat.blt d n=true:=by rfl):S n w0 ρ Γ (Ow P Q ⟨some d,.call {callee:=.value (.func f),args:=xs.toArray,argTypes:=ats},ty,pos,af,gd⟩ K):=S.call he.h hargs hs hn k
theorem Zcp{V:Value}{F:List Assn→List Assn}(hargs:EvL ρ xs vs)(hs:Spec P f vs pre (fun Γ v Θ=>v=V∧Θ=F Γ) md)(k:S n w0 ((d,V)::ρ) (F Δ) K)[he:Eo (V5 P f) true][hp:Picks pre Γ Δ](hn:Nat.blt d n=true:=by rfl):S n w0 ρ Γ (Ow P Q ⟨some d,.call {callee:=.value (.func f),args:=xs.toArray,argTypes:=ats},ty,pos,af,gd⟩ K):=S.call he.h hargs hs hn (by rintro _ _ ⟨rfl,rfl⟩;exact k)
variable {x y:Operand}{kk:IntKind}{p q:Int}{yt:TypeId}{ds:Option Tmp}
theorem Zs{bl e m r:Nat}{us:Array Value}{cs:Array Value}{cs':List Value}(hx:ev ρ x=some (.pointer (some ⟨bl,r,none⟩)))(hy:ev ρ y=some (.agg us))(hc:cs.toList.take r++us.toList++cs.toList.drop (r+us.size)=cs')(k:S n w0 ρ (blk bl e cs'.toArray::Δ) K)[ht:Eo (Mp P ts) (some m)][hb:Et Γ bl e cs Δ](hk:us.size=m:=by rfl)(h1:Hf us.toList=true:=by rfl)(ho:Nat.ble (r+us.size) cs.size=true:=by rfl):S n w0 ρ Γ (Ow P Q ⟨none,.store ts x y,ty,pos,af,gd⟩ K):=S.Qk7 ht.h hx hy hk h1 ho hc k
theorem Qjb(h:(kk=.i64∧-9223372036854775808≤p∧p≤9223372036854775807)∨(kk=.u32∧0≤p∧p≤4294967295)∨(kk=.u8∧0≤p∧p≤255)∨(kk=.u64∧0≤p∧p≤18446744073709551615)∨(kk=.u16∧0≤p∧p≤65535)):kk.min≤p∧p≤kk.max:=by
 rcases h with ⟨rfl,h⟩|⟨rfl,h⟩|⟨rfl,h⟩|⟨rfl,h⟩|⟨rfl,h⟩ <;> simpa [IntKind.min,IntKind.max,IntKind.signed,IntKind.bits] using h
theorem Za(h1:ev ρ x=some (.int kk p))(h2:ev ρ y=some (.int kk q))(h:kk.min≤p+q∧p+q≤kk.max:=by first|exact Qjb (.inl ⟨rfl,by omega,by omega⟩)|exact Qjb (.inr (.inl ⟨rfl,by omega,by omega⟩))|exact Qjb (.inr (.inr (.inl ⟨rfl,by omega,by omega⟩)))|exact Qjb (.inr (.inr (.inr (.inl ⟨rfl,by omega,by omega⟩))))):Qv P n ρ Γ ⟨ds,.binOp .add ts x y yt,ty,pos,af,gd⟩ (.int kk (p+q)):=Fc h1 h2 h
theorem Zm(h1:ev ρ x=some (.int kk p))(h2:ev ρ y=some (.int kk q))(h:kk.min≤p-q∧p-q≤kk.max:=by first|exact Qjb (.inl ⟨rfl,by omega,by omega⟩)|exact Qjb (.inr (.inl ⟨rfl,by omega,by omega⟩))|exact Qjb (.inr (.inr (.inl ⟨rfl,by omega,by omega⟩)))|exact Qjb (.inr (.inr (.inr (.inl ⟨rfl,by omega,by omega⟩))))):Qv P n ρ Γ ⟨ds,.binOp .sub ts x y yt,ty,pos,af,gd⟩ (.int kk (p-q)):=Qdq h1 h2 h
theorem Zx{bl a l cc e sz:Nat}{ad:Option Addr}(i:Nat)(hx:ev ρ x=some (.slice ad l cc))(hp:ad=some ⟨bl,a,none⟩)(hy:ev ρ y=some (.int kk p))(Wq:i<l)[ht:Eo (Dz P ts) (some (e,sz))](hz:p=((i:Nat):Int):=by rfl):Qv P n ρ Γ ⟨ds,.indexAddr ts x y,ty,pos,af,gd⟩ (.pointer (some ⟨bl,a+i*sz,none⟩)):=Quu i ht.h hx hp hy hz Wq
theorem Zo{bl a e sz off:Nat}{us:List Value}(s:SV)(j:Nat)(hx:ev ρ x=some (.pointer (some ⟨bl,a,none⟩)))(hp:s.a=some ⟨bl,off,none⟩)(hv:us[j]?=some v)[ht:Eo (J3 P ts) true][h:Wx Γ s e sz us Δ](ho:a=off+j:=by first|rfl|exact Nat.add_assoc _ _ _|omega):Qv P n ρ Γ ⟨ds,.load ts x,ty,pos,af,gd⟩ v:=Qur s j ht.h hx hp ho hv
end
class ZAe(l:List Value)(ρ:outParam Env):Prop where
 h:Dt 0 l=ρ
instance ZAe.i0:ZAe [] []:=⟨rfl⟩
instance ZAe.i1{a:Value}:ZAe [a] [(0,a)]:=⟨rfl⟩
instance ZAe.i2{a b:Value}:ZAe [a,b] [(0,a),(1,b)]:=⟨rfl⟩
instance ZAe.i3{a b c:Value}:ZAe [a,b,c] [(0,a),(1,b),(2,c)]:=⟨rfl⟩
instance ZAe.i4{a b c d:Value}:ZAe [a,b,c,d] [(0,a),(1,b),(2,c),(3,d)]:=⟨rfl⟩
instance ZAe.i5{a b c d e:Value}:ZAe [a,b,c,d,e] [(0,a),(1,b),(2,c),(3,d),(4,e)]:=⟨rfl⟩
class ZAp(pre Γ:List Assn)(r:outParam (List Assn)):Prop where
 h:pre++Γ=r
instance ZAp.i0:ZAp [] Γ Γ:=⟨rfl⟩
instance ZAp.i1{A:Assn}{pre r:List Assn}[h:ZAp pre Γ r]:ZAp (A::pre) Γ (A::r):=⟨by rw[List.cons_append,h.h]⟩
theorem Zsh{l:List Value}{pre:List Assn}[hl:ZAe l ρ][hp:ZAp pre Γ Γ'](k:S n w0 ρ Γ' (ZCd P B [] c)):S n w0 (Dt 0 l) (pre++Γ) (c.wp P B):=by rw[hl.h,hp.h];exact ZS k
theorem Zbd{f:FuncId}{fn:Func}{l:List Value}{pre:List Assn}{post:List Assn→Value→List Assn→Prop}(hf:P.funcs[f]?=some fn)(hb:fn.body=some c)(hn:fn.ntmps=n)(h:∀(w0:WM md) Γ,S n w0 (Dt 0 l) (pre++Γ) (c.wp P (Fin P fn post Γ w0)))(hl:Nat.ble l.length n=true:=by rfl):Spec P f l pre post md:=Spec.U8 hf hb hn hl h
theorem Zd0{id:Nat}(is:List Nat)(k:S n w0 ρ Γ (ZDq P B ks l Γ [] l.toArray.size (Array.replicate l.toArray.size false) is))[hm:Eo (P.follows .mixedOrders) true](hok:Lu l.toArray [] l.toArray.size (Array.replicate l.toArray.size false) is=true:=by kernel_rfl):S n w0 ρ Γ (ZCd P B ks (.region id l.toArray true)):=Zd Γ [] is k hok
end
end Go.Proofs.YtdackcibfkkniaaGreatDoor
namespace Go.Proofs.YtdackcibfkkniaaGreatDoor
instance Tryz.z3:Eo (Wr Tryz.prog 3) (some [.int .i64 0]):=⟨by kernel_rfl⟩
instance Tryz.z25:Eo (Wr Tryz.prog 25) (some [.int .i64 0,.int .i64 0,.int .i64 0,.int .i64 0]):=⟨by kernel_rfl⟩
instance Tryz.z35:Eo (Wr Tryz.prog 35) (some [.int .u32 0,.int .u8 0,.int .i64 0,.int .i64 0,.int .u8 0,.int .i64 0]):=⟨by kernel_rfl⟩
instance Tryz.z46:Eo (Wr Tryz.prog 46) (some [.int .u8 0,.int .u8 0,.int .u8 0,.int .u8 0,.int .u8 0,.bool false,.bool false]):=⟨by kernel_rfl⟩
instance Tryz.z55:Eo (Wr Tryz.prog 55) (some [.pointer none,.int .i64 0,.int .i64 0,.int .i64 0,.int .i64 0,.slice none 0 0,.int .u32 0,.int .u32 0,.map none,.map none,.map none,.map none,.slice none 0 0,.map none,.slice none 0 0,.slice none 0 0]):=⟨by kernel_rfl⟩
instance Tryz.z60:Eo (Wr Tryz.prog 60) (some [.int .u32 0,.int .u32 0,.int .i64 0,.slice none 0 0]):=⟨by kernel_rfl⟩
instance Tryz.z66:Eo (Wr Tryz.prog 66) (some [.slice none 0 0]):=⟨by kernel_rfl⟩
instance Tryz.z72:Eo (Wr Tryz.prog 72) (some [.int .u8 0,.int .u8 0,.int .u32 0,.int .u32 0,.int .u32 0,.int .u32 0,.int .u32 0,.int .u32 0,.int .u8 0,.int .i64 0,.int .u32 0,.int .u32 0,.slice none 0 0]):=⟨by kernel_rfl⟩
instance Tryz.z84:Eo (Wr Tryz.prog 84) (some [.int .i64 0,.int .i64 0,.int .i64 0,.int .i64 0,.int .u32 0,.int .u32 0,.map none,.map none,.pointer none,.slice none 0 0,.slice none 0 0,.slice none 0 0,.int .u32 0,.int .i64 0,.slice none 0 0,.int .u32 0,.map none,.bool false]):=⟨by kernel_rfl⟩
instance Tryz.z90:Eo (Wr Tryz.prog 90) (some [.int .u32 0,.int .u8 0,.int .i64 0,.int .i64 0,.int .u8 0,.int .i64 0,.slice none 0 0,.map none,.int .i64 0,.int .u32 0,.pointer none,.bool false,.int .u32 0,.map none,.bool false,.bool false,.map none]):=⟨by kernel_rfl⟩
instance Tryz.z97:Eo (Wr Tryz.prog 97) (some [.int .i64 0,.int .u8 0,.int .u8 0,.int .u32 0,.int .u32 0,.int .u32 0,.int .u32 0,.int .u32 0,.int .u32 0,.int .u8 0,.int .i64 0,.int .u32 0,.int .u32 0,.slice none 0 0]):=⟨by kernel_rfl⟩
instance Tryz.z107:Eo (Wr Tryz.prog 107) (some [.bool false,.map none,.slice none 0 0,.slice none 0 0,.bool false]):=⟨by kernel_rfl⟩
instance Tryz.Qzq:Eo (Wr Tryz.prog 111) (some [.int .u8 0,.bool false,.int .u32 0,.int .u32 0,.int .u32 0]):=⟨by kernel_rfl⟩
instance Tryz.Qcp:Eo (Wr Tryz.prog 121) (some [.int .i64 0,.int .u16 0]):=⟨by kernel_rfl⟩
instance Tryz.z124:Eo (Wr Tryz.prog 124) (some [.int .i64 0,.int .i64 0,.int .u16 0,.map none,.slice none 0 0]):=⟨by kernel_rfl⟩
instance Tryz.z131:Eo (Wr Tryz.prog 131) (some [.int .u32 0,.int .u32 0,.int .i64 0,.slice none 0 0,.map none,.bool false]):=⟨by kernel_rfl⟩
instance Tryz.Qte:Eo (Wr Tryz.prog 134) (some []):=⟨by kernel_rfl⟩
instance Tryz.z139:Eo (Wr Tryz.prog 139) (some [.int .i64 0,.int .i64 0]):=⟨by kernel_rfl⟩
instance Tryz.z146:Eo (Wr Tryz.prog 146) (some [.int .i64 0,.int .i64 0,.slice none 0 0,.bool false]):=⟨by kernel_rfl⟩
instance Tryz.z152:Eo (Wr Tryz.prog 152) (some [.int .u32 0,.int .u8 0]):=⟨by kernel_rfl⟩
instance Tryz.z154:Eo (Wr Tryz.prog 154) (some [.int .i64 0,.slice none 0 0]):=⟨by kernel_rfl⟩
instance Tryz.Qtd:Eo (Wr Tryz.prog 161) (some [.int .u32 0,.int .i64 0,.int .i64 0]):=⟨by kernel_rfl⟩
instance Tryz.z175:Eo (Wr Tryz.prog 175) (some [.int .u32 0,.int .u32 0]):=⟨by kernel_rfl⟩
instance Tryz.z183:Eo (Wr Tryz.prog 183) (some [.int .u32 0,.int .u8 0,.int .u32 0]):=⟨by kernel_rfl⟩
instance Tryz.Zed:Eo (Wr Tryz.prog 217) (some [.slice none 0 0,.map none]):=⟨by kernel_rfl⟩
instance Tryz.Zec:Eo (Wr Tryz.prog 219) (some [.slice none 0 0,.map none]):=⟨by kernel_rfl⟩
instance Tryz.z232:Eo (Wr Tryz.prog 232) (some [.int .i64 0,.int .i64 0]):=⟨by kernel_rfl⟩
instance Tryz.Zeb:Eo (Wr Tryz.prog 270) (some [.int .u64 0]):=⟨by kernel_rfl⟩
instance Tryz.p25:Eo (Wu Tryz.prog 25) (some [(0,1),(1,1),(2,1),(3,1)]):=⟨by kernel_rfl⟩
instance Tryz.p35:Eo (Wu Tryz.prog 35) (some [(0,1),(1,1),(2,1),(3,1),(4,1),(5,1)]):=⟨by kernel_rfl⟩
instance Tryz.p55:Eo (Wu Tryz.prog 55) (some [(0,1),(1,4),(5,1),(6,1),(7,1),(8,1),(9,1),(10,1),(11,1),(12,1),(13,1),(14,1),(15,1)]):=⟨by kernel_rfl⟩
instance Tryz.p60:Eo (Wu Tryz.prog 60) (some [(0,1),(1,1),(2,1),(3,1)]):=⟨by kernel_rfl⟩
instance Tryz.p72:Eo (Wu Tryz.prog 72) (some [(0,1),(1,1),(2,1),(3,1),(4,1),(5,1),(6,1),(7,1),(8,1),(9,1),(10,1),(11,1),(12,1)]):=⟨by kernel_rfl⟩
instance Tryz.p84:Eo (Wu Tryz.prog 84) (some [(0,4),(4,1),(5,1),(6,1),(7,1),(8,1),(9,1),(10,1),(11,1),(12,1),(13,1),(14,1),(15,1),(16,1),(17,1)]):=⟨by kernel_rfl⟩
instance Tryz.p90:Eo (Wu Tryz.prog 90) (some [(0,6),(6,1),(7,1),(8,1),(9,1),(10,1),(11,1),(12,1),(13,1),(14,1),(15,1),(16,1)]):=⟨by kernel_rfl⟩
instance Tryz.p97:Eo (Wu Tryz.prog 97) (some [(0,1),(1,13)]):=⟨by kernel_rfl⟩
instance Tryz.Zat:Eo (Wu Tryz.prog 107) (some [(0,1),(1,1),(2,1),(3,1),(4,1)]):=⟨by kernel_rfl⟩
instance Tryz.Q1a:Eo (Wu Tryz.prog 111) (some [(0,1),(1,1),(2,1),(3,1),(4,1)]):=⟨by kernel_rfl⟩
instance Tryz.Zet:Eo (Wu Tryz.prog 121) (some [(0,1),(1,1)]):=⟨by kernel_rfl⟩
instance Tryz.Zas:Eo (Wu Tryz.prog 124) (some [(0,1),(1,1),(2,1),(3,1),(4,1)]):=⟨by kernel_rfl⟩
instance Tryz.Zar:Eo (Wu Tryz.prog 131) (some [(0,4),(4,1),(5,1)]):=⟨by kernel_rfl⟩
instance Tryz.Zaq:Eo (Wu Tryz.prog 134) (some []):=⟨by kernel_rfl⟩
instance Tryz.Zes:Eo (Wu Tryz.prog 139) (some [(0,1),(1,1)]):=⟨by kernel_rfl⟩
instance Tryz.Zer:Eo (Wu Tryz.prog 146) (some [(0,1),(1,1),(2,1),(3,1)]):=⟨by kernel_rfl⟩
instance Tryz.Zap:Eo (Wu Tryz.prog 152) (some [(0,1),(1,1)]):=⟨by kernel_rfl⟩
instance Tryz.Zeq:Eo (Wu Tryz.prog 154) (some [(0,1),(1,1)]):=⟨by kernel_rfl⟩
instance Tryz.Q6z:Eo (Wu Tryz.prog 161) (some [(0,1),(1,1),(2,1)]):=⟨by kernel_rfl⟩
instance Tryz.Zep:Eo (Wu Tryz.prog 183) (some [(0,1),(1,1),(2,1)]):=⟨by kernel_rfl⟩
instance Tryz.Zeo:Eo (Wu Tryz.prog 217) (some [(0,1),(1,1)]):=⟨by kernel_rfl⟩
instance Tryz.Zen:Eo (Wu Tryz.prog 219) (some [(0,2)]):=⟨by kernel_rfl⟩
instance Tryz.Zem:Eo (Wu Tryz.prog 232) (some [(0,1),(1,1)]):=⟨by kernel_rfl⟩
instance:Eo (Qgq Tryz.prog 35 2) (some 2):=⟨by kernel_rfl⟩
instance:Eo (Qgq Tryz.prog 121 1) (some 1):=⟨by kernel_rfl⟩
instance Tryz.Q16:Eo (Vl Tryz.prog 5) (some ([.int .u8 0],1,1)):=⟨by kernel_rfl⟩
instance Tryz.Qwd:Eo (Vl Tryz.prog 97) (some ([.int .i64 0,.int .u8 0,.int .u8 0,.int .u32 0,.int .u32 0,.int .u32 0,.int .u32 0,.int .u32 0,.int .u32 0,.int .u8 0,.int .i64 0,.int .u32 0,.int .u32 0,.slice none 0 0],14,80)):=⟨by kernel_rfl⟩
instance Tryz.Qwj:Eo (Vl Tryz.prog 103) (some ([.pointer none],1,8)):=⟨by kernel_rfl⟩
instance Tryz.Qja:Eo (Vl Tryz.prog 60) (some ([.int .u32 0,.int .u32 0,.int .i64 0,.slice none 0 0],4,40)):=⟨by kernel_rfl⟩
instance Tryz.Jr:Eo (Vl Tryz.prog 31) (some ([.int .u32 0],1,4)):=⟨by kernel_rfl⟩
instance Tryz.Q4u:Eo (Vl Tryz.prog 22) (some ([.slice none 0 0],1,24)):=⟨by kernel_rfl⟩
instance Tryz.D2:Eo (Vl Tryz.prog 3) (some ([.int .i64 0],1,8)):=⟨by kernel_rfl⟩
instance Tryz.Qwg:Eo (Vl Tryz.prog 161) (some ([.int .u32 0,.int .i64 0,.int .i64 0],3,24)):=⟨by kernel_rfl⟩
instance Tryz.Qpb:Eo (Vl Tryz.prog 86) (some ([.pointer none],1,8)):=⟨by kernel_rfl⟩
instance Tryz.Ua:Eo (Vl Tryz.prog 72) (some ([.int .u8 0,.int .u8 0,.int .u32 0,.int .u32 0,.int .u32 0,.int .u32 0,.int .u32 0,.int .u32 0,.int .u8 0,.int .i64 0,.int .u32 0,.int .u32 0,.slice none 0 0],13,72)):=⟨by kernel_rfl⟩
instance Tryz.Qgf:Eo (Vl Tryz.prog 119) (some ([.int .u16 0],1,2)):=⟨by kernel_rfl⟩
instance Tryz.Qwi:Eo (Vl Tryz.prog 139) (some ([.int .i64 0,.int .i64 0],2,16)):=⟨by kernel_rfl⟩
instance Tryz.Qwh:Eo (Vl Tryz.prog 146) (some ([.int .i64 0,.int .i64 0,.slice none 0 0,.bool false],4,48)):=⟨by kernel_rfl⟩
instance Tryz.Q4t:Eo (Vl Tryz.prog 66) (some ([.slice none 0 0],1,24)):=⟨by kernel_rfl⟩
instance Tryz.Pr:Eo (Vl Tryz.prog 152) (some ([.int .u32 0,.int .u8 0],2,8)):=⟨by kernel_rfl⟩
instance Tryz.Qge:Eo (Vl Tryz.prog 183) (some ([.int .u32 0,.int .u8 0,.int .u32 0],3,12)):=⟨by kernel_rfl⟩
instance Tryz.Qwf:Eo (Vl Tryz.prog 175) (some ([.int .u32 0,.int .u32 0],2,8)):=⟨by kernel_rfl⟩
instance Tryz.Qwe:Eo (Vl Tryz.prog 232) (some ([.int .i64 0,.int .i64 0],2,16)):=⟨by kernel_rfl⟩
instance Tryz.Qj4:Eo (Qsi Tryz.prog 175) (some (2,1)):=⟨by kernel_rfl⟩
instance Tryz.Zc0:Eo (Qsi Tryz.prog 238) (some (32,1)):=⟨by kernel_rfl⟩
instance Tryz.it3:Eo (Qcw Tryz.prog 3) (some .i64):=⟨by kernel_rfl⟩
instance Tryz.it5:Eo (Qcw Tryz.prog 5) (some .u8):=⟨by kernel_rfl⟩
instance Tryz.Q7e:Eo (Qcw Tryz.prog 31) (some .u32):=⟨by kernel_rfl⟩
instance Tryz.Q4s:Eo (Qcw Tryz.prog 215) (some .u64):=⟨by kernel_rfl⟩
instance Tryz.Q4r:Eo (Qcw Tryz.prog 225) (some .u64):=⟨by kernel_rfl⟩
instance Tryz.Za2:Eo (Qcw Tryz.prog 270) (some .u64):=⟨by kernel_rfl⟩
instance Tryz.zv3:Eo ((Tryz.prog.info? 3).bind (·.zero)) (some (.int .i64 0)):=⟨by kernel_rfl⟩
instance Tryz.zv4:Eo ((Tryz.prog.info? 4).bind (·.zero)) (some (.bool false)):=⟨by kernel_rfl⟩
instance Tryz.Qtb:Eo ((Tryz.prog.info? 35).bind (·.zero)) (some (.agg #[.int .u32 0,.int .u8 0,.int .i64 0,.int .i64 0,.int .u8 0,.int .i64 0])):=⟨by kernel_rfl⟩
instance Tryz.Ud:Eo ((Tryz.prog.info? 86).bind (·.zero)) (some (.pointer none)):=⟨by kernel_rfl⟩
instance Tryz.Qhb:Eo ((Tryz.prog.info? 112).bind (·.zero)) (some (.pointer none)):=⟨by kernel_rfl⟩
instance Tryz.Qc8:Eo ((Tryz.prog.info? 121).bind (·.zero)) (some (.agg #[.int .i64 0,.int .u16 0])):=⟨by kernel_rfl⟩
instance Tryz.Qtc:Eo ((Tryz.prog.info? 134).bind (·.zero)) (some (.agg #[])):=⟨by kernel_rfl⟩
instance Tryz.mixed:Eo (Tryz.prog.follows .mixedOrders) (true):=⟨by kernel_rfl⟩
instance:Eo (Tryz.prog.underlying 4) (some .bool):=⟨Tryz.underlying4⟩
instance:Eo (Tryz.prog.underlying 22) (some (.slice 5)):=⟨Tryz.underlying22⟩
instance:Eo (Tryz.prog.underlying 27) (some (.pointer 84)):=⟨Tryz.underlying27⟩
instance:Eo (Tryz.prog.underlying 37) (some (.slice 97)):=⟨Tryz.underlying37⟩
instance:Eo (Tryz.prog.underlying 41) (some (.slice 46)):=⟨Tryz.underlying41⟩
instance:Eo (Tryz.prog.underlying 42) (some (.pointer 55)):=⟨Tryz.underlying42⟩
instance:Eo (Tryz.prog.underlying 48) (some (.slice 103)):=⟨Tryz.underlying48⟩
instance:Eo (Tryz.prog.underlying 49) (some (.map 31 35)):=⟨Tryz.underlying49⟩
instance:Eo (Tryz.prog.underlying 51) (some (.slice 60)):=⟨Tryz.underlying51⟩
instance:Eo (Tryz.prog.underlying 53) (some (.slice 31)):=⟨Tryz.underlying53⟩
instance:Eo (Tryz.prog.underlying 58) (some (.slice 22)):=⟨Tryz.underlying58⟩
instance:Eo (Tryz.prog.underlying 63) (some (.pointer 124)):=⟨Tryz.underlying63⟩
instance:Eo (Tryz.prog.underlying 66) (some (.slice 3)):=⟨Tryz.underlying66⟩
instance:Eo (Tryz.prog.underlying 81) (some (.map 3 134)):=⟨Tryz.underlying81⟩
instance:Eo (Tryz.prog.underlying 86) (some (.pointer 90)):=⟨Tryz.underlying86⟩
instance:Eo (Tryz.prog.underlying 87) (some (.pointer 131)):=⟨Tryz.underlying87⟩
instance:Eo (Tryz.prog.underlying 88) (some (.map 3 175)):=⟨Tryz.underlying88⟩
instance:Eo (Tryz.prog.underlying 99) (some (.slice 86)):=⟨Tryz.underlying99⟩
instance:Eo (Tryz.prog.underlying 105) (some (.slice 72)):=⟨Tryz.underlying105⟩
instance:Eo (Tryz.prog.underlying 112) (some (.pointer 111)):=⟨Tryz.underlying112⟩
instance:Eo (Tryz.prog.underlying 117) (some (.map 31 121)):=⟨Tryz.underlying117⟩
instance:Eo (Tryz.prog.underlying 122) (some (.slice 119)):=⟨Tryz.underlying122⟩
instance:Eo (Tryz.prog.underlying 136) (some (.slice 139)):=⟨Tryz.underlying136⟩
instance:Eo (Tryz.prog.underlying 140) (some (.slice 146)):=⟨Tryz.underlying140⟩
instance:Eo (Tryz.prog.underlying 143) (some (.slice 66)):=⟨Tryz.underlying143⟩
instance:Eo (Tryz.prog.underlying 150) (some (.slice 152)):=⟨Tryz.underlying150⟩
instance:Eo (Tryz.prog.underlying 179) (some (.pointer 219)):=⟨Tryz.underlying179⟩
instance:Eo (Tryz.prog.underlying 184) (some (.slice 183)):=⟨Tryz.underlying184⟩
instance:Eo (Tryz.prog.underlying 205) (some (.slice 175)):=⟨Tryz.underlying205⟩
instance:Eo (Tryz.prog.underlying 228) (some (.slice 232)):=⟨Tryz.underlying228⟩
abbrev Tryz.lat:List Nat:=[3,4,5,22,27,31,37,44,48,49,50,51,52,53,58,63,66,81,82,86,87,88,103,104,105,117,119,122,184,205,270]
theorem Tryz.aat:(Tryz.lat.all fun t=>J3 Tryz.prog t)=true:=by kernel_rfl
instance {t:Nat}[h:ZTt (Zt1 Tryz.lat t)]:Eo (J3 Tryz.prog t) true:=⟨Qp2 Tryz.aat h.h⟩
abbrev Tryz.len:List Nat:=[9,10,11,12,13,14,15,16,17,18,19,20,21,22,23,24,25,27,28,29,30,31,32,33,34,35,36,37,38,39,40,41,42,43,44,45,46,47,48,49,50,51,52,53,54,55,56,57,58,59,60,61,62,63,64,65,66,67,69,70,71,72,73,74,75,76,77,78,79,80,81,82,83,84,85,86,87,88,89,90,91,92,93,94,95,96,97,98,99,100,101,102,103,104,105,106,107,108,109,110,111,112,113,114,115,116,117,118,119,120,121,122,123,124,125,126,127,128,129,130,131,132,133,134,136,137,138,139,140,141,142,143,144,145,146,147,148,149,150,151,152,153,154,155,156,157,158,159,160,161,162,163,164,165,166,167,168,169,170,171,172,173,174,175,176,177,178,179,180,181,182,183,184,185,186,187,188,189,190,191,192,193,194,195,196,197,198,199,200,201,202,203,204,205,206,207,208,209,210,211,212,213,214,215,216,217,218,219,220,221,222,223,224,225,226,227,228,229,230,231,232,233,234,235,236,237,238,239,240,241,242,243,244,245,246,247,248,249,250,267,268,269,270,271,272]
theorem Tryz.aen:(Tryz.len.all fun t=>V5 Tryz.prog t)=true:=by kernel_rfl
instance {t:Nat}[h:ZTt (Zt1 Tryz.len t)]:Eo (V5 Tryz.prog t) true:=⟨Qp2 Tryz.aen h.h⟩
abbrev Tryz.lel:List (Nat×Nat×Nat):=[(22,5,1),(37,97,14),(41,46,7),(48,103,1),(51,60,4),(53,31,1),(58,22,1),(66,3,1),(92,161,3),(99,86,1),(105,72,13),(122,119,1),(136,139,2),(140,146,4),(143,66,1),(150,152,2),(184,183,3),(205,175,2),(228,232,2)]
theorem Tryz.ael:(Tryz.lel.all fun x=>Dz Tryz.prog x.1==some x.2)=true:=by kernel_rfl
instance {t:Nat}{c:Nat×Nat}[h:ZEn (Zt2 Tryz.lel t) c]:Eo (Dz Tryz.prog t) (some c):=⟨by have:=Tk (p:=fun t c=>Dz Tryz.prog t==some c) Tryz.ael h.h;simpa using this⟩
abbrev Tryz.lag:List (Nat×Nat):=[(25,4),(35,6),(46,7),(60,4),(72,13),(90,17),(97,14),(107,5),(121,2),(124,5),(134,0),(139,2),(146,4),(152,2),(154,2),(161,3),(175,2),(183,3),(232,2)]
theorem Tryz.aag:(Tryz.lag.all fun x=>Mp Tryz.prog x.1==some x.2)=true:=by kernel_rfl
instance {t c:Nat}[h:ZEn (Zt2 Tryz.lag t) c]:Eo (Mp Tryz.prog t) (some c):=⟨by have:=Tk (p:=fun t c=>Mp Tryz.prog t==some c) Tryz.aag h.h;simpa using this⟩
abbrev Tryz.lfo:List (Nat×List (Nat×Nat)):=[(25,[(0,0),(1,1),(2,2),(3,3)]),(35,[(0,0),(1,1),(2,2),(3,3),(4,4),(5,5)]),(46,[(0,0),(1,1),(2,2),(3,3),(4,4),(5,5),(6,6)]),(55,[(0,0),(1,1),(2,5),(3,6),(4,7),(5,8),(6,9),(7,10),(8,11),(9,12),(10,13),(11,14),(12,15)]),(60,[(0,0),(1,1),(2,2),(3,3)]),(72,[(0,0),(4,4),(5,5),(6,6),(7,7),(8,8),(9,9),(10,10),(11,11),(12,12)]),(84,[(0,0),(1,4),(2,5),(3,6),(4,7),(5,8),(6,9),(7,10),(8,11),(9,12),(10,13),(11,14),(12,15),(13,16),(14,17)]),(90,[(0,0),(1,6),(2,7),(3,8),(4,9),(5,10),(6,11),(7,12),(8,13),(9,14),(10,15),(11,16)]),(97,[(0,0),(1,1)]),(107,[(0,0),(1,1),(2,2),(3,3),(4,4)]),(111,[(0,0),(1,1),(2,2),(3,3),(4,4)]),(121,[(0,0),(1,1)]),(124,[(0,0),(1,1),(2,2),(3,3),(4,4)]),(131,[(0,0),(1,4),(2,5)]),(139,[(0,0),(1,1)]),(146,[(0,0),(1,1),(2,2),(3,3)]),(152,[(0,0),(1,1)]),(154,[(1,1)]),(183,[(0,0),(1,1),(2,2)]),(217,[(0,0),(1,1)]),(219,[(0,0)]),(232,[(0,0),(1,1)])]
theorem Tryz.afo:(Tryz.lfo.all fun x=>x.2.all fun y=>Mh Tryz.prog x.1 y.1==some y.2)=true:=by kernel_rfl
instance {t f c:Nat}{l:List (Nat×Nat)}[h:ZEn (Zt2 Tryz.lfo t) l][g:ZEn (Zt2 l f) c]:Eo (Mh Tryz.prog t f) (some c):=⟨by have:=Tk (p:=fun f c=>Mh Tryz.prog t f==some c) (Tk (p:=fun t l=>l.all fun y=>Mh Tryz.prog t y.1==some y.2) Tryz.afo h.h) g.h;simpa using this⟩
theorem Qc6{md:Bool}(s:Bs):Spec Tryz.prog 212 [bsv s] [] (fun Γ v Θ=>v=.int .i64 ((lst s).length:Nat)∧Θ=Γ) md:=by
 refine Spec.U8 Tryz.func212 rfl Tryz.ntmps212 rfl ?_;intro w0 Γ;have hs:=Qyp s;have e1:((s >>> 8).toNat:Int)=((s.toNat / 256:Nat):Int):=by rw[BitVec.toNat_ushiftRight,Nat.shiftRight_eq_div_pow]
 have e2:((s &&& 255#16).toNat:Int)=((s.toNat % 256:Nat):Int):=by
  rw[BitVec.toNat_and,show (255#16:Bs).toNat=2 ^ 8-1 from rfl,Nat.and_two_pow_sub_one_eq_mod]
 have p1:=Qu3 (s.toNat / 256);have p2:=Qu3 (s.toNat % 256);show S _ w0 [(0,bsv s)] Γ _;refine ZS (ZY 5 ?_);refine Zd0 (Zra 0 9) (Zy ?_);refine Zw ef (Quq (s) (8) rfl rfl rfl (rfl) (by omega)) ?_;refine Zw ef (Qn9 (s.toNat / 256) Tryz.underlying9 rfl (by kernel_rfl) rfl e1 (by omega)) (Zy ?_);refine Zw ef (Pd (s) (255#16) rfl rfl (rfl) (rfl)) ?_;refine Zw ef (Qn9 (s.toNat % 256) Tryz.underlying9 rfl (by kernel_rfl) rfl e2 (by omega)) ?_;refine Zw ef (Za ef ef) ?_;refine Zw ef (Xw Tryz.it3.h (by rw[Tryz.underlying5];rfl) rfl (Y0 (by omega) (by omega))) (Zy ?_);refine ZD (Zy ?_);exact Zf ef Zq (⟨by simp only[X2];rw[Q68];simp,rfl⟩)
theorem Qgu{md:Bool}(s:Bs):Spec Tryz.prog 176 [bsv s] [] (fun Γ v Θ=>v=.int .i64 ((lst s).length:Nat)∧Θ=Γ) md:=by
 refine Zbd Tryz.func176 rfl Tryz.ntmps176 fun w0 Γ=>Zsh (ZY 7 (Zp (Zcp Ze (Qc6 s) (ZY 3 ?_))));exact Zf ef Zq (⟨rfl,rfl⟩)
theorem Q29(s:Bs)(m:Nat):decide (((s >>> m &&& 1#16).toNat:Int)=1)=s.getLsbD m:=by
 have e:((s >>> m &&& 1#16).toNat)=if s.getLsbD m then 1 else 0:=by
  rw[BitVec.toNat_and,BitVec.toNat_ushiftRight,show (1#16:Bs).toNat=1 from rfl,Nat.and_one_is_mod,BitVec.getLsbD,Nat.testBit,Nat.one_and_eq_mod_two,Nat.shiftRight_eq_div_pow];rcases Nat.mod_two_eq_zero_or_one (s.toNat / 2 ^ m) with h|h <;> simp[h]
 rw[e];cases s.getLsbD m <;> rfl
theorem Qjn{md:Bool}(s:Bs)(m:Nat)(z:Int)(hz:z=(m:Int))(hm:m≤16):Spec Tryz.prog 106 [bsv s,.int .i64 z] [] (fun Γ v Θ=>v=.bool (s.getLsbD m)∧Θ=Γ) md:=by
 subst hz;refine Zbd Tryz.func106 rfl Tryz.ntmps106 fun w0 Γ=>Zsh (ZY 8 (Zv (Quq (s) (m) rfl rfl rfl (rfl) (hm)) (Zv (Pd (s >>> m) (1#16) rfl rfl (rfl) (rfl)) (ZY 4 ?_))));exact Zf ef Zq (⟨by simp only[X2];rw[Q29],rfl⟩)
def dbi(t:Nat):Nat:=(2 ^ t*125613361) % 4294967296 / 134217728
theorem Q3j:((List.range 16).all fun t=>Nat.blt (dbi t) 32&&decide (Qps.getD (dbi t) 0=(t:Int)))=true:=by kernel_rfl
theorem Qzs(z:Int):IntKind.u32.wrap z=z % 4294967296:=by
 have e:(2:Int) ^ 32=4294967296:=by decide
 unfold IntKind.wrap;show (if (false&&decide _)=true then _ else z % ((2:Int) ^ 32))=_;rw[e,Bool.false_and,if_neg (by decide)]
theorem Q8p{t:Nat}(h:t<16):∃i:Nat,i<32∧Qps.getD i 0=(t:Int)∧IntKind.u32.wrap ((2:Int) ^ t*125613361) / 2 ^ 27=((i:Nat):Int):=by
 have h1:=List.all_eq_true.1 Q3j t (List.mem_range.2 h);rw[Bool.and_eq_true,decide_eq_true_eq]at h1;refine⟨dbi t,by have:=h1.1;simp[Nat.blt]at this;omega,h1.2,?_⟩;have e:(2:Int) ^ t*125613361=((2 ^ t*125613361:Nat):Int):=by rw[Int.natCast_mul,Int.natCast_pow];rfl
 rw[Qzs,e];unfold dbi;generalize 2 ^ t*125613361=z
 omega
theorem Qk4{md:Bool}(s:Bs){W:World}(hW:H6 W):Spec Tryz.prog 129 [bsv s] [Xa W] (fun Γ v Θ=>v=.int .i64 (tz s:Nat)∧Θ=Xa W::Γ) md:=by
 refine Spec.U8 Tryz.func129 rfl Tryz.ntmps129 rfl ?_;intro w0 Γ;have hb:=Qyp (s &&& -s);show S _ w0 [(0,bsv s)] (Xa W::Γ) _;refine ZS (ZY 8 (ZY 2 ?_))
 refine Zj ef (fun h1=>?_) (fun h1=>?_)
 ·have e0:s=0#16:=Hj.1 h1;refine ZY 5 ?_;exact Zf ef Zq (⟨by simp only[X2];rw[e0,Qzy];rfl,rfl⟩)
 ·have h0:s≠0#16:=fun e=>h1 (Hj.2 e);have ht:tz s<16:=Df (Jj h0);obtain⟨i,k1,k2,k3⟩:=Q8p ht
  have hp:((s &&& -s).toNat:Int)=2 ^ tz s:=by
   rw[Qo0 s h0,BitVec.toNat_twoPow,Nat.mod_eq_of_lt (Nat.pow_lt_pow_right (by omega) ht)]
   norm_cast
  have k4:=hW i k1;rw[k2]at k4;refine ZY 5 (Zv (Q6n (s) rfl rfl) (Zv (Pd (s) (-s) rfl rfl (rfl) (rfl)) ?_));refine Zv (Xw Tryz.Q7e.h (by rw[Tryz.underlying118];rfl) rfl (Qpc (by omega) (by omega))) (Zv (Q6o rfl rfl) ?_);refine Zv (Q0z 27 ((i:Nat):Int) rfl rfl rfl (by decide) (by rw[hp];exact k3)) ?_;refine Zv (Cp Tryz.Zc0.h rfl rfl (⟨by omega,by omega⟩)) ?_;refine Zv (Fa Eo.h rfl (show W.cell? ⟨0,0+i*1,none⟩=_ by rw[Nat.zero_add,Nat.mul_one];exact k4)) ?_;refine Zv (Xw Tryz.it3.h (by rw[Tryz.underlying5];rfl) rfl (Y0 (by omega) (by omega))) (ZY 3 ?_);exact Zf ef Zq (⟨rfl,rfl⟩)
end Go.Proofs.YtdackcibfkkniaaGreatDoor
