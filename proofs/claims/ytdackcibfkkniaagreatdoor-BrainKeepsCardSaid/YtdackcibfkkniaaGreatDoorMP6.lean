/- BrainKeeps: who has a place has as many nodes as it asked for, and stays there. -/
import Derived.Test.YtdackcibfkkniaaGreatDoorMP5
set_option synthInstance.maxSize 9999
set_option synthInstance.maxHeartbeats 400000
set_option maxRecDepth 20000
namespace Go.Proofs.YtdackcibfkkniaaGreatDoor
open Go.RowKit
instance ZSl.z3 {a v:Value} {l:List Value}:ZSl (a::l) (0+0+0) v (v::l):=⟨rfl,Nat.succ_pos _⟩
namespace BN
section
variable {s:Sm} {a:Ac}
theorem sact_tick (h:a.do_=0∨a.do_=1):Wr s a=stickR s:=by rw[Wr];exact if_pos h
theorem sact_add (h:a.do_=2) (hj:s.jobs.length<20):Wr s a=sAddR s ⟨s.next,a.tier % 4,1+a.k % s.cn,1+a.w % 20⟩:=by
 rw[Wr];rw[if_neg (by omega),if_pos h,if_pos hj]
theorem sact_add0 (h:a.do_=2) (hj:¬s.jobs.length<20):Wr s a=Ww {s with ok:=s.ok&&tkB s}:=by
 rw[Wr];rw[if_neg (by omega),if_pos h,if_neg hj]
theorem sact_can (h:a.do_=3):Wr s a=sCanR s (1+a.n % max s.next 1):=by
 rw[Wr];rw[if_neg (by omega),if_neg (by omega),if_pos h]
theorem sact_lost (h:a.do_=4):Wr s a=sLostR s (a.n % s.nd.length):=by
 rw[Wr];rw[if_neg (by omega),if_neg (by omega),if_neg (by omega),if_pos h]
theorem sact_up (h:a.do_=5):Wr s a=sUpR s (a.n % s.nd.length):=by
 rw[Wr];rw[if_neg (by omega),if_neg (by omega),if_neg (by omega),if_neg (by omega),if_pos h]
theorem sact_del (h:a.do_=6∨a.do_=7∨a.do_=8∨a.do_=9):Wr s a=(Q1 s (a.n % s.nd.length) a.back).2:=by
 rw[Wr];rw[if_neg (by omega),if_neg (by omega),if_neg (by omega),if_neg (by omega),if_neg (by omega),if_pos h]
theorem sact_pub (h:a.do_=10):Wr s a=(Z3 s (!a.fail)).2:=by
 rw[Wr];rw[if_neg (by omega),if_neg (by omega),if_neg (by omega),if_neg (by omega),if_neg (by omega),if_neg (by omega),if_pos h]
theorem sact_calm (h:a.do_=11):Wr s a=calmR s:=by
 rw[Wr];rw[if_neg (by omega),if_neg (by omega),if_neg (by omega),if_neg (by omega),if_neg (by omega),if_neg (by omega),if_neg (by omega),if_pos h]
theorem sact_no (h:12≤a.do_):Wr s a=s:=by
 rw[Wr];rw[if_neg (by omega),if_neg (by omega),if_neg (by omega),if_neg (by omega),if_neg (by omega),if_neg (by omega),if_neg (by omega),if_neg (by omega)]
end
theorem jo_put {js:List Jo} {j:Jo} (h:∀x∈js,x.id≠j.id):Qx (j.id:Int) (.agg (joC j).toArray) (js.map joE)=(js++[j]).map joE:=by
 induction js with
 | nil=>rfl
 | cons x l ih=>
  have hx:=h x List.mem_cons_self;simp only[List.map_cons,Qx];rw[if_neg (by omega),ih fun y hy=>h y (List.mem_cons_of_mem _ hy)];rfl
abbrev acC (a:Ac):List Value:=[.int .u8 (a.do_:Int),.int .u8 (a.n:Int),.int .u8 (a.tier:Int),.int .u8 (a.k:Int),.int .u8 (a.w:Int),.bool a.back,.bool a.fail]
structure AcOk (a:Ac):Prop where
 d:a.do_≤255
 n:a.n≤255
 t:a.tier≤255
 k:a.k≤255
 w:a.w≤255
set_option maxHeartbeats 1000000 in
theorem sact_S (p:Nat) (s:Sm) (a:Ac) (ha:AcOk a) (hn1:1≤s.nd.length) (hc1:1≤s.cn) (hc16:s.cn≤16) (hok:(Wr s a).ok=true) {W:World} (hW:TabW W):Spec Tryz.prog 20 [pt p,.agg (acC a).toArray] [SP p s,old W] fun Γ _ Θ=>Θ=SP p (Wr s a)::old W::Γ:=by
 obtain⟨a1,a2,a3,a4,a5⟩:=ha;obtain⟨T,hT⟩:∃T,T=Wr s a:=⟨_,rfl⟩;rw[←hT]at hok ⊢;refine Zbd Tryz.func20 rfl Tryz.ntmps20 fun w0 Γ=>Zsh ?_;refine S.spOpen p s fun b ps nv ns rb jb gb db wb iv dv wv hF=>?_;have hnn:=hF.nn;refine S.Zz nv fun hv1 hv2 hv3=>?_;have hmx:maxLen≤9223372036854775807:=by unfold maxLen;omega
 obtain⟨i,hi⟩:∃i,i=a.n % nv.n:=⟨_,rfl⟩;have hil:i<s.nd.length:=by rw[hi,hnn];exact Nat.mod_lt _ hn1
 refine ZY 2 ?_;refine Zp (S.box (cs:=[_,_,_,_,_,_,_]) rfl rfl rfl ?_);intro b3;refine S.Z6 b3 (acC a).toArray rfl ?_;refine ZY 2 ?_;refine Zd0 (Zra 0 10) ?_;refine ZY 2 ?_;refine Zw ef (Xa Tryz.it3.h (by rw[Tryz.underlying5];rfl) rfl (Yd (by omega) (by omega))) ?_;refine ZY 5 ?_;refine Zw ef (q_rem rfl rfl (⟨by omega,by omega⟩)) ?_;refine Zy ?_;refine ZD ?_;refine Zy ?_
 refine Zc (fun ρ' Γ'=>ρ'=[(0,pt p),(3,pt b3),(4,.int .i64 (i:Int))]∧Γ'=SP p s::blk b3 46 (acC a).toArray::old W::Γ) ?_ ?_
 ·refine ZY 8 ?_;refine ZY 2 ?_;refine S.ent (lst0 s.fu _) ?_;refine S.ent (lst0 s.fu _) ?_;refine S.Z6 p (smC s b nv rb jb gb db wb iv SV.nil SV.nil).toArray rfl ?_;refine S.Yt p s b ps nv ns rb jb gb db wb iv SV.nil SV.nil hF ?_;rw[hi];exact ZM ⟨rfl,rfl⟩
 ·rintro ρ' Γ' ⟨rfl,rfl⟩;rw[hnn]at hi;refine ZY 8 ?_;refine ZY 4 ?_
  refine Zc (fun ρ' Γ'=>ρ'=[(0,pt p),(3,pt b3),(4,.int .i64 (i:Int)),(24,.int .u8 (a.do_:Int)),(25,.bool (decide (a.do_=0∨a.do_=1)))]∧Γ'=SP p s::blk b3 46 (acC a).toArray::old W::Γ) ?_ ?_
  ·refine Zj ef (fun h1=>?_) (fun h1=>?_)
   ·refine Zy ?_;first | (rw[show decide (a.do_=0∨a.do_=1)=decide ((a.do_:Int)=0) from decide_eq_decide.2 (by omega)];exact S.meet ⟨rfl,rfl⟩ ⟨rfl,rfl,rfl,rfl,rfl,trivial⟩ Sub.ent) | (rw[show decide (a.do_=0∨a.do_=1)=decide ((a.do_:Int)=1) from decide_eq_decide.2 (by omega)];exact S.meet ⟨rfl,rfl⟩ ⟨rfl,rfl,rfl,rfl,rfl,trivial⟩ Sub.ent)
   ·refine ZY 4 ?_;first | (rw[show decide (a.do_=0∨a.do_=1)=decide ((a.do_:Int)=0) from decide_eq_decide.2 (by omega)];exact S.meet ⟨rfl,rfl⟩ ⟨rfl,rfl,rfl,rfl,rfl,trivial⟩ Sub.ent) | (rw[show decide (a.do_=0∨a.do_=1)=decide ((a.do_:Int)=1) from decide_eq_decide.2 (by omega)];exact S.meet ⟨rfl,rfl⟩ ⟨rfl,rfl,rfl,rfl,rfl,trivial⟩ Sub.ent)
  ·rintro ρ' Γ' ⟨rfl,rfl⟩
   refine Zj ef (fun h2=>?_) (fun h2=>?_)
   ·rw[sact_tick h2]at hT;refine ZY 2 ?_;refine Zp (Zc1 Ze (stick_S p s (stB_ok (stick_ok (by rw[←hT];exact hok)).2) hW) ?_);rintro v Θ rfl;refine Zy ?_;exact Zfn ef Zq (by rw[hT])
   ·refine ZY 5 ?_
    refine Zj ef (fun h3=>?_) (fun h3=>?_)
    ·have hdo:a.do_=2:=by omega
     refine S.spOpen p s fun b ps nv ns rb jb gb db wb iv dv wv hF=>?_;obtain⟨j,hj⟩:∃j:Jo,j=⟨s.next,a.tier % 4,1+a.k % s.cn,1+a.w % 20⟩:=⟨_,rfl⟩;have hm1:=Int.emod_lt_of_pos (a.k:Int) (show (0:Int)<s.cn by omega);have hm2:=Int.emod_nonneg (a.k:Int) (show (s.cn:Int)≠0 by omega);refine Zy ?_;refine Zd ([blk p 55 (smC s b nv rb jb gb db wb iv dv wv).toArray,blk b3 46 (acC a).toArray]) [] (Zra 0 23) ?_;refine ZY 6 ?_;refine Zw ef (q_rem rfl rfl (⟨by omega,by omega⟩)) ?_;refine ZY 2 ?_;refine Zw ef (Xa Tryz.it3.h (by rw[Tryz.underlying5];rfl) rfl (Yd (by omega) (by omega))) ?_;refine ZY 5 ?_;refine Zw ef (q_rem rfl rfl (⟨by omega,by omega⟩)) ?_;refine Zw ef (Za ef ef) ?_;refine ZY 2 ?_;refine Zw ef (q_rem rfl rfl (⟨by omega,by omega⟩)) ?_;refine Zw ef (Xa Tryz.it3.h (by rw[Tryz.underlying5];rfl) rfl (Yd (by omega) (by omega))) ?_;refine Zw ef (Za ef ef) ?_;refine Zw ef (Qm (pvs:=[(_,_),(_,_),(_,_),(_,_)]) [_,_,_,_,_,_] Tryz.z35.h Tryz.p35.h ⟨⟨rfl,rfl⟩,⟨rfl,rfl⟩,⟨rfl,rfl⟩,⟨rfl,rfl⟩,trivial⟩ rfl) ?_;refine Z1 (i:=23) ef ef ?_;refine(S.alloc Tryz.z35.h rfl ?_);intro b5;refine Zk [] ?_;refine Z1 (i:=24) ef ef ?_;refine  (Zs ef ef (cs':=[_,_,_,_,_,_]) ef ?_);refine Zk [] ?_;refine ZD ?_;refine ZY 2 ?_
     rcases Nat.lt_or_ge s.jobs.length 20 with hj20 | hj20
     ·refine S.Z6 b5 (joC j).toArray (by rw[hj];rfl) ?_;rw[sact_add hdo hj20,←hj]at hT;have hok1:=hok;rw[hT,sAddR,Ua]at hok1;simp only[Bool.and_eq_true]at hok1;obtain⟨⟨k1,k2⟩,k3⟩:=hok1;simp only[addB,Bool.and_eq_true,decide_eq_true_eq,List.all_eq_true]at k2;obtain⟨⟨⟨⟨⟨e1,e2⟩,e3⟩,e4⟩,e5⟩,e6⟩:=k2;obtain⟨s3,hs3⟩:∃s3:Sm,s3={add1 s j with ok:=s.ok&&addB s j&&tkB (add1 s j)}:=⟨_,rfl⟩;have hk3:TkOk s3:=by rw[hs3];exact(tkB_ok k3).withOk _
      replace hT:T=Ww s3:=by rw[hT,sAddR,hs3]
      refine Zd ([blk p 55 (smC s b nv rb jb gb db wb iv dv wv).toArray,blk b5 35 (joC j).toArray,Qe jb .u32 (s.jobs.map joE)]) [] (Zra 0 7) ?_;refine ZY 7 ?_;refine Zu 61 true ef ((decide_eq_true (by rw[List.length_map];omega))) ?_;refine Zr (Zra 7 5) ?_;refine ZY 5 ?_;refine Z1g (i:=12) ef ef ef ef ef (rfl) ?_;refine  (Zc1 Ze (Add_S b s.b ps j.id j.tier j.k j.w 0 0 0 (by rw[hj];show s.next≤_;omega) e1 e2 e3 e4) ?_);rintro v Θ ⟨ps2,rfl,rfl⟩;refine Zk [13,14] ?_;refine ZY 2 ?_;refine ZD ?_
      refine Zj ef (fun h4=>?_) (fun h4=>?_)
      ·refine Zy ?_;refine Zd ([blk p 55 (smC s b nv rb jb gb db wb iv dv wv).toArray,blk b5 35 (joC j).toArray]) [] (Zra 0 7) ?_;refine ZY 7 ?_;refine Z1 (i:=7) ef ef ?_;refine(S.mapUpdate Tryz.underlying49 Tryz.underlying31 rfl rfl rfl rfl ?_);rw[jo_put (fun x hx=>e5 x hx)];refine Zk [] ?_;refine ZD ?_;refine ZY 5 ?_;refine Zv (Za ef ef) ?_;refine ZY 4 ?_;have hs4:s3={s with b:=(addR s.b (newJ j.id j.tier j.k j.w 0 0)).2,jobs:=s.jobs++[j],next:=s.next+1,ok:=s.ok&&addB s j&&tkB (add1 s j)}:=by rw[hs3];simp only[add1,if_pos h4]
       refine S.Z6 p (smC s3 b nv rb jb gb db wb iv dv wv).toArray (by rw[hs4];rfl) ?_;refine S.sub (smX p s3 b ps2 nv ns rb jb gb db wb iv dv wv (old W::Γ)) (e:=by rw[hs4];infer_instance) ?_;refine S.Yt p s3 b ps2 nv ns rb jb gb db wb iv dv wv ⟨by rw[hs4];exact hF.nd,by rw[hs4];exact hF.nn,by rw[hs4];exact hF.im⟩ ?_;refine ZY 2 ?_;refine Zp (Zc1 Ze (take_S p s3 hk3) ?_);rintro v Θ rfl;refine Zy ?_;exact Zfn ef Zq (by rw[hT])
      ·refine Zy ?_;have hs4:s3={s with b:=(addR s.b (newJ j.id j.tier j.k j.w 0 0)).2,ok:=s.ok&&addB s j&&tkB (add1 s j)}:=by rw[hs3];simp only[add1,if_neg h4]
       refine S.sub (smX p s3 b ps2 nv ns rb jb gb db wb iv dv wv (old W::Γ)) (e:=by rw[hs4];infer_instance) ?_;refine S.Yt p s3 b ps2 nv ns rb jb gb db wb iv dv wv ⟨by rw[hs4];exact hF.nd,by rw[hs4];exact hF.nn,by rw[hs4];exact hF.im⟩ ?_;refine ZY 2 ?_;refine Zp (Zc1 Ze (take_S p s3 hk3) ?_);rintro v Θ rfl;refine Zy ?_;exact Zfn ef Zq (by rw[hT])
     ·refine S.Z6 b5 (joC j).toArray (by rw[hj];rfl) ?_;rw[sact_add0 hdo (by omega)]at hT;have hok1:=hok;rw[hT,Ua]at hok1;simp only[Bool.and_eq_true]at hok1;obtain⟨k1,k3⟩:=hok1;obtain⟨s3,hs3⟩:∃s3:Sm,s3={s with ok:=s.ok&&tkB s}:=⟨_,rfl⟩;have hk3:TkOk s3:=by rw[hs3];exact(tkB_ok k3).withOk _
      replace hT:T=Ww s3:=by rw[hT,hs3]
      refine Zd ([blk p 55 (smC s b nv rb jb gb db wb iv dv wv).toArray,blk b5 35 (joC j).toArray,Qe jb .u32 (s.jobs.map joE)]) [] (Zra 0 7) ?_;refine ZY 7 ?_;refine Zu 61 false ef ((decide_eq_false (by rw[List.length_map];omega))) ?_;refine Zr (Zra 7 8) ?_;refine ZY 8 ?_;refine ZD ?_;refine ZY 4 ?_;refine S.sub (smX p s3 b ps nv ns rb jb gb db wb iv dv wv (old W::Γ)) (e:=by rw[hs3];infer_instance) ?_;refine S.Yt p s3 b ps nv ns rb jb gb db wb iv dv wv ⟨by rw[hs3];exact hF.nd,by rw[hs3];exact hF.nn,by rw[hs3];exact hF.im⟩ ?_;refine Zp (Zc1 Ze (take_S p s3 hk3) ?_);rintro v Θ rfl;refine Zy ?_;exact Zfn ef Zq (by rw[hT])
    ·refine ZY 5 ?_
     refine Zj ef (fun h5=>?_) (fun h5=>?_)
     ·have hdo:a.do_=3:=by omega
      refine S.spOpen p s fun b ps nv ns rb jb gb db wb iv dv wv hF=>?_;obtain⟨id,hid⟩:∃id,id=1+a.n % max s.next 1:=⟨_,rfl⟩;have hm3:(a.n:Int) % ((max s.next 1:Nat):Int)=((a.n % max s.next 1:Nat):Int):=rfl;have hm4:=Nat.mod_le a.n (max s.next 1);rw[sact_can hdo,←hid]at hT;have hok1:=hok;rw[hT,sCanR,Ua]at hok1;simp only[Bool.and_eq_true,decide_eq_true_eq]at hok1;obtain⟨⟨k1,k2⟩,k3⟩:=hok1;obtain⟨s3,hs3⟩:∃s3:Sm,s3={can1 s id with ok:=s.ok&&decide (s.b.orders.length≤900000)&&tkB (can1 s id)}:=⟨_,rfl⟩;have hk3:TkOk s3:=by rw[hs3];exact(tkB_ok k3).withOk _
      replace hT:T=Ww s3:=by rw[hT,sCanR,hs3]
      refine Zy ?_
      refine Zc (fun ρ' Γ'=>ρ'=[(0,pt p),(6,.int .u32 (id:Int))]∧Γ'=smX p s b ps nv ns rb jb gb db wb iv dv wv (old W::Γ)) ?_ ?_
      ·refine Zd0 (Zra 0 11) ?_;refine ZY 2 ?_;refine Zw ef (Xa Tryz.it31.h (by rw[Tryz.underlying5];rfl) rfl (inU32 (by omega) (by omega))) ?_;refine ZY 4 ?_;refine Zw ef (q_max (((max s.next 1:Nat):Int)) rfl rfl (by omega)) ?_;refine Zw ef (q_rem rfl rfl (⟨by omega,by omega⟩)) ?_;refine Zw ef (Za ef ef) ?_;refine Zy ?_;refine ZD ?_;rw[hid];exact ZM ⟨rfl,rfl⟩
      ·rintro ρ' Γ' ⟨rfl,rfl⟩;refine ZY 8 ?_;refine Zp (Zcp Ze (Cancel_S b s.b ps id k2) ?_);refine ZY 2 ?_
       refine Zj ef (fun h6=>?_) (fun h6=>?_)
       ·refine ZY 6 ?_;refine Zp (S.mapUpdate Tryz.underlying50 Tryz.underlying31 rfl rfl rfl rfl ?_);rw[setT_put];refine Zy ?_;have hs4:s3={s with b:=(Ym s.b id).2,gone:=Z5 s.gone id,ok:=s.ok&&decide (s.b.orders.length≤900000)&&tkB (can1 s id)}:=by rw[hs3];simp only[can1,if_pos h6]
        refine S.sub (smX p s3 b ps nv ns rb jb gb db wb iv dv wv (old W::Γ)) (e:=by rw[hs4];infer_instance) ?_;refine S.Yt p s3 b ps nv ns rb jb gb db wb iv dv wv ⟨by rw[hs4];exact hF.nd,by rw[hs4];exact hF.nn,by rw[hs4];exact hF.im⟩ ?_;refine ZY 2 ?_;refine Zp (Zc1 Ze (take_S p s3 hk3) ?_);rintro v Θ rfl;refine Zy ?_;exact Zfn ef Zq (by rw[hT])
       ·refine Zy ?_;have hs4:s3={s with b:=(Ym s.b id).2,ok:=s.ok&&decide (s.b.orders.length≤900000)&&tkB (can1 s id)}:=by rw[hs3];simp only[can1,if_neg h6]
        refine S.sub (smX p s3 b ps nv ns rb jb gb db wb iv dv wv (old W::Γ)) (e:=by rw[hs4];infer_instance) ?_;refine S.Yt p s3 b ps nv ns rb jb gb db wb iv dv wv ⟨by rw[hs4];exact hF.nd,by rw[hs4];exact hF.nn,by rw[hs4];exact hF.im⟩ ?_;refine ZY 2 ?_;refine Zp (Zc1 Ze (take_S p s3 hk3) ?_);rintro v Θ rfl;refine Zy ?_;exact Zfn ef Zq (by rw[hT])
     ·refine ZY 5 ?_
      refine Zj ef (fun h7=>?_) (fun h7=>?_)
      ·have hdo:a.do_=4:=by omega
       rw[sact_lost hdo,←hi]at hT;refine S.spOpen p s fun b ps nv ns rb jb gb db wb iv dv wv hF=>?_;have hnn:=hF.nn;obtain⟨n,hn⟩:=Ya hil;obtain⟨q,hq⟩:=ns_at hF.nd hn;refine S.Qh nv (by omega) fun nb nof hna _ _ _=>?_;refine ZY 7 ?_;refine Zv (Zx (i) ef (hna) ef (by omega)) ?_;refine Zv (Zo (nv) (i) ef (hna) (by rw[List.getElem?_map,hq];rfl)) ?_;refine ZY 4 ?_;refine S.conv (alls ns noB) (Ent.X8 noB hq _) ?_;refine S.niOpen q n fun nrb niv nov rs os hN=>?_;refine ZY 5 ?_
       refine Zi ef (fun h8=>?_) (fun h8=>?_)
       ·have hup:n.up=true:=h8;rw[sLostR,hn]at hT;dsimp only at hT;rw[if_pos hup]at hT;have hok1:=hok;rw[hT,Ua]at hok1;simp only[Bool.and_eq_true,decide_eq_true_eq]at hok1;obtain⟨⟨k1,k2⟩,k3⟩:=hok1;obtain⟨s3,hs3⟩:∃s3:Sm,s3={lost1 s i n with ok:=s.ok&&decide (s.b.orders.length≤800000)&&tkB (lost1 s i n)}:=⟨_,rfl⟩;have hk3:TkOk s3:=by rw[hs3];exact(tkB_ok (s:=lost1 s i n) k3).withOk _
        rw[←hs3]at hT;obtain⟨m1,m2⟩:=ns_set hq ⟨false,[],[],[],n.wrong⟩;rw[hF.nd]at m2;refine ZY 3 ?_;refine Zp (S.makeMap .u32 rfl ?_);intro b126;refine ZY 4 ?_;refine Zv (Qm (pvs:=[(_,_),(_,_)]) [_,_,_,_,_] Tryz.z107.h Tryz.p107.h ⟨⟨rfl,rfl⟩,⟨rfl,rfl⟩,trivial⟩ rfl) ?_;refine Zy ?_;refine Zp (Zs ef ef (cs':=[_,_,_,_,_]) ef ?_);refine ZY 8 ?_;refine Zp (Zcp Ze (Lost_S b s.b ps i k2) ?_);refine S.Xf (blk q 107 #[.bool false,.map (some b126),SV.nil.v,SV.nil.v,.bool n.wrong]) (Qe b126 .u32 []) (niE q b126 false n.wrong _) ?_;refine S.Yq (noB ((q,⟨false,[],[],[],n.wrong⟩):No)) (alls (ns.take i) noB) (alls (ns.drop (i+1)) noB) (Ent.Zt noB (x':=((q,⟨false,[],[],[],n.wrong⟩):No)) hq _) ?_;rw[←m1];refine S.sub (smX p s3 b ps nv (ns.set i (q,⟨false,[],[],[],n.wrong⟩)) rb jb gb db wb iv dv wv (old W::Γ)) (e:=by rw[hs3];infer_instance) ?_;refine S.Yt p s3 b ps nv (ns.set i (q,⟨false,[],[],[],n.wrong⟩)) rb jb gb db wb iv dv wv ⟨by rw[hs3];exact m2,by rw[hs3];show nv.n=(s.nd.set i _).length;rw[List.length_set];exact hnn,by rw[hs3];exact hF.im⟩ ?_;refine ZY 3 ?_;refine Zp (Zc1 Ze (take_S p s3 hk3) ?_);rintro v Θ rfl;refine Zy ?_;exact Zfn ef Zq (by rw[hT])
       ·have hup:n.up=false:=by simpa using h8
        rw[sLostR,hn]at hT;dsimp only at hT;rw[if_neg (by rw[hup];decide)]at hT;refine S.Qy q n nrb niv nov rs os hN ?_;refine S.Yq (noB ((q,n):No)) (alls (ns.take i) noB) (alls (ns.drop (i+1)) noB) (Ent.Y6 noB hq _) ?_;refine S.Yt p s b ps nv ns rb jb gb db wb iv dv wv hF ?_;refine Zy ?_;exact Zfn ef Zq (by rw[hT])
      ·refine ZY 5 ?_
       refine Zj ef (fun h9=>?_) (fun h9=>?_)
       ·have hdo:a.do_=5:=by omega
        rw[sact_up hdo,←hi]at hT;refine S.spOpen p s fun b ps nv ns rb jb gb db wb iv dv wv hF=>?_;have hnn:=hF.nn;obtain⟨n,hn⟩:=Ya hil;obtain⟨q,hq⟩:=ns_at hF.nd hn;refine S.Qh nv (by omega) fun nb nof hna _ _ _=>?_;refine ZY 7 ?_;refine Zv (Zx (i) ef (hna) ef (by omega)) ?_;refine Zv (Zo (nv) (i) ef (hna) (by rw[List.getElem?_map,hq];rfl)) ?_;refine S.conv (alls ns noB) (Ent.X8 noB hq _) ?_;refine S.niOpen q n fun nrb niv nov rs os hN=>?_;refine ZY 5 ?_
        refine Zi ef (fun h10=>?_) (fun h10=>?_)
        ·have hup:n.up=false:=by simpa using h10
         rw[sUpR,hn]at hT;dsimp only at hT;rw[if_neg (by rw[hup];decide)]at hT;have hok1:=hok;rw[hT,Ua]at hok1;simp only[Bool.and_eq_true]at hok1;obtain⟨k1,k3⟩:=hok1;obtain⟨s3,hs3⟩:∃s3:Sm,s3={up1 s i n with ok:=s.ok&&tkB (up1 s i n)}:=⟨_,rfl⟩;have hk3:TkOk s3:=by rw[hs3];exact(tkB_ok (s:=up1 s i n) k3).withOk _
         rw[←hs3]at hT;obtain⟨m1,m2⟩:=ns_set hq {n with up:=true};rw[hF.nd]at m2;refine ZY 7 ?_;refine Zv (Zx (i) ef (hna) ef (by omega)) ?_;refine Zv (Zo (nv) (i) ef (hna) (by rw[List.getElem?_map,hq];rfl)) ?_;refine ZY 8 ?_;refine ZY 3 ?_;refine Zp (Zcp Ze (Up_S b s.b ps i) ?_);refine S.Qy q {n with up:=true} nrb niv nov rs os ⟨hN.rk,hN.os,hN.i,hN.o⟩ ?_;refine S.Yq (noB ((q,{n with up:=true}):No)) (alls (ns.take i) noB) (alls (ns.drop (i+1)) noB) (Ent.Zt noB (x':=((q,{n with up:=true}):No)) hq _) ?_;rw[←m1];refine S.sub (smX p s3 b ps nv (ns.set i (q,{n with up:=true})) rb jb gb db wb iv dv wv (old W::Γ)) (e:=by rw[hs3];infer_instance) ?_;refine S.Yt p s3 b ps nv (ns.set i (q,{n with up:=true})) rb jb gb db wb iv dv wv ⟨by rw[hs3];exact m2,by rw[hs3];show nv.n=(s.nd.set i _).length;rw[List.length_set];exact hnn,by rw[hs3];exact hF.im⟩ ?_;refine ZY 3 ?_;refine Zp (Zc1 Ze (take_S p s3 hk3) ?_);rintro v Θ rfl;refine Zy ?_;exact Zfn ef Zq (by rw[hT])
        ·have hup:n.up=true:=by simpa using h10
         rw[sUpR,hn]at hT;dsimp only at hT;rw[if_pos hup]at hT;refine S.Qy q n nrb niv nov rs os hN ?_;refine S.Yq (noB ((q,n):No)) (alls (ns.take i) noB) (alls (ns.drop (i+1)) noB) (Ent.Y6 noB hq _) ?_;refine S.Yt p s b ps nv ns rb jb gb db wb iv dv wv hF ?_;refine Zy ?_;exact Zfn ef Zq (by rw[hT])
       ·refine ZY 6 ?_
        refine Zc (fun ρ' Γ'=>ρ'=[(0,pt p),(3,pt b3),(4,.int .i64 (i:Int)),(24,.int .u8 (a.do_:Int)),(171,.bool (decide (a.do_=6∨a.do_=7∨a.do_=8∨a.do_=9)))]∧Γ'=SP p s::blk b3 46 (acC a).toArray::old W::Γ) ?_ ?_
        ·refine Zj ef (fun h11=>?_) (fun h11=>?_)
         ·refine Zy ?_;first | (rw[show decide (a.do_=6∨a.do_=7∨a.do_=8∨a.do_=9)=decide ((a.do_:Int)=6) from decide_eq_decide.2 (by omega)];exact S.meet ⟨rfl,rfl⟩ ⟨rfl,rfl,rfl,rfl,rfl,trivial⟩ Sub.ent) | (rw[show decide (a.do_=6∨a.do_=7∨a.do_=8∨a.do_=9)=decide ((a.do_:Int)=7) from decide_eq_decide.2 (by omega)];exact S.meet ⟨rfl,rfl⟩ ⟨rfl,rfl,rfl,rfl,rfl,trivial⟩ Sub.ent) | (rw[show decide (a.do_=6∨a.do_=7∨a.do_=8∨a.do_=9)=decide ((a.do_:Int)=8) from decide_eq_decide.2 (by omega)];exact S.meet ⟨rfl,rfl⟩ ⟨rfl,rfl,rfl,rfl,rfl,trivial⟩ Sub.ent) | (rw[show decide (a.do_=6∨a.do_=7∨a.do_=8∨a.do_=9)=decide ((a.do_:Int)=9) from decide_eq_decide.2 (by omega)];exact S.meet ⟨rfl,rfl⟩ ⟨rfl,rfl,rfl,rfl,rfl,trivial⟩ Sub.ent)
         ·refine ZY 5 ?_
          refine Zj ef (fun h12=>?_) (fun h12=>?_)
          ·refine Zy ?_;first | (rw[show decide (a.do_=6∨a.do_=7∨a.do_=8∨a.do_=9)=decide ((a.do_:Int)=6) from decide_eq_decide.2 (by omega)];exact S.meet ⟨rfl,rfl⟩ ⟨rfl,rfl,rfl,rfl,rfl,trivial⟩ Sub.ent) | (rw[show decide (a.do_=6∨a.do_=7∨a.do_=8∨a.do_=9)=decide ((a.do_:Int)=7) from decide_eq_decide.2 (by omega)];exact S.meet ⟨rfl,rfl⟩ ⟨rfl,rfl,rfl,rfl,rfl,trivial⟩ Sub.ent) | (rw[show decide (a.do_=6∨a.do_=7∨a.do_=8∨a.do_=9)=decide ((a.do_:Int)=8) from decide_eq_decide.2 (by omega)];exact S.meet ⟨rfl,rfl⟩ ⟨rfl,rfl,rfl,rfl,rfl,trivial⟩ Sub.ent) | (rw[show decide (a.do_=6∨a.do_=7∨a.do_=8∨a.do_=9)=decide ((a.do_:Int)=9) from decide_eq_decide.2 (by omega)];exact S.meet ⟨rfl,rfl⟩ ⟨rfl,rfl,rfl,rfl,rfl,trivial⟩ Sub.ent)
          ·refine ZY 5 ?_
           refine Zj ef (fun h13=>?_) (fun h13=>?_)
           ·refine Zy ?_;first | (rw[show decide (a.do_=6∨a.do_=7∨a.do_=8∨a.do_=9)=decide ((a.do_:Int)=6) from decide_eq_decide.2 (by omega)];exact S.meet ⟨rfl,rfl⟩ ⟨rfl,rfl,rfl,rfl,rfl,trivial⟩ Sub.ent) | (rw[show decide (a.do_=6∨a.do_=7∨a.do_=8∨a.do_=9)=decide ((a.do_:Int)=7) from decide_eq_decide.2 (by omega)];exact S.meet ⟨rfl,rfl⟩ ⟨rfl,rfl,rfl,rfl,rfl,trivial⟩ Sub.ent) | (rw[show decide (a.do_=6∨a.do_=7∨a.do_=8∨a.do_=9)=decide ((a.do_:Int)=8) from decide_eq_decide.2 (by omega)];exact S.meet ⟨rfl,rfl⟩ ⟨rfl,rfl,rfl,rfl,rfl,trivial⟩ Sub.ent) | (rw[show decide (a.do_=6∨a.do_=7∨a.do_=8∨a.do_=9)=decide ((a.do_:Int)=9) from decide_eq_decide.2 (by omega)];exact S.meet ⟨rfl,rfl⟩ ⟨rfl,rfl,rfl,rfl,rfl,trivial⟩ Sub.ent)
           ·refine ZY 4 ?_;first | (rw[show decide (a.do_=6∨a.do_=7∨a.do_=8∨a.do_=9)=decide ((a.do_:Int)=6) from decide_eq_decide.2 (by omega)];exact S.meet ⟨rfl,rfl⟩ ⟨rfl,rfl,rfl,rfl,rfl,trivial⟩ Sub.ent) | (rw[show decide (a.do_=6∨a.do_=7∨a.do_=8∨a.do_=9)=decide ((a.do_:Int)=7) from decide_eq_decide.2 (by omega)];exact S.meet ⟨rfl,rfl⟩ ⟨rfl,rfl,rfl,rfl,rfl,trivial⟩ Sub.ent) | (rw[show decide (a.do_=6∨a.do_=7∨a.do_=8∨a.do_=9)=decide ((a.do_:Int)=8) from decide_eq_decide.2 (by omega)];exact S.meet ⟨rfl,rfl⟩ ⟨rfl,rfl,rfl,rfl,rfl,trivial⟩ Sub.ent) | (rw[show decide (a.do_=6∨a.do_=7∨a.do_=8∨a.do_=9)=decide ((a.do_:Int)=9) from decide_eq_decide.2 (by omega)];exact S.meet ⟨rfl,rfl⟩ ⟨rfl,rfl,rfl,rfl,rfl,trivial⟩ Sub.ent)
        ·rintro ρ' Γ' ⟨rfl,rfl⟩
         refine Zj ef (fun h14=>?_) (fun h14=>?_)
         ·rw[sact_del h14,←hi]at hT;refine ZY 5 ?_;refine Zp (Zcp Ze (deliver_S p s i a.back hil (by rw[←hT];exact hok)) ?_);refine Zy ?_;exact Zfn ef Zq (by rw[hT])
         ·refine ZY 5 ?_
          refine Zj ef (fun h15=>?_) (fun h15=>?_)
          ·rw[sact_pub (by omega)]at hT;refine ZY 5 ?_;refine Zp (Zcp Ze (publish_S p s (!a.fail) (by rw[←hT];exact hok)) ?_);refine Zy ?_;exact Zfn ef Zq (by rw[hT])
          ·refine ZY 5 ?_
           refine Zj ef (fun h16=>?_) (fun h16=>?_)
           ·rw[sact_calm (by omega)]at hT;refine ZY 2 ?_;refine Zp (Zc1 Ze (calm_S p s (by rw[←hT];exact hok) hW) ?_);rintro v Θ rfl;refine Zy ?_;exact Zfn ef Zq (by rw[hT])
           ·rw[sact_no (by omega)]at hT;refine Zy ?_;exact Zfn ef Zq (by rw[hT])
structure NB (now:Nat) (n:Nd):Prop where
 i:∀x∈n.inn,x.rank≤255
 r:∀y∈n.rk,y.2.place≤255∧y.2.frm≤now∧y.2.til≤now
 o:∀x∈n.out,x.1.rank≤255∧x.1.frm≤now∧x.1.til≤now∧x.2.length≤1000000
theorem NB.mono {a b:Nat} {n:Nd} (h:NB a n) (hab:a≤b):NB b n:=⟨h.i,fun y hy=>by have:=h.r y hy;omega,fun x hx=>by have:=h.o x hx;omega⟩
theorem NB.act {now:Nat} {n:Nd} {x:Nt} (h:NB now n) (hx:x.rank≤255):NB now (Qt n x):=by
 have hr:∀ {k:Nat} {r:Rk},Zh k n.rk=some r→r.place≤255∧r.frm≤now∧r.til≤now:=fun hg=>h.r _ (nGet_mem hg)
 have ho:∀ {y:Nt×List Int},(y.1.rank≤255∧y.1.frm≤now∧y.1.til≤now∧y.2.length≤1000000)→∀z∈n.out++[y],z.1.rank≤255∧z.1.frm≤now∧z.1.til≤now∧z.2.length≤1000000:=fun {y} hy z hz=>by
  rcases List.mem_append.1 hz with hz | hz
  ·exact h.o z hz
  ·rw[List.mem_singleton.1 hz];exact hy
 have hp:∀ {k:Nat} {r:Rk},(r.place≤255∧r.frm≤now∧r.til≤now)→∀y∈Yr k r n.rk,y.2.place≤255∧y.2.frm≤now∧y.2.til≤now:=fun {k r} hy y hz=>by
  rcases Vq hz with rfl | hz
  ·exact hy
  ·exact h.r y hz
 unfold Qt
 split
 ·exact⟨h.i,hp ⟨hx,Nat.zero_le _,Nat.zero_le _⟩,ho ⟨Nat.zero_le _,Nat.zero_le _,Nat.zero_le _,Nat.zero_le _⟩⟩
 split
 ·split
  ·exact⟨h.i,h.r,h.o⟩
  ·rename_i r hg;exact⟨h.i,hp ⟨(hr hg).1,Nat.zero_le _,Nat.zero_le _⟩,h.o⟩
 split
 ·split
  ·split
   ·exact h
   ·rename_i r hg;exact⟨h.i,hp ⟨(hr hg).1,(hr hg).2.1,(hr hg).2.2⟩,ho ⟨Nat.zero_le _,(hr hg).2.1,(hr hg).2.2,Nat.zero_le _⟩⟩
  ·exact⟨h.i,h.r,ho ⟨Nat.zero_le _,Nat.zero_le _,Nat.zero_le _,Nat.zero_le _⟩⟩
 split
 ·split
  ·exact⟨h.i,h.r,h.o⟩
  ·rename_i r hg;exact⟨h.i,h.r,ho ⟨(hr hg).1,Nat.zero_le _,Nat.zero_le _,by show 2≤1000000;omega⟩⟩
 split
 ·exact⟨h.i,fun y hy=>h.r y (mem_nDel hy),ho ⟨Nat.zero_le _,Nat.zero_le _,Nat.zero_le _,Nat.zero_le _⟩⟩
 ·exact h
theorem NB.tick {now:Nat} {n:Nd} (h:NB now n):NB (now+1) (Q0 (now+1) n):=by
 have h1:=h.mono (Nat.le_succ now);unfold Q0
 split
 ·split
  ·exact h1
  ·rename_i r hg;refine⟨h1.i,fun y hy=>?_,h1.o⟩;have hr:=h1.r _ (nGet_mem hg)
   rcases Vq hy with rfl | hy
   ·refine⟨hr.1,?_,Nat.le_refl _⟩;show (if r.frm=0 then now+1 else r.frm)≤now+1
    split
    ·exact Nat.le_refl _
    ·exact hr.2.1
   ·exact h1.r y hy
 ·exact h1
structure SB (s:Sm) (F T:Nat):Prop where
 gj:GJ s.b s.nd
 di:DI s.b s.done s.next
 now:s.b.now=s.now
 len:s.nd.length=s.cn
 c1:1≤s.cn
 c16:s.cn≤16
 jb:s.next=s.jobs.length+1
 jl:s.jobs.length≤20
 jid:∀j∈s.jobs,j.id<s.next
 jn:(s.jobs.map (·.id)).Nodup
 ran:∀x∈s.ran,x.2≤s.now
 nb:∀n∈s.nd,NB s.now n
 fl:∀n∈s.nd,n.inn.length≤s.fu∧n.out.length≤s.fu
 im:s.images.length≤s.fu
 fu:s.fu≤F
 tm:s.now≤T
structure SI (s:Sm) (F T:Nat):Prop where
 sb:SB s F T
 ok:s.ok=true
 e1:s.b.orders=[]
 e2:s.b.images=[]
 e3:s.b.done=[]
theorem SB.few {s:Sm} {F T:Nat} (h:SB s F T):s.b.js.length≤21:=by
 have h1:(s.b.js.map (·.id)).Pairwise (· < ·):=List.pairwise_map.2 h.gj.gi.bi.ok.srt
 have h2:=riseN_len h1 (N:=21) fun i hi=>by
  obtain⟨x,hx,rfl⟩:=List.mem_map.1 hi;have:=h.di.lt x hx;have:=h.jb;have:=h.jl;omega
 rwa [List.length_map]at h2
theorem tk_of {s:Sm} {F T:Nat} (h:SB s F T) (hF:F≤100000000000) (h1:s.b.orders.length≤900000) (h2:s.b.images.length≤900000) (h3:s.b.done.length≤900000):tkB s=true:=by
 have hfu:=h.fu;simp only[tkB,Bool.and_eq_true,decide_eq_true_eq,List.all_eq_true];exact⟨⟨⟨⟨⟨⟨⟨h.len,h.c1⟩,fun n hn=>h.fl n hn⟩,h.im⟩,by omega⟩,h1⟩,h2⟩,h3⟩
theorem SB.ok_ {s:Sm} {F T:Nat} (h:SB s F T) (o:Bool):SB {s with ok:=o} F T:=⟨h.gj,h.di,h.now,h.len,h.c1,h.c16,h.jb,h.jl,h.jid,h.jn,h.ran,h.nb,h.fl,h.im,h.fu,h.tm⟩
theorem take_SI {s:Sm} {F T d:Nat} (h:SB s F T) (hok:s.ok=true) (hd:s.b.orders.length+s.b.images.length+s.b.done.length≤d):SI (Ww s) (F+d) T:=by
 have hdt:=done_take s.b.done (V3 s.nd s.b.orders) s.done h.di.nd;have hg:=take_gi h.gj
 have hup:∀o∈s.b.orders,∃n,s.nd[o.1]?=some n∧n.up=true:=fun o ho=>by
  have hi:=h.gj.gi.dst o ho;have hlt:=up_lt h.gj.gi.bi hi;obtain⟨n,hn⟩:=Ya (show o.1<s.nd.length by rw[h.gj.gi.len];exact hlt);exact⟨n,hn,(h.gj.gi.ofUp hn).2 hi⟩
 obtain⟨k1,k2⟩:=ords_at s.b.orders s.nd hup
 have key:∀m∈V3 s.nd s.b.orders,∃n∈s.nd,∃i,m={n with inn:=n.inn++qOf s.b.orders i}:=fun m hm=>by
  obtain⟨i,hi⟩:=List.getElem?_of_mem hm;obtain⟨n,hn⟩:=Ya (show i<s.nd.length by rw[←k1];exact(List.getElem?_eq_some_iff.1 hi).1);rw[k2 i n hn]at hi;exact⟨n,List.mem_of_getElem? hn,i,(Option.some.inj hi).symm⟩
 have hql:∀i,(qOf s.b.orders i).length≤s.b.orders.length:=fun i=>by rw[qOf,List.length_map];exact List.length_filter_le _ _
 have hfu:=h.fu
 have e:Ww s={s with b:={s.b with orders:=[],images:=[],done:=[]},nd:=V3 s.nd s.b.orders,done:=s.done++s.b.done,images:=s.images++(Xz s.b).1,fu:=s.fu+s.b.orders.length+s.b.images.length+s.b.done.length}:=by
  unfold Ww;simp only[hdt]
 rw[e]
 refine⟨⟨hg,⟨h.di.srt,by rw[List.append_nil];exact h.di.nd,fun id hid=>h.di.old id (by rw[List.append_nil]at hid;exact hid),h.di.lt,fun id hid=>h.di.ltd id (by rw[List.append_nil]at hid;exact hid),h.di.ag⟩,h.now,k1.trans h.len,h.c1,h.c16,h.jb,h.jl,h.jid,h.jn,h.ran,fun m hm=>?_,fun m hm=>?_,?_,?_,h.tm⟩,hok,rfl,rfl,rfl⟩
 ·obtain⟨n,hn,i,rfl⟩:=key m hm;have hN:=h.nb n hn;refine⟨fun x hx=>?_,hN.r,hN.o⟩
  rcases List.mem_append.1 hx with hx | hx
  ·exact hN.i x hx
  ·exact h.gj.ork _ (mem_qOf.1 hx)
 ·obtain⟨n,hn,i,rfl⟩:=key m hm;obtain⟨f1,f2⟩:=h.fl n hn;have:=hql i
  refine⟨?_,?_⟩
  ·show (n.inn++qOf s.b.orders i).length≤s.fu+s.b.orders.length+s.b.images.length+s.b.done.length;rw[List.length_append];omega
  ·show n.out.length≤s.fu+s.b.orders.length+s.b.images.length+s.b.done.length;omega
 ·show (s.images++(Xz s.b).1).length≤s.fu+s.b.orders.length+s.b.images.length+s.b.done.length;have h1:(Xz s.b).1.length≤s.b.images.length:=List.length_filter_le _ _;have:=h.im;rw[List.length_append];omega
 ·show s.fu+s.b.orders.length+s.b.images.length+s.b.done.length≤F+d;omega
theorem SI.mono {s:Sm} {F T F' T':Nat} (h:SI s F T) (h1:F≤F') (h2:T≤T'):SI s F' T':=
 ⟨⟨h.sb.gj,h.sb.di,h.sb.now,h.sb.len,h.sb.c1,h.sb.c16,h.sb.jb,h.sb.jl,h.sb.jid,h.sb.jn,h.sb.ran,h.sb.nb,h.sb.fl,h.sb.im,Nat.le_trans h.sb.fu h1,Nat.le_trans h.sb.tm h2⟩,h.ok,h.e1,h.e2,h.e3⟩
theorem am_of {b:Br} {nd:List Nd} (h:GJ b nd):amAll nd=true:=List.all_eq_true.2 fun n hn=>by
 obtain⟨i,hi⟩:=List.getElem?_of_mem hn;cases hu:n.up with
 | true=>exact amB_of (h.gi.node i n hi hu).kn (h.gi.node i n hi hu).one
 | false=>rw[(h.gi.off i n hi hu).1];rfl
theorem ws_of {b:Br} (h:BrI b never):WSav b:=fun x hx e=>((h.j x hx).q e).2.2.1
theorem wsB_of {b:Br} (h:WSav b):wsB b=true:=List.all_eq_true.2 fun x hx=>by
 rw[Bool.or_eq_true,decide_eq_true_eq]
 by_cases e:x.state=0
 ·exact .inr (by rw[h x hx e];rfl)
 ·exact .inl e
theorem ran_le {s:Sm} (l:List Nd) {k:Nat} (hn:(s.jobs.map (·.id)).Nodup) (h:∀x∈s.ran,x.2≤k):∀x∈ranR s l,x.2≤k+1:=by
 have key:∀(js:List Jo) (r:List (Nat×Nat)),(js.map (·.id)).Nodup→(∀x∈r,x.2≤k+1)→(∀j∈js,Xl j.id r≤k)→∀x∈js.foldl (fun r j=>if ranB l j then Yr j.id (Xl j.id r+1) r else r) r,x.2≤k+1:=by
  intro js;induction js with
  | nil=>exact fun _ _ h _=>h
  | cons j js ih=>
   intro r hn h1 h2;rw[List.map_cons,List.nodup_cons]at hn;have hj:=h2 j (List.mem_cons_self ..);rw[List.foldl_cons]
   refine ih _ hn.2 ?_ fun i hi=>?_
   ·split
    ·intro x hx
     rcases Vq hx with rfl | hx
     ·show Xl j.id r+1≤k+1;omega
     ·exact h1 x hx
    ·exact h1
   ·have hne:i.id≠j.id:=fun e=>hn.1 (List.mem_map.2 ⟨i,hi,e⟩)
    split
    ·rw[nLook_put,if_neg hne];exact h2 i (List.mem_cons_of_mem _ hi)
    ·exact h2 i (List.mem_cons_of_mem _ hi)
 exact key s.jobs s.ran hn (fun x hx=>Nat.le_succ_of_le (h x hx)) fun j _=>nLook_le h j.id
theorem tick_SI {s:Sm} {F T:Nat} (h:SI s F T) (hF:F≤99999000000) (hT:T+1≤4294967295):SI (stickR s) (F+80000) (T+1):=by
 have hB:=h.sb;have hnow:=hB.tm
 have hst:stB s=true:=by
  simp only[stB,Bool.and_eq_true,decide_eq_true_eq,List.all_eq_true];refine⟨⟨⟨⟨⟨⟨⟨tk_of hB (by omega) (by rw[h.e1];exact Nat.zero_le _) (by rw[h.e2];exact Nat.zero_le _) (by rw[h.e3];exact Nat.zero_le _),by omega⟩,am_of hB.gj⟩,am_of (ndTick_gi hB.gj (s.now+1))⟩,wsB_of (ws_of hB.gj.gi.bi)⟩,by rw[h.e1];exact Nat.zero_le _⟩,hB.c16⟩,fun x hx=>hB.ran x hx⟩
 have hg:=tick_gi (ndTick_gi hB.gj (s.now+1)) (now:=s.now+1) (by omega);obtain⟨d1,d2,d3⟩:=tick_DI hB.di (now:=s.now+1) (by rw[hB.now];omega) hg.gi.bi.ok.srt;obtain⟨_,o1⟩:=tick_after hB.gj.gi.bi.ok (ws_of hB.gj.gi.bi) (now:=s.now+1) (by omega);have hs3:=Sm3.tick s.b (s.now+1);have q1:=hs3.im;have q2:=hs3.dn;rw[h.e1]at o1;rw[h.e2]at q1;rw[h.e3]at q2;simp only[List.length_nil]at o1 q1 q2
 have e:stickR s=Ww {s with now:=s.now+1,ran:=ranR s (s.nd.map (Q0 (s.now+1))),b:=(Y4 s.b (s.now+1)).2,nd:=s.nd.map (Q0 (s.now+1)),ok:=s.ok&&stB s}:=by
  unfold stickR;dsimp only;rw[if_neg (by rw[d3];exact fun e=>e rfl)]
 rw[e]
 have hS:SB {s with now:=s.now+1,ran:=ranR s (s.nd.map (Q0 (s.now+1))),b:=(Y4 s.b (s.now+1)).2,nd:=s.nd.map (Q0 (s.now+1)),ok:=s.ok&&stB s} F (T+1):=by
  refine⟨hg,d1,d2,by show (s.nd.map _).length=_;rw[List.length_map];exact hB.len,hB.c1,hB.c16,hB.jb,hB.jl,hB.jid,hB.jn,ran_le (s:=s) (s.nd.map (Q0 (s.now+1))) hB.jn hB.ran,fun n hn=>?_,fun n hn=>?_,hB.im,hB.fu,by show s.now+1≤_;omega⟩
  ·obtain⟨m,hm,rfl⟩:=List.mem_map.1 hn;exact(hB.nb m hm).tick
  ·obtain⟨m,hm,rfl⟩:=List.mem_map.1 hn;obtain⟨_,e2,e3,_⟩:=ndTick_up (s.now+1) m;rw[e2,e3];exact hB.fl m hm
 refine(take_SI (d:=70000) hS (by show (s.ok&&stB s)=true;rw[h.ok,hst];rfl) ?_).mono (by omega) (Nat.le_refl _);show (Y4 s.b (s.now+1)).2.orders.length+(Y4 s.b (s.now+1)).2.images.length+(Y4 s.b (s.now+1)).2.done.length≤_;omega
theorem hear_ord {b:Br} (h:Qp b) (n:Int) {t:Nt} (ht:t.frm≤4294967295∧t.til≤4294967295) (bl:List Int):(Wh b n t bl).2.orders.length≤b.orders.length+16*b.js.length:=by
 unfold Wh
 split
 ·exact Nat.le_add_right _ _
 split
 ·show (V8 b n.toNat t).orders.length≤_
  by_cases hc:n.toNat∈b.stops.getD []∧b.stopped=true∧t.gen=b.gen
  ·rw[heardR_yes hc.1 hc.2.1 hc.2.2];have h1:=stopHeardR_ord (noteR_ok h n.toNat ht) n.toNat
   have h2:(noteR b n.toNat t).js.length=b.js.length:=by
    unfold noteR
    split
    ·rfl
    ·split
     ·rfl
     ·split
      ·exact setJ_len _ _
      ·rfl
   rw[noteR_ord,h2]at h1;exact h1
  ·rw[Vh hc];exact Nat.le_add_right _ _
 ·cases hg:Qb b.js t.job with
  | none=>exact Nat.le_add_right _ _
  | some x=>
   simp only
   split
   ·have:(Wl b x n.toNat t bl).orders=b.orders:=by
     unfold Wl
     split
     ·split <;> rfl
     split
     ·unfold Wp;cases hs:x.sav with
      | none=>rfl
      | some s=>
       cases hr:rankOf x.at_ n.toNat with
       | none=>rfl
       | some r=>
        simp only
        split
        ·rfl
        ·split <;> rfl
     split
     ·split
      ·rfl
      ·exact(goneR_same _ _).1
     ·rfl
    rw[this];exact Nat.le_add_right _ _
   ·exact Nat.le_add_right _ _
theorem set_mem {nd:List Nd} {i:Nat} {n' m:Nd} (h:m∈nd.set i n'):m=n'∨m∈nd:=(List.mem_or_eq_of_mem_set h).symm
theorem act_len (n:Nd) (x:Nt):(Qt n x).out.length≤n.out.length+1:=by
 have h1:∀y:Nt×List Int,(n.out++[y]).length≤n.out.length+1:=fun y=>by rw[List.length_append,List.length_singleton];exact Nat.le_refl _
 have h0:=Nat.le_succ n.out.length;unfold Qt
 split
 ·exact h1 _
 split
 ·split <;> exact h0
 split
 ·split
  ·split
   ·exact h0
   ·exact h1 _
  ·exact h1 _
 split
 ·split
  ·exact h0
  ·exact h1 _
 split
 ·exact h1 _
 ·exact h0
theorem deliver_SI {s:Sm} {F T:Nat} (h:SI s F T) (hF:F≤99999000000) (hT:T≤4294967295) (i:Nat) (back:Bool):SI (Q1 s i back).2 (F+1000) T:=by
 have hm:=h.mono (Nat.le_add_right F 1000) (Nat.le_refl T);have hB:=h.sb;have htm:=hB.tm;have htk:=tk_of hB (by omega) (by rw[h.e1];exact Nat.zero_le _) (by rw[h.e2];exact Nat.zero_le _) (by rw[h.e3];exact Nat.zero_le _);unfold Q1;cases hn:s.nd[i]? with
 | none=>exact hm
 | some n=>
  simp only;have hmem:=List.mem_of_getElem? hn;have hNB:=hB.nb n hmem;obtain⟨f1,f2⟩:=hB.fl n hmem
  by_cases hu0:n.up=false
  ·rw[if_pos hu0];exact hm
  ·have hu:n.up=true:=by simpa using hu0
   rw[if_neg hu0];cases back with
   | true=>
    rw[if_pos rfl]
    split
    ·exact hm
    ·rename_i x l ho;have hx:=hNB.o x (by rw[ho];exact List.mem_cons_self ..);have h32:x.1.frm≤4294967295∧x.1.til≤4294967295:=⟨by omega,by omega⟩;have hg:=hear_gi hB.gj hn hu ho h32;have hj:=jr_hear s.b i x.1 x.2
     have hS:SB (hear1 s i n x l) F T:=by
      refine⟨hg,hB.di.jr hj hg.gi.bi.ok.srt,(hj hB.di.ag).1.2.trans hB.now,by show (s.nd.set i _).length=_;rw[List.length_set];exact hB.len,hB.c1,hB.c16,hB.jb,hB.jl,hB.jid,hB.jn,hB.ran,fun m hm'=>?_,fun m hm'=>?_,hB.im,hB.fu,hB.tm⟩
      ·rcases set_mem hm' with rfl | hm'
       ·exact⟨hNB.i,hNB.r,fun y hy=>hNB.o y (by rw[ho];exact List.mem_cons_of_mem _ hy)⟩
       ·exact hB.nb m hm'
      ·rcases set_mem hm' with rfl | hm'
       ·rw[ho,List.length_cons]at f2;exact⟨f1,by show l.length≤s.fu;omega⟩
       ·exact hB.fl m hm'
     have o1:=hear_ord hB.gj.gi.bi.ok i h32 x.2;have o2:=Sm3.hear s.b i x.1 x.2;have o3:=o2.im;have o4:=o2.dn;have hfew:=hB.few;rw[h.e1]at o1;rw[h.e2]at o3;rw[h.e3]at o4;simp only[List.length_nil]at o1 o3 o4
     have hnt:ntB x=true:=by
      simp only[ntB,Bool.and_eq_true,decide_eq_true_eq];exact⟨⟨⟨hx.1,h32.1⟩,h32.2⟩,hx.2.2.2⟩
     have htk2:=tk_of hS (by omega) (by show (Wh s.b i x.1 x.2).2.orders.length≤_;omega) (by show (Wh s.b i x.1 x.2).2.images.length≤_;omega) (by show (Wh s.b i x.1 x.2).2.done.length≤_;omega)
     refine(take_SI (d:=1000) (hS.ok_ _) ?_ ?_)
     ·show (s.ok&&ntB x&&tkB s&&decide (s.b.orders.length≤800000)&&decide (s.b.images.length≤800000)&&tkB (hear1 s i n x l))=true;rw[h.ok,hnt,htk,htk2,h.e1,h.e2];rfl
     ·show (Wh s.b i x.1 x.2).2.orders.length+(Wh s.b i x.1 x.2).2.images.length+(Wh s.b i x.1 x.2).2.done.length≤_;omega
   | false=>
    rw[if_neg (by decide)]
    split
    ·exact hm
    ·rename_i x l hi;have hN:=hB.gj.gi.node i n hn hu;have hNl:NB s.now {n with inn:=l}:=⟨fun y hy=>hNB.i y (by rw[hi];exact List.mem_cons_of_mem _ hy),hNB.r,hNB.o⟩;have hal:=act_len {n with inn:=l} x
     refine⟨⟨act_gi hB.gj hn hu hi,hB.di,hB.now,by show (s.nd.set i _).length=_;rw[List.length_set];exact hB.len,hB.c1,hB.c16,hB.jb,hB.jl,hB.jid,hB.jn,hB.ran,fun m hm'=>?_,fun m hm'=>?_,Nat.le_succ_of_le hB.im,by show s.fu+1≤_;have:=hB.fu;omega,hB.tm⟩,?_,h.e1,h.e2,h.e3⟩
     ·rcases set_mem hm' with rfl | hm'
      ·exact hNl.act (hNB.i x (by rw[hi];exact List.mem_cons_self ..))
      ·exact hB.nb m hm'
     ·rcases set_mem hm' with rfl | hm'
      ·rw[hi,List.length_cons]at f1;rw[(act_in _ _).2];refine⟨by show l.length≤s.fu+1;omega,?_⟩;show _≤s.fu+1;exact Nat.le_trans hal (by show n.out.length+1≤_;omega)
      ·obtain⟨q1,q2⟩:=hB.fl m hm';exact⟨by show _≤s.fu+1;omega,by show _≤s.fu+1;omega⟩
     ·show (s.ok&&amB n.rk&&tkB s)=true;rw[h.ok,amB_of hN.kn hN.one,htk];rfl
theorem publish_SI {s:Sm} {F T:Nat} (h:SI s F T) (hF:F≤99999000000) (o:Bool):SI (Z3 s o).2 (F+1000) T:=by
 have hB:=h.sb;have htk:=tk_of hB (by omega) (by rw[h.e1];exact Nat.zero_le _) (by rw[h.e2];exact Nat.zero_le _) (by rw[h.e3];exact Nat.zero_le _);unfold Z3
 split
 ·exact h.mono (Nat.le_add_right F 1000) (Nat.le_refl T)
 ·rename_i x l hi;have hg:=published_gi hB.gj x.job x.ver o;have hS:SB (pub1 s x l o) F T:=⟨hg,published_DI hB.di _ _ _ hg.gi.bi.ok.srt,(published_now hB.di.ag _ _ _).trans hB.now,hB.len,hB.c1,hB.c16,hB.jb,hB.jl,hB.jid,hB.jn,hB.ran,hB.nb,hB.fl,by have:=hB.im;rw[hi,List.length_cons]at this;show l.length≤s.fu;omega,hB.fu,hB.tm⟩;have o2:=Sm3.published s.b x.job x.ver o;have o3:=o2.im;have o4:=o2.dn
  have o1:(Qn s.b x.job x.ver o).2.orders.length≤16:=by
   unfold Qn;cases hg2:Qb s.b.js x.job with
   | none=>rw[h.e1];exact Nat.zero_le _
   | some y=>
    simp only
    split
    ·rw[h.e1];exact Nat.zero_le _
    ·split
     ·rw[h.e1];exact Nat.zero_le _
     ·rename_i z _ _;have k1:=(finishR_same s.b {y with credit:=if o then z.credit else y.credit,sav:=none}).1;have k2:=Nat.le_trans (hB.gj.gi.bi.ok.job y (Qa hg2).1).len hB.gj.gi.bi.ok.N16;rw[h.e1]at k1;simp only[List.length_nil]at k1;exact Nat.le_trans k1 (by show 0+y.at_.length≤16;omega)
  rw[h.e2]at o3;rw[h.e3]at o4;simp only[List.length_nil]at o3 o4;have htk2:=tk_of hS (by omega) (by show (Qn s.b x.job x.ver o).2.orders.length≤_;omega) (by show (Qn s.b x.job x.ver o).2.images.length≤_;omega) (by show (Qn s.b x.job x.ver o).2.done.length≤_;omega)
  refine take_SI (d:=1000) (hS.ok_ _) ?_ ?_
  ·show (s.ok&&tkB s&&decide (s.b.orders.length≤800000)&&decide (s.b.done.length≤800000)&&tkB (pub1 s x l o))=true;rw[h.ok,htk,htk2,h.e1,h.e3];rfl
  ·show (Qn s.b x.job x.ver o).2.orders.length+(Qn s.b x.job x.ver o).2.images.length+(Qn s.b x.job x.ver o).2.done.length≤_;omega
theorem round_SI {F T:Nat} {s:Sm} (h:SI s F T) (o:Bool) (hT:T≤4294967295):∀i,F+2000*i≤99999000000→SI (roundUp s o i).2 (F+2000*i) T
 | 0,_=>h
 | i+1,hF=>by
  have h1:=round_SI h o hT i (by omega);have h2:=deliver_SI h1 (by omega) hT i false;have h3:=deliver_SI h2 (by omega) hT i true;exact h3.mono (by omega) (Nat.le_refl _)
theorem calmUp_SI {T:Nat} (hT:T≤4294967295):∀(k:Nat) {F:Nat} {s:Sm},SI s F T→F+33000*k≤99999000000→SI (calmUp s k) (F+33000*k) T
 | 0,_,_,h,_=>h
 | k+1,F,s,h,hF=>by
  have h1:=publish_SI h (by omega) true;have hl:(Z3 s true).2.nd.length≤16:=by rw[h1.sb.len];exact h1.sb.c16
  have h2:=round_SI h1 (Z3 s true).1 hT (Z3 s true).2.nd.length (by omega);rw[calmUp]
  split
  ·exact(calmUp_SI hT k (h2.mono (F':=F+33000) (by omega) (Nat.le_refl _)) (by omega)).mono (by omega) (Nat.le_refl _)
  ·exact h2.mono (by omega) (Nat.le_refl _)
theorem calm_SI {s:Sm} {F T:Nat} (h:SI s F T) (hF:F≤99000000000) (hT:T+1≤4294967295):SI (calmR s) (F+100000000) (T+1):=by
 have h1:=tick_SI h (by omega) hT;exact(calmUp_SI hT 3000 h1 (by omega)).mono (by omega) (Nat.le_refl _)
theorem hide_SI {s t:Sm} {F T d:Nat} (h:SI s F T) (hF:F≤99999000000) (hd:d≤1000) (hS:SB t F T) (_:t.ok=s.ok) (hdl:t.b.orders.length+t.b.images.length+t.b.done.length≤d):tkB s=true∧tkB t=true∧∀o:Bool,o=true→SI (Ww {t with ok:=o}) (F+d) T:=by
 have hB:=h.sb;have htk:=tk_of hB (by omega) (by rw[h.e1];exact Nat.zero_le _) (by rw[h.e2];exact Nat.zero_le _) (by rw[h.e3];exact Nat.zero_le _);have htk2:=tk_of hS (by omega) (by omega) (by omega) (by omega);exact⟨htk,htk2,fun o ho=>take_SI (hS.ok_ o) ho hdl⟩
theorem add_SI {s:Sm} {F T:Nat} (h:SI s F T) (hF:F≤99000000000) (hj20:s.jobs.length<20) (tier k w:Nat):SI (sAddR s ⟨s.next,tier % 4,1+k % s.cn,1+w % 20⟩) (F+1000) T:=by
 have hB:=h.sb;have hjb:=hB.jb;have hc1:=hB.c1;have hkm:=Nat.mod_lt k (show 0<s.cn by omega);have hnn:s.b.nodes=s.cn:=hB.gj.gi.len.symm.trans hB.len;obtain⟨j,hj⟩:∃j:Jo,j=⟨s.next,tier % 4,1+k % s.cn,1+w % 20⟩:=⟨_,rfl⟩;rw[←hj];have j1:j.id=s.next:=by rw[hj]
 have j2:j.tier≤3:=by rw[hj];show tier % 4≤3;omega
 have j3:1≤j.k∧j.k≤s.cn:=by rw[hj];exact⟨Nat.le_add_right _ _,by show 1+k % s.cn≤_;omega⟩
 have j4:1≤j.w∧j.w≤20:=by rw[hj];exact⟨Nat.le_add_right _ _,by show 1+w % 20≤_;omega⟩
 obtain⟨x,hx⟩:∃x,x=newJ j.id j.tier j.k j.w 0 0:=⟨_,rfl⟩;have x1:x.id=s.next:=by rw[hx];exact j1
 have xw:x.credit<x.w:=by rw[hx];show 0<j.w;omega
 have xd:x.done=false:=by rw[hx]
 have hok:addOk s.b x=true:=by
  rw[hx];simp only[addOk,Bool.and_eq_true,decide_eq_true_eq];exact⟨⟨⟨⟨⟨⟨by omega,by omega⟩,by omega⟩,by omega⟩,by omega⟩,by omega⟩,by omega⟩
 have hno:Qb s.b.js x.id=none:=by
  cases hg:Qb s.b.js x.id with
  | none=>rfl
  | some y=>
   obtain⟨g1,g2⟩:=Qa hg;have:=hB.di.lt y g1;omega
 have hfew:=hB.few;have hjl:=hB.jl;have hs2:=insJ_ok hB.gj.gi.bi.ok.srt (V0 hno);have hgi:=getJ_insA (x:=x) hB.gj.gi.bi.ok.srt hno;have hg:Qb (insB s.b x).js x.id=some x:=by rw[show (insB s.b x).js=Ud x s.b.js from rfl,hgi,if_pos rfl]
 have hf:Qz (insB s.b x) x=insB s.b x:=by
  rw[Qz,if_pos (.inl xw)];show ({insB s.b x with js:=Yf (Ud x s.b.js) x}:Br)=insB s.b x;rw[show Yf (Ud x s.b.js) x=Ud x s.b.js from ?_];refine(List.map_congr_left fun y hy=>?_).trans (List.map_id' _)
  split
  ·rename_i e;have:=Xo hs2 hy;rw[e,show Qb (Ud x s.b.js) x.id=some x from hg]at this;exact Option.some.inj this
  ·rfl
 have hadd:addR s.b (newJ j.id j.tier j.k j.w 0 0)=(0,insB s.b x):=by
  rw[←hx,addR,if_neg (by rw[hok];decide),hno];show (if (none:Option Bj).isSome=true then _ else _)=_;rw[if_neg (by decide)];show ((0:Int),Qz (insB s.b x) x)=_;rw[hf]
 have hgj:=add_gi hB.gj (id:=j.id) (tier:=j.tier) (k:=j.k) (w:=j.w) (by omega) (by omega);rw[hadd]at hgj
 have e1:add1 s j={s with b:=insB s.b x,jobs:=s.jobs++[j],next:=s.next+1}:=by
  unfold add1;rw[hadd];rfl
 have hDI:DI (insB s.b x) s.done (s.next+1):=by
  refine⟨hs2,hB.di.nd,fun id hid z hz=>?_,fun z hz=>?_,fun id hid=>Nat.lt_succ_of_lt (hB.di.ltd id hid),fun z hz e=>?_⟩
  ·rw[show (insB s.b x).js=Ud x s.b.js from rfl,hgi]at hz
   split at hz
   ·rename_i e;have:=hB.di.ltd id hid;omega
   ·exact hB.di.old id hid z hz
  ·rcases Vr.1 (show z∈Ud x s.b.js from hz) with rfl | hz
   ·omega
   ·exact Nat.lt_succ_of_lt (hB.di.lt z hz)
  ·rcases Vr.1 (show z∈Ud x s.b.js from hz) with rfl | hz
   ·rw[xd]at e;cases e
   ·exact hB.di.ag z hz e
 have hne:∀y∈s.jobs,y.id≠j.id:=fun y hy e=>by have:=hB.jid y hy;omega
 have hS:SB (add1 s j) F T:=by
  rw[e1]
  refine⟨hgj,hDI,hB.now,hB.len,hB.c1,hB.c16,?_,?_,fun y hy=>?_,?_,hB.ran,hB.nb,hB.fl,hB.im,hB.fu,hB.tm⟩
  ·show s.next+1=(s.jobs++[j]).length+1;rw[List.length_append,List.length_singleton];omega
  ·show (s.jobs++[j]).length≤20;rw[List.length_append,List.length_singleton];omega
  ·show y.id<s.next+1
   rcases List.mem_append.1 hy with hy | hy
   ·exact Nat.lt_succ_of_lt (hB.jid y hy)
   ·rw[List.mem_singleton.1 hy];omega
  ·show ((s.jobs++[j]).map (·.id)).Nodup;rw[List.map_append];refine List.nodup_append.2 ⟨hB.jn,List.nodup_cons.2 ⟨by simp,List.nodup_nil⟩,fun a h1 c h2 e=>?_⟩;obtain⟨y,hy,rfl⟩:=List.mem_map.1 h1;rw[List.map_singleton,List.mem_singleton]at h2;exact hne y hy (e.trans h2)
 have hz:(add1 s j).b.orders.length+(add1 s j).b.images.length+(add1 s j).b.done.length≤1000:=by
  rw[e1];show s.b.orders.length+s.b.images.length+s.b.done.length≤1000;rw[h.e1,h.e2,h.e3];decide
 obtain⟨q1,q2,q3⟩:=hide_SI h (by omega) (Nat.le_refl _) hS (by rw[e1]) hz;refine q3 _ ?_
 have hB2:addB s j=true:=by
  simp only[addB,Bool.and_eq_true,decide_eq_true_eq,List.all_eq_true];exact⟨⟨⟨⟨⟨by rw[←hx];exact hok,by omega⟩,by rw[h.e1];exact Nat.zero_le _⟩,by rw[h.e3];exact Nat.zero_le _⟩,fun y hy=>hne y hy⟩,by omega⟩
 rw[h.ok,hB2,q2];rfl
theorem can_SI {s:Sm} {F T:Nat} (h:SI s F T) (hF:F≤99000000000) (id:Nat):SI (sCanR s id) (F+1000) T:=by
 have hB:=h.sb;have hg:=cancel_gi hB.gj id;have hjr:=jr_cancel s.b id;have hS:SB (can1 s id) F T:=⟨hg,hB.di.jr hjr hg.gi.bi.ok.srt,(hjr hB.di.ag).1.2.trans hB.now,hB.len,hB.c1,hB.c16,hB.jb,hB.jl,hB.jid,hB.jn,hB.ran,hB.nb,hB.fl,hB.im,hB.fu,hB.tm⟩;have o2:=Sm3.cancel s.b id;have o3:=o2.im;have o4:=o2.dn;rw[h.e2]at o3;rw[h.e3]at o4;simp only[List.length_nil]at o3 o4
 have o1:(Ym s.b id).2.orders.length≤16:=by
  unfold Ym;cases hg:Qb s.b.js id with
  | none=>rw[h.e1];exact Nat.zero_le _
  | some x=>
   simp only;have k1:=(dropR_same s.b x false).1;have k2:=Nat.le_trans (hB.gj.gi.bi.ok.job x (Qa hg).1).len hB.gj.gi.bi.ok.N16;rw[h.e1]at k1;simp only[List.length_nil]at k1
   split
   ·show (Yp s.b x false).orders.length≤16;omega
   ·split
    ·show s.b.orders.length≤16;rw[h.e1];exact Nat.zero_le _
    ·show s.b.orders.length≤16;rw[h.e1];exact Nat.zero_le _
 obtain⟨q1,q2,q3⟩:=hide_SI h (by omega) (Nat.le_refl _) hS rfl (by show (Ym s.b id).2.orders.length+(Ym s.b id).2.images.length+(Ym s.b id).2.done.length≤1000;omega);exact q3 _ (by rw[h.ok,q2,h.e1];rfl)
theorem lost_ord {b:Br} (h:Qp b) (n:Int):(lostR b n).2.orders.length≤b.orders.length+32*b.js.length:=by
 by_cases hn:X1 b n true≠0
 ·rw[lostR_bad hn];exact Nat.le_add_right _ _
 ·have hr:=node_in (Classical.byContradiction hn);obtain⟨k,rfl⟩:∃k:Nat,n=k:=⟨n.toNat,by omega⟩;rw[lostR_good hn];have h0:=lost0_ok h k;have h1:=each_ord (lostE k) h0;have h2:(Q4 (each (Yg k) (Wa b k) b.ids) k).orders.length≤(each (Yg k) (Wa b k) b.ids).orders.length+16*(each (Yg k) (Wa b k) b.ids).js.length:=stopHeardR_ord (each_ok (lostE k) h0) k
  have h3:(each (Yg k) (Wa b k) b.ids).js.length≤b.js.length:=by
   have:=(Sm3.each (f:=Yg k) (fun c x=>by
    unfold Yg
    split
    ·split
     ·exact .drop c x true
     ·exact .gone c _
    ·exact .refl c) b.ids (Wa b k)).js
   exact this
  have h4:(Wa b k).orders.length≤b.orders.length:=List.length_filter_le _ _;have h5:(each (Yg k) (Wa b k) b.ids).orders.length≤(Wa b k).orders.length+16*b.js.length:=h1;show (Q4 (each (Yg k) (Wa b k) b.ids) k).orders.length≤_;omega
theorem lost_SI {s:Sm} {F T:Nat} (h:SI s F T) (hF:F≤99000000000) (i:Nat):SI (sLostR s i) (F+1000) T:=by
 have hm:=h.mono (Nat.le_add_right F 1000) (Nat.le_refl T);have hB:=h.sb;unfold sLostR;cases hn:s.nd[i]? with
 | none=>exact hm
 | some n=>
  simp only
  by_cases hu:n.up=true
  ·rw[if_pos hu];have hg:=lost_gi hB.gj hn hu;have hjr:=jr_lost s.b i
   have hS:SB (lost1 s i n) F T:=by
    refine⟨hg,hB.di.jr hjr hg.gi.bi.ok.srt,(hjr hB.di.ag).1.2.trans hB.now,by show (s.nd.set i _).length=_;rw[List.length_set];exact hB.len,hB.c1,hB.c16,hB.jb,hB.jl,hB.jid,hB.jn,hB.ran,fun m hm'=>?_,fun m hm'=>?_,hB.im,hB.fu,hB.tm⟩
    ·rcases set_mem hm' with rfl | hm'
     ·exact⟨fun _ k=>(by cases k),fun _ k=>(by cases k),fun _ k=>(by cases k)⟩
     ·exact hB.nb m hm'
    ·rcases set_mem hm' with rfl | hm'
     ·exact⟨Nat.zero_le _,Nat.zero_le _⟩
     ·exact hB.fl m hm'
   have o1:=lost_ord hB.gj.gi.bi.ok i;have o2:=Sm3.lost s.b i;have o3:=o2.im;have o4:=o2.dn;have hfew:=hB.few;rw[h.e1]at o1;rw[h.e2]at o3;rw[h.e3]at o4;simp only[List.length_nil]at o1 o3 o4;obtain⟨q1,q2,q3⟩:=hide_SI h (by omega) (Nat.le_refl _) hS rfl (by show (lostR s.b i).2.orders.length+(lostR s.b i).2.images.length+(lostR s.b i).2.done.length≤1000;omega);exact q3 _ (by rw[h.ok,q2,h.e1];rfl)
  ·rw[if_neg hu];exact hm
theorem up_fix (b:Br) (n:Int):(upR' b n).2.js=b.js∧(upR' b n).2.done=b.done∧(upR' b n).2.now=b.now∧(upR' b n).2.orders=b.orders∧(upR' b n).2.images=b.images:=by
 unfold upR'
 split
 ·exact⟨rfl,rfl,rfl,rfl,rfl⟩
 ·exact⟨rfl,rfl,rfl,rfl,rfl⟩
theorem up_SI {s:Sm} {F T:Nat} (h:SI s F T) (hF:F≤99000000000) (i:Nat):SI (sUpR s i) (F+1000) T:=by
 have hm:=h.mono (Nat.le_add_right F 1000) (Nat.le_refl T);have hB:=h.sb;unfold sUpR;cases hn:s.nd[i]? with
 | none=>exact hm
 | some n=>
  simp only
  by_cases hu:n.up=true
  ·rw[if_pos hu];exact hm
  ·rw[if_neg hu];have hg:=up_gi hB.gj hn (by simpa using hu);obtain⟨u1,u2,u3,u4,u5⟩:=up_fix s.b i;have hmem:=List.mem_of_getElem? hn
   have hS:SB (up1 s i n) F T:=by
    refine⟨hg,hB.di.jr (.same u1 u2 u3) hg.gi.bi.ok.srt,u3.trans hB.now,by show (s.nd.set i _).length=_;rw[List.length_set];exact hB.len,hB.c1,hB.c16,hB.jb,hB.jl,hB.jid,hB.jn,hB.ran,fun m hm'=>?_,fun m hm'=>?_,hB.im,hB.fu,hB.tm⟩
    ·rcases set_mem hm' with rfl | hm'
     ·exact⟨(hB.nb n hmem).i,(hB.nb n hmem).r,(hB.nb n hmem).o⟩
     ·exact hB.nb m hm'
    ·rcases set_mem hm' with rfl | hm'
     ·exact hB.fl n hmem
     ·exact hB.fl m hm'
   obtain⟨q1,q2,q3⟩:=hide_SI h (by omega) (Nat.le_refl _) hS rfl (by show (upR' s.b i).2.orders.length+(upR' s.b i).2.images.length+(upR' s.b i).2.done.length≤1000;rw[u4,u5,u2,h.e1,h.e2,h.e3];decide);exact q3 _ (by rw[h.ok,q2];rfl)
theorem sact_SI {s:Sm} {F T:Nat} (h:SI s F T) (hF:F≤99000000000) (hT:T+1≤4294967295) (a:Ac):SI (Wr s a) (F+100000000) (T+1):=by
 have up1000:∀ {t:Sm},SI t (F+1000) T→SI t (F+100000000) (T+1):=fun k=>k.mono (by omega) (Nat.le_succ T)
 by_cases d0:a.do_=0∨a.do_=1
 ·rw[sact_tick d0];exact(tick_SI h (by omega) hT).mono (by omega) (Nat.le_refl _)
 by_cases d2:a.do_=2
 ·by_cases hj:s.jobs.length<20
  ·rw[sact_add d2 hj];exact up1000 (add_SI h hF hj _ _ _)
  ·rw[sact_add0 d2 hj];obtain⟨q1,_,q3⟩:=hide_SI h (by omega) (Nat.le_refl 1000) h.sb rfl (by rw[h.e1,h.e2,h.e3];decide);exact up1000 (q3 _ (by rw[h.ok,q1];rfl))
 by_cases d3:a.do_=3
 ·rw[sact_can d3];exact up1000 (can_SI h hF _)
 by_cases d4:a.do_=4
 ·rw[sact_lost d4];exact up1000 (lost_SI h hF _)
 by_cases d5:a.do_=5
 ·rw[sact_up d5];exact up1000 (up_SI h hF _)
 by_cases d6:a.do_=6∨a.do_=7∨a.do_=8∨a.do_=9
 ·rw[sact_del d6];exact up1000 (deliver_SI h (by omega) (by omega) _ _)
 by_cases d10:a.do_=10
 ·rw[sact_pub d10];exact up1000 (publish_SI h (by omega) _)
 by_cases d11:a.do_=11
 ·rw[sact_calm d11];exact calm_SI h hF hT
 ·rw[sact_no (by omega)];exact h.mono (by omega) (Nat.le_succ T)
abbrev ndOff:Nd:=⟨false,[],[],[],false⟩
abbrev ndOn:Nd:=⟨true,[],[],[],false⟩
theorem new_gj {N R Q G:Nat} (hR1:1≤R) (hR8:R≤8) (hN1:1≤N) (hN16:N≤16) (hQ1:1≤Q) (hQ2:Q≤1000) (hG1:1≤G) (hG2:G≤1000):GJ (newR N R Q G 0) (List.replicate N ndOff):=by
 refine⟨⟨⟨newR_ok (mx0_ok hR1 hR8 hN1 hN16) hQ1 hQ2 hG1 hG2,fun x hx=>(by cases hx),fun y hy=>(by cases hy),fun n=>?_⟩,List.length_replicate,fun o ho=>(by cases ho),fun i n hn=>?_,fun i n hn _=>?_,fun i n hn hu=>?_,fun i hi=>(by cases hi)⟩,fun _=>rfl,fun o ho=>(by cases ho)⟩
 ·refine⟨fun e=>(by cases e),fun e=>?_⟩;unfold Wy at e;rw[Bool.and_eq_true]at e;have:=e.2;rw[show (newR N R Q G 0).m.up=0#16 from rfl]at this;simp at this
 ·rw[List.getElem?_replicate]at hn
  split at hn
  ·cases hn;exact(decide_eq_false fun e=>(by cases e)).symm
  ·cases hn
 ·rw[List.getElem?_replicate]at hn
  split at hn
  ·cases hn;exact⟨rfl,rfl,rfl,rfl⟩
  ·cases hn
 ·rw[List.getElem?_replicate]at hn
  split at hn
  ·cases hn;cases hu
  ·cases hn
theorem ups_gj {b:Br} {N:Nat} (h:GJ b (List.replicate N ndOff)):∀i,i≤N→GJ (upTo b i) (List.replicate i ndOn++List.replicate (N-i) ndOff)∧(upTo b i).js=b.js∧(upTo b i).done=b.done∧(upTo b i).now=b.now∧(upTo b i).orders=b.orders∧(upTo b i).images=b.images
 | 0,_=>⟨by rw[List.replicate_zero,List.nil_append,Nat.sub_zero];exact h,rfl,rfl,rfl,rfl,rfl⟩
 | i+1,hi=>by
  obtain⟨k0,k1,k2,k3,k4,k5⟩:=ups_gj h i (by omega);obtain⟨u1,u2,u3,u4,u5⟩:=up_fix (upTo b i) i;rw[upTo_succ];refine⟨?_,u1.trans k1,u2.trans k2,u3.trans k3,u4.trans k4,u5.trans k5⟩;have e0:N-i=(N-(i+1))+1:=by omega
  rw[e0,List.replicate_succ]at k0
  have hn:(List.replicate i ndOn++ndOff::List.replicate (N-(i+1)) ndOff)[i]?=some ndOff:=by
   rw[List.getElem?_append_right (by rw[List.length_replicate];exact Nat.le_refl _),List.length_replicate,Nat.sub_self];rfl
  have k:=up_gi k0 hn rfl;rw[List.set_append_right _ _ (by rw[List.length_replicate];exact Nat.le_refl _),List.length_replicate,Nat.sub_self]at k;rw[List.replicate_succ',List.append_assoc];exact k
theorem begin_SI {N R Q G:Nat} (hR1:1≤R) (hR8:R≤8) (hN1:1≤N) (hN16:N≤16) (hQ1:1≤Q) (hQ2:Q≤1000) (hG1:1≤G) (hG2:G≤1000):SI (beginR N R Q G) 0 0:=by
 obtain⟨k0,k1,k2,k3,k4,k5⟩:=ups_gj (new_gj (G:=G) hR1 hR8 hN1 hN16 hQ1 hQ2 hG1 hG2) N (Nat.le_refl N);rw[Nat.sub_self,List.replicate_zero,List.append_nil]at k0;obtain⟨b,hb⟩:∃b,b=upTo (newR N R Q G 0) N:=⟨_,rfl⟩;have e:beginR N R Q G={b:=b,cn:=N,cr:=R,cq:=Q,cg:=G,nd:=List.replicate N ndOn,now:=0,next:=1,ran:=[],jobs:=[],gone:=[],done:=[],images:=[],fu:=0,ok:=true}:=by rw[hb];rfl
 rw[←hb]at k0 k1 k2 k3 k4 k5;rw[e];have hnb:∀n∈List.replicate N ndOn,n=ndOn:=fun n hn=>List.eq_of_mem_replicate hn
 refine⟨⟨k0,⟨by rw[k1];exact List.Pairwise.nil,by rw[k2];exact List.nodup_nil,fun id hid=>?_,fun x hx=>?_,fun id hid=>?_,fun x hx=>?_⟩,k3,List.length_replicate,hN1,hN16,rfl,Nat.zero_le _,fun _ k=>(by cases k),List.nodup_nil,fun _ k=>(by cases k),fun n hn=>?_,fun n hn=>?_,Nat.le_refl _,Nat.le_refl _,Nat.le_refl _⟩,rfl,k4,k5,k2⟩
 ·rw[k2]at hid;cases hid
 ·rw[k1]at hx;cases hx
 ·rw[k2]at hid;cases hid
 ·rw[k1]at hx;cases hx
 ·rw[hnb n hn];exact⟨fun _ k=>(by cases k),fun _ k=>(by cases k),fun _ k=>(by cases k)⟩
 ·rw[hnb n hn];exact⟨Nat.le_refl _,Nat.le_refl _⟩
def KC (b b':Br):Prop:=∀z∈b'.js,z.state=2→∃x∈b.js,x.id=z.id∧x.at_=z.at_∧x.state=2
theorem KC.refl (b:Br):KC b b:=fun z hz h=>⟨z,hz,rfl,rfl,h⟩
theorem KC.trans {a b c:Br} (h:KC a b) (k:KC b c):KC a c:=fun z hz h2=>by
 obtain⟨y,y1,y2,y3,y4⟩:=k z hz h2;obtain⟨x,x1,x2,x3,x4⟩:=h y y1 y4;exact⟨x,x1,x2.trans y2,x3.trans y3,x4⟩
theorem KC.same {b b':Br} (hj:b'.js=b.js):KC b b':=fun z hz h=>by rw[hj]at hz;exact⟨z,hz,rfl,rfl,h⟩
theorem kc_set {b:Br} {x y:Bj} (hx:Qb b.js x.id=some x) (hid:y.id=x.id) (h:y.state=2→x.state=2∧y.at_=x.at_):KC b (b.set y):=fun z hz hs=>by
 rcases setJ_mem (show z∈Yf b.js y from hz) with rfl | ⟨k,_⟩
 ·exact⟨x,(Qa hx).1,hid.symm,(h hs).2.symm,(h hs).1⟩
 ·exact⟨z,k,rfl,rfl,hs⟩
theorem kc_gone {b:Br} {x y:Bj} (hx:Qb b.js x.id=some x) (hid:y.id=x.id) (h:y.state=2→x.state=2∧y.at_=x.at_):KC b (Q8 b y):=by
 unfold Q8
 split
 ·split
  ·exact(KC.same (b:=b) (b':={b with m:=(Q5 b.m y.id).2}) rfl).trans (kc_set (b:={b with m:=(Q5 b.m y.id).2}) (y:=anew y) hx hid fun e=>absurd e (by show ¬(0:Nat)=2;decide))
  ·exact fun z hz hs=>⟨z,(List.mem_filter.1 (show z∈rmJ b.js y.id from hz)).1,rfl,rfl,hs⟩
 ·exact kc_set hx hid h
theorem kc_drop {b:Br} {x y:Bj} (hx:Qb b.js x.id=some x) (hid:y.id=x.id) (a:Bool):KC b (Yp b y a):=by
 have h2:∀d,(Wn y a d).state=2→x.state=2∧(Wn y a d).at_=x.at_:=fun d e=>absurd e (by show ¬(3:Nat)=2;decide);cases hd:y.drops with
 | some d=>rw[Wv hd];exact kc_gone hx hid (h2 d)
 | none=>
  rw[X3 hd];exact(KC.same (b:=b) (b':={b with orders:=b.orders++(V5 b y).map (Xt y.id)}) rfl).trans (kc_gone (b:={b with orders:=b.orders++(V5 b y).map (Xt y.id)}) hx hid (h2 _))
theorem kc_save {b:Br} {x y:Bj} (hx:Qb b.js x.id=some x) (hid:y.id=x.id) (hs:y.state=x.state) (ha:y.at_=x.at_):KC b (Y7 b y):=by
 by_cases hc:y.work=y.credit∨y.sav.isSome∨y.drops.isSome∨y.state≠2
 ·rw[Wq hc];exact kc_set hx hid fun e=>⟨hs.symm.trans e,ha⟩
 ·rw[Ve hc];exact(KC.same (b:=b) (b':={b with orders:=b.orders++y.at_.map (We (Wd y))}) rfl).trans (kc_set (b:={b with orders:=b.orders++y.at_.map (We (Wd y))}) (y:=Wd y) hx hid fun e=>⟨hs.symm.trans e,ha⟩)
theorem kc_each {f:Br→Bj→Br} (hf:∀b x,Qb b.js x.id=some x→KC b (f b x)):∀(l:List Nat) (b:Br),KC b (each f b l)
 | [],b=>.refl b
 | id::l,b=>by
  have e:each f b (id::l)=each f (match Qb b.js id with | none=>b | some x=>f b x) l:=rfl;rw[e];cases hg:Qb b.js id with
  | none=>exact kc_each hf l b
  | some x=>exact(hf b x (by rw[(Qa hg).2];exact hg)).trans (kc_each hf l _)
theorem kc_self {x y:Bj} (hs:y.state=x.state) (ha:y.at_=x.at_):y.state=2→x.state=2∧y.at_=x.at_:=fun e=>⟨hs.symm.trans e,ha⟩
theorem kc_count {b:Br} {x:Bj} (hx:Qb b.js x.id=some x):KC b (Yi b x):=by
 unfold Yi
 split
 ·exact kc_set hx rfl (kc_self rfl rfl)
 ·split
  ·exact kc_set (y:=ranX x) hx rfl (kc_self rfl rfl)
  ·exact kc_save (y:=cntX x _) hx rfl rfl rfl
theorem kc_stopHeard (b:Br) (n:Nat):KC b (Q4 b n):=by
 unfold Q4
 split
 ·exact .refl b
 ·split
  ·exact .same rfl
  ·exact(KC.same (b:=b) (b':={b with stops:=none,stopped:=false}) rfl).trans (kc_each (fun _ _ h=>kc_count h) _ _)
theorem kc_lost (b:Br) (n:Int):KC b (lostR b n).2:=by
 unfold lostR
 split
 ·exact .refl b
 ·refine KC.trans (b:=each (Yg n.toNat) {b with up:=Vp b.up n.toNat,m:=(upR b.m n false).2,orders:=b.orders.filter fun o=>decide (o.1≠n.toNat)} b.ids) ?_ (kc_stopHeard _ _);refine(KC.same (b:=b) (b':={b with up:=Vp b.up n.toNat,m:=(upR b.m n false).2,orders:=b.orders.filter fun o=>decide (o.1≠n.toNat)}) rfl).trans (kc_each (fun c x hx=>?_) _ _);unfold Yg
  split
  ·split
   ·exact kc_drop hx rfl true
   ·exact kc_gone hx rfl (kc_self rfl rfl)
  ·exact .refl c
theorem kc_cancel (b:Br) (id:Nat):KC b (Ym b id).2:=by
 unfold Ym;cases hg:Qb b.js id with
 | none=>exact .refl b
 | some x=>
  have hx:Qb b.js x.id=some x:=by rw[(Qa hg).2];exact hg
  simp only
  split
  ·exact kc_drop hx rfl false
  ·split
   ·exact kc_set hx rfl (kc_self rfl rfl)
   ·exact .refl b
theorem kc_load {b:Br} {x:Bj} (hx:Qb b.js x.id=some x) (s:PL.St):KC b (V4 b x s):=by
 by_cases hp:(Xq b.m x.id s.row s.nodes).1≠0
 ·rw[loadR_no hp];exact .same rfl
 ·rw[Vz hp];exact(KC.same (b:=b) (b':={b with m:=(Xq b.m x.id s.row s.nodes).2,orders:=b.orders++X9 x (nats s.nodes)}) rfl).trans (kc_set (b:={b with m:=(Xq b.m x.id s.row s.nodes).2,orders:=b.orders++X9 x (nats s.nodes)}) (y:=lodY x (nats s.nodes)) hx rfl fun e=>absurd e (by show ¬(1:Nat)=2;decide))
theorem kc_place:∀(zs:List (Nat×PL.St)) (b:Br),KC b (Yu b zs)
 | [],b=>.refl b
 | p::zs,b=>by
  have e:Yu b (p::zs)=Yu (W7 b p) zs:=by rw[X6,X6];rfl
  rw[e];refine KC.trans ?_ (kc_place zs _);unfold W7
  split
  ·cases hg:Qb b.js p.1 with
   | none=>exact .refl b
   | some x=>exact kc_load (by rw[(Qa hg).2];exact hg) _
  ·exact .refl b
theorem kc_preempt (b:Br):KC b (Q7 b):=by
 unfold Q7
 split
 ·exact .refl b
 split
 ·exact .refl b
 split
 ·exact .refl b
 ·refine kc_each (f:=W8) (fun c x hx=>?_) _ _;exact(KC.same (b:=c) (b':={c with orders:=c.orders++x.at_.map fun n=>((n,{kind:=12,job:=x.id,tick:=Ye c.now c.grace}):Od)}) rfl).trans (kc_set (b:={c with orders:=c.orders++x.at_.map fun n=>((n,{kind:=12,job:=x.id,tick:=Ye c.now c.grace}):Od)}) (y:={x with warned:=true,till:=Ye c.now c.grace}) hx rfl (kc_self rfl rfl))
theorem kc_start (b:Br):∀(i:Nat) (row:Int),KC b (Y5 b row i)
 | 0,_=>.refl b
 | i+1,row=>by
  rw[Y5]
  split
  ·exact .refl b
  split
  ·rw[runR_eq];refine(KC.same (b:=b) (b':=run0 {b with row:=(Z4 b.m row).1} _) rfl).trans (kc_each (f:=Wm) (fun c x hx=>?_) _ _);exact(KC.same (b:=c) (b':={c with stops:=some (x.at_.foldl Z5 (c.stops.getD [])),orders:=c.orders++x.at_.map fun n=>((n,{kind:=5,gen:=c.gen,job:=x.id}):Od)}) rfl).trans (kc_set (b:={c with stops:=some (x.at_.foldl Z5 (c.stops.getD [])),orders:=c.orders++x.at_.map fun n=>((n,{kind:=5,gen:=c.gen,job:=x.id}):Od)}) (y:={x with ran:=some []}) hx rfl (kc_self rfl rfl))
  ·exact kc_start b i _
theorem kc_work (b:Br):KC b (workR b):=by
 have h1:=kc_each (f:=Z0) (fun c x hx=>by
  unfold Z0
  split
  ·exact kc_drop hx rfl true
  ·exact .refl c) b.ids b
 have h2:=h1.trans (kc_place (zsR (each Z0 b b.ids)) _);have h3:=h2.trans (kc_preempt _);have h4:=h3.trans (KC.same (b':=rep (Q7 (Yu (each Z0 b b.ids) (zsR (each Z0 b b.ids))))) rfl);have h5:=h4.trans (kc_each (f:=Y7) (fun _ x hx=>kc_save (y:=x) hx rfl rfl rfl) (rep (Q7 (Xe (each Z0 b b.ids)))).ids _);exact h5.trans (kc_start _ _ _)
theorem kc_tick (b:Br) (now:Nat):KC b (Y4 b now).2:=by
 unfold Y4
 split
 ·exact .refl b
 split
 ·exact .same rfl
 split
 ·split
  ·exact .same rfl
  ·exact .same rfl
 ·exact(KC.same (b:=b) (b':={b with now:=now}) rfl).trans (kc_work _)
theorem kc_finish {b:Br} {x y:Bj} (hx:Qb b.js x.id=some x) (hid:y.id=x.id) (hs:y.state=x.state) (ha:y.at_=x.at_):KC b (Qz b y):=by
 unfold Qz
 split
 ·exact kc_set hx hid (kc_self hs ha)
 ·exact(KC.same (b:=b) (b':={b with done:=b.done++[y.id]}) rfl).trans (kc_drop (b:={b with done:=b.done++[y.id]}) (y:={y with done:=true}) hx hid false)
theorem kc_published (b:Br) (id ver:Nat) (ok:Bool):KC b (Qn b id ver ok).2:=by
 unfold Qn;cases hg:Qb b.js id with
 | none=>exact .refl b
 | some x=>
  simp only
  split
  ·exact .refl b
  ·split
   ·exact .refl b
   ·exact kc_finish (x:=x) (by rw[(Qa hg).2];exact hg) rfl rfl rfl
def KA (b b':Br):Prop:=∀z∈b'.js,z.state=2→∃x∈b.js,x.id=z.id∧x.at_=z.at_∧(x.state=1∨x.state=2)
theorem KC.ka {b b':Br} (h:KC b b'):KA b b':=fun z hz h2=>by
 obtain⟨x,x1,x2,x3,x4⟩:=h z hz h2;exact⟨x,x1,x2,x3,.inr x4⟩
theorem kc_heard (b:Br) (n:Nat) (t:Nt):KC b (V8 b n t):=by
 unfold V8
 split
 ·refine KC.trans ?_ (kc_stopHeard _ _);cases hg:Qb b.js t.job with
  | none=>exact .refl b
  | some y=>
   simp only
   split
   ·exact .refl b
   ·split
    ·exact kc_set (x:=y) (by rw[(Qa hg).2];exact hg) rfl (kc_self rfl rfl)
    ·exact .refl b
 ·exact .refl b
theorem ka_set {b:Br} {x y:Bj} (hx:Qb b.js x.id=some x) (hid:y.id=x.id) (h:y.state=2→(x.state=1∨x.state=2)∧y.at_=x.at_):KA b (b.set y):=fun z hz hs=>by
 rcases setJ_mem (show z∈Yf b.js y from hz) with rfl | ⟨k,_⟩
 ·exact⟨x,(Qa hx).1,hid.symm,(h hs).2.symm,(h hs).1⟩
 ·exact⟨z,k,rfl,rfl,.inr hs⟩
theorem kc_saved {b:Br} {x:Bj} (hx:Qb b.js x.id=some x) (n:Nat) (t:Nt) (bl:List Int):KC b (Wp b x n t bl):=by
 unfold Wp;cases hs:x.sav with
 | none=>exact .refl b
 | some s=>
  cases hr:rankOf x.at_ n with
  | none=>exact .refl b
  | some rank=>
   simp only
   split
   ·exact .refl b
   ·split
    ·exact(kc_set (b:=b) (y:={x with sav:=some {s with bs:=s.bs.set rank bl,have_:=Z5 s.have_ n,told:=true}}) hx rfl (kc_self rfl rfl)).trans (.same rfl)
    ·exact kc_set (y:={x with sav:=some {s with bs:=s.bs.set rank bl,have_:=Z5 s.have_ n}}) hx rfl (kc_self rfl rfl)
theorem ka_hear (b:Br) (n:Int) (t:Nt) (bl:List Int):KA b (Wh b n t bl).2:=by
 unfold Wh
 split
 ·exact(KC.refl b).ka
 split
 ·exact(kc_heard b n.toNat t).ka
 ·cases hg:Qb b.js t.job with
  | none=>exact(KC.refl b).ka
  | some x=>
   have hx:Qb b.js x.id=some x:=by rw[(Qa hg).2];exact hg
   simp only
   split
   ·show KA b (Wl b x n.toNat t bl);unfold Wl
    split
    ·split
     ·rename_i h1;exact ka_set hx rfl fun _=>⟨.inl h1,rfl⟩
     ·exact(KC.refl b).ka
    split
    ·exact(kc_saved hx _ _ _).ka
    split
    ·split
     ·exact(KC.refl b).ka
     ·rename_i d _;exact(kc_gone (y:={x with drops:=some (Vp d n.toNat)}) hx rfl (kc_self rfl rfl)).ka
    ·exact(KC.refl b).ka
   ·exact(KC.refl b).ka
theorem kc_add {b:Br} (hs:V2 b.js) (id tier k w:Nat):KC b (addR b (newJ id tier k w 0 0)).2:=by
 unfold addR
 split
 ·exact .refl b
 split
 ·exact .refl b
 ·rename_i hno
  have hno:Qb b.js (newJ id tier k w 0 0).id=none:=by
   cases hg:Qb b.js (newJ id tier k w 0 0).id with
   | none=>rfl
   | some y=>rw[hg]at hno;exact absurd rfl hno
  obtain⟨x,hx⟩:∃x,x=newJ id tier k w 0 0:=⟨_,rfl⟩;have x0:x.state=0:=by rw[hx]
  rw[←hx]at hno ⊢
  have h1:KC b (insB b x):=fun z hz h2=>by
   rcases Vr.1 (show z∈Ud x b.js from hz) with rfl | hz
   ·rw[x0]at h2;cases h2
   ·exact⟨z,hz,rfl,rfl,h2⟩
  exact h1.trans (kc_finish (b:=insB b x) (x:=x) (by rw[show (insB b x).js=Ud x b.js from rfl,getJ_insA hs hno,if_pos rfl]) rfl rfl rfl)
theorem sact_ka {s:Sm} (hs:V2 s.b.js) (a:Ac) (h:a.do_≠11):KA s.b (Wr s a).b:=by
 have hr:=(KC.refl s.b).ka
 by_cases d0:a.do_=0∨a.do_=1
 ·rw[sact_tick d0];exact(kc_tick s.b (s.now+1)).ka
 by_cases d2:a.do_=2
 ·by_cases hj:s.jobs.length<20
  ·rw[sact_add d2 hj];unfold sAddR add1
   split
   ·exact(kc_add hs _ _ _ _).ka
   ·exact(kc_add hs _ _ _ _).ka
  ·rw[sact_add0 d2 hj];exact hr
 by_cases d3:a.do_=3
 ·rw[sact_can d3];exact(kc_cancel s.b _).ka
 by_cases d4:a.do_=4
 ·rw[sact_lost d4];unfold sLostR
  split
  ·exact hr
  ·split
   ·exact(kc_lost s.b _).ka
   ·exact hr
 by_cases d5:a.do_=5
 ·rw[sact_up d5];unfold sUpR
  split
  ·exact hr
  ·split
   ·exact hr
   ·exact(KC.same (up_fix s.b _).1).ka
 by_cases d6:a.do_=6∨a.do_=7∨a.do_=8∨a.do_=9
 ·rw[sact_del d6];unfold Q1
  split
  ·exact hr
  ·split
   ·exact hr
   ·split
    ·split
     ·exact hr
     ·exact ka_hear s.b _ _ _
    ·split
     ·exact hr
     ·exact hr
 by_cases d10:a.do_=10
 ·rw[sact_pub d10];unfold Z3
  split
  ·exact hr
  ·exact(kc_published s.b _ _ _).ka
 ·rw[sact_no (by omega)];exact hr
theorem alGet_mem {α:Type} {z:Int} {v:α}:∀ {l:List (Int×α)},Ql z l=some v→(z,v)∈l
 | [],h=>by cases h
 | x::l,h=>by
  simp only[Ql]at h
  by_cases e:z=x.1
  ·rw[if_pos e]at h;cases h;rw[e];exact List.mem_cons_self
  ·rw[if_neg e]at h;exact List.mem_cons_of_mem _ (alGet_mem h)
theorem alDel_mem {α:Type} {z:Int}:∀ {l:List (Int×α)},(l.map (·.1)).Nodup→∀e∈Yj z l,e∈l∧e.1≠z
 | [],_,e,h=>by cases h
 | x::l,hn,e,h=>by
  rw[List.map_cons,List.nodup_cons]at hn;simp only[Yj]at h
  by_cases e2:z=x.1
  ·rw[if_pos e2]at h;refine⟨List.mem_cons_of_mem _ h,fun e3=>hn.1 ?_⟩;rw[←e2,←e3];exact List.mem_map_of_mem h
  ·rw[if_neg e2]at h
   rcases List.mem_cons.1 h with rfl | h
   ·exact⟨List.mem_cons_self,fun e3=>e2 e3.symm⟩
   ·obtain⟨k1,k2⟩:=alDel_mem hn.2 e h;exact⟨List.mem_cons_of_mem _ k1,k2⟩
theorem alPut_mem {α:Type} {z:Int} {v:α}:∀ {l:List (Int×α)},∀e∈Qx z v l,e=(z,v)∨e∈l
 | [],e,h=>.inl (List.mem_singleton.1 h)
 | x::l,e,h=>by
  simp only[Qx]at h
  by_cases e2:z=x.1
  ·rw[if_pos e2]at h
   rcases List.mem_cons.1 h with h | h
   ·exact .inl h
   ·exact .inr (List.mem_cons_of_mem _ h)
  ·rw[if_neg e2]at h
   rcases List.mem_cons.1 h with h | h
   ·exact .inr (h ▸ List.mem_cons_self)
   ·rcases alPut_mem e h with h | h
    ·exact .inl h
    ·exact .inr (List.mem_cons_of_mem _ h)
structure Gs where
 id:Nat
 v:SV
 ns:List Nat
abbrev gsB (g:Gs):Assn:=own g.v 3 1 (nds g.ns)
def Here (b:Br) (g:Gs):Prop:=∃x∈b.js,x.id=g.id∧x.at_=g.ns
def KN (b b':Br) (G:List Gs) (done:List Nat) (l:List (Int×Value)):Prop:=∀e∈l,∃g∈G,((g.id:Int),g.v.v)=e∧g.v.n=g.ns.length∧(g.id∈done→Here b' g)∧(g.id∉done→Here b g)
def KM (b:Br) (G:List Gs) (l:List (Int×Value)):Prop:=∀e∈l,∃g∈G,((g.id:Int),g.v.v)=e∧g.v.n=g.ns.length∧Here b g
theorem km_nil (b:Br):KM b [] []:=fun e h=>by cases h
theorem KM.start {b:Br} {G:List Gs} {l:List (Int×Value)} (h:KM b G l) (b':Br):KN b b' G [] l:=fun e he=>by
 obtain⟨g,hg,h1,h2,h3⟩:=h e he;exact⟨g,hg,h1,h2,fun h=>(by cases h),fun _=>h3⟩
theorem KN.look {b b':Br} {G:List Gs} {done:List Nat} {l:List (Int×Value)} (h:KN b b' G done l) {id:Nat} (hn:id∉done) {v:Value} (hv:Ql (id:Int) l=some v):∃(i:Nat) (g:Gs),G[i]?=some g∧v=g.v.v∧g.id=id∧g.v.n=g.ns.length∧Here b g:=by
 obtain⟨g,hg,h1,h2,_,h3⟩:=h _ (alGet_mem hv);simp only[Prod.mk.injEq]at h1;obtain⟨i,hi⟩:=List.getElem?_of_mem hg;have:g.id=id:=by omega
 exact⟨i,g,hi,h1.2.symm,this,h2,h3 (by rw[this];exact hn)⟩
theorem ka_same {b b':Br} (hs:V2 b.js) (h:KA b b') {x:Bj} {g:Gs} (hx:x∈b'.js) (h2:x.state=2) (hid:g.id=x.id) (hg:Here b g):g.ns=x.at_:=by
 obtain⟨y,y1,y2,y3⟩:=hg;obtain⟨z,z1,z2,z3,_⟩:=h x hx h2;have e1:=Xo hs y1;have e2:=Xo hs z1;rw[y2,hid]at e1;rw[z2]at e2;rw[e1]at e2;cases e2;rw[←y3,z3]
theorem KN.del {b b':Br} {G:List Gs} {done:List Nat} {l:List (Int×Value)} (h:KN b b' G done l) (hd:(l.map (·.1)).Nodup) (id:Nat):KN b b' G (done++[id]) (Yj (id:Int) l):=fun e he=>by
 obtain⟨k1,k2⟩:=alDel_mem hd e he;obtain⟨g,hg,h1,h2,h3,h4⟩:=h e k1;have hne:g.id≠id:=fun e2=>k2 (by rw[←h1];show (g.id:Int)=id;omega);refine⟨g,hg,h1,h2,fun hm=>h3 ?_,fun hm=>h4 fun hm2=>hm (List.mem_append_left _ hm2)⟩
 rcases List.mem_append.1 hm with hm | hm
 ·exact hm
 ·exact absurd (List.mem_singleton.1 hm) hne
theorem KN.put {b b':Br} {G:List Gs} {done:List Nat} {l:List (Int×Value)} (h:KN b b' G done l) {g:Gs} (hn:g.v.n=g.ns.length) (hg:Here b' g) (hd:g.id∈done):KN b b' (g::G) done (Qx (g.id:Int) g.v.v l):=fun e he=>by
 rcases alPut_mem e he with rfl | he
 ·exact⟨g,List.mem_cons_self,rfl,hn,fun _=>hg,fun hm=>absurd hd hm⟩
 ·obtain⟨k,hk,h1,h2,h3,h4⟩:=h e he;exact⟨k,List.mem_cons_of_mem _ hk,h1,h2,h3,h4⟩
theorem KN.sub {b b':Br} {G:List Gs} {done:List Nat} {l l':List (Int×Value)} (h:KN b b' G done l) (hl:∀e∈l',e∈l):KN b b' G done l':=fun e he=>h e (hl e he)
def KR (m:Mx) (l left:List (Int×Value)):Prop:=∀e∈l,e∈left∨(look m.js e.1.toNat).isSome=true
theorem KN.fin {b b':Br} {G:List Gs} {l:List (Int×Value)} (h:KN b b' G (Wt b'.m) l) (hr:KR b'.m l []):KM b' G l:=fun e he=>by
 obtain⟨g,hg,h1,h2,h3,_⟩:=h e he;refine⟨g,hg,h1,h2,h3 ?_⟩
 rcases hr e he with h9 | h9
 ·cases h9
 ·obtain⟨y,hy⟩:=Option.isSome_iff_exists.1 h9;obtain⟨hy1,hy2⟩:=Vg hy;rw[←h1]at hy2;exact List.mem_map.2 ⟨y,hy1,hy2⟩
theorem KR.stay {m:Mx} {l left:List (Int×Value)} (h:KR m l left) {i:Nat} {e:Int×Value} (hi:left[i]?=some e) (hs:(look m.js e.1.toNat).isSome=true):KR m l (left.eraseIdx i):=fun d hd=>by
 rcases h d hd with h | h
 ·rcases List.mem_cons.1 ((erase_perm hi).mem_iff.1 h) with rfl | h
  ·exact .inr hs
  ·exact .inl h
 ·exact .inr h
theorem KR.del {m:Mx} {l left:List (Int×Value)} (h:KR m l left) (hd:(l.map (·.1)).Nodup) {i:Nat} {z:Int} {v:Value} (hi:left[i]?=some (z,v)):KR m (Yj z l) (left.eraseIdx i):=fun d hd2=>by
 obtain⟨k1,k2⟩:=alDel_mem hd d hd2
 rcases h d k1 with h | h
 ·rcases List.mem_cons.1 ((erase_perm hi).mem_iff.1 h) with rfl | h
  ·exact absurd rfl k2
  ·exact .inl h
 ·exact .inr h
theorem alDel_sub {α:Type} (z:Int):∀l:List (Int×α),(Yj z l).Sublist l
 | []=>.slnil
 | x::l=>by
  simp only[Yj]
  split
  ·exact List.sublist_cons_self ..
  ·exact(alDel_sub z l).cons_cons x
theorem alDel_nodup {α:Type} {z:Int} {l:List (Int×α)} (h:(l.map (·.1)).Nodup):((Yj z l).map (·.1)).Nodup:=h.sublist ((alDel_sub z l).map _)
theorem ids_not {m:Mx} (hm:Yn m) {e id:Nat} (h:(Wt m)[e]?=some id):id∉(Wt m).take e:=fun hi=>by
 obtain⟨i,hi⟩:=List.getElem?_of_mem hi;rw[List.getElem?_take]at hi
 split at hi
 ·rename_i hlt;have hnd:(Wt m).Nodup:=List.pairwise_map.2 (hm.srt.imp fun h=>Nat.ne_of_lt h);have:=(List.getElem?_inj (List.getElem?_eq_some_iff.1 hi).1 hnd).1 (hi.trans h.symm);omega
 ·cases hi
def NatK (l:List (Int×Value)):Prop:=∀e∈l,∃k:Nat,e.1=(k:Int)
theorem KN.nat {b b':Br} {G:List Gs} {done:List Nat} {l:List (Int×Value)} (h:KN b b' G done l):NatK l:=fun e he=>by
 obtain⟨g,_,h1,_⟩:=h e he;exact⟨g.id,by rw[←h1]⟩
theorem NatK.erase {l:List (Int×Value)} (h:NatK l) (i:Nat):NatK (l.eraseIdx i):=fun e he=>h e (List.mem_of_mem_eraseIdx he)
theorem of_stands {m:Mx} {k:Nat} (h:(ofR m k).2.2=true):(look m.js k).isSome=true:=by
 cases e:look m.js k with
 | none=>rw[ofR_none e]at h;cases h
 | some x=>rfl
theorem stands_I {b:Br} (h:BrI b never) {e id:Nat} (he:(Wt b.m)[e]?=some id):∃x∈b.js,Qb b.js id=some x∧x.id=id∧x.state≠0∧x.state≤3∧x.at_.length=x.k∧(∃y,look b.m.js id=some y∧lst y.ns=x.at_):=by
 obtain⟨y,hy,hyi⟩:=List.mem_map.1 (List.mem_of_getElem? he);obtain⟨x,hx⟩:=Option.isSome_iff_exists.1 (h.mj y hy);have hyi:y.id=id:=hyi;rw[hyi]at hx;obtain⟨hx1,hx2⟩:=Qa hx;have hj:=h.j x hx1;have hl:=look_mem h.ok.mok.srt hy;rw[hyi]at hl
 have h0:x.state≠0:=fun e0=>by
  have:=(hj.q e0).2.2.2.2;rw[hx2,hl]at this;cases this
 obtain⟨p1,z,p2,p3⟩:=hj.p h0;rw[hx2]at p2;exact⟨x,hx1,hx,hx2,h0,hj.st,p1,z,p2,p3⟩
end BN
open Go.MapKept (run_checkKey run_findKey)
theorem filter_eraseIdx_no {α:Type} (p:α→Bool):∀(l:List α) (j:Nat) (x:α),l[j]?=some x→p x=false→(l.eraseIdx j).filter p=l.filter p
 | [],_,_,h,_=>by simp at h
 | y::l,0,x,h,hp=>by
  simp only[List.getElem?_cons_zero,Option.some.injEq]at h;subst h;rw[List.eraseIdx_cons_zero,List.filter_cons_of_neg (by simp[hp])]
 | y::l,j+1,x,h,hp=>by
  have:=filter_eraseIdx_no p l j x (by simpa using h) hp;rw[List.eraseIdx_cons_succ,List.filter_cons,List.filter_cons,this]
section
variable {P:Program} {n:Nat} {md:Bool} {w0:WM md} {ρ:Env} {Γ:List Assn} {Q:Exit→Act→World→Prop} {K:Act→World→Prop} {ty:TypeId} {pos:String} {af:Array Edge} {gd:Option (Nat×Bool)}
theorem S.mapDeleteR {t kt et yt:TypeId} {q:IntKind} {x y:Operand} (r:Nat) {b:Nat} {kk:IntKind} {z:Int} {v:Value} {l left:List (Int×Value)} {Δ:List Assn} (ht:P.underlying t=some (.map kt et)) (hk:P.underlying kt=some (.int q))
  (hx:ev ρ x=some (.map (some b))) (hy:ev ρ y=some (.int kk z)) [h:HasR Γ r b kk l left (some (z,v)) Δ] (hq:q=kk) (kK:S n w0 ρ (Vw r b kk (Yj z l) left none::Δ) K):S n w0 ρ Γ (Ow P Q ⟨none,.call {callee:=.builtin .delete,args:=#[x,y],argTypes:=#[t,yt]},ty,pos,af,gd⟩ K):=by
 intro a w ha hs hxt;subst hq;have hs1:=hs.ent h.ent;obtain⟨y0,l1,es,clock,since,seen,c0,h1,h2,h3,h4,h5,h6,h6',h7,h8⟩:=hs1.head;have hb:w.heap[b]?=some (.map es clock):=l1 b _ h1;have hr:w.heap[r]?=some (.mapIter (some b) since seen c0):=l1 r _ h2;obtain⟨seen',e,rfl,rfl,he,hek,hev⟩:=h8 z v rfl;have hf:=run_findKey (P:=P) (w:=w) hk (X0.find (q:=q) (kk:=q) z h4.ent 0);have hc:∀e,(Instr.checkKey e 10000 kt (.int q z)).run P w=.ok () w:=fun e=>run_checkKey (P:=P) (w:=w) (k:=.int q z) hk rfl e 9999;obtain⟨j,hj⟩:=List.getElem?_of_mem he
 have hlj:(l.map (·.1))[j]?=some z:=by
  have e1:=congrArg (fun q=>q[j]?) h4.ent;simp only[List.getElem?_map,hj,Option.map_some]at e1 ⊢;cases hl:l[j]? with
  | none=>rw[hl]at e1;cases e1
  | some p=>
   rw[hl]at e1;simp only[Option.map_some,Option.some.injEq,Prod.mk.injEq,hek,Value.int.injEq,true_and]at e1;rw[Option.map_some,e1.1]
 cases hfi:Wj z l 0 with
 | none=>exact absurd (List.mem_of_getElem? hlj) (Vu hfi).2.2
 | some p=>
  obtain⟨j',v0⟩:=p;rw[hfi]at hf;obtain⟨k0,p1,p2,_,p4⟩:=X2 hfi;have hjk:j=k0:=(List.getElem?_inj (List.getElem?_eq_some_iff.1 hlj).1 h4.nd).1 (hlj.trans (by rw[List.getElem?_map,p2];rfl));have hj2:j'=j:=by omega
  subst hjk;subst hj2
  have hrun:(execOp a.eval ⟨none,.call {callee:=.builtin .delete,args:=#[x,y],argTypes:=#[t,yt]},ty,pos,af,gd⟩).run P w=.ok (.value (.tuple #[])) ({w with heap:=w.heap.setIfInBounds b (.map (es.eraseIdxIfInBounds j') c0)}:World):=by
   simp[execOp,ha.ev hx,ha.ev hy,resolve,invoke,builtin,Builtin.delete_,run_underlying ht,MapKept.run_getObj_map (P:=P) hb,hc,hf,MapKept.run_setObj_map (P:=P) _ hb,Result.andThen]
  have hbl:b<w.heap.size:=(Array.getElem?_eq_some_iff.1 hb).1;unfold Ow Oper.wp;rw[hrun,Oper.upon_value];refine kK _ _ (ha.Ui _) ?_ (hxt.setObj _ _);refine hs1.upd fun y l2 p2=>?_;obtain⟨es',clk',_,_,_,g1,g2,_⟩:=p2;have q1:=l2 b _ g1;unfold HL.of at q1;rw[hb]at q1;cases q1
  refine⟨HL.join (HL.one b (.map (es.eraseIdxIfInBounds j') c0)) (HL.one r (.mapIter (some b) since (seen'.push e.born) c0)),HL.join_le (HL.one_le ?_) (HL.one_le ?_),⟨es.eraseIdxIfInBounds j',c0,since,seen'.push e.born,c0,?_,?_,h3,?_,fun x hx=>?_,h6,h6',?_,fun z' v' e'=>by cases e'⟩,fun c hc _=>⟨?_,?_⟩⟩
  ·show (w.heap.setIfInBounds b _)[b]?=_;rw[Array.getElem?_setIfInBounds_self_of_lt hbl]
  ·show (w.heap.setIfInBounds b _)[r]?=_;rw[Array.getElem?_setIfInBounds_ne (Ne.symm h3),hr]
  ·simp[HL.join,HL.one]
  ·simp[HL.join,HL.one,h3]
  ·rw[p4,Array.toList_eraseIdxIfInBounds];exact h4.del j'
  ·rw[Array.toList_eraseIdxIfInBounds]at hx;exact h5 x (List.mem_of_mem_eraseIdx hx)
  ·rw[←h7];unfold leftOf;rw[Array.toList_filter,Array.toList_filter,Array.toList_eraseIdxIfInBounds,filter_eraseIdx_no _ _ _ e hj (by simp)]
  ·refine HL.join_none (HL.Xw fun e=>?_) (HL.Xw fun e=>?_)
   ·subst e;rw[g1]at hc;cases hc
   ·subst e;rw[g2]at hc;cases hc
  ·show (w.heap.setIfInBounds b _)[c]?=_;have:b≠c:=fun e=>by subst e;rw[g1]at hc;cases hc
   rw[Array.getElem?_setIfInBounds_ne this]
end
namespace BN
instance:Inhabited Ac:=⟨⟨0,0,0,0,0,false,false⟩⟩
abbrev tsAct:TS:=.cat 1 (.int .u8) (.cat 1 (.int .u8) (.cat 1 (.int .u8) (.cat 1 (.int .u8) (.cat 1 (.int .u8) (.cat 1 .bool (.cat 1 .bool .nil))))))
theorem rd_act {W:World} {cs:List Value} (h:Rd W tsAct cs):∃a:Ac,cs=acC a∧AcOk a:=by
 obtain⟨_,_,rfl,_,⟨d,rfl,hd⟩,_,_,rfl,_,⟨n,rfl,hn⟩,_,_,rfl,_,⟨t,rfl,ht⟩,_,_,rfl,_,⟨k,rfl,hk⟩,_,_,rfl,_,⟨w,rfl,hw⟩,_,_,rfl,_,⟨bk,rfl⟩,_,_,rfl,_,⟨fl,rfl⟩,rfl⟩:=h;have hd:=u8_rng hd;have hn:=u8_rng hn;have ht:=u8_rng ht;have hk:=u8_rng hk;have hw:=u8_rng hw;obtain⟨d,rfl⟩:∃m:Nat,d=m:=⟨d.toNat,by omega⟩;obtain⟨n,rfl⟩:∃m:Nat,n=m:=⟨n.toNat,by omega⟩;obtain⟨t,rfl⟩:∃m:Nat,t=m:=⟨t.toNat,by omega⟩;obtain⟨k,rfl⟩:∃m:Nat,k=m:=⟨k.toNat,by omega⟩;obtain⟨w,rfl⟩:∃m:Nat,w=m:=⟨w.toNat,by omega⟩;exact⟨⟨d,n,t,k,w,bk,fl⟩,rfl,⟨by show d≤255;omega,by show n≤255;omega,by show t≤255;omega,by show k≤255;omega,by show w≤255;omega⟩⟩
structure AcW (W:World) (s:SV) (l:List Ac):Prop where
 at_:SlAt W s.v l.length 7 (l.flatMap acC)
 len:s.n=l.length
 each:∀x∈l,AcOk x
theorem rd_acts {W:World} {cs:List Value} (h:Rd W (.slice 7 tsAct) cs):∃(s:SV) (l:List Ac),cs=[s.v]∧AcW W s l:=by
 obtain⟨s,l,h1,h2,h3,h4,_⟩:=rd_slice (α:=Ac) (encA:=acC) (p:=AcOk) (fun cs hr _=>rd_act hr) h (by omega);exact⟨s,l,h1,h3,h2,h4⟩
set_option maxHeartbeats 4000000 in
theorem BrainKeeps_S (n r q g:Nat) (l:List Ac) (s:SV) (hn:n≤255) (hr:r≤255) (hq:q≤255) (hg:g≤255) {W:World} (hW:TabW W) (hs:AcW W s l):LawS 6 [.int .u8 (n:Int),.int .u8 (r:Int),.int .u8 (q:Int),.int .u8 (g:Int),s.v] W:=by
 refine Zbd Tryz.func6 rfl Tryz.ntmps6 fun w0 Γ=>Zsh ?_;have hRs:RdS (old W) s s.n 7 (l.flatMap acC):=by rw[hs.len];exact RdS.old hs.at_
 have hsl:=hs.len;refine S.rCap hRs fun _ hc1 hc2=>?_;have hmx:maxLen≤9223372036854775807:=by unfold maxLen;omega
 obtain⟨N,hN⟩:∃N,N=1+n % 6:=⟨_,rfl⟩;obtain⟨R,hR⟩:∃R,R=1+r % 4:=⟨_,rfl⟩;obtain⟨Q,hQ⟩:∃Q,Q=1+q % 6:=⟨_,rfl⟩;obtain⟨G,hG⟩:∃G,G=1+g % 9:=⟨_,rfl⟩;refine ZY 7 ?_;refine Zp (Zcp Ze (awake_S hW) ?_);refine ZY 2 ?_;refine ZF ef ?_;refine ZY 7 ?_;refine Zp (Zcp Ze (config_S n r q g hn hr hq hg) ?_);rw[←hN,←hR,←hQ,←hG];refine Zp (Zc1 Ze (begin_S N R Q G (by omega) (by omega) (by omega) (by omega) (by omega) (by omega) (by omega) (by omega)) ?_);rintro v Θ ⟨p,rfl,rfl⟩;have hI0:SI (beginR N R Q G) 0 0:=begin_SI (by omega) (by omega) (by omega) (by omega) (by omega) (by omega) (by omega) (by omega);obtain⟨s0,hs0⟩:∃s0,s0=beginR N R Q G:=⟨_,rfl⟩;rw[←hs0]at hI0 ⊢;refine ZY 8 ?_;refine ZF ef ?_;refine ZY 3 ?_;refine Zp (S.makeMap .u32 rfl ?_);intro b39;refine ZY 5 ?_;refine S.ent (Ent.Uk gsB _) ?_;refine ZY 5 ?_;refine Zl (fun fz ρ' Γ'=>∃(i:Nat) (m:Sm) (gs:List Gs) (e:List (Int×Value)),fz=l.length-i∧i≤l.length∧i≤150∧SI m (i*100000000) i∧KM m.b gs e∧ρ'=[(11,pt p),(12,.map (some b39)),(40,s.v),(41,.int .i64 (s.n:Int)),(42,.int .i64 (i:Int))]∧Γ'=Qe b39 .u32 e::alls gs gsB::SP p m::old W::Γ) (m:=_) (⟨0,s0,[],[],rfl,by omega,by omega,hI0.mono (by omega) (by omega),km_nil _,rfl,rfl⟩) ?_;rintro fz ρ' Γ' ⟨i,m,gs,e,hfz,hi,hi2,hI,hK,rfl,rfl⟩;refine ZY 5 ?_
 refine Zj ef (fun h3=>?_) (fun h3=>?_)
 ·refine S.rSome hRs (by omega) fun sb so hsa=>?_;obtain⟨a,ha⟩:=Ya (show i<l.length by omega);have hak:=hs.each a (List.mem_of_getElem? ha);refine ZY 6 ?_;refine Zv (Zx (i) ef (hsa) ef (by omega)) ?_;refine Zv (q_loadRS hRs (i*7) (acC a) Eo.h rfl hsa (by omega) rfl rfl (Yh (enc:=acC) (sz:=7) (fun _=>rfl) ha)) ?_;refine Zp (S.alloc Tryz.z46.h rfl ?_);intro b14;refine Zy ?_;refine Zp (Zs ef ef (cs':=[_,_,_,_,_,_,_]) ef ?_);refine ZY 7 ?_
  refine Zj ef (fun h4=>?_) (fun h4=>?_)
  ·refine ZY 6 ?_;exact Zf ef Zq (⟨rfl,rfl⟩)
  ·have hI2:=sact_SI hI (by omega) (by omega) a;have hlen:=hI.sb.len;have hc1:=hI.sb.c1;have hlen2:=hI2.sb.len;have hc2:=hI2.sb.c16;have hka:a.do_≠11→KA m.b (Wr m a).b:=sact_ka hI.sb.gj.gi.bi.ok.srt a;obtain⟨m2,hm2⟩:∃m2,m2=Wr m a:=⟨_,rfl⟩;refine ZY 5 ?_;refine Zp (Zc1 Ze (sact_S p m a hak (by omega) hc1 hI.sb.c16 hI2.ok hW) ?_);rintro v Θ rfl;rw[←hm2]at hI2 hlen2 hc2 hka ⊢;have hbi:=hI2.sb.gj.gi.bi;have hjl:(Wt m2.b.m).length=m2.b.m.js.length:=List.length_map ..;refine ZY 3 ?_;refine S.spOpen p m2 fun b ps nv ns rb jb gb db wb iv dv wv hF=>?_;refine ZY 4 ?_;refine Zp (Zc1 Ze (Matrix_S b m2.b ps) ?_);rintro v Θ ⟨c,rfl,rfl⟩;refine ZY 6 ?_;refine Zp (Zc1 Ze (Go.Proofs.YtdackcibfkkniaaGreatDoor.Jobs_S c m2.b.m) ?_);rintro v Θ ⟨u,rfl,hu,rfl⟩;refine S.Zz u fun hv1 hv2 hv3=>?_;refine ZY 4 ?_;refine Zl (fun fy ρ' Γ'=>∃(e2:Nat) (gs2:List Gs) (l2:List (Int×Value)),fy=m2.b.m.js.length-e2∧e2≤m2.b.m.js.length∧KN m.b m2.b gs2 ((Wt m2.b.m).take e2) l2∧ρ'=[(11,pt p),(12,.map (some b39)),(14,pt b14),(15,pt c),(40,s.v),(41,.int .i64 (s.n:Int)),(42,.int .i64 (i:Int)),(58,u.v),(59,.int .i64 (u.n:Int)),(60,.int .i64 (e2:Int))]∧Γ'=own u 31 1 (Qq (Wt m2.b.m))::MI c m2.b.m::Qe b39 .u32 l2::alls gs2 gsB::blk b14 46 (acC a).toArray::smX p m2 b ps nv ns rb jb gb db wb iv dv wv (old W::Γ)) (m:=_) (⟨0,gs,e,rfl,by omega,hK.start _,rfl,rfl⟩) ?_;rintro fy ρ' Γ' ⟨e2,gs2,l2,hfy,he2,hKN,rfl,rfl⟩;refine ZY 5 ?_
   refine Zj ef (fun h5=>?_) (fun h5=>?_)
   ·refine S.Qh u (by omega) fun ub uof hua _ _ _=>?_;obtain⟨id,hid⟩:=Ya (show e2<(Wt m2.b.m).length by omega);obtain⟨x,hxm,hxg,hxi,hx0,hx3,hxk,y,hy,hyl⟩:=stands_I hbi hid;have hjv:jobV (Qb m2.b.js id)=.tuple #[.agg (jbC x).toArray,.bool true]:=by rw[hxg];rfl
    have o1:(ofR m2.b.m id).2.1=x.at_:=by rw[Uc hy];exact hyl
    have o2:(ofR m2.b.m id).2.2=true:=by rw[Uc hy]
    have htk:(Wt m2.b.m).take (e2+1)=(Wt m2.b.m).take e2++[id]:=by rw[List.take_add_one,hid];rfl
    refine ZY 5 ?_;refine Zv (Zx (e2) ef (hua) ef (by omega)) ?_;refine Zv (Zo (u) (e2) ef (hua) (by rw[List.getElem?_map,hid];rfl)) ?_;refine ZY 8 ?_;refine Zy ?_;refine Zp (Zcp Ze (Job_S b m2.b ps id) ?_);rw[hjv];refine ZY 3 ?_;refine Zp (S.alloc Tryz.z35.h rfl ?_);intro b18;refine Zp (Zs ef ef (cs':=[_,_,_,_,_,_]) ef ?_);refine ZY 6 ?_;refine Zp (Zc1 Ze (Of_S c m2.b.m id hW) ?_);rintro v Θ ⟨w,rfl,hwn,rfl⟩;rw[o1]at hwn ⊢;rw[o2];have hwk:w.n=x.k:=hwn.trans hxk;refine ZY 8 ?_;refine ZY 8 ?_;refine ZY 5 ?_;refine Zu 89 false ef ((by rw[hwk];simp)) ?_;refine ZY 5 ?_
    refine Zj ef (fun h6=>?_) (fun h6=>?_)
    ·exact absurd h6 (by omega)
    ·refine ZY 3 ?_
     rcases hgl:Ql (id:Int) l2 with _ | ov
     ·have hdum:=hgl;refine Zy ?_;refine S.mapNodup b39 fun hnd=>?_;refine ZY 2 ?_;refine Zv (q_lookupOk (.slice none 0 0) (false) Tryz.underlying62 Tryz.underlying31 Tryz.zv66.h rfl rfl rfl (by rw[hgl])) ?_;refine ZY 8 ?_;refine ZY 8 ?_;refine ZY 8 ?_;refine ZY 8 ?_;refine Zp (S.Wb Tryz.underlying62 Tryz.underlying31 rfl rfl rfl ?_);refine ZY 7 ?_
      refine Zj ef (fun h8=>?_) (fun h8=>?_)
      ·refine ZY 4 ?_;refine Zp (S.mapUpdate Tryz.underlying62 Tryz.underlying31 rfl rfl rfl rfl ?_);refine S.Xf (own w 3 1 (nds x.at_)) (alls gs2 gsB) (Ent.Vt gsB ⟨id,w,x.at_⟩ gs2 _) ?_;refine ZY 2 ?_;refine Zv (Za ef ef) ?_;refine ZY 2 ?_;first | exact ZX (fy-1) ⟨e2+1,⟨id,w,x.at_⟩::gs2,Qx (id:Int) w.v (Yj (id:Int) l2),by omega,by omega,by rw[htk];exact(hKN.del hnd id).put (g:=⟨id,w,x.at_⟩) hwn ⟨x,hxm,hxi,rfl⟩ (by simp),rfl,rfl⟩ (by omega) | exact ZX (fy-1) ⟨e2+1,gs2,Yj (id:Int) l2,by omega,by omega,by rw[htk];exact hKN.del hnd id,rfl,rfl⟩ (by omega)
      ·refine ZY 2 ?_;refine Zv (Za ef ef) ?_;refine ZY 2 ?_;first | exact ZX (fy-1) ⟨e2+1,⟨id,w,x.at_⟩::gs2,Qx (id:Int) w.v (Yj (id:Int) l2),by omega,by omega,by rw[htk];exact(hKN.del hnd id).put (g:=⟨id,w,x.at_⟩) hwn ⟨x,hxm,hxi,rfl⟩ (by simp),rfl,rfl⟩ (by omega) | exact ZX (fy-1) ⟨e2+1,gs2,Yj (id:Int) l2,by omega,by omega,by rw[htk];exact hKN.del hnd id,rfl,rfl⟩ (by omega)
     ·obtain⟨gi,g0,hgi,rfl,hgid,hgn,hgh⟩:=hKN.look (ids_not hbi.ok.mok hid) hgl;refine Zy ?_;refine S.mapNodup b39 fun hnd=>?_;refine ZY 2 ?_;refine Zv (q_lookupOk (g0.v.v) (true) Tryz.underlying62 Tryz.underlying31 Tryz.zv66.h rfl rfl rfl (by rw[hgl])) ?_;refine ZY 8 ?_;refine ZY 7 ?_
      refine Zb 106 ef (fun hg21_6=>?_) (fun hg21_6=>?_)
      ·refine ZY 2 ?_;refine Zg ef ef ef (Zcp Ze (SameInts_S (alls gs2 gsB) (own w 3 1 (nds x.at_)) g0.v w (casts g0.ns) (casts x.at_) (RdS.alls hgi (rdNds g0.v 3 g0.ns)) (rdNds w 3 x.at_) (by rw[List.length_map];exact hgn) (by rw[List.length_map];exact hwn)) ?_);refine ZY 3 ?_
       refine Zbb 112 ef (fun hg21_12=>?_) (fun hg21_12=>?_)
       ·refine ZY 5 ?_
        refine Zj ef (fun h7=>?_) (fun h7=>?_)
        ·exact absurd hg21_12 (by rw[ka_same hI.sb.gj.gi.bi.ok.srt (hka (by omega)) hxm (by omega) (hgid.trans hxi.symm) hgh];simp)
        ·refine ZY 5 ?_;refine Zp (S.Wb Tryz.underlying62 Tryz.underlying31 rfl rfl rfl ?_);refine ZY 7 ?_
         refine Zj ef (fun h8=>?_) (fun h8=>?_)
         ·refine ZY 4 ?_;refine Zp (S.mapUpdate Tryz.underlying62 Tryz.underlying31 rfl rfl rfl rfl ?_);refine S.Xf (own w 3 1 (nds x.at_)) (alls gs2 gsB) (Ent.Vt gsB ⟨id,w,x.at_⟩ gs2 _) ?_;refine ZY 2 ?_;refine Zv (Za ef ef) ?_;refine ZY 2 ?_;first | exact ZX (fy-1) ⟨e2+1,⟨id,w,x.at_⟩::gs2,Qx (id:Int) w.v (Yj (id:Int) l2),by omega,by omega,by rw[htk];exact(hKN.del hnd id).put (g:=⟨id,w,x.at_⟩) hwn ⟨x,hxm,hxi,rfl⟩ (by simp),rfl,rfl⟩ (by omega) | exact ZX (fy-1) ⟨e2+1,gs2,Yj (id:Int) l2,by omega,by omega,by rw[htk];exact hKN.del hnd id,rfl,rfl⟩ (by omega)
         ·refine ZY 2 ?_;refine Zv (Za ef ef) ?_;refine ZY 2 ?_;first | exact ZX (fy-1) ⟨e2+1,⟨id,w,x.at_⟩::gs2,Qx (id:Int) w.v (Yj (id:Int) l2),by omega,by omega,by rw[htk];exact(hKN.del hnd id).put (g:=⟨id,w,x.at_⟩) hwn ⟨x,hxm,hxi,rfl⟩ (by simp),rfl,rfl⟩ (by omega) | exact ZX (fy-1) ⟨e2+1,gs2,Yj (id:Int) l2,by omega,by omega,by rw[htk];exact hKN.del hnd id,rfl,rfl⟩ (by omega)
       ·refine ZY 8 ?_;refine ZY 3 ?_;refine Zp (S.Wb Tryz.underlying62 Tryz.underlying31 rfl rfl rfl ?_);refine ZY 7 ?_
        refine Zj ef (fun h8=>?_) (fun h8=>?_)
        ·refine ZY 4 ?_;refine Zp (S.mapUpdate Tryz.underlying62 Tryz.underlying31 rfl rfl rfl rfl ?_);refine S.Xf (own w 3 1 (nds x.at_)) (alls gs2 gsB) (Ent.Vt gsB ⟨id,w,x.at_⟩ gs2 _) ?_;refine ZY 2 ?_;refine Zv (Za ef ef) ?_;refine ZY 2 ?_;first | exact ZX (fy-1) ⟨e2+1,⟨id,w,x.at_⟩::gs2,Qx (id:Int) w.v (Yj (id:Int) l2),by omega,by omega,by rw[htk];exact(hKN.del hnd id).put (g:=⟨id,w,x.at_⟩) hwn ⟨x,hxm,hxi,rfl⟩ (by simp),rfl,rfl⟩ (by omega) | exact ZX (fy-1) ⟨e2+1,gs2,Yj (id:Int) l2,by omega,by omega,by rw[htk];exact hKN.del hnd id,rfl,rfl⟩ (by omega)
        ·refine ZY 2 ?_;refine Zv (Za ef ef) ?_;refine ZY 2 ?_;first | exact ZX (fy-1) ⟨e2+1,⟨id,w,x.at_⟩::gs2,Qx (id:Int) w.v (Yj (id:Int) l2),by omega,by omega,by rw[htk];exact(hKN.del hnd id).put (g:=⟨id,w,x.at_⟩) hwn ⟨x,hxm,hxi,rfl⟩ (by simp),rfl,rfl⟩ (by omega) | exact ZX (fy-1) ⟨e2+1,gs2,Yj (id:Int) l2,by omega,by omega,by rw[htk];exact hKN.del hnd id,rfl,rfl⟩ (by omega)
      ·refine ZY 8 ?_;refine ZY 8 ?_;refine Zy ?_;refine Zp (S.Wb Tryz.underlying62 Tryz.underlying31 rfl rfl rfl ?_);refine ZY 7 ?_
       refine Zj ef (fun h8=>?_) (fun h8=>?_)
       ·refine ZY 4 ?_;refine Zp (S.mapUpdate Tryz.underlying62 Tryz.underlying31 rfl rfl rfl rfl ?_);refine S.Xf (own w 3 1 (nds x.at_)) (alls gs2 gsB) (Ent.Vt gsB ⟨id,w,x.at_⟩ gs2 _) ?_;refine ZY 2 ?_;refine Zv (Za ef ef) ?_;refine ZY 2 ?_;first | exact ZX (fy-1) ⟨e2+1,⟨id,w,x.at_⟩::gs2,Qx (id:Int) w.v (Yj (id:Int) l2),by omega,by omega,by rw[htk];exact(hKN.del hnd id).put (g:=⟨id,w,x.at_⟩) hwn ⟨x,hxm,hxi,rfl⟩ (by simp),rfl,rfl⟩ (by omega) | exact ZX (fy-1) ⟨e2+1,gs2,Yj (id:Int) l2,by omega,by omega,by rw[htk];exact hKN.del hnd id,rfl,rfl⟩ (by omega)
       ·refine ZY 2 ?_;refine Zv (Za ef ef) ?_;refine ZY 2 ?_;first | exact ZX (fy-1) ⟨e2+1,⟨id,w,x.at_⟩::gs2,Qx (id:Int) w.v (Yj (id:Int) l2),by omega,by omega,by rw[htk];exact(hKN.del hnd id).put (g:=⟨id,w,x.at_⟩) hwn ⟨x,hxm,hxi,rfl⟩ (by simp),rfl,rfl⟩ (by omega) | exact ZX (fy-1) ⟨e2+1,gs2,Yj (id:Int) l2,by omega,by omega,by rw[htk];exact hKN.del hnd id,rfl,rfl⟩ (by omega)
   ·have hall:(Wt m2.b.m).take e2=Wt m2.b.m:=List.take_of_length_le (by omega);rw[hall]at hKN;refine S.mapNodup b39 fun hnd=>?_;refine ZY 4 ?_;refine Zp (S.range Tryz.underlying62 rfl rfl ?_);intro r127;refine ZY 2 ?_;refine Zl (fun fx ρ' Γ'=>∃(left:List (Int×Value)) (cur:Option (Int×Value)) (l3:List (Int×Value)),fx=left.length∧NatK left∧KR m2.b.m l3 left∧(l3.map (·.1)).Nodup∧KN m.b m2.b gs2 (Wt m2.b.m) l3∧ρ'=[(11,pt p),(12,.map (some b39)),(15,pt c),(40,s.v),(41,.int .i64 (s.n:Int)),(42,.int .i64 (i:Int)),(127,.pointer (some ⟨r127,0,none⟩))]∧Γ'=Vw r127 b39 .u32 l3 left cur::MI c m2.b.m::alls gs2 gsB::smX p m2 b ps nv ns rb jb gb db wb iv dv wv (old W::Γ)) (m:=_) (⟨l2,none,l2,rfl,hKN.nat,fun d hd=>.inl hd,hnd,hKN,rfl,rfl⟩) ?_;rintro fx ρ' Γ' ⟨left,cur,l3,hfx,hNK,hKR,hnd3,hK3,rfl,rfl⟩;refine ZY 2 ?_
    refine Zp (S.Z4 rfl rfl (fun hl128=>?_) (fun i128 z128 v128 hi128=>?_))
    ·have hl0:left=[]:=hl128;subst hl0;have hKM:=hK3.fin hKR;refine S.ent (Ent.Vw _) ?_;refine S.Yt p m2 b ps nv ns rb jb gb db wb iv dv wv hF ?_;refine ZY 6 ?_;refine Zv (Za ef ef) ?_;refine ZY 2 ?_;exact ZX (fz-1) (⟨i+1,m2,gs2,l3,by omega,by omega,by omega,hI2.mono (by omega) (by omega),hKM,rfl,rfl⟩) (by omega)
    ·obtain⟨k,hk⟩:=hNK _ (List.mem_of_getElem? hi128);have hk:z128=(k:Int):=hk;subst hk;have hel:=(erase_perm hi128).length_eq;rw[List.length_cons]at hel;refine ZY 8 ?_;refine Zv (q_entryR rfl) ?_;refine ZY 7 ?_;refine Zp (Zc1 Ze (Of_S c m2.b.m k hW) ?_);rintro v Θ ⟨w3,rfl,hwn3,rfl⟩;refine ZY 8 ?_;refine ZY 5 ?_
     refine Zi ef (fun h10=>?_) (fun h10=>?_)
     ·refine ZY 3 ?_;refine Zp (S.mapDeleteR r127 Tryz.underlying62 Tryz.underlying31 rfl rfl rfl ?_);refine Zy ?_;first | exact ZX (left.eraseIdx i128).length ⟨left.eraseIdx i128,none,Yj (k:Int) l3,rfl,hNK.erase _,hKR.del hnd3 hi128,alDel_nodup hnd3,hK3.sub (fun d hd=>(alDel_mem hnd3 d hd).1),rfl,rfl⟩ (by omega) | exact ZX (left.eraseIdx i128).length ⟨left.eraseIdx i128,some ((k:Int),v128),l3,rfl,hNK.erase _,hKR.stay hi128 (of_stands (by simpa using h10)),hnd3,hK3,rfl,rfl⟩ (by omega)
     ·refine Zy ?_;first | exact ZX (left.eraseIdx i128).length ⟨left.eraseIdx i128,none,Yj (k:Int) l3,rfl,hNK.erase _,hKR.del hnd3 hi128,alDel_nodup hnd3,hK3.sub (fun d hd=>(alDel_mem hnd3 d hd).1),rfl,rfl⟩ (by omega) | exact ZX (left.eraseIdx i128).length ⟨left.eraseIdx i128,some ((k:Int),v128),l3,rfl,hNK.erase _,hKR.stay hi128 (of_stands (by simpa using h10)),hnd3,hK3,rfl,rfl⟩ (by omega)
 ·refine ZY 6 ?_;exact Zf ef Zq (⟨rfl,rfl⟩)
end BN
open Go.ChangeShapes Go.WideShapes Go.ChangeAt
theorem BrainKeeps_law {H:Type} (enc:TypeId×Value→H):LawWalkT enc Rows.brainKeepsRow.laid 6 Tryz.f6:=by
 intro W base args ds before hval hA _ _ hL;rw[Tryz.params6]at hA hval;obtain⟨v0,vs0,d0,ds0,p0,q0,hargs,rfl,rfl,h0,r0⟩:=trodAll_cons hA;obtain⟨v1,vs1,d1,ds1,p1,q1,rfl,rfl,rfl,h1,r1⟩:=trodAll_cons r0;obtain⟨v2,vs2,d2,ds2,p2,q2,rfl,rfl,rfl,h2,r2⟩:=trodAll_cons r1;obtain⟨v3,vs3,d3,ds3,p3,q3,rfl,rfl,rfl,h3,r3⟩:=trodAll_cons r2;obtain⟨v4,vs4,d4,ds4,p4,q4,rfl,rfl,rfl,h4,r4⟩:=trodAll_cons r3;obtain⟨rfl,rfl,rfl⟩:=trodAll_nil r4;obtain rfl:args=#[v0,v1,v2,v3,v4]:=by cases args;simp_all
 obtain⟨n,rfl,hn⟩:=arg_int Tryz.underlying5 (hval 0 5 v0 rfl rfl) h0;obtain⟨r,rfl,hr⟩:=arg_int Tryz.underlying5 (hval 1 5 v1 rfl rfl) h1;obtain⟨q,rfl,hq⟩:=arg_int Tryz.underlying5 (hval 2 5 v2 rfl rfl) h2;obtain⟨g,rfl,hg⟩:=arg_int Tryz.underlying5 (hval 3 5 v3 rfl rfl) h3;obtain⟨s,l,e2,hs⟩:=BN.rd_acts (arg_slice 12 Tryz.underlying41 (by kernel_rfl) (hval 4 41 v4 rfl rfl) h4);simp only[List.cons.injEq,and_true]at e2;subst e2;have hn:=u8_rng hn;have hr:=u8_rng hr;have hq:=u8_rng hq;have hg:=u8_rng hg;obtain⟨n,rfl⟩:∃m:Nat,n=m:=⟨n.toNat,by omega⟩;obtain⟨r,rfl⟩:∃m:Nat,r=m:=⟨r.toNat,by omega⟩;obtain⟨q,rfl⟩:∃m:Nat,q=m:=⟨q.toNat,by omega⟩;obtain⟨g,rfl⟩:∃m:Nat,g=m:=⟨g.toNat,by omega⟩;exact law_run (BN.BrainKeeps_S n r q g l s (by omega) (by omega) (by omega) (by omega) (tabW_of rfl hL) hs)
set_option maxRecDepth 100000 in
theorem BrainKeeps_met (os:Os) (args:Array Value):laidMetH Tryz.prog Rows.brainKeepsRow.laid ((World.doorLaid Tryz.prog 14 os).forCall (fun _ _=>0) ⟨#[],args,[]⟩).memory:=
 laidMetH_of_parts3 (fuel:=8) (laidMet_of_run' 8 (by kernel_rfl) (by kernel_rfl)) (by kernel_rfl) (by kernel_rfl)
set_option maxRecDepth 100000 in
theorem BrainKeeps_lifted (os:Os) (started:os.Started) (H:Type) (enc:TypeId×Value→H) :
  ReturnsInHanded {} Tryz.checked os 6 .any (fun w args=>(Rows.brainKeepsSpec.pre enc Tryz.prog Tryz.f6 [] false w args∧laidMetH Tryz.prog Rows.brainKeepsRow.laid w)∧sizedMet enc Tryz.prog Tryz.f6 (OpenSpec.ofChange Rows.brainKeepsSpec) false w args) (Rows.brainKeepsSpec.post enc Tryz.prog Tryz.f6 false true false false):=
 lift_trueT started Tryz.func6 (by kernel_rfl)
  (ChangeSpec.witness_shaped (enc:=enc) (C:=Tryz.checked) (os:=os) (X:=fun w _=>laidMetH Tryz.prog Rows.brainKeepsRow.laid w) false (World.doorLaid Tryz.prog 14 os) #[.int .u8 0,.int .u8 0,.int .u8 0,.int .u8 0,.slice none 0 0] 8 rfl (World.shaped_of_RefB (by kernel_rfl) (by kernel_rfl)) (by kernel_rfl) (by kernel_rfl) (by kernel_rfl) (BrainKeeps_met os _))
  rfl rfl (by kernel_rfl) (fun ds h=>by match ds,h with | [a0,a1,a2,a3,a4],_=>rfl) (BrainKeeps_law enc)
theorem BrainKeeps_over:Rows.brainKeepsRow.holds Tryz.pinned (OpenSpec.ofChange Rows.brainKeepsSpec):=
 OpenClaim.holds_of_wide 6 Tryz.f6 rfl rfl rfl rfl rfl rfl rfl ⟨rfl,rfl,rfl,rfl,rfl⟩ rfl rfl rfl rfl rfl (by kernel_rfl) Tryz.func6 (by kernel_rfl)
  (of_decide_eq_true (by kernel_rfl)) (by unfold Func.isWrapper;first | (rw[if_pos (by decide +kernel)];kernel_rfl) | (rw[if_neg (by decide +kernel)];exact⟨rfl,rfl⟩))
  (fun os started H enc _=>BrainKeeps_lifted os started H enc)
theorem BrainKeeps_holds:Rows.BrainKeepsCardSaid:=
 Claim7.holds_tied_plain_at .later [] [.data] true (true,"4872c1f8a3b510e83d0b533b5dde514eb1aba5b287cb337591b3ec3084a339dd") true
  BrainKeeps_over (fun _ h=>by cases h) (by kernel_rfl) (fun _ h=>by cases h) brainKeeps_row_tie rfl ⟨rfl,rfl⟩ (by kernel_rfl) rfl
  (fun f fn hf hfn=>by
   obtain rfl:f=6:=Option.some.inj ((show Tryz.prog.funcNamed "quadrille/quadrillelaw19.BrainKeeps" = some 6 by kernel_rfl).symm.trans hf) |>.symm
   obtain rfl:fn=Tryz.f6:=(Option.some.inj (Tryz.func6.symm.trans hfn)).symm
   exact⟨by kernel_rfl,fun j t ht=>by
    rw[Tryz.params6]at ht;have hm:t∈[5,5,5,5,41]:=by simpa using Array.mem_of_getElem? ht
    have hall:([5,5,5,5,41].all fun u=>!Tryz.prog.wantsStandIn u)=true:=by kernel_rfl
    exact(show Tryz.prog.wantsStandIn t=false by simpa using List.all_eq_true.1 hall t hm)⟩)
  (by kernel_rfl)
#print axioms BrainKeeps_holds
end Go.Proofs.YtdackcibfkkniaaGreatDoor
